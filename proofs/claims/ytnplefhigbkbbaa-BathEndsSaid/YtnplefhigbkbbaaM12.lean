/- Bath's reference: With, Difference (walks). · Bath's reference: Difference (walk). · Bath's laws: BathDiffers (walk). -/
import Derived.Test.YtnplefhigbkbbaaM11
import Derived.Test.YtnplefhigbkbbaaM8
set_option linter.unusedVariables false
set_option linter.unusedSimpArgs false
set_option linter.unusedSectionVars false
section
namespace Go.Proofs.Ytnplefhigbkbbaa
open Go.RowKit
attribute [local go_sem] Ex.cell? Ex.frozen? Gx.cell?

/-- a series in which an instrument has just one offset. -/
def withS (s : Se) (i : Nat) (n : Int) : Se := ⟨s.offs.set i ⟨n, n⟩, s.err, s.baths⟩
section
variable {s : Se} {i : Nat} {n : Int}
theorem withS_place : placeL (withS s i n) = placeL s := by
  have h : ∀ k, placeB (withS s i n) k = placeB s k := fun k => by
    induction k with
    | zero => rfl
    | succ k ih => rw [placeB, placeB, ih]; rfl
  exact h _
theorem withS_tru {o h : Nat → Int} (hi : i < s.offs.length) (hn : (gR s.offs i).lo ≤ n ∧ n ≤ (gR s.offs i).hi) : Tru (withS s i n) (fun _ => false) o h ↔ Tru s (fun _ => false) o h ∧ o i = n := by
  have hp : ∀ k, pAt (withS s i n) k = pAt s k := fun k => by unfold pAt; rw [withS_place]
  constructor
  · intro ht
    have h0 := ht.offs i (by show i < (s.offs.set i ⟨n, n⟩).length; rw [List.length_set]; exact hi)
    have h1 : (gR (withS s i n).offs i) = ⟨n, n⟩ := by
      show gR (s.offs.set i ⟨n, n⟩) i = _
      rw [gR_set hi, if_pos rfl]
    rw [h1] at h0
    have hin : o i = n := by have h2 := h0.1; have h3 := h0.2; simp only at h2 h3; omega
    refine ⟨⟨fun m hm => ?_, ht.heats, fun k hk hf => ?_⟩, hin⟩
    · by_cases e : m = i
      · subst e; omega
      · have := ht.offs m (by show m < (s.offs.set i ⟨n, n⟩).length; rw [List.length_set]; exact hm)
        have h2 : gR (withS s i n).offs m = gR s.offs m := by
          show gR (s.offs.set i ⟨n, n⟩) m = _
          rw [gR_set hi, if_neg e]
        rwa [h2] at this
    · have := ht.reads k (by rw [withS_place]; exact hk) hf
      rw [hp] at this
      exact this
  · rintro ⟨ht, hin⟩
    refine ⟨fun m hm => ?_, ht.heats, fun k hk hf => ?_⟩
    · have hm : m < s.offs.length := by
        have : m < (s.offs.set i ⟨n, n⟩).length := hm
        rwa [List.length_set] at this
      show (gR (s.offs.set i ⟨n, n⟩) m).lo ≤ o m ∧ o m ≤ (gR (s.offs.set i ⟨n, n⟩) m).hi
      rw [gR_set hi]
      by_cases e : m = i
      · subst e; rw [if_pos rfl]; show n ≤ o m ∧ o m ≤ n; omega
      · rw [if_neg e]; exact ht.offs m hm
    · rw [hp]
      exact ht.reads k (by rw [withS_place] at hk; exact hk) hf
theorem withS_ok (hok : SeOk s) (hi : i < s.offs.length) (hn : (gR s.offs i).lo ≤ n ∧ n ≤ (gR s.offs i).hi) : SeOk (withS s i n) := by
  have hl : (withS s i n).offs.length = s.offs.length := List.length_set
  have hb := hok.offs i hi
  refine ⟨by rw [hl]; exact hok.no, hok.nb, hok.err, fun k hk => ?_, hok.heats, ?_, hok.once, hok.val⟩
  · rw [hl] at hk
    show -100 ≤ (gR (s.offs.set i ⟨n, n⟩) k).lo ∧ (gR (s.offs.set i ⟨n, n⟩) k).lo ≤ (gR (s.offs.set i ⟨n, n⟩) k).hi ∧ (gR (s.offs.set i ⟨n, n⟩) k).hi ≤ 100
    rw [gR_set hi]
    split
    · show -100 ≤ n ∧ n ≤ n ∧ n ≤ 100; omega
    · exact hok.offs k hk
  · rw [hl]; exact hok.inst
end

theorem cell_far {w : World} {p : Addr} {v : Value} {b o : Nat} (h : b ≠ p.block) : (w.setCell p v).cell? ⟨b, o, none⟩ = w.cell? ⟨b, o, none⟩ := by simp [World.cell?, Below.heap_setCell w p v b h]
set_option maxRecDepth 100000 in
set_option maxHeartbeats 6400000 in
theorem with_ref (s : Se) (Ao Ab : Option Addr) (co cb : Nat) (rA : Nat → Option Addr) (rc : Nat → Nat) (w : World) (hs : SeIn w w.heap.size s Ao Ab rA rc) (i : Nat) (n : Int) (hi : i < s.offs.length) (hsm : s.offs.length ≤ 1000) :
    Calls Try.prog 75 #[.agg #[.slice Ao s.offs.length co, .int .i64 s.err, .slice Ab s.baths.length cb], .int .i64 (i : Int), .int .i64 n] w fun e w' => (∃ A c, e = .returned (.agg #[.slice A s.offs.length c, .int .i64 s.err, .slice Ab s.baths.length cb]) ∧ SeIn w' w'.heap.size (withS s i n) A Ab rA rc) ∧ Below w.heap.size w w' := by
  obtain ⟨i0, hi0, hz0, hz1, hz2⟩ := info_parts rrange_info
  have HI := Lib.hid hi0
  clear hi0
  have hb1 := ex_alloc (ex_alloc (ex_alloc (Below.refl w.heap.size w) (.cells #[.slice Ao s.offs.length co, .int .i64 s.err, .slice Ab s.baths.length cb] 25)) (.cells #[.slice none 0 0, .int .i64 0, .slice none 0 0] 25)) (.cells #[] 46)
  have q0 : Blk (((w.alloc (.cells #[.slice Ao s.offs.length co, .int .i64 s.err, .slice Ab s.baths.length cb] 25)).alloc (.cells #[.slice none 0 0, .int .i64 0, .slice none 0 0] 25)).alloc (.cells #[] 46)) w.heap.size 25 #[.slice Ao s.offs.length co, .int .i64 s.err, .slice Ab s.baths.length cb] := ((Blk.new _ _ _).alloc _).alloc _
  have q1 : Blk (((w.alloc (.cells #[.slice Ao s.offs.length co, .int .i64 s.err, .slice Ab s.baths.length cb] 25)).alloc (.cells #[.slice none 0 0, .int .i64 0, .slice none 0 0] 25)).alloc (.cells #[] 46)) (w.heap.size + 1) 25 #[.slice none 0 0, .int .i64 0, .slice none 0 0] := (Blk.new' _ _ _ (by simp)).alloc _
  have qe : Blk (((w.alloc (.cells #[.slice Ao s.offs.length co, .int .i64 s.err, .slice Ab s.baths.length cb] 25)).alloc (.cells #[.slice none 0 0, .int .i64 0, .slice none 0 0] 25)).alloc (.cells #[] 46)) (w.heap.size + 1 + 1) 46 #[] := Blk.new' _ _ _ (by simp)
  have hA2 := (hs.offs.below hb1).up hb1.size
  go_enter Try.func75, Try.ntmps75
  go_wp2_with (refine pause_at 10 rfl ?_)
  refine Paused.mk ?_
  refine wpList_append_list (α := Rg) (f := cR) (F := fR) (sz := 2) (fun _ => rfl) cR_at cR_one rfl _ _ _ rfl (w.heap.size + 1 + 1) 46 i0 _ 16 Try.underlying22 HI.out hz0 hz1 hz2 rfl (by omega) (some ⟨w.heap.size + 1 + 1, 0, none⟩) 0 [] rfl (own_empty qe (Nat.le_refl _)) Ao co s.offs rfl hA2 (by simp; unfold maxLen; omega) (by simp; omega) (by simp) (w.heap.size + 1 + 1 + 1) (by simp) ?_
  intro L B k1 v1 HL o1 gr1 n1
  have hL : L = s.offs := HL.out
  clear HL
  subst hL
  have hqb : ∀ j, (Value.slice (some ⟨w.heap.size + 1 + 1, 0, none⟩) 0 0).ownBlock = some j → w.heap.size + 1 + 1 = j := fun j hj => by simpa [Value.ownBlock] using hj
  have B1 : Below w.heap.size w v1 := hb1.grown gr1 hb1.size (fun j hj => by have := hqb j hj; omega)
  have p0 := q0.grown gr1 (fun e => by have := hqb _ e.symm; omega)
  have p1 := q1.grown gr1 (fun e => by have := hqb _ e.symm; omega)
  obtain ⟨g, c, hv, hg, hgl, c0, c1, hf⟩ := rgs_cell o1 (k := i) hi
  injection hv with hv1 _ hv2
  subst hv1 hv2
  have a0 : v1.cell? ⟨w.heap.size, 0, none⟩ = some (.slice Ao s.offs.length co) := p0.cell 0
  have a1 : v1.cell? ⟨w.heap.size, 1, none⟩ = some (.int .i64 s.err) := p0.cell 1
  have a2 : v1.cell? ⟨w.heap.size, 2, none⟩ = some (.slice Ab s.baths.length cb) := p0.cell 2
  have f0 := p0.frozen0
  have f1 := p1.frozen0
  have l0 := p0.lt
  have l1 := p1.lt
  have hgn : g ≠ w.heap.size ∧ g ≠ w.heap.size + 1 ∧ w.heap.size ≤ g := by omega
  have hg1 : w.heap.size ≠ g := by omega
  have hg2 : w.heap.size + 1 ≠ g := by omega
  have hg3 : g ≠ w.heap.size := by omega
  have hg4 : g ≠ w.heap.size + 1 := by omega
  -- the worlds to come
  have o2 := own_far o1 (p := ⟨w.heap.size, 0, none⟩) (by show w.heap.size < w.heap.size + 1 + 1; omega) (.slice (some ⟨g, 0, none⟩) s.offs.length k1)
  have p02 := p0.set_ 0 (.slice (some ⟨g, 0, none⟩) s.offs.length k1)
  have p12 := p1.far (p := ⟨w.heap.size, 0, none⟩) (by show w.heap.size + 1 ≠ w.heap.size; omega) (.slice (some ⟨g, 0, none⟩) s.offs.length k1)
  have B2 := ex_set B1 (p := ⟨w.heap.size, 0, none⟩) (Nat.le_refl _) (.slice (some ⟨g, 0, none⟩) s.offs.length k1)
  simp only [List.setIfInBounds_toArray, List.set_cons_zero] at p02
  go_wp2_with (refine pause_at 12 rfl ?_)
  refine Paused.mk ?_
  have hs2 : (v1.setCell ⟨w.heap.size, 0, none⟩ (.slice (some ⟨g, 0, none⟩) s.offs.length k1)).heap.size = v1.heap.size := by simp
  have d0 := (cell_far (w := v1) (p := ⟨w.heap.size, 0, none⟩) (v := .slice (some ⟨g, 0, none⟩) s.offs.length k1) (b := g) (o := i * 2) hg3).trans c0
  have d1 := (cell_far (w := v1) (p := ⟨w.heap.size, 0, none⟩) (v := .slice (some ⟨g, 0, none⟩) s.offs.length k1) (b := g) (o := i * 2 + 1) hg3).trans c1
  have df : ∀ j, (v1.setCell ⟨w.heap.size, 0, none⟩ (.slice (some ⟨g, 0, none⟩) s.offs.length k1)).frozen? ⟨g, j, none⟩ = false := fun j => by
    obtain ⟨_, _, e1, _, _, _, _, hf⟩ := rgs_cell (k := i) (l := s.offs) o2 hi
    injection e1 with e1
    injection e1 with e1
    injection e1 with e1
    subst e1
    exact hf j
  generalize v1.setCell ⟨w.heap.size, 0, none⟩ (.slice (some ⟨g, 0, none⟩) s.offs.length k1) = V2 at *
  rw [← hs2] at hgl l0 l1
  have o2' : V2.ownsRow (w.heap.size + 1 + 1) 46 2 (.slice (some ⟨g, 0, none⟩) s.offs.length k1) s.offs.length (s.offs.flatMap cR) := o2
  have o3 := rgs_set o2' (show (Value.slice (some ⟨g, 0, none⟩) s.offs.length k1).ownBlock = some g from rfl) (k := i) hi ⟨n, n⟩
  have p03 := (p02.far (p := ⟨g, i * 2, none⟩) hg1 (.int .i64 n)).far (p := ⟨g, i * 2 + 1, none⟩) hg1 (.int .i64 n)
  have p13 := (p12.far (p := ⟨g, i * 2, none⟩) hg2 (.int .i64 n)).far (p := ⟨g, i * 2 + 1, none⟩) hg2 (.int .i64 n)
  have B3 := ex_set (ex_set B2 (p := ⟨g, i * 2, none⟩) hgn.2.2 (.int .i64 n)) (p := ⟨g, i * 2 + 1, none⟩) hgn.2.2 (.int .i64 n)
  have b0 : V2.cell? ⟨w.heap.size, 0, none⟩ = some (.slice (some ⟨g, 0, none⟩) s.offs.length k1) := p02.cell 0
  have b1 : V2.cell? ⟨w.heap.size, 1, none⟩ = some (.int .i64 s.err) := p02.cell 1
  have b2 : V2.cell? ⟨w.heap.size, 2, none⟩ = some (.slice Ab s.baths.length cb) := p02.cell 2
  have e0 : V2.cell? ⟨w.heap.size + 1, 0, none⟩ = some (.slice none 0 0) := p12.cell 0
  have e1 : V2.cell? ⟨w.heap.size + 1, 1, none⟩ = some (.int .i64 0) := p12.cell 1
  have e2 : V2.cell? ⟨w.heap.size + 1, 2, none⟩ = some (.slice none 0 0) := p12.cell 2
  have ef := p12.frozen0
  have hw1 : w.heap.size ≤ w.heap.size + 1 := by omega
  have hlw : w.heap.size + 1 < w.heap.size + 1 + 1 := by omega
  have p14 := ((p13.set_ 0 (.slice (some ⟨g, 0, none⟩) s.offs.length k1)).set_ 1 (.int .i64 s.err)).set_ 2 (.slice Ab s.baths.length cb)
  have B4 := ex_set (ex_set (ex_set B3 (p := ⟨w.heap.size + 1, 0, none⟩) hw1 (.slice (some ⟨g, 0, none⟩) s.offs.length k1)) (p := ⟨w.heap.size + 1, 1, none⟩) hw1 (.int .i64 s.err)) (p := ⟨w.heap.size + 1, 2, none⟩) hw1 (.slice Ab s.baths.length cb)
  have o4 := own_far (own_far (own_far o3 (p := ⟨w.heap.size + 1, 0, none⟩) hlw (.slice (some ⟨g, 0, none⟩) s.offs.length k1)) (p := ⟨w.heap.size + 1, 1, none⟩) hlw (.int .i64 s.err)) (p := ⟨w.heap.size + 1, 2, none⟩) hlw (.slice Ab s.baths.length cb)
  simp only [List.setIfInBounds_toArray, List.set_cons_zero, List.set_cons_succ] at p14
  obtain ⟨A9, c9, hv9, _, _, hsl⟩ := own_R o4
  rw [List.length_set] at hv9
  injection hv9 with hv91 _ hv92
  subst hv91 hv92
  have hbt := (hs.baths.below B4).up B4.size
  have hrd := fun b hb => ((hs.reads b hb).below B4).up B4.size
  have HSL : Hid (SlAt _ _ 2 (some ⟨g, 0, none⟩) (s.offs.set i ⟨n, n⟩).length (fR (s.offs.set i ⟨n, n⟩))) := Lib.hid hsl
  clear hsl o1 o2 o2' o3 o4 p02 p12 p03 p13 p0 p1 q0 q1 qe gr1 n1 a0 a1 a2 c0 c1 hs2
  go_wp2
  refine bodyPost_ret (results_cell_row rfl _ _ (w.heap.size + 1) 25 #[.slice (some ⟨g, 0, none⟩) s.offs.length k1, .int .i64 s.err, .slice Ab s.baths.length cb] (0, 0) _ rfl p14 rfl rfl rfl) rfl ?_
  have hsl := HSL.out
  exact ⟨⟨_, ⟨_, rfl⟩, ⟨hsl, hbt, hrd⟩⟩, B4⟩
end Go.Proofs.Ytnplefhigbkbbaa
end

section
namespace Go.Proofs.Ytnplefhigbkbbaa
open Go.RowKit
attribute [local go_sem] Ex.cell? Ex.frozen? Gx.cell?

/-- the difference of two offsets, over all truths in which the second one is less than m. -/
structure DifTo (s : Se) (i k : Nat) (m a b : Int) : Prop where
  all : ∀ o h, Tru s (fun _ => false) o h → o k < m → a ≤ o i - o k ∧ o i - o k ≤ b
  at_ : (∃ o h, Tru s (fun _ => false) o h ∧ o k < m) → (∃ o h, Tru s (fun _ => false) o h ∧ a = o i - o k) ∧ (∃ o h, Tru s (fun _ => false) o h ∧ b = o i - o k)
  none : (¬ ∃ o h, Tru s (fun _ => false) o h ∧ o k < m) → a = 1048576 ∧ b = -1048576
section
variable {s : Se} {i k : Nat} {m a b : Int}
theorem DifTo.bd (h : DifTo s i k m a b) (hok : SeOk s) (hi : i < s.offs.length) (hk : k < s.offs.length) : -2000000 ≤ a ∧ a ≤ 2000000 ∧ -2000000 ≤ b ∧ b ≤ 2000000 := by
  by_cases hx : ∃ o h, Tru s (fun _ => false) o h ∧ o k < m
  · obtain ⟨⟨o, _, ht, rfl⟩, ⟨o2, _, ht2, rfl⟩⟩ := h.at_ hx
    have h1 := ht.offs i hi
    have h2 := ht.offs k hk
    have h3 := ht2.offs i hi
    have h4 := ht2.offs k hk
    have h5 := hok.offs i hi
    have h6 := hok.offs k hk
    omega
  · have := h.none hx
    omega
theorem DifTo.start (h : ∀ o h, Tru s (fun _ => false) o h → m ≤ o k) : DifTo s i k m 1048576 (-1048576) :=
  ⟨fun o h' ht hm => by have := h o h' ht; omega, fun ⟨o, h', ht, hm⟩ => by have := h o h' ht; omega, fun _ => ⟨rfl, rfl⟩⟩
theorem DifTo.skip (h : DifTo s i k m a b) (hk : k < s.offs.length) (hm : (gR s.offs k).lo ≤ m ∧ m ≤ (gR s.offs k).hi) (hc : ¬ Can (withS s k m)) : DifTo s i k (m + 1) a b := by
  have hne : ∀ o h', Tru s (fun _ => false) o h' → o k ≠ m := fun o h' ht e => hc ⟨o, h', (withS_tru hk hm).2 ⟨ht, e⟩⟩
  refine ⟨fun o h' ht hlt => h.all o h' ht (by have := hne o h' ht; omega), fun ⟨o, h', ht, hlt⟩ => h.at_ ⟨o, h', ht, by have := hne o h' ht; omega⟩, fun hn => h.none (fun ⟨o, h', ht, hlt⟩ => hn ⟨o, h', ht, by omega⟩)⟩
theorem DifTo.step (h : DifTo s i k m a b) (hok : SeOk s) (hi : i < s.offs.length) (hk : k < s.offs.length) (hm : (gR s.offs k).lo ≤ m ∧ m ≤ (gR s.offs k).hi) {lo hi' : Int} (he : EndsOf (OffZ (withS s k m) i) lo hi') : DifTo s i k (m + 1) (min a (lo - m)) (max b (hi' - m)) := by
  obtain ⟨⟨o1, h1, t1, e1⟩, ⟨o2, h2, t2, e2⟩, h3⟩ := he
  have u1 := (withS_tru hk hm).1 t1
  have u2 := (withS_tru hk hm).1 t2
  refine ⟨fun o h' ht hlt => ?_, fun _ => ?_, fun hn => absurd ⟨o1, h1, u1.1, by omega⟩ hn⟩
  · by_cases e : o k = m
    · have := h3 (o i) ⟨o, h', (withS_tru hk hm).2 ⟨ht, e⟩, rfl⟩
      omega
    · have := h.all o h' ht (by omega)
      omega
  · by_cases hx : ∃ o h, Tru s (fun _ => false) o h ∧ o k < m
    · obtain ⟨⟨oa, ha, ta, ea⟩, ⟨ob, hb, tb, eb⟩⟩ := h.at_ hx
      refine ⟨?_, ?_⟩
      · rcases Int.le_total a (lo - m) with hc | hc
        · exact ⟨oa, ha, ta, by omega⟩
        · exact ⟨o1, h1, u1.1, by omega⟩
      · rcases Int.le_total b (hi' - m) with hc | hc
        · exact ⟨o2, h2, u2.1, by omega⟩
        · exact ⟨ob, hb, tb, by omega⟩
    · have hn := h.none hx
      have d1 := u1.1.offs i hi
      have d2 := u2.1.offs i hi
      have d3 := hok.offs i hi
      have d4 := hok.offs k hk
      exact ⟨⟨o1, h1, u1.1, by omega⟩, ⟨o2, h2, u2.1, by omega⟩⟩
theorem DifTo.ends (h : DifTo s i k m a b) (hc : Can s) (hm : ∀ o h, Tru s (fun _ => false) o h → o k < m) : EndsOf (DiffZ s i k) a b := by
  obtain ⟨o, h', ht⟩ := hc
  obtain ⟨h1, h2⟩ := h.at_ ⟨o, h', ht, hm o h' ht⟩
  refine ⟨h1, h2, ?_⟩
  rintro z ⟨o, h', ht, rfl⟩
  exact h.all o h' ht (hm o h' ht)
end

set_option maxRecDepth 100000 in
set_option maxHeartbeats 12800000 in
theorem difference_ref (s : Se) (Ao Ab : Option Addr) (co cb : Nat) (rA : Nat → Option Addr) (rc : Nat → Nat) (w : World) (hs : SeIn w w.heap.size s Ao Ab rA rc) (hok : SeOk s) (hcan : Can s) (i k : Nat) (hi : i < s.offs.length) (hk : k < s.offs.length) :
    Calls Try.prog 30 #[.agg #[.slice Ao s.offs.length co, .int .i64 s.err, .slice Ab s.baths.length cb], .int .i64 (i : Int), .int .i64 (k : Int)] w fun e w' => (∃ a b, e = .returned (.agg #[.int .i64 a, .int .i64 b]) ∧ Hid (EndsOf (DiffZ s i k) a b)) ∧ Below w.heap.size w w' := by
  have hno := hok.no
  have HOK := Lib.hid hok
  have HCAN := Lib.hid hcan
  have HC : Hid (canB s = true) := Lib.hid (canB_true hcan)
  clear hok hcan
  have hb1 := ex_alloc (ex_alloc (Below.refl w.heap.size w) (.cells #[.slice Ao s.offs.length co, .int .i64 s.err, .slice Ab s.baths.length cb] 25)) (.cells #[.int .i64 0, .int .i64 0] 46)
  have q0 : Blk ((w.alloc (.cells #[.slice Ao s.offs.length co, .int .i64 s.err, .slice Ab s.baths.length cb] 25)).alloc (.cells #[.int .i64 0, .int .i64 0] 46)) w.heap.size 25 #[.slice Ao s.offs.length co, .int .i64 s.err, .slice Ab s.baths.length cb] := (Blk.new _ _ _).alloc _
  have q1 : Blk ((w.alloc (.cells #[.slice Ao s.offs.length co, .int .i64 s.err, .slice Ab s.baths.length cb] 25)).alloc (.cells #[.int .i64 0, .int .i64 0] 46)) (w.heap.size + 1) 46 #[.int .i64 0, .int .i64 0] := Blk.new' _ _ _ (by simp)
  go_enter Try.func30, Try.ntmps30
  go_wp2_with fail
  generalize (w.alloc (.cells #[.slice Ao s.offs.length co, .int .i64 s.err, .slice Ab s.baths.length cb] 25)).alloc (.cells #[.int .i64 0, .int .i64 0] 46) = V at *
  refine (narrow_ref s Ao Ab co cb rA rc V (hs.go hb1) HOK.out).mono ?_
  rintro e V1 ⟨⟨A1, cO, A2, c2, O, H, rfl, hn, sO, _⟩, hV1⟩
  rw [HC.out]
  have B1 := ex_trans hb1 hV1
  have p0 := q0.below hV1 q0.lt
  have p1' := q1.below hV1 q1.lt
  have hN : NarIs s O H := hn.out.resolve_right (fun h => h.1 HCAN.out)
  have hOl := hN.lo
  have HE := Lib.hid (hN.offs k hk)
  clear hn hN
  obtain ⟨bO, oO, rfl, hbO, x1, x2⟩ := IsRgs.at_ sO (k := k) (by omega)
  clear x1 x2
  rw [hOl] at sO ⊢
  have hX := ex_alloc (Below.refl V1.heap.size V1) (.cells #[.int .i64 1048576, .int .i64 (-1048576)] 46)
  have n1 : Blk (V1.alloc (.cells #[.int .i64 1048576, .int .i64 (-1048576)] 46)) V1.heap.size 46 #[.int .i64 1048576, .int .i64 (-1048576)] := Blk.new _ _ _
  have HCEL : Hid (∀ W, Below V1.heap.size V1 W → bO < W.heap.size ∧ W.cell? ⟨bO, oO + k * 2, none⟩ = some (.int .i64 (gR O k).lo) ∧ W.cell? ⟨bO, oO + k * 2 + 1, none⟩ = some (.int .i64 (gR O k).hi)) := Lib.hid (fun W hW => by
    obtain ⟨b', o', e, hb, h0, h1⟩ := IsRgs.at_ (sO.below hW) hk
    injection e with e
    injection e with e1 e2
    subst e1 e2
    exact ⟨by have := hW.size; omega, h0, h1⟩)
  obtain ⟨lo, hlo⟩ : ∃ x, (gR O k).lo = x := ⟨_, rfl⟩
  obtain ⟨hh, hhh⟩ : ∃ x, (gR O k).hi = x := ⟨_, rfl⟩
  rw [hlo, hhh] at HCEL HE
  clear hlo hhh hOl
  have hlim : -100 ≤ lo ∧ lo ≤ hh ∧ hh ≤ 100 := by
    obtain ⟨⟨o1, h1, t1, e1⟩, ⟨o2, h2, t2, e2⟩, h3⟩ := HE.out
    have := t1.offs k hk
    have := t2.offs k hk
    have := HOK.out.offs k hk
    have := (h3 lo ⟨o1, h1, t1, e1⟩).2
    omega
  have HR : Hid ((gR s.offs k).lo ≤ lo ∧ hh ≤ (gR s.offs k).hi) := Lib.hid (by
    obtain ⟨⟨o1, h1, t1, e1⟩, ⟨o2, h2, t2, e2⟩, h3⟩ := HE.out
    have := t1.offs k hk
    have := t2.offs k hk
    omega)
  obtain ⟨b1, c0, c1⟩ := HCEL.out V1 (Below.refl _ _)
  have HD0 : Hid (DifTo s i k lo 1048576 (-1048576)) := Lib.hid (DifTo.start (fun o h ht => (HE.out.2.2 (o k) ⟨o, h, ht, rfl⟩).1))
  go_wp2_with fail
  have q02 := p0.below hX p0.lt
  have q12 := p1'.below hX p1'.lt
  have B2 := ex_trans B1 hX
  have hps := hX.size
  have n1l := n1.lt
  generalize V1.alloc (.cells #[.int .i64 1048576, .int .i64 (-1048576)] 46) = V2 at *
  obtain ⟨p1, hp1⟩ : ∃ p1, V1.heap.size = p1 := ⟨_, rfl⟩
  have hp0 : w.heap.size + 1 < p1 := by have := p1'.lt; omega
  have HCEL2 : Hid (∀ W, Below p1 V1 W → bO < W.heap.size ∧ W.cell? ⟨bO, oO + k * 2, none⟩ = some (.int .i64 lo) ∧ W.cell? ⟨bO, oO + k * 2 + 1, none⟩ = some (.int .i64 hh)) := Lib.hid (by rw [← hp1]; exact HCEL.out)
  rw [hp1] at n1 hX n1l hbO ⊢
  clear hp1 HCEL p0 p1' B1 hb1 q0 q1 hV1 c0 c1 b1 hps sO
  refine wp_loop (fun a W => Rel (fun a W => ∃ m : Int, lo ≤ m ∧ m ≤ hh + 1 ∧ ∃ a' b', Hid (DifTo s i k m a' b') ∧ Below w.heap.size w W ∧ Below p1 V1 W ∧ Blk W w.heap.size 25 #[.slice Ao s.offs.length co, .int .i64 s.err, .slice Ab s.baths.length cb] ∧ Blk W (w.heap.size + 1) 46 #[.int .i64 0, .int .i64 0] ∧ Blk W p1 46 #[.int .i64 a', .int .i64 b'] ∧ ∃ u : Nat → Value, a = ⟨List.toArray (u 0 :: .int .i64 (i : Int) :: .int .i64 (k : Int) :: .pointer (some ⟨w.heap.size, 0, none⟩) :: u 4 :: u 5 :: .pointer (some ⟨w.heap.size + 1, 0, none⟩) :: .slice (some ⟨bO, oO, none⟩) s.offs.length cO :: u 8 :: u 9 :: .pointer (some ⟨p1, 0, none⟩) :: .int .i64 m :: u 12 :: u 13 :: u 14 :: u 15 :: u 16 :: u 17 :: u 18 :: u 19 :: u 20 :: u 21 :: u 22 :: u 23 :: u 24 :: u 25 :: u 26 :: u 27 :: u 28 :: u 29 :: u 30 :: u 31 :: u 32 :: u 33 :: u 34 :: u 35 :: u 36 :: u 37 :: u 38 :: u 39 :: u 40 :: u 41 :: u 42 :: u 43 :: u 44 :: u 45 :: u 46 :: u 47 :: u 48 :: u 49 :: u 50 :: u 51 :: u 52 :: u 53 :: u 54 :: u 55 :: u 56 :: u 57 :: u 58 :: u 59 :: u 60 :: u 61 :: u 62 :: u 63 :: u 64 :: u 65 :: u 66 :: u 67 :: []), []⟩) a W)
    (fun a _ => (hh + 1 - intOf (a.tmps.getD 11 undef)).toNat) ⟨⟨lo, by omega, by omega, 1048576, -1048576, HD0, B2, hX, q02, q12, n1, exFrame (by kernel_rfl)⟩⟩ ?_
  clear HD0 B2 hX q02 q12 n1 n1l V2
  rintro a W ⟨⟨m, hm1, hm2, da, db, HD, hbl, hbv, q0, q1, qp, u, rfl⟩⟩
  have l0 := q0.lt
  have l1 := q1.lt
  have lp := qp.lt
  obtain ⟨lbO, c0, c1⟩ := HCEL2.out W hbv
  by_cases hlt : m ≤ hh
  rotate_left
  · have HF : Hid (EndsOf (DiffZ s i k) da db) := Lib.hid (HD.out.ends HCAN.out (fun o h ht => by
      have := (HE.out.2.2 (o k) ⟨o, h, ht, rfl⟩).2
      omega))
    have z0 : W.cell? ⟨w.heap.size + 1, 0, none⟩ = some (.int .i64 0) := q1.cell 0
    have z1 : W.cell? ⟨w.heap.size + 1, 1, none⟩ = some (.int .i64 0) := q1.cell 1
    have b0 : W.cell? ⟨p1, 0, none⟩ = some (.int .i64 da) := qp.cell 0
    have b1 : W.cell? ⟨p1, 1, none⟩ = some (.int .i64 db) := qp.cell 1
    have ff := q1.frozen0
    have q8 := (q1.set_ 0 (.int .i64 da)).set_ 1 (.int .i64 db)
    simp only [List.setIfInBounds_toArray, List.set_cons_zero, List.set_cons_succ] at q8
    have hw1 : w.heap.size ≤ w.heap.size + 1 := by omega
    have B9 := ex_set (ex_set hbl (p := ⟨w.heap.size + 1, 0, none⟩) hw1 (.int .i64 da)) (p := ⟨w.heap.size + 1, 1, none⟩) hw1 (.int .i64 db)
    have d1 : decide (m ≤ hh) = false := decide_eq_false hlt
    go_wp2
    refine bodyPost_ret (results_cell_row rfl _ _ (w.heap.size + 1) 46 #[.int .i64 da, .int .i64 db] (0, 0) _ rfl q8 rfl rfl rfl) rfl ?_
    exact ⟨⟨da, db, rfl, HF⟩, B9⟩
  have d1 : decide (m ≤ hh) = true := decide_eq_true hlt
  have HM : Hid ((gR s.offs k).lo ≤ m ∧ m ≤ (gR s.offs k).hi) := Lib.hid (by have := HR.out; omega)
  have a0 : W.cell? ⟨w.heap.size, 0, none⟩ = some (.slice Ao s.offs.length co) := q0.cell 0
  have a1 : W.cell? ⟨w.heap.size, 1, none⟩ = some (.int .i64 s.err) := q0.cell 1
  have a2 : W.cell? ⟨w.heap.size, 2, none⟩ = some (.slice Ab s.baths.length cb) := q0.cell 2
  go_wp2_with fail
  refine (with_ref s Ao Ab co cb rA rc W ((hs.below hbl).up hbl.size) k m hk (by omega)).mono ?_
  rintro e W1 ⟨⟨Aw, cw, rfl, hsw⟩, hW1⟩
  have hbl1 := ex_trans hbl hW1
  have hbv1 : Below p1 V1 W1 := hbv.trans (hW1.mono (by omega))
  have q01 := q0.below hW1 l0
  have q11 := q1.below hW1 l1
  have qp1 := qp.below hW1 lp
  have hwl : (withS s k m).offs.length = s.offs.length := List.length_set
  have HWK := Lib.hid (withS_ok HOK.out hk HM.out)
  have hnar := narrow_ref (withS s k m) Aw Ab cw cb rA rc W1 hsw HWK.out
  rw [hwl] at hnar
  clear a0 a1 a2 l0 l1 lp lbO c0 c1 d1
  go_wp2_with fail
  refine hnar.mono ?_
  clear hnar
  rintro e W2 ⟨⟨A3, c3, A4, c4, O2, H2, rfl, hn2, sO2, _⟩, hW2⟩
  have hbl2 := ex_trans hbl1 hW2
  have hbv2 : Below p1 V1 W2 := hbv1.trans (hW2.mono (by have := qp1.lt; omega))
  have q02 := q01.below hW2 q01.lt
  have q12 := q11.below hW2 q11.lt
  have qp2 := qp1.below hW2 qp1.lt
  have lp := qp2.lt
  by_cases hc : Can (withS s k m)
  rotate_left
  · have HCF : Hid (canB (withS s k m) = false) := Lib.hid (canB_false hc)
    rw [HCF.out]
    have HD2 : Hid (DifTo s i k (m + 1) da db) := Lib.hid (HD.out.skip hk HM.out hc)
    clear hc hn2
    go_wp2_with fail
    refine ⟨⟨⟨m + 1, by omega, by omega, da, db, HD2, hbl2, hbv2, q02, q12, qp2, exFrame (by kernel_rfl)⟩⟩, ?_⟩
    show (hh + 1 - intOf (.int .i64 (m + 1))).toNat < (hh + 1 - intOf (.int .i64 m)).toNat
    simp [intOf]
    omega
  have HCT : Hid (canB (withS s k m) = true) := Lib.hid (canB_true hc)
  rw [HCT.out]
  have hN2 : NarIs (withS s k m) O2 H2 := hn2.out.resolve_right (fun h => h.1 hc)
  have hO2 : O2.length = s.offs.length := hN2.lo.trans hwl
  have hE2 := hN2.offs i (by rw [hwl]; exact hi)
  obtain ⟨b3, o3, rfl, hb3, r0, r1⟩ := IsRgs.at_ sO2 (k := i) (by omega)
  obtain ⟨lo2, hlo2⟩ : ∃ x, (gR O2 i).lo = x := ⟨_, rfl⟩
  obtain ⟨hi2, hhi2⟩ : ∃ x, (gR O2 i).hi = x := ⟨_, rfl⟩
  rw [hlo2] at r0 hE2
  rw [hhi2] at r1 hE2
  have HD2 : Hid (DifTo s i k (m + 1) (min da (lo2 - m)) (max db (hi2 - m))) := Lib.hid (HD.out.step HOK.out hi hk HM.out hE2)
  have hbd := HD.out.bd HOK.out hi hk
  have hl2 : -100 ≤ lo2 ∧ lo2 ≤ 100 ∧ -100 ≤ hi2 ∧ hi2 ≤ 100 := by
    obtain ⟨⟨o1, h1, t1, e1⟩, ⟨o2, h2, t2, e2⟩, h3⟩ := hE2
    have u1 := ((withS_tru hk HM.out).1 t1).1.offs i hi
    have u2 := ((withS_tru hk HM.out).1 t2).1.offs i hi
    have := HOK.out.offs i hi
    omega
  have w1 : IntKind.i64.wrap (lo2 - m) = lo2 - m := IntWalk.i64_in _ (by omega)
  have w2 : IntKind.i64.wrap (hi2 - m) = hi2 - m := IntWalk.i64_in _ (by omega)
  rw [hO2] at sO2 ⊢
  have z0 : W2.cell? ⟨p1, 0, none⟩ = some (.int .i64 da) := qp2.cell 0
  have z1 : W2.cell? ⟨p1, 1, none⟩ = some (.int .i64 db) := qp2.cell 1
  clear hc hn2 hN2 hlo2 hhi2 hE2 hO2 hwl
  go_wp2_with fail
  refine wp_region_ext_tree 21 (.quiet 0 (.quiet 1 (.quiet 2 (.quiet 3 (.quiet 4 (.quiet 5 (.quiet 6 (.quiet 7 (.quiet 8 (.quiet 10 (.quiet 11 (.quiet 12 (.quiet 13 (.quiet 14 (.quiet 15 (.quiet 16 (.quiet 17 (.quiet 18 (.fork 9 (.loud 19 (.quiet 20 .done)) 19 (.loud 9 (.quiet 20 .done))))))))))))))))))))) (by kernel_rfl) (by kernel_rfl) (by intro d _ _ _ _ h; cases d <;> exact h) ?_
  have hX0 := (Below.refl W2.heap.size W2).drew
  repeat (refine tree_quiet rfl ?_; go_big_quiet_step (fail); refine wpQuiet_nil ?_)
  have hbl3 := ex_trans hbl2 hX0
  have hbv3 : Below p1 V1 W2.drew := hbv2.trans (hX0.mono (by omega))
  have q03 := q02.below hX0 q02.lt
  have q13 := q12.below hX0 q12.lt
  have qp3 := qp2.below hX0 lp
  have ff := qp2.frozen0
  have qp4 := (qp3.set_ 0 (.int .i64 (min da (lo2 - m)))).set_ 1 (.int .i64 (max db (hi2 - m)))
  simp only [List.setIfInBounds_toArray, List.set_cons_zero, List.set_cons_succ] at qp4
  have B5 := ex_set (ex_set hbl3 (p := ⟨p1, 0, none⟩) (by show w.heap.size ≤ p1; omega) (.int .i64 (min da (lo2 - m)))) (p := ⟨p1, 1, none⟩) (by show w.heap.size ≤ p1; omega) (.int .i64 (max db (hi2 - m)))
  have V5 : Below p1 V1 ((W2.drew.setCell ⟨p1, 0, none⟩ (.int .i64 (min da (lo2 - m)))).setCell ⟨p1, 1, none⟩ (.int .i64 (max db (hi2 - m)))) := (hbv3.setCell (p := ⟨p1, 0, none⟩) (Nat.le_refl _) _).setCell (p := ⟨p1, 1, none⟩) (Nat.le_refl _) _
  have q05 := (q03.far (p := ⟨p1, 0, none⟩) (by show w.heap.size ≠ p1; omega) (.int .i64 (min da (lo2 - m)))).far (p := ⟨p1, 1, none⟩) (by show w.heap.size ≠ p1; omega) (.int .i64 (max db (hi2 - m)))
  have q15 := (q13.far (p := ⟨p1, 0, none⟩) (by show w.heap.size + 1 ≠ p1; omega) (.int .i64 (min da (lo2 - m)))).far (p := ⟨p1, 1, none⟩) (by show w.heap.size + 1 ≠ p1; omega) (.int .i64 (max db (hi2 - m)))
  refine tree_fork rfl rfl ?_ ?_
  · go_wp2_with fail
    refine ⟨inEx hX0, ?_⟩
    refine tree_loud rfl ?_
    go_wp2_with fail
    refine ⟨inEx hX0, ?_⟩
    repeat (refine tree_quiet rfl ?_; go_big_quiet_step (fail); refine wpQuiet_nil ?_)
    refine tree_done (r := [_]) rfl ?_
    go_wp2_with fail
    refine ⟨⟨⟨m + 1, by omega, by omega, _, _, HD2, B5, V5, q05, q15, qp4, exFrame (by kernel_rfl)⟩⟩, ?_⟩
    show (hh + 1 - intOf (.int .i64 (m + 1))).toNat < (hh + 1 - intOf (.int .i64 m)).toNat
    simp [intOf]
    omega
  · go_wp2_with fail
    refine ⟨inEx hX0, ?_⟩
    refine tree_loud rfl ?_
    go_wp2_with fail
    refine ⟨inEx hX0, ?_⟩
    repeat (refine tree_quiet rfl ?_; go_big_quiet_step (fail); refine wpQuiet_nil ?_)
    refine tree_done (r := [_]) rfl ?_
    go_wp2_with fail
    refine ⟨⟨⟨m + 1, by omega, by omega, _, _, HD2, B5, V5, q05, q15, qp4, exFrame (by kernel_rfl)⟩⟩, ?_⟩
    show (hh + 1 - intOf (.int .i64 (m + 1))).toNat < (hh + 1 - intOf (.int .i64 m)).toNat
    simp [intOf]
    omega
end Go.Proofs.Ytnplefhigbkbbaa
end

section
namespace Go.Proofs.Ytnplefhigbkbbaa
open Go.RowKit
attribute [local go_sem] Ex.cell? Ex.frozen?

set_option maxRecDepth 100000 in
set_option maxHeartbeats 12800000 in
theorem DiffersLaw_any (s : Se) (Ao Ab : Option Addr) (co cb : Nat) (rA : Nat → Option Addr) (rc : Nat → Nat) (w : World) (hs : SeIn w w.heap.size s Ao Ab rA rc) (hol : s.offs.length ≤ maxLen) (hbl : s.baths.length ≤ maxLen) (a b : Int) :
    Calls Try.prog 4 #[.agg #[.slice Ao s.offs.length co, .int .i64 s.err, .slice Ab s.baths.length cb], .int .i64 a, .int .i64 b] w fun e w' => e = .returned (.bool true) ∧ Below w.heap.size w w' := by
  have B_V := ex_alloc (Below.refl w.heap.size w) (.cells #[.slice Ao s.offs.length co, .int .i64 s.err, .slice Ab s.baths.length cb] 25)
  have q0 : Blk (w.alloc (.cells #[.slice Ao s.offs.length co, .int .i64 s.err, .slice Ab s.baths.length cb] 25)) w.heap.size 25 #[.slice Ao s.offs.length co, .int .i64 s.err, .slice Ab s.baths.length cb] := Blk.new _ _ _
  have hm : maxLen = 9223372036854775807 := rfl
  go_enter Try.func4, Try.ntmps4
  go_wp2_with fail
  generalize w.alloc (.cells #[.slice Ao s.offs.length co, .int .i64 s.err, .slice Ab s.baths.length cb] 25) = V at *
  have q0_0 : V.cell? ⟨w.heap.size, 0, none⟩ = some (.slice Ao s.offs.length co) := q0.cell 0
  have q0_1 : V.cell? ⟨w.heap.size, 1, none⟩ = some (.int .i64 s.err) := q0.cell 1
  have q0_2 : V.cell? ⟨w.heap.size, 2, none⟩ = some (.slice Ab s.baths.length cb) := q0.cell 2
  have q0_l := q0.lt
  refine (Thin_law s Ao Ab co cb rA rc V ((hs.below B_V).up B_V.size) hol hbl).mono ?_
  rintro e W1 ⟨⟨x, rfl, hx⟩, hW1⟩
  replace q0 := q0.below hW1 q0.lt
  have B_W1 := ex_trans B_V hW1
  clear q0_0 q0_1 q0_2 q0_l
  have q0_0 : W1.cell? ⟨w.heap.size, 0, none⟩ = some (.slice Ao s.offs.length co) := q0.cell 0
  have q0_1 : W1.cell? ⟨w.heap.size, 1, none⟩ = some (.int .i64 s.err) := q0.cell 1
  have q0_2 : W1.cell? ⟨w.heap.size, 2, none⟩ = some (.slice Ab s.baths.length cb) := q0.cell 2
  have q0_l := q0.lt
  cases x
  · go_wp2_with fail
    refine (wakes_any _).mono ?_
    rintro e Wz ⟨rfl, hz⟩
    go_wp2
    go_ret
    exact ⟨rfl, ex_trans B_W1 hz⟩
  have HT := Lib.hid (hx.out rfl)
  clear hx
  have hno := HT.out.no
  have hnb := HT.out.nb
  have wn : IntKind.i64.wrap ((s.offs.length : Int) - 1) = (s.offs.length : Int) - 1 := IntWalk.i64_in _ (by omega)
  go_wp2_with fail
  refine (Series_law s Ao Ab co cb rA rc W1 ((hs.below B_W1).up B_W1.size) HT.out).mono ?_
  rintro e W2 ⟨⟨Ao1, Ab1, co1, cb1, rA1, rc1, rfl, hs1⟩, hW2⟩
  replace q0 := q0.below hW2 q0.lt
  have B_W2 := ex_trans B_W1 hW2
  clear q0_0 q0_1 q0_2 q0_l
  have q0_0 : W2.cell? ⟨w.heap.size, 0, none⟩ = some (.slice Ao s.offs.length co) := q0.cell 0
  have q0_1 : W2.cell? ⟨w.heap.size, 1, none⟩ = some (.int .i64 s.err) := q0.cell 1
  have q0_2 : W2.cell? ⟨w.heap.size, 2, none⟩ = some (.slice Ab s.baths.length cb) := q0.cell 2
  have q0_l := q0.lt
  go_wp2_with fail
  refine (Diff_any s Ao1 Ab1 co1 cb1 rA1 rc1 W2 hs1 HT.out.sm a b).mono ?_
  rintro e W3 ⟨⟨lo, hi, ev, rfl, hd⟩, hW3⟩
  replace q0 := q0.below hW3 q0.lt
  replace hs1 := hs1.go hW3
  have B_W3 := ex_trans B_W2 hW3
  clear q0_0 q0_1 q0_2 q0_l
  have q0_0 : W3.cell? ⟨w.heap.size, 0, none⟩ = some (.slice Ao s.offs.length co) := q0.cell 0
  have q0_1 : W3.cell? ⟨w.heap.size, 1, none⟩ = some (.int .i64 s.err) := q0.cell 1
  have q0_2 : W3.cell? ⟨w.heap.size, 2, none⟩ = some (.slice Ab s.baths.length cb) := q0.cell 2
  have q0_l := q0.lt
  clear hs1
  go_wp2_with fail
  have N_W4 := ex_alloc (Below.refl W3.heap.size W3) (.cells #[.int .i64 lo, .int .i64 hi] 41)
  have qd : Blk (W3.alloc (.cells #[.int .i64 lo, .int .i64 hi] 41)) W3.heap.size 41 #[.int .i64 lo, .int .i64 hi] := Blk.new _ _ _
  replace q0 := q0.below N_W4 q0.lt
  have B_W4 := ex_trans B_W3 N_W4
  clear N_W4
  generalize W3.alloc (.cells #[.int .i64 lo, .int .i64 hi] 41) = W4 at *
  clear q0_0 q0_1 q0_2 q0_l
  obtain ⟨pd, hpd⟩ : ∃ pd, W3.heap.size = pd := ⟨_, rfl⟩
  rw [hpd] at qd ⊢
  clear hpd
  have q0_0 : W4.cell? ⟨w.heap.size, 0, none⟩ = some (.slice Ao s.offs.length co) := q0.cell 0
  have q0_1 : W4.cell? ⟨w.heap.size, 1, none⟩ = some (.int .i64 s.err) := q0.cell 1
  have q0_2 : W4.cell? ⟨w.heap.size, 2, none⟩ = some (.slice Ab s.baths.length cb) := q0.cell 2
  have q0_l := q0.lt
  have qd_0 : W4.cell? ⟨pd, 0, none⟩ = some (.int .i64 lo) := qd.cell 0
  have qd_1 : W4.cell? ⟨pd, 1, none⟩ = some (.int .i64 hi) := qd.cell 1
  have qd_l := qd.lt
  refine (fault_law s Ao Ab co cb rA rc W4 ((hs.below B_W4).up B_W4.size) HT.out.sm).mono ?_
  rintro e W5 ⟨rfl, hW5⟩
  replace q0 := q0.below hW5 q0.lt
  replace qd := qd.below hW5 qd.lt
  have B_W5 := ex_trans B_W4 hW5
  clear q0_0 q0_1 q0_2 q0_l qd_0 qd_1 qd_l
  have q0_0 : W5.cell? ⟨w.heap.size, 0, none⟩ = some (.slice Ao s.offs.length co) := q0.cell 0
  have q0_1 : W5.cell? ⟨w.heap.size, 1, none⟩ = some (.int .i64 s.err) := q0.cell 1
  have q0_2 : W5.cell? ⟨w.heap.size, 2, none⟩ = some (.slice Ab s.baths.length cb) := q0.cell 2
  have q0_l := q0.lt
  have qd_0 : W5.cell? ⟨pd, 0, none⟩ = some (.int .i64 lo) := qd.cell 0
  have qd_1 : W5.cell? ⟨pd, 1, none⟩ = some (.int .i64 hi) := qd.cell 1
  have qd_l := qd.lt
  rcases hd.out with ⟨h1, rfl, rfl, rfl⟩ | ⟨h1, h2, rfl, rfl, rfl⟩ | ⟨h1, h2, h3, h4, rfl, rfl, rfl⟩ | ⟨h1, h2, h3, h4, rfl, h5⟩
  · generalize ckSe s = ck at *
    have e1 : (ck == 0) = false := by simp [h1]
    have e2 : (ck != 0) = true := by simp [h1]
    clear h1 hd
    go_wp2_with fail
    refine (wakes_any _).mono ?_
    rintro e Wz ⟨rfl, hz⟩
    go_wp2
    go_ret
    exact ⟨rfl, ex_trans B_W5 hz⟩
  · rw [h1]
    have H2 := Lib.hid h2
    clear h1 h2 hd
    go_wp2_with fail
    refine (In_any _ _ _ _).mono ?_
    rintro e w' ⟨rfl, rfl⟩
    have HB : Hid (∀ x, inB a 0 ((s.offs.length : Int) - 1) = x → x = false ∨ inB b 0 ((s.offs.length : Int) - 1) = false) := Lib.hid (fun x hx => by
      have := H2.out
      rw [hx] at this
      cases x
      · exact .inl rfl
      · exact .inr this)
    generalize hxa : inB a 0 ((s.offs.length : Int) - 1) = x
    have HXA := Lib.hid (HB.out x hxa)
    clear hxa HB H2
    cases x
    · go_wp2_with fail
      refine (wakes_any _).mono ?_
      rintro e Wz ⟨rfl, hz⟩
      go_wp2
      go_ret
      exact ⟨rfl, ex_trans B_W5 hz⟩
    have HB : Hid (inB b 0 ((s.offs.length : Int) - 1) = false) := Lib.hid (HXA.out.resolve_left (fun h => by cases h))
    clear HXA
    go_wp2_with fail
    refine (In_any _ _ _ _).mono ?_
    rintro e w' ⟨rfl, rfl⟩
    rw [HB.out]
    go_wp2_with fail
    refine (wakes_any _).mono ?_
    rintro e Wz ⟨rfl, hz⟩
    go_wp2
    go_ret
    exact ⟨rfl, ex_trans B_W5 hz⟩
  · have HOK := Lib.hid (seOk_iff.1 h1)
    have HC : Hid (canB s = false) := Lib.hid (canB_false h4)
    have HA := Lib.hid h2
    have HB := Lib.hid h3
    rw [h1]
    clear h1 h2 h3 h4 hd
    go_wp2_with fail
    refine (In_any _ _ _ _).mono ?_
    rintro e w' ⟨rfl, rfl⟩
    rw [HA.out]
    go_wp2_with fail
    refine (In_any _ _ _ _).mono ?_
    rintro e w' ⟨rfl, rfl⟩
    rw [HB.out]
    go_wp2_with fail
    refine (narrow_ref s Ao Ab co cb rA rc W5 ((hs.below B_W5).up B_W5.size) HOK.out).mono ?_
    rintro e W6 ⟨⟨A1, c1, A2, c2, O, H, rfl, hn, _, _⟩, hW6⟩
    replace q0 := q0.below hW6 q0.lt
    replace qd := qd.below hW6 qd.lt
    have B_W6 := ex_trans B_W5 hW6
    rw [HC.out]
    clear hn
    clear q0_0 q0_1 q0_2 q0_l qd_0 qd_1 qd_l
    have q0_0 : W6.cell? ⟨w.heap.size, 0, none⟩ = some (.slice Ao s.offs.length co) := q0.cell 0
    have q0_1 : W6.cell? ⟨w.heap.size, 1, none⟩ = some (.int .i64 s.err) := q0.cell 1
    have q0_2 : W6.cell? ⟨w.heap.size, 2, none⟩ = some (.slice Ab s.baths.length cb) := q0.cell 2
    have q0_l := q0.lt
    have qd_0 : W6.cell? ⟨pd, 0, none⟩ = some (.int .i64 0) := qd.cell 0
    have qd_1 : W6.cell? ⟨pd, 1, none⟩ = some (.int .i64 0) := qd.cell 1
    have qd_l := qd.lt
    go_wp2_with fail
    refine (wakes_any _).mono ?_
    rintro e Wz ⟨rfl, hz⟩
    go_wp2
    go_ret
    exact ⟨rfl, ex_trans B_W6 hz⟩
  have HOK := Lib.hid (seOk_iff.1 h1)
  have HCAN := Lib.hid h4
  have HC : Hid (canB s = true) := Lib.hid (canB_true h4)
  have HA := Lib.hid h2
  have HB := Lib.hid h3
  have HE := Lib.hid h5
  rw [h1]
  clear h1 h2 h3 h4 h5 hd
  go_wp2_with fail
  refine (In_any _ _ _ _).mono ?_
  rintro e w' ⟨rfl, rfl⟩
  rw [HA.out]
  go_wp2_with fail
  refine (In_any _ _ _ _).mono ?_
  rintro e w' ⟨rfl, rfl⟩
  rw [HB.out]
  go_wp2_with fail
  refine (narrow_ref s Ao Ab co cb rA rc W5 ((hs.below B_W5).up B_W5.size) HOK.out).mono ?_
  rintro e W6 ⟨⟨A1, c1, A2, c2, O, H, rfl, hn, _, _⟩, hW6⟩
  replace q0 := q0.below hW6 q0.lt
  replace qd := qd.below hW6 qd.lt
  have B_W6 := ex_trans B_W5 hW6
  rw [HC.out]
  clear hn
  clear q0_0 q0_1 q0_2 q0_l qd_0 qd_1 qd_l
  have q0_0 : W6.cell? ⟨w.heap.size, 0, none⟩ = some (.slice Ao s.offs.length co) := q0.cell 0
  have q0_1 : W6.cell? ⟨w.heap.size, 1, none⟩ = some (.int .i64 s.err) := q0.cell 1
  have q0_2 : W6.cell? ⟨w.heap.size, 2, none⟩ = some (.slice Ab s.baths.length cb) := q0.cell 2
  have q0_l := q0.lt
  have qd_0 : W6.cell? ⟨pd, 0, none⟩ = some (.int .i64 lo) := qd.cell 0
  have qd_1 : W6.cell? ⟨pd, 1, none⟩ = some (.int .i64 hi) := qd.cell 1
  have qd_l := qd.lt
  have ha := inB_iff.1 HA.out
  have hb := inB_iff.1 HB.out
  obtain ⟨i, rfl⟩ : ∃ i : Nat, a = (i : Int) := ⟨a.toNat, by omega⟩
  obtain ⟨j, rfl⟩ : ∃ j : Nat, b = (j : Int) := ⟨b.toNat, by omega⟩
  have HE2 : Hid (EndsOf (DiffZ s i j) lo hi) := Lib.hid (by have := HE.out; rwa [Int.toNat_natCast, Int.toNat_natCast] at this)
  have hi' : i < s.offs.length := by omega
  have hj' : j < s.offs.length := by omega
  clear HE ha hb HA HB
  go_wp2_with fail
  refine wp_region_ext_mix 14 [(false, 0), (false, 1), (false, 2), (false, 3), (false, 4), (false, 5), (false, 6), (true, 7), (true, 8), (false, 9), (false, 10), (false, 11), (true, 12), (false, 13)] (by kernel_rfl) (by kernel_rfl) (by intro d _ _ _ _ h; cases d <;> exact h) ?_
  have D_W6 := (Below.refl W6.heap.size W6).drew
  repeat (refine mix_quiet rfl ?_; go_big_quiet_step (fail); refine wpQuiet_nil ?_)
  refine mix_loud rfl ?_
  go_wp2_with fail
  have hsD := ((hs.below (ex_trans B_W6 D_W6)).up (ex_trans B_W6 D_W6).size)
  refine (difference_ref s Ao Ab co cb rA rc W6.drew hsD HOK.out HCAN.out i j hi' hj').mono ?_
  rintro e X1 ⟨⟨x, y, rfl, hxy⟩, hX1⟩
  have hX1' := ex_trans D_W6 hX1
  obtain ⟨rfl, rfl⟩ := HE2.out.uniq hxy.out
  clear hxy HE2
  go_wp2_with fail
  refine ⟨inEx hX1', ?_⟩
  repeat (refine mix_quiet rfl ?_; go_big_quiet_step (fail); refine wpQuiet_nil ?_)
  refine mix_loud rfl ?_
  go_wp2_with fail
  refine (to_law lo hi X1).mono ?_
  rintro e X2 ⟨rfl, hX2⟩
  have hX2' := ex_trans hX1' hX2
  go_wp2_with fail
  refine ⟨inEx hX2', ?_⟩
  repeat (refine mix_quiet rfl ?_; go_big_quiet_step (fail); refine wpQuiet_nil ?_)
  refine mix_loud rfl ?_
  go_wp2_with fail
  refine (wakes_any _).mono ?_
  rintro e X3 ⟨rfl, hX3⟩
  have hX3' := ex_trans hX2' hX3
  go_wp2_with fail
  refine ⟨inEx hX3', ?_⟩
  repeat (refine mix_quiet rfl ?_; go_big_quiet_step (fail); refine wpQuiet_nil ?_)
  refine mix_nil rfl ?_
  go_wp2
  go_ret
  exact ⟨rfl, ex_trans B_W6 hX3'⟩
end Go.Proofs.Ytnplefhigbkbbaa
end

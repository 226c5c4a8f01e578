/- Bath's laws: fixed (walk). · Bath's laws: on; a series in which a bath has just one heat (plain and in memory). · Bath's laws: BathEnds (walk). -/
import Derived.Test.YtnplefhigbkbbaaM16
import Derived.Test.YtnplefhigbkbbaaM12
import Derived.Test.YtnplefhigbkbbaaM13
import Derived.Test.YtnplefhigbkbbaaM17
set_option linter.unusedVariables false
set_option linter.unusedSimpArgs false
set_option linter.unusedSectionVars false
section
namespace Go.Proofs.Ytnplefhigbkbbaa
open Go.RowKit
attribute [local go_sem] Ex.cell? Ex.frozen?

open Classical in
/-- does it hold? -/
noncomputable def truB (p : Prop) : Bool := decide p
theorem truB_iff {p : Prop} : truB p = true ↔ p := by unfold truB; simp
theorem truB_false {p : Prop} (h : ¬ p) : truB p = false := by rw [← Bool.not_eq_true, truB_iff]; exact h
/-- a truth in which the instrument has just that offset. -/
def OffHit (s : Se) (n : Nat) (v : Int) : Prop := ∃ o h, Tru s (fun _ => false) o h ∧ o n = v
/-- a truth in which the bath has just that heat. -/
def HeatHit (s : Se) (b : Nat) (v : Int) : Prop := ∃ o h, Tru s (fun _ => false) o h ∧ h b = v
theorem off_in {s : Se} {n : Nat} {v : Int} (hn : n < s.offs.length) (h : OffHit s n v) : (gR s.offs n).lo ≤ v ∧ v ≤ (gR s.offs n).hi := by
  obtain ⟨o, h, t, e⟩ := h
  have := t.offs n hn
  omega
theorem with_can {s : Se} {n : Nat} {v : Int} (hi : n < s.offs.length) (hn : (gR s.offs n).lo ≤ v ∧ v ≤ (gR s.offs n).hi) : Can (withS s n v) ↔ OffHit s n v :=
  ⟨fun ⟨o, h, t⟩ => ⟨o, h, ((withS_tru hi hn).1 t).1, ((withS_tru hi hn).1 t).2⟩, fun ⟨o, h, t, e⟩ => ⟨o, h, (withS_tru hi hn).2 ⟨t, e⟩⟩⟩

set_option maxRecDepth 100000 in
set_option maxHeartbeats 6400000 in
theorem fixed_law (s : Se) (Ao Ab : Option Addr) (co cb : Nat) (rA : Nat → Option Addr) (rc : Nat → Nat) (w : World) (hs : SeIn w w.heap.size s Ao Ab rA rc) (ht : Thn s) (hok : SeOk s) (n : Nat) (hn : n < s.offs.length) (v : Int) (hv : -100000 ≤ v ∧ v ≤ 100000) :
    Calls Try.prog 50 #[.agg #[.slice Ao s.offs.length co, .int .i64 s.err, .slice Ab s.baths.length cb], .int .i64 (n : Int), .int .i64 v] w fun e w' => e = .returned (.tuple #[.bool (truB (OffHit s n v)), .bool true]) ∧ Below w.heap.size w w' := by
  have HT := Lib.hid ht
  have HOK := Lib.hid hok
  have hno := ht.no
  have hnb := ht.nb
  clear ht hok
  have hb1 := ex_alloc (Below.refl w.heap.size w) (.cells #[.slice Ao s.offs.length co, .int .i64 s.err, .slice Ab s.baths.length cb] 25)
  have q1 : Blk (w.alloc (.cells #[.slice Ao s.offs.length co, .int .i64 s.err, .slice Ab s.baths.length cb] 25)) w.heap.size 25 #[.slice Ao s.offs.length co, .int .i64 s.err, .slice Ab s.baths.length cb] := Blk.new _ _ _
  obtain ⟨V, hV⟩ : ∃ V, w.alloc (.cells #[.slice Ao s.offs.length co, .int .i64 s.err, .slice Ab s.baths.length cb] 25) = V := ⟨_, rfl⟩
  rw [hV] at hb1 q1
  obtain ⟨br, orr, rfl, hbr, r0, r1⟩ := IsRgs.at_ (hs.offs.below hb1) hn
  have lbr : br < V.heap.size := by have := hb1.size; omega
  have l1 := q1.lt
  have a0 : V.cell? ⟨w.heap.size, 0, none⟩ = some (.slice (some ⟨br, orr, none⟩) s.offs.length co) := q1.cell 0
  have a1 : V.cell? ⟨w.heap.size, 1, none⟩ = some (.int .i64 s.err) := q1.cell 1
  have a2 : V.cell? ⟨w.heap.size, 2, none⟩ = some (.slice Ab s.baths.length cb) := q1.cell 2
  obtain ⟨lo, hlo⟩ : ∃ lo, (gR s.offs n).lo = lo := ⟨_, rfl⟩
  obtain ⟨hi, hhi⟩ : ∃ hi, (gR s.offs n).hi = hi := ⟨_, rfl⟩
  have HLO := Lib.hid hlo
  have HHI := Lib.hid hhi
  rw [hlo] at r0
  rw [hhi] at r1
  clear hlo hhi
  have HV := Lib.hid hV
  clear hV
  by_cases h1 : v < lo
  · have HF : Hid (truB (OffHit s n v) = false) := Lib.hid (truB_false (fun h => by have := (off_in hn h).1; rw [HLO.out] at this; omega))
    have d1 : decide (v < lo) = true := decide_eq_true h1
    rw [← HV.out] at a0 a1 a2 r0 r1 lbr l1 hb1
    clear HV q1
    go_enter Try.func50, Try.ntmps50
    go_wp2
    go_ret2
    exact ⟨by rw [HF.out]; rfl, hb1⟩
  have d1 : decide (v < lo) = false := decide_eq_false h1
  by_cases h2 : hi < v
  · have HF : Hid (truB (OffHit s n v) = false) := Lib.hid (truB_false (fun h => by have := (off_in hn h).2; rw [HHI.out] at this; omega))
    have d2 : decide (hi < v) = true := decide_eq_true h2
    rw [← HV.out] at a0 a1 a2 r0 r1 lbr l1 hb1
    clear HV q1
    go_enter Try.func50, Try.ntmps50
    go_wp2
    go_ret2
    exact ⟨by rw [HF.out]; rfl, hb1⟩
  have d2 : decide (hi < v) = false := decide_eq_false h2
  have HIN : Hid ((gR s.offs n).lo ≤ v ∧ v ≤ (gR s.offs n).hi) := Lib.hid (by rw [HLO.out, HHI.out]; omega)
  have HC := Lib.hid (with_can hn HIN.out)
  have HOW := Lib.hid (withS_ok HOK.out hn HIN.out)
  have HTW : Hid (Thn (withS s n v)) := Lib.hid ⟨by show (s.offs.set n ⟨v, v⟩).length ≤ 9; rw [List.length_set]; exact HT.out.no, HT.out.nb, HT.out.nr⟩
  rw [← HV.out] at a0 a1 a2 r0 r1 lbr l1 hb1 q1
  go_enter Try.func50, Try.ntmps50
  go_wp2_with fail
  rw [HV.out] at a0 a1 a2 r0 r1 lbr l1 hb1 q1 ⊢
  clear HV
  refine (with_ref s (some ⟨br, orr, none⟩) Ab co cb rA rc V (hs.go hb1) n v hn (by omega)).mono ?_
  rintro e V1 ⟨⟨A, c, rfl, hsw⟩, hV1⟩
  have B1 := ex_trans hb1 hV1
  go_wp2_with fail
  have hcx := Series_law (withS s n v) A Ab c cb rA rc V1 hsw HTW.out
  rw [show (withS s n v).offs.length = s.offs.length from List.length_set, show (withS s n v).baths.length = s.baths.length from rfl, show (withS s n v).err = s.err from rfl] at hcx
  refine hcx.mono ?_
  clear hcx
  rintro e V2 ⟨⟨Ao1, Ab1, co1, cb1, rA1, rc1, rfl, hs1⟩, hV2⟩
  have B2 := ex_trans B1 hV2
  go_wp2_with fail
  have hcx := Offsets_any (withS s n v) Ao1 Ab1 co1 cb1 rA1 rc1 V2 hs1 HTW.out.sm
  rw [show (withS s n v).offs.length = s.offs.length from List.length_set, show (withS s n v).baths.length = s.baths.length from rfl, show (withS s n v).err = s.err from rfl] at hcx
  refine hcx.mono ?_
  clear hcx
  rintro e V3 ⟨⟨Ax, cx, l, ev, rfl, hr, _⟩, hV3⟩
  have B3 := ex_trans B2 hV3
  rcases rng_ok hr.out HOW.out with ⟨hc, rfl, _⟩ | ⟨hc, rfl, _⟩
  · have HF : Hid (truB (OffHit s n v) = false) := Lib.hid (truB_false (fun h => hc (HC.out.2 h)))
    clear hr hc
    go_wp2
    go_ret2
    exact ⟨by rw [HF.out]; rfl, B3⟩
  · have HF : Hid (truB (OffHit s n v) = true) := Lib.hid (truB_iff.2 (HC.out.1 hc))
    clear hr hc
    go_wp2
    go_ret2
    exact ⟨by rw [HF.out]; rfl, B3⟩
end Go.Proofs.Ytnplefhigbkbbaa
end

section
namespace Go.Proofs.Ytnplefhigbkbbaa
open Go.RowKit
attribute [local go_sem] Ex.cell? Ex.frozen?

/-- the ends, and what lies just beyond them. -/
def endV (lo hi : Int) : Nat → Int
  | 0 => lo
  | 1 => hi
  | 2 => lo - 1
  | _ => hi + 1
theorem ends_hit {Z : Int → Prop} {lo hi : Int} (h : EndsOf Z lo hi) {i : Nat} (hi4 : i < 4) : Z (endV lo hi i) ↔ i < 2 := by
  obtain ⟨h1, h2, h3⟩ := h
  match i, hi4 with
  | 0, _ => exact ⟨fun _ => by omega, fun _ => h1⟩
  | 1, _ => exact ⟨fun _ => by omega, fun _ => h2⟩
  | 2, _ => exact ⟨fun h => by have h4 : lo ≤ lo - 1 ∧ lo - 1 ≤ hi := h3 _ h; omega, fun h => by omega⟩
  | 3, _ => exact ⟨fun h => by have h4 : lo ≤ hi + 1 ∧ hi + 1 ≤ hi := h3 _ h; omega, fun h => by omega⟩
theorem truB_dec {p : Prop} {i : Nat} (h : p ↔ i < 2) : truB p = decide (i < 2) := by
  by_cases hi : i < 2
  · rw [truB_iff.2 (h.2 hi), decide_eq_true hi]
  · rw [truB_false (fun k => hi (h.1 k)), decide_eq_false hi]
theorem rng_can {s : Se} {n : Nat} {Z : Nat → Int → Prop} {l : List Rg} {ev : Int} (h : RngV s n Z l ev) (hok : SeOk s) (hc : Can s) : ev = 0 ∧ l.length = n ∧ ∀ k, k < n → EndsOf (Z k) (gR l k).lo (gR l k).hi := by
  rcases rng_ok h hok with ⟨h1, _⟩ | ⟨_, h1, h2, h3⟩
  · exact absurd hc h1
  · exact ⟨h1, h2, h3⟩
def onB (n lo hi : Int) : Bool := decide (lo ≤ n ∧ n ≤ hi)

set_option maxRecDepth 100000 in
theorem on_law (n lo hi : Int) (w : World) :
    Calls Try.prog 51 #[.int .i64 n, .agg #[.int .i64 lo, .int .i64 hi]] w fun e w' => e = .returned (.bool (onB n lo hi)) ∧ Below w.heap.size w w' := by
  have hb := ex_alloc (Below.refl w.heap.size w) (.cells #[.int .i64 lo, .int .i64 hi] 41)
  go_enter Try.func51, Try.ntmps51
  by_cases h1 : lo ≤ n
  · by_cases h2 : n ≤ hi
    · have e : onB n lo hi = true := decide_eq_true ⟨h1, h2⟩
      go_wp2
      go_ret
      first | exact ⟨ret_bool e.symm, hb⟩ | exact ⟨rfl, hb⟩
    · have e : onB n lo hi = false := decide_eq_false (fun h => h2 h.2)
      go_wp2
      go_ret
      first | exact ⟨ret_bool e.symm, hb⟩ | exact ⟨rfl, hb⟩
  · have e : onB n lo hi = false := decide_eq_false (fun h => h1 h.1)
    go_wp2
    go_ret
    first | exact ⟨ret_bool e.symm, hb⟩ | exact ⟨rfl, hb⟩

/-- a series in which a bath has just one heat. -/
def heatS (s : Se) (b : Nat) (n : Int) : Se := ⟨s.offs, s.err, s.baths.set b ⟨⟨n, n⟩, (gBt s.baths b).reads⟩⟩
section
variable {s : Se} {b : Nat} {n : Int}
theorem heatS_len : (heatS s b n).baths.length = s.baths.length := List.length_set
theorem heatS_at (hb : b < s.baths.length) {k : Nat} : gBt (heatS s b n).baths k = if k = b then ⟨⟨n, n⟩, (gBt s.baths b).reads⟩ else gBt s.baths k := by
  show gBt (s.baths.set b ⟨⟨n, n⟩, (gBt s.baths b).reads⟩) k = _
  unfold gBt
  by_cases e : k = b
  · subst e; simp [hb]
  · have e' : ¬ b = k := fun h => e h.symm
    simp [List.getElem?_set, e, e']
theorem heatS_reads (hb : b < s.baths.length) {k : Nat} : (gBt (heatS s b n).baths k).reads = (gBt s.baths k).reads := by
  rw [heatS_at hb]
  split
  · next e => rw [e]
  · rfl
theorem heatS_tru {o h : Nat → Int} (hb : b < s.baths.length) (hn : (gBt s.baths b).heat.lo ≤ n ∧ n ≤ (gBt s.baths b).heat.hi) : Tru (heatS s b n) (fun _ => false) o h ↔ Tru s (fun _ => false) o h ∧ h b = n := by
  constructor
  · intro t
    have h0 := t.heats b (by rw [heatS_len]; exact hb)
    rw [heatS_at hb, if_pos rfl] at h0
    have hbn : h b = n := by have h2 := h0.1; have h3 := h0.2; simp only at h2 h3; omega
    refine ⟨Tru.of_reads t.offs (fun k hk => ?_) (fun k hk i hi => ?_), hbn⟩
    · have := t.heats k (by rw [heatS_len]; exact hk)
      rw [heatS_at hb] at this
      by_cases e : k = b
      · subst e; omega
      · rwa [if_neg e] at this
    · have := t.read (fun _ => rfl) (b := k) (i := i) (by rw [heatS_len]; exact hk) (by rw [heatS_reads hb]; exact hi)
      rw [heatS_reads hb] at this
      exact this
  · rintro ⟨t, hbn⟩
    refine Tru.of_reads t.offs (fun k hk => ?_) (fun k hk i hi => ?_)
    · rw [heatS_len] at hk
      rw [heatS_at hb]
      by_cases e : k = b
      · subst e; rw [if_pos rfl]; show n ≤ h k ∧ h k ≤ n; omega
      · rw [if_neg e]; exact t.heats k hk
    · rw [heatS_len] at hk
      rw [heatS_reads hb] at hi ⊢
      exact t.read (fun _ => rfl) hk hi
theorem heatS_ok (hok : SeOk s) (hb : b < s.baths.length) (hn : (gBt s.baths b).heat.lo ≤ n ∧ n ≤ (gBt s.baths b).heat.hi) : SeOk (heatS s b n) := by
  have h0 := hok.heats b hb
  refine ⟨hok.no, by rw [heatS_len]; exact hok.nb, hok.err, hok.offs, fun k hk => ?_, ?_, ?_, ?_⟩
  · rw [heatS_len] at hk
    rw [heatS_at hb]
    split
    · show 0 ≤ n ∧ n ≤ n ∧ n ≤ 1000; omega
    · exact hok.heats k hk
  · intro k hk
    rw [heatS_len] at hk
    rw [heatS_reads hb]; exact hok.inst k hk
  · intro k hk
    rw [heatS_len] at hk
    rw [heatS_reads hb]; exact hok.once k hk
  · intro k hk
    rw [heatS_len] at hk
    rw [heatS_reads hb]; exact hok.val k hk
theorem heatS_thn (ht : Thn s) (hb : b < s.baths.length) : Thn (heatS s b n) := ⟨ht.no, by rw [heatS_len]; exact ht.nb, fun k hk => by
  rw [heatS_len] at hk
  rw [heatS_reads hb]; exact ht.nr k hk⟩
theorem heatS_can (hb : b < s.baths.length) (hn : (gBt s.baths b).heat.lo ≤ n ∧ n ≤ (gBt s.baths b).heat.hi) : Can (heatS s b n) ↔ HeatHit s b n :=
  ⟨fun ⟨o, h, t⟩ => ⟨o, h, ((heatS_tru hb hn).1 t).1, ((heatS_tru hb hn).1 t).2⟩, fun ⟨o, h, t, e⟩ => ⟨o, h, (heatS_tru hb hn).2 ⟨t, e⟩⟩⟩
theorem heat_in (hb : b < s.baths.length) (h : HeatHit s b n) : (gBt s.baths b).heat.lo ≤ n ∧ n ≤ (gBt s.baths b).heat.hi := by
  obtain ⟨o, h, t, e⟩ := h
  have := t.heats b hb
  omega
end
/-- the baths with their slices. -/
def xbL (s : Se) (rA : Nat → Option Addr) (rc : Nat → Nat) : List Xb := (List.range s.baths.length).map (fun b => (gBt s.baths b, rA b, rc b))
theorem xbL_len {s : Se} {rA : Nat → Option Addr} {rc : Nat → Nat} : (xbL s rA rc).length = s.baths.length := by unfold xbL; simp
theorem xbL_at {s : Se} {rA : Nat → Option Addr} {rc : Nat → Nat} {k : Nat} (hk : k < s.baths.length) : gXb (xbL s rA rc) k = (gBt s.baths k, rA k, rc k) := by unfold gXb xbL; simp [hk]
theorem xbL_sl {w : World} {B : Nat} {A : Option Addr} {s : Se} {rA : Nat → Option Addr} {rc : Nat → Nat} (h : SlAt w B 3 A s.baths.length (fBt s.baths rA rc)) : SlAt w B 3 A (xbL s rA rc).length (fB (xbL s rA rc)) := by
  rw [xbL_len]
  intro hn
  obtain ⟨b, off, e, hb, hc⟩ := h hn
  refine ⟨b, off, e, hb, fun k j hk hj => (hc k j hk hj).trans (congrArg some ?_)⟩
  unfold fBt fB
  rw [xbL_at hk]
  match j, hj with
  | 0, _ => rfl
  | 1, _ => rfl
  | 2, _ => rfl
theorem bts_cell {w : World} {base : Nat} {e : TypeId} {v : Value} {l : List Xb} (h : w.ownsRow base e 3 v l.length (l.flatMap cB)) {k : Nat} (hk : k < l.length) :
    ∃ g cap, v = .slice (some ⟨g, 0, none⟩) l.length cap ∧ base ≤ g ∧ g < w.heap.size ∧ w.cell? ⟨g, k * 3, none⟩ = some (.int .i64 (gXb l k).1.heat.lo) ∧ w.cell? ⟨g, k * 3 + 1, none⟩ = some (.int .i64 (gXb l k).1.heat.hi) ∧ ∀ i, w.frozen? ⟨g, i, none⟩ = false := by
  obtain ⟨g, cap, rfl, hb, hl, _, _, hc, hf⟩ := own_cell h (by omega)
  have hfl := rgflat_len (f := cB) (sz := 3) (fun _ => rfl) (l := l)
  refine ⟨g, cap, rfl, hb, hl, ?_, ?_, hf⟩
  · rw [hc _ (by rw [hfl]; omega)]
    have := flat_get (f := cB) (sz := 3) (fun _ => rfl) hk (j := 0) (by omega)
    rw [Nat.add_zero] at this
    rw [this]
    exact cB_at l k hk 0 (by omega)
  · rw [hc _ (by rw [hfl]; omega)]
    exact (flat_get (f := cB) (sz := 3) (fun _ => rfl) hk (j := 1) (by omega)).trans (cB_at l k hk 1 (by omega))
theorem bts_set {w : World} {base : Nat} {e : TypeId} {v : Value} {l : List Xb} (h : w.ownsRow base e 3 v l.length (l.flatMap cB)) {g : Nat} (hg : v.ownBlock = some g) {k : Nat} (hk : k < l.length) (n : Int) :
    ((w.setCell ⟨g, k * 3, none⟩ (.int .i64 n)).setCell ⟨g, k * 3 + 1, none⟩ (.int .i64 n)).ownsRow base e 3 v (l.set k (⟨⟨n, n⟩, (gXb l k).1.reads⟩, (gXb l k).2)).length ((l.set k (⟨⟨n, n⟩, (gXb l k).1.reads⟩, (gXb l k).2)).flatMap cB) := by
  have hfl := rgflat_len (f := cB) (sz := 3) (fun _ => rfl) (l := l)
  have hx : gXb l k = l[k] := by unfold gXb; simp [hk]
  have h1 := own_set h hg (j := k * 3) (by rw [hfl]; omega) (.int .i64 n)
  have h2 := own_set h1 hg (j := k * 3 + 1) (by rw [List.length_set, hfl]; omega) (.int .i64 n)
  have e1 := flat_set (f := cB) (sz := 3) (fun _ => rfl) (l := l) hk (j := 0) (by omega) (u := .int .i64 n) (a := (⟨⟨n, (l[k]).1.heat.hi⟩, (l[k]).1.reads⟩, (l[k]).2)) rfl
  rw [Nat.add_zero] at e1
  have e2 := flat_set (f := cB) (sz := 3) (fun _ => rfl) (l := l.set k (⟨⟨n, (l[k]).1.heat.hi⟩, (l[k]).1.reads⟩, (l[k]).2)) (k := k) (by rw [List.length_set]; exact hk) (j := 1) (by omega) (u := .int .i64 n) (a := (⟨⟨n, n⟩, (l[k]).1.reads⟩, (l[k]).2)) (by rw [List.getElem_set_self]; rfl)
  rw [e1, e2, List.set_set] at h2
  rw [List.length_set, hx]
  exact h2
theorem heatS_in {W : World} {B : Nat} {e : TypeId} {v : Value} {s : Se} {Ao : Option Addr} {rA : Nat → Option Addr} {rc : Nat → Nat} {b : Nat} {n : Int} (hb : b < s.baths.length)
    (h : W.ownsRow B e 3 v ((xbL s rA rc).set b (⟨⟨n, n⟩, (gXb (xbL s rA rc) b).1.reads⟩, (gXb (xbL s rA rc) b).2)).length (((xbL s rA rc).set b (⟨⟨n, n⟩, (gXb (xbL s rA rc) b).1.reads⟩, (gXb (xbL s rA rc) b).2)).flatMap cB))
    (ho : SlAt W W.heap.size 2 Ao s.offs.length (fR s.offs)) (hr : ∀ k, k < s.baths.length → SlAt W W.heap.size 2 (rA k) (gBt s.baths k).reads.length (fRd (gBt s.baths k).reads)) :
    ∃ A c, v = .slice A s.baths.length c ∧ SeIn W W.heap.size (heatS s b n) Ao A rA rc := by
  obtain ⟨A, c, e, _, _, hrow⟩ := own_row (c := cB) (sz := 3) (fun _ => rfl) (cB_at _) h
  have hl : ((xbL s rA rc).set b (⟨⟨n, n⟩, (gXb (xbL s rA rc) b).1.reads⟩, (gXb (xbL s rA rc) b).2)).length = s.baths.length := by rw [List.length_set, xbL_len]
  rw [hl] at e hrow
  refine ⟨A, c, e, ho, ?_, fun k hk => ?_⟩
  · rw [heatS_len]
    refine (hrow.ext (fun k j hk hj => ?_)).sl
    unfold fB fBt
    have hx : gXb ((xbL s rA rc).set b (⟨⟨n, n⟩, (gXb (xbL s rA rc) b).1.reads⟩, (gXb (xbL s rA rc) b).2)) k = (gBt (heatS s b n).baths k, rA k, rc k) := by
      rw [heatS_at hb]
      by_cases e : k = b
      · subst e
        rw [if_pos rfl, ← show ((gXb (xbL s rA rc) k).1.reads) = (gBt s.baths k).reads from by rw [xbL_at hk], ← show (gXb (xbL s rA rc) k).2 = (rA k, rc k) from by rw [xbL_at hk]]
        have : k < (xbL s rA rc).length := by rw [xbL_len]; exact hk
        simp [gXb, this]
      · rw [if_neg e, ← xbL_at (rA := rA) (rc := rc) hk]
        have e' : ¬ b = k := fun h => e h.symm
        unfold gXb
        simp [List.getElem?_set, e']
    rw [hx]
    match j, hj with
    | 0, _ => rfl
    | 1, _ => rfl
    | 2, _ => rfl
  · rw [heatS_len] at hk
    rw [heatS_reads hb]; exact hr k hk
end Go.Proofs.Ytnplefhigbkbbaa
end

section
namespace Go.Proofs.Ytnplefhigbkbbaa
open Go.RowKit
attribute [local go_sem] Ex.cell? Ex.frozen?

theorem ends_congr {Z Y : Int → Prop} {a b : Int} (h : EndsOf Z a b) (e : ∀ z, Z z ↔ Y z) : EndsOf Y a b := ⟨(e _).1 h.1, (e _).1 h.2.1, fun z hz => h.2.2 z ((e z).2 hz)⟩
theorem off_ends {s : Se} {n : Nat} {a b : Int} (h : EndsOf (OffZ s n) a b) : EndsOf (OffHit s n) a b := ends_congr h (fun z => ⟨fun ⟨o, k, t, e⟩ => ⟨o, k, t, e.symm⟩, fun ⟨o, k, t, e⟩ => ⟨o, k, t, e.symm⟩⟩)
theorem heat_ends {s : Se} {n : Nat} {a b : Int} (h : EndsOf (HeatZ s n) a b) : EndsOf (HeatHit s n) a b := ends_congr h (fun z => ⟨fun ⟨o, k, t, e⟩ => ⟨o, k, t, e.symm⟩, fun ⟨o, k, t, e⟩ => ⟨o, k, t, e.symm⟩⟩)
theorem ends_bd {Z : Int → Prop} {lo hi a b : Int} (h : EndsOf Z lo hi) (hz : ∀ z, Z z → a ≤ z ∧ z ≤ b) : a ≤ lo ∧ lo ≤ b ∧ a ≤ hi ∧ hi ≤ b := ⟨(hz _ h.1).1, (hz _ h.1).2, (hz _ h.2.1).1, (hz _ h.2.1).2⟩
theorem endV_bd {lo hi a b : Int} (h : a ≤ lo ∧ lo ≤ b ∧ a ≤ hi ∧ hi ≤ b) {i : Nat} (hi4 : i < 4) : a - 1 ≤ endV lo hi i ∧ endV lo hi i ≤ b + 1 := by
  match i, hi4 with
  | 0, _ => show a - 1 ≤ lo ∧ lo ≤ b + 1; omega
  | 1, _ => show a - 1 ≤ hi ∧ hi ≤ b + 1; omega
  | 2, _ => show a - 1 ≤ lo - 1 ∧ lo - 1 ≤ b + 1; omega
  | 3, _ => show a - 1 ≤ hi + 1 ∧ hi + 1 ≤ b + 1; omega
theorem endV_cell {lo hi : Int} {i : Nat} (hi4 : i < 4) : (#[Value.int .i64 lo, .int .i64 hi, .int .i64 (lo - 1), .int .i64 (hi + 1)] : Array Value)[i]? = some (.int .i64 (endV lo hi i)) := by
  match i, hi4 with
  | 0, _ => rfl
  | 1, _ => rfl
  | 2, _ => rfl
  | 3, _ => rfl

set_option maxRecDepth 100000 in
set_option maxHeartbeats 25600000 in
theorem EndsLaw_any (s : Se) (Ao Ab : Option Addr) (co cb : Nat) (rA : Nat → Option Addr) (rc : Nat → Nat) (w : World) (hs : SeIn w w.heap.size s Ao Ab rA rc) (hol : s.offs.length ≤ maxLen) (hbl : s.baths.length ≤ maxLen) (Aw : Option Addr) (cw : Nat) (ws : List Int) (hws : SlAt w w.heap.size 1 Aw ws.length (fU ws)) (hwl : ws.length ≤ maxLen) (hwv : ∀ k, k < ws.length → 0 ≤ gI ws k ∧ gI ws k ≤ 65535) (wh : Int) (h8 : 0 ≤ wh ∧ wh ≤ 255) :
    Calls Try.prog 7 #[.agg #[.slice Ao s.offs.length co, .int .i64 s.err, .slice Ab s.baths.length cb], .slice Aw ws.length cw, .int .u8 wh] w fun e w' => e = .returned (.bool true) ∧ Below w.heap.size w w' := by
  have B_V := ex_alloc (Below.refl w.heap.size w) (.cells #[.slice Ao s.offs.length co, .int .i64 s.err, .slice Ab s.baths.length cb] 25)
  have q0 : Blk (w.alloc (.cells #[.slice Ao s.offs.length co, .int .i64 s.err, .slice Ab s.baths.length cb] 25)) w.heap.size 25 #[.slice Ao s.offs.length co, .int .i64 s.err, .slice Ab s.baths.length cb] := Blk.new _ _ _
  have hm : maxLen = 9223372036854775807 := rfl
  go_enter Try.func7, Try.ntmps7
  go_wp2_with fail
  generalize w.alloc (.cells #[.slice Ao s.offs.length co, .int .i64 s.err, .slice Ab s.baths.length cb] 25) = V at *
  have q0_0 : V.cell? ⟨w.heap.size, 0, none⟩ = some (.slice Ao s.offs.length co) := q0.cell 0
  have q0_1 : V.cell? ⟨w.heap.size, 1, none⟩ = some (.int .i64 s.err) := q0.cell 1
  have q0_2 : V.cell? ⟨w.heap.size, 2, none⟩ = some (.slice Ab s.baths.length cb) := q0.cell 2
  have q0_l := q0.lt
  refine (ready_law s Ao Ab co cb rA rc V ((hs.below B_V).up B_V.size) hol hbl).mono ?_
  rintro e W1 ⟨⟨x, rfl, hx⟩, hW1⟩
  replace q0 := q0.below hW1 q0.lt
  have B_W1 := ex_trans B_V hW1
  clear q0_0 q0_1 q0_2 q0_l
  have q0_0 : W1.cell? ⟨w.heap.size, 0, none⟩ = some (.slice Ao s.offs.length co) := q0.cell 0
  have q0_1 : W1.cell? ⟨w.heap.size, 1, none⟩ = some (.int .i64 s.err) := q0.cell 1
  have q0_2 : W1.cell? ⟨w.heap.size, 2, none⟩ = some (.slice Ab s.baths.length cb) := q0.cell 2
  have q0_l := q0.lt
  cases x
  · go_wp2_with fail
    refine (wakes_any _).mono ?_
    rintro e Wz ⟨rfl, hz⟩
    go_wp2
    go_ret
    exact ⟨rfl, ex_trans B_W1 hz⟩
  have HT := Lib.hid (hx.out rfl).1
  have HOK := Lib.hid (hx.out rfl).2
  clear hx
  have hno := HT.out.no
  have hnb := HT.out.nb
  go_wp2_with fail
  refine (Read_v s Ao Ab co cb rA rc W1 ((hs.below B_W1).up B_W1.size) HT.out HOK.out Aw cw ws ((hws.below B_W1).up B_W1.size) hwl hwv).mono ?_
  rintro e W2 ⟨⟨A1, c1, A2, c2, Abx, cbx, rAx, rcx, o, h, x, HRV, rfl, so, sh, hsx⟩, hW2⟩
  replace q0 := q0.below hW2 q0.lt
  have B_W2 := ex_trans B_W1 hW2
  clear q0_0 q0_1 q0_2 q0_l
  have q0_0 : W2.cell? ⟨w.heap.size, 0, none⟩ = some (.slice Ao s.offs.length co) := q0.cell 0
  have q0_1 : W2.cell? ⟨w.heap.size, 1, none⟩ = some (.int .i64 s.err) := q0.cell 1
  have q0_2 : W2.cell? ⟨w.heap.size, 2, none⟩ = some (.slice Ab s.baths.length cb) := q0.cell 2
  have q0_l := q0.lt
  have HTX : Hid (Thn x) := Lib.hid (HRV.out.thn HT.out)
  have HOX : Hid (SeOk x) := Lib.hid HRV.out.ok
  have HCX : Hid (Can x) := Lib.hid HRV.out.can
  have hnox := HTX.out.no
  have hnbx := HTX.out.nb
  go_wp2_with fail
  have HQ0 := q0.lt
  have N_W3 := ex_alloc (Below.refl W2.heap.size W2) (.cells #[.slice Ao x.offs.length co, .int .i64 x.err, .slice Abx x.baths.length cbx] 25)
  have qx : Blk (W2.alloc (.cells #[.slice Ao x.offs.length co, .int .i64 x.err, .slice Abx x.baths.length cbx] 25)) W2.heap.size 25 #[.slice Ao x.offs.length co, .int .i64 x.err, .slice Abx x.baths.length cbx] := Blk.new _ _ _
  replace q0 := q0.below N_W3 q0.lt
  replace so := (so.below N_W3).up N_W3.size
  replace sh := (sh.below N_W3).up N_W3.size
  replace hsx := hsx.go N_W3
  have B_W3 := ex_trans B_W2 N_W3
  clear N_W3
  generalize W2.alloc (.cells #[.slice Ao x.offs.length co, .int .i64 x.err, .slice Abx x.baths.length cbx] 25) = W3 at *
  obtain ⟨px, hpx⟩ : ∃ px, W2.heap.size = px := ⟨_, rfl⟩
  have hpx0 : w.heap.size < px := by have := B_W2.size; omega
  rw [hpx] at qx ⊢
  clear hpx HQ0
  clear q0_0 q0_1 q0_2 q0_l
  have q0_0 : W3.cell? ⟨w.heap.size, 0, none⟩ = some (.slice Ao s.offs.length co) := q0.cell 0
  have q0_1 : W3.cell? ⟨w.heap.size, 1, none⟩ = some (.int .i64 s.err) := q0.cell 1
  have q0_2 : W3.cell? ⟨w.heap.size, 2, none⟩ = some (.slice Ab s.baths.length cb) := q0.cell 2
  have q0_l := q0.lt
  have qx_0 : W3.cell? ⟨px, 0, none⟩ = some (.slice Ao x.offs.length co) := qx.cell 0
  have qx_1 : W3.cell? ⟨px, 1, none⟩ = some (.int .i64 x.err) := qx.cell 1
  have qx_2 : W3.cell? ⟨px, 2, none⟩ = some (.slice Abx x.baths.length cbx) := qx.cell 2
  have qx_l := qx.lt
  have hwh : 0 ≤ wh ∧ wh ≤ 255 := h8
  have hno1 := HOK.out.no.1
  go_wp2_with fail
  refine (Series_law x Ao Abx co cbx rAx rcx W3 hsx HTX.out).mono ?_
  rintro e W4 ⟨⟨Ao1, Ab1, co1, cb1, rA1, rc1, rfl, hs1⟩, hW4⟩
  replace q0 := q0.below hW4 q0.lt
  replace so := (so.below hW4).up hW4.size
  replace sh := (sh.below hW4).up hW4.size
  replace hsx := hsx.go hW4
  replace qx := qx.below hW4 qx.lt
  have B_W4 := ex_trans B_W3 hW4
  clear q0_0 q0_1 q0_2 q0_l qx_0 qx_1 qx_2 qx_l
  have q0_0 : W4.cell? ⟨w.heap.size, 0, none⟩ = some (.slice Ao s.offs.length co) := q0.cell 0
  have q0_1 : W4.cell? ⟨w.heap.size, 1, none⟩ = some (.int .i64 s.err) := q0.cell 1
  have q0_2 : W4.cell? ⟨w.heap.size, 2, none⟩ = some (.slice Ab s.baths.length cb) := q0.cell 2
  have q0_l := q0.lt
  have qx_0 : W4.cell? ⟨px, 0, none⟩ = some (.slice Ao x.offs.length co) := qx.cell 0
  have qx_1 : W4.cell? ⟨px, 1, none⟩ = some (.int .i64 x.err) := qx.cell 1
  have qx_2 : W4.cell? ⟨px, 2, none⟩ = some (.slice Abx x.baths.length cbx) := qx.cell 2
  have qx_l := qx.lt
  go_wp2_with fail
  refine (Offsets_any x Ao1 Ab1 co1 cb1 rA1 rc1 W4 hs1 HTX.out.sm).mono ?_
  rintro e W5 ⟨⟨Aa, ca, la, ea, rfl, ha, sa⟩, hW5⟩
  replace q0 := q0.below hW5 q0.lt
  replace so := (so.below hW5).up hW5.size
  replace sh := (sh.below hW5).up hW5.size
  replace hsx := hsx.go hW5
  replace qx := qx.below hW5 qx.lt
  replace hs1 := hs1.go hW5
  have B_W5 := ex_trans B_W4 hW5
  clear q0_0 q0_1 q0_2 q0_l qx_0 qx_1 qx_2 qx_l
  have q0_0 : W5.cell? ⟨w.heap.size, 0, none⟩ = some (.slice Ao s.offs.length co) := q0.cell 0
  have q0_1 : W5.cell? ⟨w.heap.size, 1, none⟩ = some (.int .i64 s.err) := q0.cell 1
  have q0_2 : W5.cell? ⟨w.heap.size, 2, none⟩ = some (.slice Ab s.baths.length cb) := q0.cell 2
  have q0_l := q0.lt
  have qx_0 : W5.cell? ⟨px, 0, none⟩ = some (.slice Ao x.offs.length co) := qx.cell 0
  have qx_1 : W5.cell? ⟨px, 1, none⟩ = some (.int .i64 x.err) := qx.cell 1
  have qx_2 : W5.cell? ⟨px, 2, none⟩ = some (.slice Abx x.baths.length cbx) := qx.cell 2
  have qx_l := qx.lt
  clear hs1
  obtain ⟨rfl, hla, hae⟩ := rng_can ha.out HOX.out HCX.out
  have hla2 : la.length = s.offs.length := by rw [hla, HRV.out.offs]
  have HAE : Hid (∀ n, n < s.offs.length → EndsOf (OffHit x n) (gR la n).lo (gR la n).hi) := Lib.hid (fun n hn => off_ends (hae n (by rw [HRV.out.offs]; exact hn)))
  rw [hla2] at sa ⊢
  clear hla hla2 hae ha
  go_wp2_with fail
  refine (Series_law x Ao Abx co cbx rAx rcx W5 hsx HTX.out).mono ?_
  rintro e W6 ⟨⟨Ao1, Ab1, co1, cb1, rA1, rc1, rfl, hs1⟩, hW6⟩
  replace q0 := q0.below hW6 q0.lt
  replace so := (so.below hW6).up hW6.size
  replace sh := (sh.below hW6).up hW6.size
  replace hsx := hsx.go hW6
  replace qx := qx.below hW6 qx.lt
  replace sa := (sa.below hW6).up hW6.size
  have B_W6 := ex_trans B_W5 hW6
  clear q0_0 q0_1 q0_2 q0_l qx_0 qx_1 qx_2 qx_l
  have q0_0 : W6.cell? ⟨w.heap.size, 0, none⟩ = some (.slice Ao s.offs.length co) := q0.cell 0
  have q0_1 : W6.cell? ⟨w.heap.size, 1, none⟩ = some (.int .i64 s.err) := q0.cell 1
  have q0_2 : W6.cell? ⟨w.heap.size, 2, none⟩ = some (.slice Ab s.baths.length cb) := q0.cell 2
  have q0_l := q0.lt
  have qx_0 : W6.cell? ⟨px, 0, none⟩ = some (.slice Ao x.offs.length co) := qx.cell 0
  have qx_1 : W6.cell? ⟨px, 1, none⟩ = some (.int .i64 x.err) := qx.cell 1
  have qx_2 : W6.cell? ⟨px, 2, none⟩ = some (.slice Abx x.baths.length cbx) := qx.cell 2
  have qx_l := qx.lt
  go_wp2_with fail
  refine (Heats_any x Ao1 Ab1 co1 cb1 rA1 rc1 W6 hs1 HTX.out.sm).mono ?_
  rintro e W7 ⟨⟨Ac, cc, lc, ec, rfl, hc, sc⟩, hW7⟩
  replace q0 := q0.below hW7 q0.lt
  replace so := (so.below hW7).up hW7.size
  replace sh := (sh.below hW7).up hW7.size
  replace hsx := hsx.go hW7
  replace qx := qx.below hW7 qx.lt
  replace sa := (sa.below hW7).up hW7.size
  replace hs1 := hs1.go hW7
  have B_W7 := ex_trans B_W6 hW7
  clear q0_0 q0_1 q0_2 q0_l qx_0 qx_1 qx_2 qx_l
  have q0_0 : W7.cell? ⟨w.heap.size, 0, none⟩ = some (.slice Ao s.offs.length co) := q0.cell 0
  have q0_1 : W7.cell? ⟨w.heap.size, 1, none⟩ = some (.int .i64 s.err) := q0.cell 1
  have q0_2 : W7.cell? ⟨w.heap.size, 2, none⟩ = some (.slice Ab s.baths.length cb) := q0.cell 2
  have q0_l := q0.lt
  have qx_0 : W7.cell? ⟨px, 0, none⟩ = some (.slice Ao x.offs.length co) := qx.cell 0
  have qx_1 : W7.cell? ⟨px, 1, none⟩ = some (.int .i64 x.err) := qx.cell 1
  have qx_2 : W7.cell? ⟨px, 2, none⟩ = some (.slice Abx x.baths.length cbx) := qx.cell 2
  have qx_l := qx.lt
  clear hs1
  obtain ⟨rfl, hlc, hce⟩ := rng_can hc.out HOX.out HCX.out
  have hlc2 : lc.length = s.baths.length := by rw [hlc, HRV.out.lb]
  have HCE : Hid (∀ n, n < s.baths.length → EndsOf (HeatHit x n) (gR lc n).lo (gR lc n).hi) := Lib.hid (fun n hn => heat_ends (hce n (by rw [HRV.out.lb]; exact hn)))
  rw [hlc2] at sc ⊢
  clear hlc hlc2 hce hc
  obtain ⟨n, en⟩ : ∃ n : Nat, wh.tmod (s.offs.length : Int) = (n : Int) := ⟨(wh.tmod (s.offs.length : Int)).toNat, by rw [Int.toNat_of_nonneg (Int.tmod_nonneg _ (by omega))]⟩
  have ln : n < s.offs.length := by have := Int.tmod_lt_of_pos wh (b := (s.offs.length : Int)) (by omega); omega
  have tn : IntKind.i64.wrap (wh.tmod (s.offs.length : Int)) = (n : Int) := by rw [en]; exact IntWalk.i64_in _ (by omega)
  have nz : ¬ (s.offs.length : Int) = 0 := by omega
  have nz2 : ((s.offs.length : Int) == 0) = false := by rw [beq_eq_false_iff_ne]; exact nz
  have lnx : n < x.offs.length := by rw [HRV.out.offs]; exact ln
  go_wp2_with fail
  clear en tn nz nz2
  clear q0_0 q0_1 q0_2 q0_l qx_0 qx_1 qx_2 qx_l
  refine wp_loop (fun a W => Rel (fun a W => ∃ i : Nat, i ≤ 4 ∧ Below W7.heap.size W7 W ∧ ∃ u : Nat → Value, a = ⟨List.toArray (u 0 :: u 1 :: .int .u8 wh :: u 3 :: u 4 :: u 5 :: .bool false :: u 7 :: u 8 :: .pointer (some ⟨px, 0, none⟩) :: .slice Aa s.offs.length ca :: u 11 :: .slice Ac s.baths.length cc :: u 13 :: .int .i64 (n : Int) :: .int .i64 (i : Int) :: u 16 :: u 17 :: u 18 :: u 19 :: u 20 :: u 21 :: u 22 :: u 23 :: u 24 :: u 25 :: u 26 :: u 27 :: u 28 :: u 29 :: u 30 :: u 31 :: u 32 :: u 33 :: u 34 :: u 35 :: u 36 :: u 37 :: u 38 :: u 39 :: u 40 :: u 41 :: u 42 :: u 43 :: u 44 :: u 45 :: u 46 :: u 47 :: u 48 :: u 49 :: u 50 :: u 51 :: u 52 :: u 53 :: u 54 :: u 55 :: u 56 :: u 57 :: u 58 :: u 59 :: u 60 :: u 61 :: u 62 :: u 63 :: u 64 :: u 65 :: u 66 :: u 67 :: u 68 :: u 69 :: u 70 :: u 71 :: u 72 :: u 73 :: u 74 :: u 75 :: u 76 :: u 77 :: u 78 :: u 79 :: u 80 :: u 81 :: u 82 :: u 83 :: u 84 :: u 85 :: u 86 :: u 87 :: u 88 :: u 89 :: u 90 :: u 91 :: u 92 :: u 93 :: u 94 :: u 95 :: u 96 :: u 97 :: u 98 :: u 99 :: u 100 :: u 101 :: u 102 :: u 103 :: u 104 :: u 105 :: u 106 :: u 107 :: u 108 :: u 109 :: u 110 :: u 111 :: u 112 :: u 113 :: u 114 :: u 115 :: u 116 :: u 117 :: u 118 :: u 119 :: u 120 :: u 121 :: u 122 :: u 123 :: u 124 :: u 125 :: u 126 :: u 127 :: u 128 :: u 129 :: u 130 :: u 131 :: u 132 :: u 133 :: u 134 :: u 135 :: u 136 :: u 137 :: u 138 :: u 139 :: u 140 :: u 141 :: u 142 :: u 143 :: u 144 :: u 145 :: u 146 :: u 147 :: u 148 :: u 149 :: u 150 :: u 151 :: u 152 :: u 153 :: u 154 :: u 155 :: u 156 :: u 157 :: u 158 :: u 159 :: u 160 :: u 161 :: u 162 :: u 163 :: u 164 :: u 165 :: u 166 :: u 167 :: u 168 :: u 169 :: u 170 :: u 171 :: u 172 :: u 173 :: u 174 :: u 175 :: u 176 :: u 177 :: u 178 :: u 179 :: u 180 :: u 181 :: u 182 :: u 183 :: u 184 :: u 185 :: u 186 :: u 187 :: u 188 :: u 189 :: u 190 :: u 191 :: u 192 :: u 193 :: u 194 :: u 195 :: u 196 :: u 197 :: u 198 :: u 199 :: u 200 :: u 201 :: u 202 :: u 203 :: []), []⟩) a W)
    (fun a _ => 4 - (intOf (a.tmps.getD 15 undef)).toNat) ⟨⟨0, by omega, Below.refl _ _, exFrame (by kernel_rfl)⟩⟩ ?_
  rintro a W ⟨⟨i, hi5, hbw, u, rfl⟩⟩
  have B_W := ex_trans B_W7 hbw
  have p1 := qx.below hbw qx.lt
  have p1_0 : W.cell? ⟨px, 0, none⟩ = some (.slice Ao x.offs.length co) := p1.cell 0
  have p1_1 : W.cell? ⟨px, 1, none⟩ = some (.int .i64 x.err) := p1.cell 1
  have p1_2 : W.cell? ⟨px, 2, none⟩ = some (.slice Abx x.baths.length cbx) := p1.cell 2
  have p1_l := p1.lt
  by_cases hlt : i < 4
  · obtain ⟨br, orr, rfl, hbr, r0, r1⟩ := IsRgs.at_ (sa.below hbw) ln
    have lbr : br < W.heap.size := by have := hbw.size; omega
    have he := HAE.out n ln
    obtain ⟨lo, hlo⟩ : ∃ lo, (gR la n).lo = lo := ⟨_, rfl⟩
    obtain ⟨hi, hhi⟩ : ∃ hi, (gR la n).hi = hi := ⟨_, rfl⟩
    rw [hlo] at r0 he
    rw [hhi] at r1 he
    clear hlo hhi
    have hbd := ends_bd he (fun z hz => by have h1 := off_in lnx hz; have h2 := HOX.out.offs n lnx; exact (⟨by omega, by omega⟩ : -100 ≤ z ∧ z ≤ 100))
    have hev := endV_bd hbd hlt
    have HIT := Lib.hid (ends_hit he hlt)
    clear he
    have k1 : IntKind.i64.wrap (lo - 1) = lo - 1 := IntWalk.i64_in _ (by omega)
    have k2 : IntKind.i64.wrap (hi + 1) = hi + 1 := IntWalk.i64_in _ (by omega)
    have hlt' : (i : Int) < 4 := by omega
    go_wp2_with fail
    refine wp_region_ext_mix 33 [(false, 0), (false, 1), (false, 2), (false, 3), (false, 4), (false, 5), (false, 6), (false, 7), (false, 8), (false, 9), (false, 10), (false, 11), (false, 12), (false, 13), (false, 14), (false, 15), (false, 16), (false, 17), (false, 18), (false, 19), (false, 20), (false, 21), (false, 22), (false, 23), (false, 25), (true, 24), (false, 26), (true, 27), (true, 28), (false, 29), (false, 30), (false, 31), (false, 32)] (by kernel_rfl) (by kernel_rfl) (by intro d _ _ _ _ h; cases d <;> exact h) ?_
    have X_D := (Below.refl W.heap.size W).drew
    repeat (refine mix_quiet rfl ?_; go_big_quiet_step (fail); refine wpQuiet_nil ?_)
    generalize W.drew = D at *
    refine mix_loud rfl ?_
    go_wp2_with fail
    have hZ1 := ex_alloc X_D (.cells #[.int .i64 lo, .int .i64 hi, .int .i64 (lo - 1), .int .i64 (hi + 1)] 3)
    have qz : Blk (D.alloc (.cells #[.int .i64 lo, .int .i64 hi, .int .i64 (lo - 1), .int .i64 (hi + 1)] 3)) D.heap.size 3 #[.int .i64 lo, .int .i64 hi, .int .i64 (lo - 1), .int .i64 (hi + 1)] := Blk.new _ _ _
    refine ⟨inEx hZ1, ?_⟩
    have hz4 := (qz.cell i).trans (endV_cell hlt)
    have lz := qz.lt
    obtain ⟨pz, hpz⟩ : ∃ pz, D.heap.size = pz := ⟨_, rfl⟩
    rw [hpz] at hz4 lz ⊢
    clear qz hpz
    generalize D.alloc (.cells #[.int .i64 lo, .int .i64 hi, .int .i64 (lo - 1), .int .i64 (hi + 1)] 3) = D1 at *
    repeat (refine mix_quiet rfl ?_; go_big_quiet_step (fail); refine wpQuiet_nil ?_)
    refine mix_loud rfl ?_
    go_wp2_with fail
    refine ⟨inEx hZ1, ?_⟩
    repeat (refine mix_quiet rfl ?_; go_big_quiet_step (fail); refine wpQuiet_nil ?_)
    refine mix_loud rfl ?_
    go_wp2_with fail
    refine (fixed_law x Ao Abx co cbx rAx rcx D1 (hsx.go (ex_trans hbw hZ1)) HTX.out HOX.out n lnx (endV lo hi i) ⟨by omega, by omega⟩).mono ?_
    rintro e D2 ⟨rfl, hD2⟩
    have X_D2 := ex_trans hZ1 hD2
    rw [truB_dec HIT.out]
    by_cases h2 : i < 2
    · have d1 : decide (i < 2) = true := decide_eq_true h2
      have d2 : decide ((i : Int) < 2) = true := decide_eq_true (by omega)
      go_wp2_with fail
      refine ⟨inEx X_D2, ?_⟩
      repeat (refine mix_quiet rfl ?_; go_big_quiet_step (fail); refine wpQuiet_nil ?_)
      refine mix_nil rfl ?_
      go_wp2_with fail
      refine ⟨⟨i + 1, by omega, ex_trans hbw X_D2, exFrame (by kernel_rfl)⟩, ?_⟩
      show 4 - (intOf (.int .i64 ((i : Int) + 1))).toNat < 4 - (intOf (.int .i64 (i : Int))).toNat
      simp [intOf]
      omega
    · have d1 : decide (i < 2) = false := decide_eq_false h2
      have d2 : decide ((i : Int) < 2) = false := decide_eq_false (by omega)
      go_wp2_with fail
      refine ⟨inEx X_D2, ?_⟩
      repeat (refine mix_quiet rfl ?_; go_big_quiet_step (fail); refine wpQuiet_nil ?_)
      refine mix_nil rfl ?_
      go_wp2_with fail
      refine ⟨⟨i + 1, by omega, ex_trans hbw X_D2, exFrame (by kernel_rfl)⟩, ?_⟩
      show 4 - (intOf (.int .i64 ((i : Int) + 1))).toNat < 4 - (intOf (.int .i64 (i : Int))).toNat
      simp [intOf]
      omega
  clear hi5
  by_cases hb0 : s.baths.length = 0
  · have e0 : ((s.baths.length : Int) == 0) = true := by rw [hb0]; rfl
    have hlt' : ¬ (i : Int) < 4 := by omega
    go_wp2_with fail
    refine (wakes_any _).mono ?_
    rintro e Wz ⟨rfl, hz⟩
    go_wp2
    go_ret
    exact ⟨rfl, ex_trans B_W hz⟩
  have e0 : ((s.baths.length : Int) == 0) = false := by rw [beq_eq_false_iff_ne]; omega
  have e1 : ¬ (s.baths.length : Int) = 0 := by omega
  have hlt' : ¬ (i : Int) < 4 := by omega
  obtain ⟨m, em⟩ : ∃ n : Nat, wh.tmod (s.baths.length : Int) = (n : Int) := ⟨(wh.tmod (s.baths.length : Int)).toNat, by rw [Int.toNat_of_nonneg (Int.tmod_nonneg _ (by omega))]⟩
  have lm : m < s.baths.length := by have := Int.tmod_lt_of_pos wh (b := (s.baths.length : Int)) (by omega); omega
  have tm : IntKind.i64.wrap (wh.tmod (s.baths.length : Int)) = (m : Int) := by rw [em]; exact IntWalk.i64_in _ (by omega)
  have lmx : m < x.baths.length := by rw [HRV.out.lb]; exact lm
  go_wp2_with fail
  clear p1_0 p1_1 p1_2 p1_l
  clear e0 e1 em tm hlt hlt' hb0 p1
  refine wp_loop (fun a W => Rel (fun a W => ∃ i : Nat, i ≤ 4 ∧ Below W7.heap.size W7 W ∧ ∃ u : Nat → Value, a = ⟨List.toArray (u 0 :: u 1 :: u 2 :: u 3 :: u 4 :: u 5 :: .bool false :: u 7 :: u 8 :: .pointer (some ⟨px, 0, none⟩) :: u 10 :: u 11 :: .slice Ac s.baths.length cc :: u 13 :: u 14 :: u 15 :: u 16 :: u 17 :: .int .i64 (m : Int) :: .int .i64 (i : Int) :: u 20 :: u 21 :: u 22 :: u 23 :: u 24 :: u 25 :: u 26 :: u 27 :: u 28 :: u 29 :: u 30 :: u 31 :: u 32 :: u 33 :: u 34 :: u 35 :: u 36 :: u 37 :: u 38 :: u 39 :: u 40 :: u 41 :: u 42 :: u 43 :: u 44 :: u 45 :: u 46 :: u 47 :: u 48 :: u 49 :: u 50 :: u 51 :: u 52 :: u 53 :: u 54 :: u 55 :: u 56 :: u 57 :: u 58 :: u 59 :: u 60 :: u 61 :: u 62 :: u 63 :: u 64 :: u 65 :: u 66 :: u 67 :: u 68 :: u 69 :: u 70 :: u 71 :: u 72 :: u 73 :: u 74 :: u 75 :: u 76 :: u 77 :: u 78 :: u 79 :: u 80 :: u 81 :: u 82 :: u 83 :: u 84 :: u 85 :: u 86 :: u 87 :: u 88 :: u 89 :: u 90 :: u 91 :: u 92 :: u 93 :: u 94 :: u 95 :: u 96 :: u 97 :: u 98 :: u 99 :: u 100 :: u 101 :: u 102 :: u 103 :: u 104 :: u 105 :: u 106 :: u 107 :: u 108 :: u 109 :: u 110 :: u 111 :: u 112 :: u 113 :: u 114 :: u 115 :: u 116 :: u 117 :: u 118 :: u 119 :: u 120 :: u 121 :: u 122 :: u 123 :: u 124 :: u 125 :: u 126 :: u 127 :: u 128 :: u 129 :: u 130 :: u 131 :: u 132 :: u 133 :: u 134 :: u 135 :: u 136 :: u 137 :: u 138 :: u 139 :: u 140 :: u 141 :: u 142 :: u 143 :: u 144 :: u 145 :: u 146 :: u 147 :: u 148 :: u 149 :: u 150 :: u 151 :: u 152 :: u 153 :: u 154 :: u 155 :: u 156 :: u 157 :: u 158 :: u 159 :: u 160 :: u 161 :: u 162 :: u 163 :: u 164 :: u 165 :: u 166 :: u 167 :: u 168 :: u 169 :: u 170 :: u 171 :: u 172 :: u 173 :: u 174 :: u 175 :: u 176 :: u 177 :: u 178 :: u 179 :: u 180 :: u 181 :: u 182 :: u 183 :: u 184 :: u 185 :: u 186 :: u 187 :: u 188 :: u 189 :: u 190 :: u 191 :: u 192 :: u 193 :: u 194 :: u 195 :: u 196 :: u 197 :: u 198 :: u 199 :: u 200 :: u 201 :: u 202 :: u 203 :: []), []⟩) a W)
    (fun a _ => 4 - (intOf (a.tmps.getD 19 undef)).toNat) ⟨⟨0, by omega, hbw, exFrame (by kernel_rfl)⟩⟩ ?_
  clear hbw B_W
  rintro a W ⟨⟨i, hi5, hbw, u, rfl⟩⟩
  have B_W := ex_trans B_W7 hbw
  have p1 := qx.below hbw qx.lt
  have p1_0 : W.cell? ⟨px, 0, none⟩ = some (.slice Ao x.offs.length co) := p1.cell 0
  have p1_1 : W.cell? ⟨px, 1, none⟩ = some (.int .i64 x.err) := p1.cell 1
  have p1_2 : W.cell? ⟨px, 2, none⟩ = some (.slice Abx x.baths.length cbx) := p1.cell 2
  have p1_l := p1.lt
  by_cases hlt : i < 4
  rotate_left
  · have hlt' : ¬ (i : Int) < 4 := by omega
    go_wp2_with fail
    refine (wakes_any _).mono ?_
    rintro e Wz ⟨rfl, hz⟩
    go_wp2
    go_ret
    exact ⟨rfl, ex_trans B_W hz⟩
  obtain ⟨br, orr, rfl, hbr, r0, r1⟩ := IsRgs.at_ (sc.below hbw) lm
  have lbr : br < W.heap.size := by have := hbw.size; omega
  have he := HCE.out m lm
  obtain ⟨lo, hlo⟩ : ∃ lo, (gR lc m).lo = lo := ⟨_, rfl⟩
  obtain ⟨hi, hhi⟩ : ∃ hi, (gR lc m).hi = hi := ⟨_, rfl⟩
  rw [hlo] at r0 he
  rw [hhi] at r1 he
  clear hlo hhi
  have hbd := ends_bd he (fun z hz => by have h1 := heat_in lmx hz; have h2 := HOX.out.heats m lmx; exact (⟨by omega, by omega⟩ : 0 ≤ z ∧ z ≤ 1000))
  have hev := endV_bd hbd hlt
  have HIT := Lib.hid (ends_hit he hlt)
  clear he
  have k1 : IntKind.i64.wrap (lo - 1) = lo - 1 := IntWalk.i64_in _ (by omega)
  have k2 : IntKind.i64.wrap (hi + 1) = hi + 1 := IntWalk.i64_in _ (by omega)
  have hlt' : (i : Int) < 4 := by omega
  go_wp2_with fail
  refine wp_region_ext_mix 26 [(false, 0), (false, 1), (false, 2), (false, 3), (false, 4), (false, 5), (false, 6), (false, 7), (false, 8), (false, 9), (false, 10), (false, 11), (false, 12), (false, 13), (false, 14), (false, 15), (false, 16), (false, 17), (false, 18), (false, 19), (false, 20), (false, 21), (false, 23), (true, 22), (false, 24), (true, 25)] (by kernel_rfl) (by kernel_rfl) (by intro d _ _ _ _ h; cases d <;> exact h) ?_
  have X_D := (Below.refl W.heap.size W).drew
  repeat (refine mix_quiet rfl ?_; go_big_quiet_step (fail); refine wpQuiet_nil ?_)
  generalize W.drew = D at *
  refine mix_loud rfl ?_
  go_wp2_with fail
  have hZ1 := ex_alloc X_D (.cells #[.int .i64 lo, .int .i64 hi, .int .i64 (lo - 1), .int .i64 (hi + 1)] 3)
  have qz : Blk (D.alloc (.cells #[.int .i64 lo, .int .i64 hi, .int .i64 (lo - 1), .int .i64 (hi + 1)] 3)) D.heap.size 3 #[.int .i64 lo, .int .i64 hi, .int .i64 (lo - 1), .int .i64 (hi + 1)] := Blk.new _ _ _
  refine ⟨inEx hZ1, ?_⟩
  have hz4 := (qz.cell i).trans (endV_cell hlt)
  have lz := qz.lt
  obtain ⟨pz, hpz⟩ : ∃ pz, D.heap.size = pz := ⟨_, rfl⟩
  rw [hpz] at hz4 lz ⊢
  clear qz hpz
  generalize D.alloc (.cells #[.int .i64 lo, .int .i64 hi, .int .i64 (lo - 1), .int .i64 (hi + 1)] 3) = D1 at *
  repeat (refine mix_quiet rfl ?_; go_big_quiet_step (fail); refine wpQuiet_nil ?_)
  refine mix_loud rfl ?_
  go_wp2_with fail
  refine ⟨inEx hZ1, ?_⟩
  repeat (refine mix_quiet rfl ?_; go_big_quiet_step (fail); refine wpQuiet_nil ?_)
  refine mix_nil rfl ?_
  clear p1_0 p1_1 p1_2 p1_l
  have BZ := ex_trans hbw hZ1
  have B_D1 := ex_trans B_W hZ1
  have m1 := p1.below hZ1 p1.lt
  clear p1 r0 r1 hz4
  obtain ⟨bb, ob, rfl, hbb, g0, g1, g2⟩ := IsBts.at_ (hsx.baths.below BZ) lmx
  have lbb : bb < D1.heap.size := by have := BZ.size; omega
  clear g2
  obtain ⟨v, hv⟩ : ∃ v, endV lo hi i = v := ⟨_, rfl⟩
  rw [hv] at HIT hev ⊢
  obtain ⟨l', hl'⟩ : ∃ l', (gBt x.baths m).heat.lo = l' := ⟨_, rfl⟩
  obtain ⟨h', hh'⟩ : ∃ h', (gBt x.baths m).heat.hi = h' := ⟨_, rfl⟩
  have HON : Hid (onB v l' h' = true ↔ (gBt x.baths m).heat.lo ≤ v ∧ v ≤ (gBt x.baths m).heat.hi) := Lib.hid (by rw [hl', hh']; exact decide_eq_true_iff)
  rw [hl'] at g0
  rw [hh'] at g1
  clear hl' hh' hv
  have m1_0 : D1.cell? ⟨px, 0, none⟩ = some (.slice Ao x.offs.length co) := m1.cell 0
  have m1_1 : D1.cell? ⟨px, 1, none⟩ = some (.int .i64 x.err) := m1.cell 1
  have m1_2 : D1.cell? ⟨px, 2, none⟩ = some (.slice (some ⟨bb, ob, none⟩) x.baths.length cbx) := m1.cell 2
  have m1_l := m1.lt
  go_wp2_with fail
  refine (to_law l' h' D1).mono ?_
  rintro e D3 ⟨rfl, hD3⟩
  have X_D3 := ex_trans hZ1 hD3
  go_wp2_with fail
  refine (on_law v l' h' D3).mono ?_
  rintro e D4 ⟨rfl, hD4⟩
  have X_D4 := ex_trans X_D3 hD4
  have BV := ex_trans hbw X_D4
  have B_D4 := ex_trans B_W X_D4
  clear m1_0 m1_1 m1_2 m1_l
  clear g0 g1 lbb
  have o1 := m1.below (ex_trans hD3 hD4) m1.lt
  have o1_0 : D4.cell? ⟨px, 0, none⟩ = some (.slice Ao x.offs.length co) := o1.cell 0
  have o1_1 : D4.cell? ⟨px, 1, none⟩ = some (.int .i64 x.err) := o1.cell 1
  have o1_2 : D4.cell? ⟨px, 2, none⟩ = some (.slice (some ⟨bb, ob, none⟩) x.baths.length cbx) := o1.cell 2
  have o1_l := o1.lt
  by_cases hon : onB v l' h' = true
  rotate_left
  · have h2 : ¬ i < 2 := fun h => hon (HON.out.2 (heat_in lmx (HIT.out.2 h)))
    have hon' : onB v l' h' = false := by rw [← Bool.not_eq_true]; exact hon
    have d2 : decide ((i : Int) < 2) = false := decide_eq_false (by omega)
    have d3 : ¬ (i : Int) < 2 := by omega
    rw [hon']
    clear hon hon'
    go_wp2_with fail
    refine ⟨⟨i + 1, by omega, BV, exFrame (by kernel_rfl)⟩, ?_⟩
    show 4 - (intOf (.int .i64 ((i : Int) + 1))).toNat < 4 - (intOf (.int .i64 (i : Int))).toNat
    simp [intOf]
    omega
  have HIN := Lib.hid (HON.out.1 hon)
  rw [hon]
  clear hon HON
  have HC := Lib.hid (heatS_can lmx HIN.out)
  have HOY := Lib.hid (heatS_ok HOX.out lmx HIN.out)
  have HTY := Lib.hid (heatS_thn (n := v) HTX.out lmx)
  obtain ⟨i2, hi2, hu0, hu1, hu2⟩ := info_parts rbath_info
  have HK := Lib.hid hi2
  clear hi2
  have hE := ex_alloc (ex_alloc (Below.refl D4.heap.size D4) (.cells #[.slice Ao x.offs.length co, .int .i64 x.err, .slice (some ⟨bb, ob, none⟩) x.baths.length cbx] 25)) (.cells #[] 82)
  have qy : Blk ((D4.alloc (.cells #[.slice Ao x.offs.length co, .int .i64 x.err, .slice (some ⟨bb, ob, none⟩) x.baths.length cbx] 25)).alloc (.cells #[] 82)) D4.heap.size 25 #[.slice Ao x.offs.length co, .int .i64 x.err, .slice (some ⟨bb, ob, none⟩) x.baths.length cbx] := (Blk.new _ _ _).alloc _
  have qe : Blk ((D4.alloc (.cells #[.slice Ao x.offs.length co, .int .i64 x.err, .slice (some ⟨bb, ob, none⟩) x.baths.length cbx] 25)).alloc (.cells #[] 82)) (D4.heap.size + 1) 82 #[] := Blk.new' _ _ _ (by simp)
  have z2 := o1.below hE o1.lt
  have z2c : ((D4.alloc (.cells #[.slice Ao x.offs.length co, .int .i64 x.err, .slice (some ⟨bb, ob, none⟩) x.baths.length cbx] 25)).alloc (.cells #[] 82)).cell? ⟨px, 2, none⟩ = some (.slice (some ⟨bb, ob, none⟩) x.baths.length cbx) := z2.cell 2
  have z2l := z2.lt
  go_wp2_with (refine pause_at 173 rfl ?_)
  refine Paused.mk ?_
  clear z2c z2l z2
  clear o1_0 o1_1 o1_2 o1_l
  have hxl : (xbL x rAx rcx).length = x.baths.length := xbL_len
  have hsl := xbL_sl (rc := rcx) (rA := rAx) ((hsx.baths.below (ex_trans BV hE)).up (ex_trans BV hE).size)
  refine wpList_append_list (α := Xb) (f := cB) (F := fB) (sz := 3) (fun _ => rfl) cB_at cB_one rfl _ _ _ rfl (D4.heap.size + 1) 82 i2 _ 40 Try.underlying23 HK.out hu0 hu1 hu2 rfl (by omega) (some ⟨D4.heap.size + 1, 0, none⟩) 0 [] rfl (own_empty qe (Nat.le_refl _)) (some ⟨bb, ob, none⟩) cbx (xbL x rAx rcx) (by rw [hxl]; rfl) hsl (by rw [hxl]; simp; unfold maxLen; omega) (by rw [hxl]; simp; omega) (by simp) (D4.heap.size + 1 + 1) (by simp) ?_
  intro L B k9 v1 HL ow gr1 n1
  have hL : L = xbL x rAx rcx := HL.out
  clear HL
  subst hL
  have hqb : ∀ j, (Value.slice (some ⟨D4.heap.size + 1, 0, none⟩) 0 0).ownBlock = some j → D4.heap.size + 1 = j := fun j hj => by simpa [Value.ownBlock] using hj
  have E1 : Below D4.heap.size D4 v1 := hE.grown gr1 hE.size (fun j hj => by have := hqb j hj; omega)
  have qy1 := qy.grown gr1 (fun e => by have := hqb _ e.symm; omega)
  obtain ⟨g, c9, hv9, hg, hgl, c0, c1, hf⟩ := bts_cell ow (k := m) (by rw [hxl]; exact lmx)
  injection hv9 with hv91 hv9l hv92
  clear hv9l
  subst hv91 hv92
  have ow2 := own_far ow (p := ⟨D4.heap.size, 2, none⟩) (by show D4.heap.size < D4.heap.size + 1; omega) (.slice (some ⟨g, 0, none⟩) x.baths.length k9)
  have qy2 := qy1.set_ 2 (.slice (some ⟨g, 0, none⟩) x.baths.length k9)
  simp only [List.setIfInBounds_toArray, List.set_cons_zero, List.set_cons_succ] at qy2
  have E2 := ex_set E1 (p := ⟨D4.heap.size, 2, none⟩) (Nat.le_refl _) (.slice (some ⟨g, 0, none⟩) x.baths.length k9)
  have hg3 : g ≠ D4.heap.size := by omega
  have d0 := (cell_far (w := v1) (p := ⟨D4.heap.size, 2, none⟩) (v := .slice (some ⟨g, 0, none⟩) x.baths.length k9) (b := g) (o := m * 3) hg3).trans c0
  have d1 := (cell_far (w := v1) (p := ⟨D4.heap.size, 2, none⟩) (v := .slice (some ⟨g, 0, none⟩) x.baths.length k9) (b := g) (o := m * 3 + 1) hg3).trans c1
  have df : ∀ j, (v1.setCell ⟨D4.heap.size, 2, none⟩ (.slice (some ⟨g, 0, none⟩) x.baths.length k9)).frozen? ⟨g, j, none⟩ = false := fun j => by
    obtain ⟨_, _, e1, _, _, _, _, hf⟩ := bts_cell (k := m) (l := xbL x rAx rcx) ow2 (by rw [hxl]; exact lmx)
    injection e1 with e1
    injection e1 with e1
    injection e1 with e1
    subst e1
    exact hf j
  have y2 : v1.cell? ⟨D4.heap.size, 2, none⟩ = some (.slice (some ⟨bb, ob, none⟩) x.baths.length cbx) := qy1.cell 2
  have yl := qy1.lt
  have yf := qy1.frozen0
  rw [hxl] at ow2 ⊢
  go_wp2_with (refine pause_at 175 rfl ?_)
  refine Paused.mk ?_
  clear y2 yl yf c0 c1 hf ow gr1 n1 hqb qe qy qy1 hE
  have hgl2 : g < (v1.setCell ⟨D4.heap.size, 2, none⟩ (.slice (some ⟨g, 0, none⟩) x.baths.length k9)).heap.size := by simp; exact hgl
  clear hgl
  generalize v1.setCell ⟨D4.heap.size, 2, none⟩ (.slice (some ⟨g, 0, none⟩) x.baths.length k9) = V2 at *
  rw [← hxl] at ow2
  have ow3 := bts_set ow2 (show (Value.slice (some ⟨g, 0, none⟩) (xbL x rAx rcx).length k9).ownBlock = some g from rfl) (k := m) (by rw [hxl]; exact lmx) v
  have hg0 : D4.heap.size ≤ g := by omega
  have hg4 : D4.heap.size ≠ g := by omega
  have qy3 := (qy2.far (p := ⟨g, m * 3, none⟩) hg4 (.int .i64 v)).far (p := ⟨g, m * 3 + 1, none⟩) hg4 (.int .i64 v)
  have E3 := ex_set (ex_set E2 (p := ⟨g, m * 3, none⟩) hg0 (.int .i64 v)) (p := ⟨g, m * 3 + 1, none⟩) hg0 (.int .i64 v)
  have E4 := ex_trans BV E3
  obtain ⟨A9, c9', hv9, hsy⟩ := heatS_in lmx ow3 ((hsx.offs.below E4).up E4.size) (fun b hb => ((hsx.reads b hb).below E4).up E4.size)
  rw [hxl] at hv9
  injection hv9 with hv91 hv9l hv92
  clear hv9l
  subst hv91 hv92
  have y2 : V2.cell? ⟨D4.heap.size, 2, none⟩ = some (.slice (some ⟨g, 0, none⟩) x.baths.length k9) := qy2.cell 2
  have yl := qy2.lt
  clear ow2 ow3 E2
  go_wp2_with (refine pause_at 184 rfl ?_)
  refine Paused.mk ?_
  clear y2 yl d0 d1 df hgl2
  generalize (V2.setCell ⟨g, m * 3, none⟩ (.int .i64 v)).setCell ⟨g, m * 3 + 1, none⟩ (.int .i64 v) = V3 at *
  have B_V3 := ex_trans B_D4 E3
  have y0 : V3.cell? ⟨D4.heap.size, 0, none⟩ = some (.slice Ao x.offs.length co) := qy3.cell 0
  have y1 : V3.cell? ⟨D4.heap.size, 1, none⟩ = some (.int .i64 x.err) := qy3.cell 1
  have y2 : V3.cell? ⟨D4.heap.size, 2, none⟩ = some (.slice (some ⟨g, 0, none⟩) x.baths.length k9) := qy3.cell 2
  have yl := qy3.lt
  go_wp2_with fail
  have hcx := Series_law (heatS x m v) Ao (some ⟨g, 0, none⟩) co k9 rAx rcx V3 hsy HTY.out
  rw [show (heatS x m v).baths.length = x.baths.length from heatS_len, show (heatS x m v).offs.length = x.offs.length from rfl, show (heatS x m v).err = x.err from rfl] at hcx
  refine hcx.mono ?_
  clear hcx
  rintro e V4 ⟨⟨Ao1, Ab1, co1, cb1, rA1, rc1, rfl, hs1⟩, hV4⟩
  have E5 := ex_trans E4 hV4
  clear y0 y1 y2 yl qy2 qy3
  go_wp2_with fail
  have hcx := Heats_any (heatS x m v) Ao1 Ab1 co1 cb1 rA1 rc1 V4 hs1 HTY.out.sm
  rw [show (heatS x m v).baths.length = x.baths.length from heatS_len, show (heatS x m v).offs.length = x.offs.length from rfl, show (heatS x m v).err = x.err from rfl] at hcx
  refine hcx.mono ?_
  clear hcx
  rintro e V5 ⟨⟨Ax, cx, l5, ev5, rfl, hr, _⟩, hV5⟩
  have E6 := ex_trans E5 hV5
  rcases rng_ok hr.out HOY.out with ⟨hc, rfl, _⟩ | ⟨hc, rfl, _⟩
  · have h2 : ¬ i < 2 := fun h => hc (HC.out.2 (HIT.out.2 h))
    have d2 : decide ((i : Int) < 2) = false := decide_eq_false (by omega)
    have d3 : decide ((2 : Int) ≤ (i : Int)) = true := decide_eq_true (by omega)
    clear hr hc
    go_wp2_with fail
    refine ⟨⟨i + 1, by omega, E6, exFrame (by kernel_rfl)⟩, ?_⟩
    show 4 - (intOf (.int .i64 ((i : Int) + 1))).toNat < 4 - (intOf (.int .i64 (i : Int))).toNat
    simp [intOf]
    omega
  · have h2 : i < 2 := HIT.out.1 (HC.out.1 hc)
    have d2 : decide ((i : Int) < 2) = true := decide_eq_true (by omega)
    have d3 : decide ((2 : Int) ≤ (i : Int)) = false := decide_eq_false (by omega)
    clear hr hc
    go_wp2_with fail
    refine ⟨⟨i + 1, by omega, E6, exFrame (by kernel_rfl)⟩, ?_⟩
    show 4 - (intOf (.int .i64 ((i : Int) + 1))).toNat < 4 - (intOf (.int .i64 (i : Int))).toNat
    simp [intOf]
    omega
end Go.Proofs.Ytnplefhigbkbbaa
end

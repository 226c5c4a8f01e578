/- Glass: the example's glass, history and ices (walks). · Glass: what the chapter's example comes to (plain). · Glass: ints (walk). · Glass: awake (walk): the chapter's example. -/
import Derived.Test.YtlgmeofpkfliaaaGe
import Derived.Test.YtlgmeofpkfliaaaGd
import Derived.Test.YtlgmeofpkfliaaaGc
set_option linter.unusedVariables false
set_option linter.unusedSimpArgs false
set_option linter.unusedSectionVars false
section
namespace Go.Proofs.Ytlgmeofpkfliaaa
open Go.RowKit
attribute [local go_sem] Ex.cell? Ex.frozen?

def tubeG : Gl := ⟨0, [⟨0, 1, 2⟩, ⟨3, 0, 1⟩], [⟨100, 10⟩, ⟨300, 25⟩], 2, 4⟩
def springH : List Rg := [⟨0, 0⟩, ⟨150, 150⟩, ⟨0, 20⟩, ⟨0, 350⟩]
def threeC : List Ic := [⟨1, -6, 0⟩, ⟨3, 4, 0⟩, ⟨2, -3, 0⟩]

theorem Fr.andSet {R : Nat → Prop} {a w : World} (h : Fr R a w) {b i : Nat} {v : Value} (hb : R b) : Fr R a (w.setCell ⟨b, i, none⟩ v) := h.trans (Fr.set w b i v hb) (fun _ _ h => h)

theorem between_any (a b : Int) (w : World) : Calls Try.prog 54 #[.int .i64 a, .int .i64 b] w fun e w' => e = .returned (.agg #[.int .i64 a, .int .i64 b]) ∧ Below w.heap.size w w' := by
  go_enter Try.func54, Try.ntmps54
  go_wp2
  exact bodyPost_ret (v := .agg #[.int .i64 a, .int .i64 b]) (by simp [results, Try.results54, go_sem]) rfl ⟨rfl, ex_alloc (Below.refl _ _) _⟩

set_option maxHeartbeats 1600000 in
theorem three_any (w : World) : Calls Try.prog 53 #[] w fun e w' => ∃ A, e = .returned (.slice A 3 3) ∧ SlAt w' w'.heap.size 3 A threeC.length (fC threeC) ∧ Below w.heap.size w w' := by
  go_enter Try.func53, Try.ntmps53
  go_wp2
  go_ret
  refine ⟨_, rfl, fun _ => ⟨w.heap.size, 0, rfl, by simp, fun k j hk hj => ?_⟩, ex_alloc (Below.refl _ _) _⟩
  rw [cell_of_row _ _ _ _ _ _ (heap_alloc_new w _)]
  have hk' : k < 3 := hk
  match k, hk', j, hj with
  | 0, _, 0, _ => rfl
  | 0, _, 1, _ => rfl
  | 0, _, 2, _ => rfl
  | 1, _, 0, _ => rfl
  | 1, _, 1, _ => rfl
  | 1, _, 2, _ => rfl
  | 2, _, 0, _ => rfl
  | 2, _, 1, _ => rfl
  | 2, _, 2, _ => rfl

set_option maxHeartbeats 1600000 in
theorem spring_any (w : World) : Calls Try.prog 52 #[] w fun e w' => ∃ A, e = .returned (.slice A 4 4) ∧ SlAt w' w'.heap.size 2 A springH.length (fR springH) ∧ Below w.heap.size w w' := by
  go_enter Try.func52, Try.ntmps52
  go_wp2_with fail
  refine (between_any _ _ _).mono ?_
  rintro e w1 ⟨rfl, hb1⟩
  go_wp2_with fail
  refine (between_any _ _ _).mono ?_
  rintro e w2 ⟨rfl, hb2⟩
  go_wp2_with fail
  refine (between_any _ _ _).mono ?_
  rintro e w3 ⟨rfl, hb3⟩
  go_wp2_with fail
  refine (between_any _ _ _).mono ?_
  rintro e w4 ⟨rfl, hb4⟩
  go_wp2
  go_ret
  refine ⟨_, rfl, fun _ => ⟨w4.heap.size, 0, rfl, by simp, fun k j hk hj => ?_⟩, ex_alloc (ex_trans (ex_trans (ex_trans hb1 hb2) hb3) hb4) _⟩
  rw [cell_of_row _ _ _ _ _ _ (heap_alloc_new w4 _)]
  have hk' : k < 4 := hk
  match k, hk', j, hj with
  | 0, _, 0, _ => rfl
  | 0, _, 1, _ => rfl
  | 1, _, 0, _ => rfl
  | 1, _, 1, _ => rfl
  | 2, _, 0, _ => rfl
  | 2, _, 1, _ => rfl
  | 3, _, 0, _ => rfl
  | 3, _, 1, _ => rfl

set_option maxRecDepth 100000 in
set_option maxHeartbeats 3200000 in
theorem tube_any (w : World) : Calls Try.prog 51 #[] w fun e w' => ∃ Ab Ad, e = .returned (.agg #[.int .i64 0, .slice Ab 2 2, .slice Ad 2 2, .int .i64 2, .int .i64 4]) ∧ GlIn w' w'.heap.size tubeG Ab Ad ∧ Below w.heap.size w w' := by
  go_enter Try.func51, Try.ntmps51
  go_wp2_with fail
  refine (between_any _ _ _).mono ?_
  rintro e w1 ⟨rfl, hb1⟩
  go_wp2_with fail
  refine (between_any _ _ _).mono ?_
  rintro e w2 ⟨rfl, hb2⟩
  have q0 : Blk (w.alloc (.cells #[.int .i64 0, .slice none 0 0, .slice none 0 0, .int .i64 0, .int .i64 0] 39)) w.heap.size 39 #[.int .i64 0, .slice none 0 0, .slice none 0 0, .int .i64 0, .int .i64 0] := Blk.new _ _ _
  have q2 := ((q0.below hb1 q0.lt).below hb2 (q0.below hb1 q0.lt).lt)
  have qb : Blk ((w2.alloc (.cells #[.int .i64 0, .int .i64 1, .int .i64 2, .int .i64 3, .int .i64 0, .int .i64 1] 97)).alloc (.cells #[.int .i64 100, .int .i64 10, .int .i64 300, .int .i64 25] 99)) w2.heap.size 97 #[.int .i64 0, .int .i64 1, .int .i64 2, .int .i64 3, .int .i64 0, .int .i64 1] := (Blk.new _ _ _).alloc _
  have qd : Blk ((w2.alloc (.cells #[.int .i64 0, .int .i64 1, .int .i64 2, .int .i64 3, .int .i64 0, .int .i64 1] 97)).alloc (.cells #[.int .i64 100, .int .i64 10, .int .i64 300, .int .i64 25] 99)) (w2.heap.size + 1) 99 #[.int .i64 100, .int .i64 10, .int .i64 300, .int .i64 25] := Blk.new' _ _ _ (by simp)
  have q3 := (q2.alloc (.cells #[.int .i64 0, .int .i64 1, .int .i64 2, .int .i64 3, .int .i64 0, .int .i64 1] 97)).alloc (.cells #[.int .i64 100, .int .i64 10, .int .i64 300, .int .i64 25] 99)
  go_wp2_with fail
  refine (between_any _ _ _).mono ?_
  rintro e w3 ⟨rfl, hb3⟩
  have r0 := q3.below hb3 q3.lt
  have rb := qb.below hb3 qb.lt
  have rd := qd.below hb3 qd.lt
  have a0 := r0.cell 0
  have a1 := r0.cell 1
  have a2 := r0.cell 2
  have a3 := r0.cell 3
  have a4 := r0.cell 4
  have f0 := r0.frozen 0
  have f1 := r0.frozen 1
  have f2 := r0.frozen 2
  have f3 := r0.frozen 3
  have f4 := r0.frozen 4
  have l0 := r0.lt
  simp at a0 a1 a2 a3 a4
  have hn1 : w2.heap.size ≠ w.heap.size := by have := q2.lt; omega
  have hn2 : w2.heap.size + 1 ≠ w.heap.size := by have := q2.lt; omega
  have hf : Fr (fun b => b = w.heap.size) w3 (((((w3.setCell ⟨w.heap.size, 0, none⟩ (.int .i64 0)).setCell ⟨w.heap.size, 1, none⟩ (.slice (some ⟨w2.heap.size, 0, none⟩) 2 2)).setCell ⟨w.heap.size, 2, none⟩ (.slice (some ⟨w2.heap.size + 1, 0, none⟩) 2 2)).setCell ⟨w.heap.size, 3, none⟩ (.int .i64 2)).setCell ⟨w.heap.size, 4, none⟩ (.int .i64 4)) :=
    (((((Fr.refl (fun b => b = w.heap.size) w3).andSet rfl).andSet rfl).andSet rfl).andSet rfl).andSet rfl
  have hB : Below w.heap.size w w3 := ex_trans (ex_alloc (ex_alloc (ex_trans (ex_trans (ex_alloc (Below.refl _ _) _) hb1) hb2) _) _) hb3
  have r5 := ((((r0.set_ 0 (.int .i64 0)).set_ 1 (.slice (some ⟨w2.heap.size, 0, none⟩) 2 2)).set_ 2 (.slice (some ⟨w2.heap.size + 1, 0, none⟩) 2 2)).set_ 3 (.int .i64 2)).set_ 4 (.int .i64 4)
  simp only [List.setIfInBounds_toArray, List.set_cons_zero, List.set_cons_succ] at r5
  go_wp2
  have sb := rb.fr hf hn1
  have sd := rd.fr hf hn2
  refine bodyPost_ret (results_cell_row rfl _ _ w.heap.size 39 #[.int .i64 0, .slice (some ⟨w2.heap.size, 0, none⟩) 2 2, .slice (some ⟨w2.heap.size + 1, 0, none⟩) 2 2, .int .i64 2, .int .i64 4] (0, 0) _ rfl r5 rfl rfl rfl) rfl ?_
  refine ⟨_, _, rfl, ⟨fun _ => ⟨w2.heap.size, 0, rfl, sb.lt, fun k j hk hj => ?_⟩, fun _ => ⟨w2.heap.size + 1, 0, rfl, sd.lt, fun k j hk hj => ?_⟩⟩, hf.toBelow hB hB.size (fun x hx => by rw [hx]; exact Nat.le_refl _)⟩
  · rw [sb.cell]
    have hk' : k < 2 := hk
    match k, hk', j, hj with
    | 0, _, 0, _ => rfl
    | 0, _, 1, _ => rfl
    | 0, _, 2, _ => rfl
    | 1, _, 0, _ => rfl
    | 1, _, 1, _ => rfl
    | 1, _, 2, _ => rfl
  · rw [sd.cell]
    have hk' : k < 2 := hk
    match k, hk', j, hj with
    | 0, _, 0, _ => rfl
    | 0, _, 1, _ => rfl
    | 1, _, 0, _ => rfl
    | 1, _, 1, _ => rfl

end Go.Proofs.Ytlgmeofpkfliaaa
end

section
namespace Go.Proofs.Ytlgmeofpkfliaaa
open Go.RowKit

def goFilter (g : Gl) (h : List Rg) (d : Nat) (nxt : List St) : List St → List St
  | [] => []
  | s :: L => if (nextL g h d s).any (fun t => decide (t ∈ nxt)) then s :: goFilter g h d nxt L else goFilter g h d nxt L
/-- the states that lead on to the end. -/
def goesL (g : Gl) (h : List Rg) (l : List Ic) (o : Nat → Bool) : Nat → Nat → List St
  | 0, d => canL g h l o d
  | k + 1, d => goFilter g h d (goesL g h l o k (d + 1)) (canL g h l o d)
theorem mem_goFilter {g : Gl} {h : List Rg} {d : Nat} {nxt : List St} {s : St} : ∀ {L : List St}, s ∈ goFilter g h d nxt L ↔ s ∈ L ∧ ∃ t, t ∈ nextL g h d s ∧ t ∈ nxt
  | [] => by simp [goFilter]
  | s' :: L => by
    rw [goFilter]
    split
    · rename_i hp
      simp only [List.any_eq_true, decide_eq_true_eq] at hp
      rw [List.mem_cons, mem_goFilter, List.mem_cons]
      constructor
      · rintro (rfl | ⟨h1, h2⟩)
        · exact ⟨.inl rfl, hp⟩
        · exact ⟨.inr h1, h2⟩
      · rintro ⟨rfl | h1, h2⟩
        · exact .inl rfl
        · exact .inr ⟨h1, h2⟩
    · rename_i hp
      simp only [List.any_eq_true, decide_eq_true_eq] at hp
      rw [mem_goFilter, List.mem_cons]
      constructor
      · rintro ⟨h1, h2⟩; exact ⟨.inr h1, h2⟩
      · rintro ⟨rfl | h1, h2⟩
        · exact absurd h2 hp
        · exact ⟨h1, h2⟩
theorem mem_goesL {g : Gl} {h : List Rg} {l : List Ic} {o : Nat → Bool} : ∀ {k d : Nat} {s : St}, s ∈ goesL g h l o k d ↔ Goes g h l o k d s
  | 0, d, s => mem_canL
  | k + 1, d, s => by
    rw [goesL, mem_goFilter, Goes, mem_canL]
    constructor
    · rintro ⟨h1, t, h2, h3⟩; exact ⟨h1, t, h2, mem_goesL.1 h3⟩
    · rintro ⟨h1, t, h2, h3⟩; exact ⟨h1, t, h2, mem_goesL.2 h3⟩
/-- are these the ends of the zeros of states? -/
def endsC (g : Gl) (L : List St) (a b : Int) : Bool := L.any (fun s => zero g s == a) && (L.any (fun s => zero g s == b) && L.all (fun s => decide (a ≤ zero g s) && decide (zero g s ≤ b)))
theorem endsC_iff {g : Gl} {h : List Rg} {l : List Ic} {o : Nat → Bool} {k d : Nat} {a b : Int} (hc : endsC g (goesL g h l o k d) a b = true) : EndsOf (fun z => ∃ s, Goes g h l o k d s ∧ z = zero g s) a b := by
  unfold endsC at hc
  simp only [Bool.and_eq_true, List.any_eq_true, List.all_eq_true, beq_iff_eq, decide_eq_true_eq] at hc
  obtain ⟨⟨s, h1, h2⟩, ⟨t, h3, h4⟩, h5⟩ := hc
  refine ⟨⟨s, mem_goesL.1 h1, h2.symm⟩, ⟨t, mem_goesL.1 h3, h4.symm⟩, ?_⟩
  rintro z ⟨s, hs, rfl⟩
  exact h5 s (mem_goesL.2 hs)
theorem EndsOf.uniq {Z : Int → Prop} {a b a' b' : Int} (h : EndsOf Z a b) (k : EndsOf Z a' b') : a = a' ∧ b = b' := by
  have h1 := h.2.2 _ k.1
  have h2 := h.2.2 _ k.2.1
  have h3 := k.2.2 _ h.1
  have h4 := k.2.2 _ h.2.1
  omega
/-- all days' ends. -/
def zsC (g : Gl) (h : List Rg) (l : List Ic) (zs : List Rg) : Bool := decide (zs.length = h.length) && (List.range h.length).all fun i => endsC g (goesL g h l off0 (h.length - 1 - i) (i + 1)) (gR zs i).lo (gR zs i).hi
theorem ZsOf.uniq {g : Gl} {h : List Rg} {l : List Ic} {zs zs' : List Rg} (k : ZsOf g h l zs) (k' : ZsOf g h l zs') : zs = zs' := by
  refine List.ext_getElem (by rw [k.1, k'.1]) (fun i h1 h2 => ?_)
  have := (k.2 i (by rw [← k.1]; exact h1)).uniq (k'.2 i (by rw [← k.1]; exact h1))
  have e1 : gR zs i = zs[i] := by simp [gR, h1]
  have e2 : gR zs' i = zs'[i] := by simp [gR, h2]
  rw [e1, e2] at this
  cases hz : zs[i]; cases hz' : zs'[i]
  rw [hz, hz'] at this
  simp only at this
  rw [this.1, this.2]
theorem zsC_iff {g : Gl} {h : List Rg} {l : List Ic} {zs : List Rg} (hc : zsC g h l zs = true) : ZsOf g h l zs := by
  unfold zsC at hc
  simp only [Bool.and_eq_true, decide_eq_true_eq, List.all_eq_true, List.mem_range] at hc
  exact ⟨hc.1, fun i hi => endsC_iff (hc.2 i hi)⟩

theorem iced1 : iced tubeG springH [⟨3, 4, 1⟩] = 0 := by decide +kernel
theorem iced3 : iced tubeG springH threeC = 0 := by decide +kernel
theorem iced0 : iced tubeG springH [] = 0 := by decide +kernel
theorem zs1 : ZsOf tubeG springH [⟨3, 4, 1⟩] [⟨1, 2⟩, ⟨-8, -6⟩, ⟨-2, 0⟩, ⟨3, 5⟩] := zsC_iff (by decide +kernel)
theorem zs0 : ZsOf tubeG springH [] [⟨1, 2⟩, ⟨-8, -6⟩, ⟨-5, 0⟩, ⟨-22, 5⟩] := zsC_iff (by decide +kernel)
theorem can1 : ∃ s, Can tubeG springH [⟨3, 4, 1⟩] off0 springH.length s := agreeB_iff.1 ((agreeB_eq _ _ _ _).trans (by decide +kernel))
theorem can0 : ∃ s, Can tubeG springH [] off0 springH.length s := agreeB_iff.1 ((agreeB_eq _ _ _ _).trans (by decide +kernel))
theorem shows3 {e : Ending} (h : ShowsIs (fun j => agreeB tubeG springH (threeC.take (j + 1)) off0) threeC.length e) : e = .returned (.tuple #[.int .i64 2, .int .i64 0]) := by
  have a0 : agreeB tubeG springH (threeC.take (0 + 1)) off0 = true := (agreeB_eq _ _ _ _).trans (by decide +kernel)
  have a1 : agreeB tubeG springH (threeC.take (1 + 1)) off0 = true := (agreeB_eq _ _ _ _).trans (by decide +kernel)
  have a2 : agreeB tubeG springH (threeC.take (2 + 1)) off0 = false := (agreeB_eq _ _ _ _).trans (by decide +kernel)
  rcases h with ⟨k, hk, _, h2, rfl⟩ | ⟨h1, _⟩
  · have hk' : k < 3 := hk
    match k, hk' with
    | 0, _ => exact absurd (a0.symm.trans h2) (by simp)
    | 1, _ => exact absurd (a1.symm.trans h2) (by simp)
    | 2, _ => rfl
  · have := h1 2 (by decide)
    exact absurd (a2.symm.trans this) (by simp)
theorem few3 {r : List Int} (h : FewIs (listsL tubeG springH threeC) threeC.length r) : r = [1] := by
  have e : agreeB tubeG springH threeC = agreeC tubeG springH threeC := funext fun o => agreeB_eq _ _ _ o
  have l0 : listsL tubeG springH threeC 0 = [] := by unfold listsL; rw [e]; decide +kernel
  have l1 : (listsL tubeG springH threeC 1).head? = some [1] := by unfold listsL; rw [e]; decide +kernel
  rcases h with ⟨k, hk, h1, ls, h2⟩ | ⟨h1, _⟩
  · match k with
    | 0 => rw [l0] at h2; cases h2
    | 1 => rw [h2] at l1; simpa using l1
    | k + 2 =>
      have := h1 1 (by omega)
      rw [this] at l1; cases l1
  · have := h1 1 (by decide)
    rw [this] at l1; cases l1
theorem holds0 {e : Ending} (h : HoldsIs [⟨1, 2⟩, ⟨-8, -6⟩, ⟨-5, 0⟩, ⟨-22, 5⟩] (-10) 10 springH.length e) : e = .returned (.tuple #[.int .i64 2, .int .i64 0]) := by
  obtain ⟨d, h1, h2, h3, h4⟩ := h
  have h1' : d ≤ 4 := h1
  match d, h1' with
  | 0, _ => have := h3 (by decide); cases this
  | 1, _ => have := h3 (by decide); cases this
  | 2, _ => have := h3 (by decide); cases this
  | 3, _ =>
    rcases h4 with ⟨h4, _⟩ | ⟨_, rfl⟩
    · omega
    · rfl
  | 4, _ => have := h2 3 (by decide); cases this

end Go.Proofs.Ytlgmeofpkfliaaa
end

section
namespace Go.Proofs.Ytlgmeofpkfliaaa
open Go.RowKit
attribute [local go_sem] Ex.cell? Ex.frozen?

def intsB (l m : List Int) : Bool := decide (l = m)
theorem intsB_len {l m : List Int} (h : l.length ≠ m.length) : intsB l m = false := decide_eq_false (fun e => h (by rw [e]))
theorem intsB_at {l m : List Int} {k : Nat} (h : gI l k ≠ gI m k) : intsB l m = false := decide_eq_false (fun e => h (by rw [e]))
theorem intsB_all {l m : List Int} (hl : l.length = m.length) (h : ∀ k, k < l.length → gI l k = gI m k) : intsB l m = true := by
  refine decide_eq_true (List.ext_getElem hl (fun i h1 h2 => ?_))
  have := h i h1
  simpa [gI, h1, h2] using this

set_option maxHeartbeats 800000 in
theorem ints_any (A B : Option Addr) (c d : Nat) (l m : List Int) (w : World) (hl : l.length ≤ 1000000) (hA : SlAt w w.heap.size 1 A l.length (fI l)) (hB : SlAt w w.heap.size 1 B m.length (fI m)) (hm : m.length ≤ 1000000) :
    Calls Try.prog 35 #[.slice A l.length c, .slice B m.length d] w fun e w' => e = .returned (.bool (intsB l m)) ∧ Below w.heap.size w w' := by
  by_cases hlm : l.length = m.length
  · have HLM := Lib.hid hlm
    have e1 : ((l.length : Int) != (m.length : Int)) = false := by simp [hlm]
    have e2 : (l.length != m.length) = false := by simp [hlm]
    have hlm1 : l.length ≤ m.length := by omega
    clear hlm
    go_enter Try.func35, Try.ntmps35
    go_wp2_with fail
    go_loopw [5] (fun i wr => ∃ k : Nat, k ≤ l.length ∧ i = .int .i64 k ∧ (∀ j, j < k → gI l j = gI m j) ∧ Below w.heap.size w wr)
      (fun i _ => l.length - (intOf i).toNat)
    case atStart => exact ⟨0, by omega, rfl, fun j hj => by omega, Below.refl _ _⟩
    case round =>
      obtain ⟨k, hk, rfl, hag, hbl⟩ := hrel
      have HAG := Lib.hid hag
      clear hag
      by_cases hlt : k < l.length
      · obtain ⟨b, off, rfl, hb, hc⟩ := IsInts.at_ (hA.below hbl) hlt
        obtain ⟨b2, off2, rfl, hb2, hc2⟩ := IsInts.at_ (hB.below hbl) (show k < m.length by omega)
        have hkm : k < m.length := by omega
        by_cases hx : gI l k = gI m k
        · have HX := Lib.hid hx
          have e3 : (gI l k != gI m k) = false := by simp [hx]
          clear hx
          go_wp2_with fail
          go_quiet (fail)
          go_wp2
          go_roundw
          case rel => exact ⟨k + 1, by omega, by go_num, fun j hj => by rcases Nat.lt_succ_iff_lt_or_eq.1 hj with h | h; exact HAG.out j h; rw [h]; exact HX.out, ex_drewN hbl _⟩
          case measure => simp [intOf]; omega
        · have HX := Lib.hid hx
          have e3 : (gI l k != gI m k) = true := by simp [hx]
          clear hx
          go_wp2_with fail
          go_quiet (fail)
          go_wp2
          go_ret
          exact ⟨by rw [intsB_at HX.out]; rfl, ex_drewN hbl _⟩
      · have HK : Hid (k = l.length) := Lib.hid (by omega)
        go_wp2
        go_ret
        exact ⟨by rw [intsB_all HLM.out (fun j hj => HAG.out j (by rw [HK.out]; exact hj))]; rfl, hbl⟩
  · have HLM := Lib.hid hlm
    have e1 : ((l.length : Int) != (m.length : Int)) = true := by rw [bne_iff_ne]; omega
    have e2 : (l.length != m.length) = true := by rw [bne_iff_ne]; omega
    clear hlm
    go_enter Try.func35, Try.ntmps35
    go_wp2
    go_ret
    exact ⟨by rw [intsB_len HLM.out]; rfl, Below.refl _ _⟩

end Go.Proofs.Ytlgmeofpkfliaaa
end

section
namespace Go.Proofs.Ytlgmeofpkfliaaa
open Go.RowKit
attribute [local go_sem] Ex.cell? Ex.frozen?

theorem eqg_rg (a b c d : Int) (w : World) : (Op.equal 37 (.agg #[.int .i64 a, .int .i64 b]) (.agg #[.int .i64 c, .int .i64 d])).run Try.prog w = .ok (a == c && b == d) w := by
  simp [Op.equal, Op.maxDepth, go_sem]
  by_cases h1 : a = c
  · by_cases h2 : b = d
    · simp [h1, h2]
    · simp [h1, h2]
  · simp [h1]

/-- the example's Zeros. -/
theorem Z_ex (Ab Ad Ah Ai : Option Addr) (w : World) (hg : GlIn w w.heap.size tubeG Ab Ad) (hh : SlAt w w.heap.size 2 Ah springH.length (fR springH)) (hi : SlAt w w.heap.size 3 Ai ([⟨3, 4, 1⟩] : List Ic).length (fC [⟨3, 4, 1⟩])) :
    Calls Try.prog 31 #[.agg #[.int .i64 0, .slice Ab 2 2, .slice Ad 2 2, .int .i64 2, .int .i64 4], .slice Ah 4 4, .slice Ai 1 1] w fun e w' =>
      ∃ go, e = .returned (.tuple #[.slice (some ⟨go, 0, none⟩) 4 4, .int .i64 0]) ∧ w.heap.size ≤ go ∧ Blk w' go 37 #[.int .i64 1, .int .i64 2, .int .i64 (-8), .int .i64 (-6), .int .i64 (-2), .int .i64 0, .int .i64 3, .int .i64 5] ∧ Below w.heap.size w w' := by
  refine (Zeros_good tubeG Ab Ad Ah Ai 2 2 4 1 springH [⟨3, 4, 1⟩] w hg hh hi iced1).mono ?_
  rintro e w' ⟨⟨hno, rfl⟩ | ⟨hyes, go, oc, rfl, hgo, hblk, hsz, hends⟩, hb⟩
  · exact absurd can1 hno
  · refine ⟨go, rfl, hgo, ?_, hb⟩
    have hz := fun i hi => (zs1).2 i hi
    have hsz' : oc.size = 8 := hsz
    obtain ⟨a0, b0, p0, q0, e0⟩ := hends 0 (by decide)
    obtain ⟨a1, b1, p1, q1, e1⟩ := hends 1 (by decide)
    obtain ⟨a2, b2, p2, q2, e2⟩ := hends 2 (by decide)
    obtain ⟨a3, b3, p3, q3, e3⟩ := hends 3 (by decide)
    obtain ⟨r0, s0⟩ := e0.uniq (hz 0 (by decide))
    obtain ⟨r1, s1⟩ := e1.uniq (hz 1 (by decide))
    obtain ⟨r2, s2⟩ := e2.uniq (hz 2 (by decide))
    obtain ⟨r3, s3⟩ := e3.uniq (hz 3 (by decide))
    subst r0 s0 r1 s1 r2 s2 r3 s3
    have : oc = #[.int .i64 1, .int .i64 2, .int .i64 (-8), .int .i64 (-6), .int .i64 (-2), .int .i64 0, .int .i64 3, .int .i64 5] := by
      refine Array.ext_getElem? (fun i => ?_)
      have hi : i = 0 ∨ i = 1 ∨ i = 2 ∨ i = 3 ∨ i = 4 ∨ i = 5 ∨ i = 6 ∨ i = 7 ∨ 8 ≤ i := by omega
      rcases hi with rfl | rfl | rfl | rfl | rfl | rfl | rfl | rfl | hi
      · exact p0
      · exact q0
      · exact p1
      · exact q1
      · exact p2
      · exact q2
      · exact p3
      · exact q3
      · rw [Array.getElem?_eq_none (by omega), Array.getElem?_eq_none (by simpa using hi)]
    rw [this] at hblk
    exact hblk
theorem S_ex (Ab Ad Ah Ai : Option Addr) (w : World) (hg : GlIn w w.heap.size tubeG Ab Ad) (hh : SlAt w w.heap.size 2 Ah springH.length (fR springH)) (hi : SlAt w w.heap.size 3 Ai threeC.length (fC threeC)) :
    Calls Try.prog 19 #[.agg #[.int .i64 0, .slice Ab 2 2, .slice Ad 2 2, .int .i64 2, .int .i64 4], .slice Ah 4 4, .slice Ai 3 3] w fun e w' => e = .returned (.tuple #[.int .i64 2, .int .i64 0]) ∧ Below w.heap.size w w' := by
  refine (Shows_good tubeG Ab Ad Ah Ai 2 2 4 3 springH threeC w hg hh hi (by decide) (by decide) iced3).mono ?_
  rintro e w' ⟨he, hb⟩
  exact ⟨shows3 he, hb⟩
theorem F_ex (Ab Ad Ah Ai : Option Addr) (w : World) (hg : GlIn w w.heap.size tubeG Ab Ad) (hh : SlAt w w.heap.size 2 Ah springH.length (fR springH)) (hi : SlAt w w.heap.size 3 Ai threeC.length (fC threeC)) :
    Calls Try.prog 32 #[.agg #[.int .i64 0, .slice Ab 2 2, .slice Ad 2 2, .int .i64 2, .int .i64 4], .slice Ah 4 4, .slice Ai 3 3] w fun e w' =>
      ∃ A c, e = .returned (.tuple #[.slice A 1 c, .int .i64 0]) ∧ SlAt w' w'.heap.size 1 A ([1] : List Int).length (fI [1]) ∧ Below w.heap.size w w' := by
  refine (Fewest_good tubeG Ab Ad Ah Ai 2 2 4 3 springH threeC w hg hh hi iced3).mono ?_
  rintro e w' ⟨⟨v, r, rfl, hf, hown⟩, hb⟩
  have := few3 hf
  subst this
  obtain ⟨A, c, rfl, _, hs⟩ := own_sl hown
  exact ⟨A, c, rfl, hs, hb⟩
theorem H_ex (Ab Ad Ah : Option Addr) (w : World) (hg : GlIn w w.heap.size tubeG Ab Ad) (hh : SlAt w w.heap.size 2 Ah springH.length (fR springH)) :
    Calls Try.prog 25 #[.agg #[.int .i64 0, .slice Ab 2 2, .slice Ad 2 2, .int .i64 2, .int .i64 4], .slice Ah 4 4, .slice none 0 0, .int .i64 (-10), .int .i64 10] w fun e w' => e = .returned (.tuple #[.int .i64 2, .int .i64 0]) ∧ Below w.heap.size w w' := by
  refine (Holds_good tubeG Ab Ad Ah none 2 2 4 0 springH [] w hg hh (fun h => by cases h) (-10) 10 iced0).mono ?_
  rintro e w' ⟨⟨h1, _⟩ | ⟨_, h1, _⟩ | ⟨_, _, zs, hzs, he⟩, hb⟩
  · omega
  · exact absurd can0 h1
  · rw [hzs.uniq zs0] at he
    exact ⟨holds0 he, hb⟩

theorem oneIce (W : World) : SlAt (W.alloc (.cells #[.int .i64 3, .int .i64 4, .int .i64 1] 95)) (W.alloc (.cells #[.int .i64 3, .int .i64 4, .int .i64 1] 95)).heap.size 3 (some ⟨W.heap.size, 0, none⟩) ([⟨3, 4, 1⟩] : List Ic).length (fC [⟨3, 4, 1⟩]) := fun _ => ⟨W.heap.size, 0, rfl, by simp, fun k j hk hj => by
  rw [cell_of_row _ _ _ _ _ _ (heap_alloc_new W _)]
  have hk' : k < 1 := hk
  match k, hk', j, hj with
  | 0, _, 0, _ => rfl
  | 0, _, 1, _ => rfl
  | 0, _, 2, _ => rfl⟩
theorem oneInt (W : World) (x : Int) : SlAt (W.alloc (.cells #[.int .i64 x] 3)) (W.alloc (.cells #[.int .i64 x] 3)).heap.size 1 (some ⟨W.heap.size, 0, none⟩) ([x] : List Int).length (fI [x]) := fun _ => ⟨W.heap.size, 0, rfl, by simp, fun k j hk hj => by
  rw [cell_of_row _ _ _ _ _ _ (heap_alloc_new W _)]
  have hk' : k < 1 := hk
  match k, hk', j, hj with
  | 0, _, 0, _ => rfl⟩

set_option maxRecDepth 100000 in
set_option maxHeartbeats 6400000 in
theorem awake_any (w : World) : Calls Try.prog 18 #[] w fun e w' => e = .returned (.bool true) ∧ Below w.heap.size w w' := by
  go_enter Try.func18, Try.ntmps18
  go_wp2_with fail
  refine (tube_any _).mono ?_
  rintro e w1 ⟨Ab, Ad, rfl, hg1, hb1⟩
  go_wp2_with fail
  refine (spring_any _).mono ?_
  rintro e w2 ⟨Ah, rfl, hh2, hb2⟩
  have hB2 := ex_trans hb1 hb2
  go_wp2_with fail
  have hb2a := (Below.refl w2.heap.size w2).alloc (Nat.le_refl _) (.cells #[.int .i64 3, .int .i64 4, .int .i64 1] 95)
  refine (Z_ex _ _ _ _ _ (((hg1.below hb2).up hb2.size).below hb2a |>.up hb2a.size) ((hh2.below hb2a).up hb2a.size) (oneIce w2)).mono ?_
  rintro e w3 ⟨go, rfl, hgo, hz, hb3⟩
  have hB3 := ex_trans (ex_alloc hB2 _) hb3
  go_wp2_with fail
  refine (tube_any _).mono ?_
  rintro e w4 ⟨Ab, Ad, rfl, hg4, hb4⟩
  go_wp2_with fail
  refine (spring_any _).mono ?_
  rintro e w5 ⟨Ah, rfl, hh5, hb5⟩
  go_wp2_with fail
  refine (three_any _).mono ?_
  rintro e w6 ⟨Ai, rfl, hi6, hb6⟩
  go_wp2_with fail
  refine (S_ex _ _ _ _ _ ((((hg4.below hb5).up hb5.size).below hb6).up hb6.size) ((hh5.below hb6).up hb6.size) hi6).mono ?_
  rintro e w7 ⟨rfl, hb7⟩
  have hB7 := ex_trans (ex_trans (ex_trans (ex_trans hB3 hb4) hb5) hb6) hb7
  have hz7 := (((hz.below hb4 hz.lt).below hb5 (hz.below hb4 hz.lt).lt).below hb6 ((hz.below hb4 hz.lt).below hb5 (hz.below hb4 hz.lt).lt).lt).below hb7 (((hz.below hb4 hz.lt).below hb5 (hz.below hb4 hz.lt).lt).below hb6 ((hz.below hb4 hz.lt).below hb5 (hz.below hb4 hz.lt).lt).lt).lt
  clear hg1 hh2 hb2a hb1 hb2 hb3 hb4 hb5 hb6 hb7 hg4 hh5 hi6 hB2 hB3 hz hgo
  go_wp2_with fail
  refine (tube_any _).mono ?_
  rintro e w8 ⟨Ab, Ad, rfl, hg8, hb8⟩
  go_wp2_with fail
  refine (spring_any _).mono ?_
  rintro e w9 ⟨Ah, rfl, hh9, hb9⟩
  go_wp2_with fail
  refine (three_any _).mono ?_
  rintro e w10 ⟨Ai, rfl, hi10, hb10⟩
  go_wp2_with fail
  refine (F_ex _ _ _ _ _ ((((hg8.below hb9).up hb9.size).below hb10).up hb10.size) ((hh9.below hb10).up hb10.size) hi10).mono ?_
  rintro e w11 ⟨Af, cf, rfl, hf, hb11⟩
  go_wp2_with fail
  refine (tube_any _).mono ?_
  rintro e w12 ⟨Ab, Ad, rfl, hg12, hb12⟩
  go_wp2_with fail
  refine (spring_any _).mono ?_
  rintro e w13 ⟨Ah, rfl, hh13, hb13⟩
  go_wp2_with fail
  refine (H_ex _ _ _ _ ((hg12.below hb13).up hb13.size) hh13).mono ?_
  rintro e w14 ⟨rfl, hb14⟩
  have k1 := hb8.trans (hb9.mono hb8.size)
  have k2 := k1.trans (hb10.mono k1.size)
  have k3 := k2.trans (hb11.mono k2.size)
  have k4 := hb12.trans (hb13.mono hb12.size)
  have k5 := k4.trans (hb14.mono k4.size)
  have hB14 := ex_trans (ex_trans hB7 k3) k5
  have hz14 := ((hz7.below k3 hz7.lt).below k5 (hz7.below k3 hz7.lt).lt)
  have hf14 := (hf.below k5).up k5.size
  clear hg8 hh9 hi10 hb8 hb9 hb10 hb11 hb12 hb13 hb14 hg12 hh13 hf k1 k2 k3 k4 k5 hz7 hB7
  have c0 : w14.cell? ⟨go, 0, none⟩ = some (.int .i64 1) := hz14.cell 0
  have c1 : w14.cell? ⟨go, 1, none⟩ = some (.int .i64 2) := hz14.cell 1
  have c2 : w14.cell? ⟨go, 2, none⟩ = some (.int .i64 (-8)) := hz14.cell 2
  have c3 : w14.cell? ⟨go, 3, none⟩ = some (.int .i64 (-6)) := hz14.cell 3
  have c4 : w14.cell? ⟨go, 4, none⟩ = some (.int .i64 (-2)) := hz14.cell 4
  have c5 : w14.cell? ⟨go, 5, none⟩ = some (.int .i64 0) := hz14.cell 5
  have c6 : w14.cell? ⟨go, 6, none⟩ = some (.int .i64 3) := hz14.cell 6
  have c7 : w14.cell? ⟨go, 7, none⟩ = some (.int .i64 5) := hz14.cell 7
  have lz := hz14.lt
  go_wp2_with fail
  refine wp_region_ext_mix 60 [(false, 0), (false, 1), (false, 2), (false, 3), (false, 4), (false, 5), (false, 6), (false, 7), (false, 8), (false, 9), (false, 10), (true, 11), (false, 12), (false, 13), (false, 14), (false, 15), (false, 16), (false, 17), (true, 18), (false, 19), (false, 20), (false, 21), (false, 22), (false, 23), (false, 24), (true, 25), (false, 26), (false, 27), (false, 28), (false, 29), (false, 30), (false, 31), (true, 32), (false, 33), (false, 34), (false, 35), (false, 36), (false, 37), (false, 38), (false, 39), (false, 40), (false, 41), (false, 42), (false, 43), (false, 44), (false, 45), (false, 46), (false, 47), (false, 48), (true, 49), (true, 50), (false, 51), (false, 52), (false, 53), (false, 54), (false, 55), (false, 56), (false, 57), (false, 58), (false, 59)] (by kernel_rfl) (by kernel_rfl) (by intro d _ _ _ _ h; cases d <;> exact h) ?_
  have hX0 := (Below.refl w14.heap.size w14).drew
  repeat (refine mix_quiet rfl ?_; go_big_quiet_step (fail); refine wpQuiet_nil ?_)
  refine mix_loud rfl ?_
  go_wp2_with fail
  refine (between_any _ _ _).mono ?_
  rintro e x1 ⟨rfl, hx1⟩
  have hX1 := ex_trans hX0 hx1
  go_wp2_with fail
  refine ⟨inEx hX1, ?_⟩
  repeat (refine mix_quiet rfl ?_; go_big_quiet_step (fail); refine wpQuiet_nil ?_)
  refine mix_loud rfl ?_
  go_wp2_with fail
  refine (between_any _ _ _).mono ?_
  rintro e x2 ⟨rfl, hx2⟩
  have hX2 := ex_trans hX1 hx2
  go_wp2_with fail
  refine ⟨inEx hX2, ?_⟩
  repeat (refine mix_quiet rfl ?_; go_big_quiet_step (fail); refine wpQuiet_nil ?_)
  refine mix_loud rfl ?_
  go_wp2_with fail
  refine (between_any _ _ _).mono ?_
  rintro e x3 ⟨rfl, hx3⟩
  have hX3 := ex_trans hX2 hx3
  go_wp2_with fail
  refine ⟨inEx hX3, ?_⟩
  repeat (refine mix_quiet rfl ?_; go_big_quiet_step (fail); refine wpQuiet_nil ?_)
  refine mix_loud rfl ?_
  go_wp2_with fail
  refine (between_any _ _ _).mono ?_
  rintro e x4 ⟨rfl, hx4⟩
  have hX4 := ex_trans hX3 hx4
  go_wp2_with fail
  refine ⟨inEx hX4, ?_⟩
  repeat (refine mix_quiet rfl ?_; go_big_quiet_step (fail); refine wpQuiet_nil ?_)
  refine mix_loud rfl ?_
  go_wp2_with fail
  have hX5 := ex_alloc hX4 (.cells #[.int .i64 1] 3)
  refine ⟨inEx hX5, ?_⟩
  refine mix_loud rfl ?_
  go_wp2_with fail
  refine (ints_any _ _ _ _ [1] [1] _ (by decide) ((hf14.below hX5).up hX5.size) (oneInt x4 1) (by decide)).mono ?_
  rintro e x6 ⟨rfl, hx6⟩
  have hX6 := ex_trans hX5 hx6
  rw [show intsB [1] [1] = true from rfl]
  go_wp2_with fail
  refine ⟨inEx hX6, ?_⟩
  repeat (refine mix_quiet rfl ?_; go_big_quiet_step (fail); refine wpQuiet_nil ?_)
  refine mix_nil rfl ?_
  go_wp2
  go_ret
  exact ⟨rfl, ex_trans hB14 hX6⟩

end Go.Proofs.Ytlgmeofpkfliaaa
end

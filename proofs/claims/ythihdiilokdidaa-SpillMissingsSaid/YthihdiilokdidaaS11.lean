/- Spill's laws: what the chapter's examples show (plain). · Spill's laws: awake (walk). · Spill's laws: list, rows, Book, Truth (walks). · Spill's laws: Works (walk). · Spill's reference: In, span, Fault (walks). -/
import Derived.Test.YthihdiilokdidaaS9
import Derived.Test.YthihdiilokdidaaS10
set_option linter.unusedVariables false
set_option linter.unusedSimpArgs false
set_option linter.unusedSectionVars false
section
namespace Go.Proofs.Ythihdiilokdidaa
open Go.RowKit
section
variable (lo hi : Int) (F : Nat → Int) (V : Nat → Nat → Int) (G : Nat → Int)
theorem cel_c (r d : Int) : comes (cellS lo hi).wo G r d 3 = (if 0 = d then (if 1 = r then G 0 else 0) - (if 0 = r then G 0 else 0) else 0) + ((if 1 = d then (if -1 = r then G 1 else 0) - (if 1 = r then G 1 else 0) else 0) + (if 2 = d then (if 1 = r then G 2 else 0) - (if 0 = r then G 2 else 0) else 0)) := by
  show _ + (_ + (_ + (0 : Int))) = _
  rw [Int.add_zero]
  rfl
theorem cel_s00 : stk (cellS lo hi).wo F V G 0 0 = F 0 - G 0 - V 0 0 := by
  show F 0 + (comes (cellS lo hi).wo G 0 0 3 - V 0 0) = _
  rw [cel_c]; simp; omega
theorem cel_s01 : stk (cellS lo hi).wo F V G 0 1 = F 0 - G 0 - V 0 0 - V 0 1 := by
  show stk (cellS lo hi).wo F V G 0 0 + (comes (cellS lo hi).wo G 0 1 3 - V 0 1) = _
  rw [cel_c, cel_s00]; simp; omega
theorem cel_s02 : stk (cellS lo hi).wo F V G 0 2 = F 0 - G 0 - V 0 0 - V 0 1 - G 2 - V 0 2 := by
  show stk (cellS lo hi).wo F V G 0 1 + (comes (cellS lo hi).wo G 0 2 3 - V 0 2) = _
  rw [cel_c, cel_s01]; simp; omega
theorem cel_s10 : stk (cellS lo hi).wo F V G 1 0 = F 1 + G 0 - V 1 0 := by
  show F 1 + (comes (cellS lo hi).wo G 1 0 3 - V 1 0) = _
  rw [cel_c]; simp; omega
theorem cel_s11 : stk (cellS lo hi).wo F V G 1 1 = F 1 + G 0 - V 1 0 - G 1 - V 1 1 := by
  show stk (cellS lo hi).wo F V G 1 0 + (comes (cellS lo hi).wo G 1 1 3 - V 1 1) = _
  rw [cel_c, cel_s10]; simp; omega
theorem cel_s12 : stk (cellS lo hi).wo F V G 1 2 = F 1 + G 0 - V 1 0 - G 1 - V 1 1 + G 2 - V 1 2 := by
  show stk (cellS lo hi).wo F V G 1 1 + (comes (cellS lo hi).wo G 1 2 3 - V 1 2) = _
  rw [cel_c, cel_s11]; simp; omega
/-- a truth of the chapter's works that can be, and agrees. -/
structure CelT (b : Bool) : Prop where
  f0 : F 0 = 100
  f1 : 0 ≤ F 1 ∧ F 1 ≤ 5
  v00 : 1 ≤ V 0 0 ∧ V 0 0 ≤ 2
  v01 : 1 ≤ V 0 1 ∧ V 0 1 ≤ 2
  v02 : 1 ≤ V 0 2 ∧ V 0 2 ≤ 2
  v10 : 0 ≤ V 1 0 ∧ V 1 0 ≤ 1
  v11 : 0 ≤ V 1 1 ∧ V 1 1 ≤ 1
  v12 : 0 ≤ V 1 2 ∧ V 1 2 ≤ 1
  g0 : 40 ≤ G 0 ∧ G 0 ≤ 45
  g1 : G 1 = 20
  g2 : 0 ≤ G 2 ∧ G 2 ≤ 10
  w0 : b = false → lo ≤ F 1 + G 0 - V 1 0 - G 1 - V 1 1 ∧ F 1 + G 0 - V 1 0 - G 1 - V 1 1 ≤ hi
theorem cel_good (out : Nat → Bool) : GoodF (cellS lo hi).wo out F V G ↔ CelT lo hi F V G (out 0) := by
  constructor
  · intro h
    have a0 := h.tru.fst 0 (by show 0 < 2; omega)
    have a1 := h.tru.fst 1 (by show 1 < 2; omega)
    have m0 := h.tru.mov 0 (by show 0 < 3; omega)
    have m1 := h.tru.mov 1 (by show 1 < 3; omega)
    have m2 := h.tru.mov 2 (by show 2 < 3; omega)
    have v := fun (r d : Nat) (hr : r < 2) (hd : d < 3) => h.tru.vap r d hr hd
    have w := h.agr 0 (by show 0 < 1; omega)
    have e : ∀ x, inR x (gWg (cellS lo hi).wo.wgs 0).g ↔ lo ≤ x ∧ x ≤ hi := fun x => Iff.rfl
    rw [e, show (gWg (cellS lo hi).wo.wgs 0).room.toNat = 1 from rfl, show (gWg (cellS lo hi).wo.wgs 0).day.toNat = 1 from rfl, cel_s11] at w
    have a0' : 100 ≤ F 0 ∧ F 0 ≤ 100 := a0
    have m1' : 20 ≤ G 1 ∧ G 1 ≤ 20 := m1
    exact ⟨by omega, a1, v 0 0 (by decide) (by decide), v 0 1 (by decide) (by decide), v 0 2 (by decide) (by decide), v 1 0 (by decide) (by decide), v 1 1 (by decide) (by decide), v 1 2 (by decide) (by decide), m0, by omega, m2, w⟩
  · intro h
    refine ⟨⟨fun r hr => ?_, fun r d hr hd => ?_, fun i hii => ?_⟩, fun r d hr hd => ?_, fun i hii ho => ?_⟩
    · match r, hr with
      | 0, _ => exact ⟨by show (100 : Int) ≤ _; rw [h.f0]; omega, by show _ ≤ (100 : Int); rw [h.f0]; omega⟩
      | 1, _ => exact h.f1
    · match r, hr with
      | 0, _ =>
        match d, hd with
        | 0, _ => exact h.v00
        | 1, _ => exact h.v01
        | 2, _ => exact h.v02
      | 1, _ =>
        match d, hd with
        | 0, _ => exact h.v10
        | 1, _ => exact h.v11
        | 2, _ => exact h.v12
    · match i, hii with
      | 0, _ => exact h.g0
      | 1, _ => exact ⟨by show (20 : Int) ≤ _; rw [h.g1]; omega, by show _ ≤ (20 : Int); rw [h.g1]; omega⟩
      | 2, _ => exact h.g2
    · have := h.f0; have := h.f1; have := h.v00; have := h.v01; have := h.v02; have := h.v10; have := h.v11; have := h.v12; have := h.g0; have := h.g1; have := h.g2
      match r, hr with
      | 0, _ =>
        match d, hd with
        | 0, _ => rw [cel_s00]; omega
        | 1, _ => rw [cel_s01]; omega
        | 2, _ => rw [cel_s02]; omega
      | 1, _ =>
        match d, hd with
        | 0, _ => rw [cel_s10]; omega
        | 1, _ => rw [cel_s11]; omega
        | 2, _ => rw [cel_s12]; omega
    · have i0 : i < 1 := hii
      obtain rfl : i = 0 := by omega
      have e : ∀ x, inR x (gWg (cellS lo hi).wo.wgs 0).g ↔ lo ≤ x ∧ x ≤ hi := fun x => Iff.rfl
      rw [e, show (gWg (cellS lo hi).wo.wgs 0).room.toNat = 1 from rfl, show (gWg (cellS lo hi).wo.wgs 0).day.toNat = 1 from rfl, cel_s11]
      exact h.w0 ho
end
/-- a truth, by its numbers. -/
def cF (f1 : Int) : Nat → Int := fun r => if r = 0 then 100 else f1
def cV (a b c d e f : Int) : Nat → Nat → Int := fun r k => if r = 0 then (if k = 0 then a else if k = 1 then b else c) else (if k = 0 then d else if k = 1 then e else f)
def cG (a c : Int) : Nat → Int := fun i => if i = 0 then a else if i = 1 then 20 else c
theorem cel_mk (lo hi f1 a b c d e f x y : Int) (h1 : 0 ≤ f1 ∧ f1 ≤ 5) (ha : 1 ≤ a ∧ a ≤ 2) (hb : 1 ≤ b ∧ b ≤ 2) (hc : 1 ≤ c ∧ c ≤ 2) (hd : 0 ≤ d ∧ d ≤ 1) (he : 0 ≤ e ∧ e ≤ 1) (hf : 0 ≤ f ∧ f ≤ 1) (hx : 40 ≤ x ∧ x ≤ 45) (hy : 0 ≤ y ∧ y ≤ 10) (hw : lo ≤ f1 + x - d - 20 - e ∧ f1 + x - d - 20 - e ≤ hi) (out : Nat → Bool) :
    GoodF (cellS lo hi).wo out (cF f1) (cV a b c d e f) (cG x y) := (cel_good lo hi _ _ _ out).2 ⟨rfl, h1, ha, hb, hc, hd, he, hf, hx, rfl, hy, fun _ => hw⟩
theorem cel_ck {lo hi : Int} (h : 0 ≤ lo ∧ lo ≤ hi ∧ hi ≤ 2000) : ckWs (cellS lo hi) = 0 := by
  have h1 : goodWs (cellS lo hi) = toB lo hi 2000 := by
    show (_ && _) = _
    simp [cellS, allTo, roomB, moveB, wgB, toB, sideB, inB, gRm, gMv, gWg]
  unfold ckWs
  rw [show bigWs (cellS lo hi) = false from rfl, h1, (toB_iff.2 h : toB lo hi 2000 = true)]
  rfl
theorem cel_r00 : stkR (cellS 22 24).wo off0 0 0 = ⟨53, 59⟩ := rngOf_eq ⟨⟨_, _, _, cel_mk 22 24 0 2 1 1 1 0 0 45 0 (by decide) (by decide) (by decide) (by decide) (by decide) (by decide) (by decide) (by decide) (by decide) (by decide) off0, by rw [cel_s00]; rfl⟩, ⟨_, _, _, cel_mk 22 24 2 1 1 1 0 0 0 40 0 (by decide) (by decide) (by decide) (by decide) (by decide) (by decide) (by decide) (by decide) (by decide) (by decide) off0, by rw [cel_s00]; rfl⟩, fun z ⟨F, V, G, h, e⟩ => by
    have h := (cel_good 22 24 _ _ _ off0).1 h
    rw [cel_s00] at e; have := h.f0; have := h.v00; have := h.g0; omega⟩
theorem cel_r02 : stkR (cellS 22 24).wo off0 0 2 = ⟨39, 57⟩ := rngOf_eq ⟨⟨_, _, _, cel_mk 22 24 0 2 2 2 1 0 0 45 10 (by decide) (by decide) (by decide) (by decide) (by decide) (by decide) (by decide) (by decide) (by decide) (by decide) off0, by rw [cel_s02]; rfl⟩, ⟨_, _, _, cel_mk 22 24 2 1 1 1 0 0 0 40 0 (by decide) (by decide) (by decide) (by decide) (by decide) (by decide) (by decide) (by decide) (by decide) (by decide) off0, by rw [cel_s02]; rfl⟩, fun z ⟨F, V, G, h, e⟩ => by
    have h := (cel_good 22 24 _ _ _ off0).1 h
    rw [cel_s02] at e; have := h.f0; have := h.v00; have := h.v01; have := h.v02; have := h.g0; have := h.g2; omega⟩
theorem cel_r10 : stkR (cellS 22 24).wo off0 1 0 = ⟨42, 45⟩ := rngOf_eq ⟨⟨_, _, _, cel_mk 22 24 2 1 1 1 0 0 0 40 0 (by decide) (by decide) (by decide) (by decide) (by decide) (by decide) (by decide) (by decide) (by decide) (by decide) off0, by rw [cel_s10]; rfl⟩, ⟨_, _, _, cel_mk 22 24 0 1 1 1 0 1 0 45 0 (by decide) (by decide) (by decide) (by decide) (by decide) (by decide) (by decide) (by decide) (by decide) (by decide) off0, by rw [cel_s10]; rfl⟩, fun z ⟨F, V, G, h, e⟩ => by
    have h := (cel_good 22 24 _ _ _ off0).1 h
    rw [cel_s10] at e; have := h.w0 rfl; have := h.g1; have := h.v11; omega⟩
theorem cel_r12 : stkR (cellS 22 24).wo off0 1 2 = ⟨21, 34⟩ := rngOf_eq ⟨⟨_, _, _, cel_mk 22 24 2 1 1 1 0 0 1 40 0 (by decide) (by decide) (by decide) (by decide) (by decide) (by decide) (by decide) (by decide) (by decide) (by decide) off0, by rw [cel_s12]; rfl⟩, ⟨_, _, _, cel_mk 22 24 0 1 1 1 0 1 0 45 10 (by decide) (by decide) (by decide) (by decide) (by decide) (by decide) (by decide) (by decide) (by decide) (by decide) off0, by rw [cel_s12]; rfl⟩, fun z ⟨F, V, G, h, e⟩ => by
    have h := (cel_good 22 24 _ _ _ off0).1 h
    rw [cel_s12] at e; have := h.w0 rfl; have := h.v12; have := h.g2; omega⟩
theorem cel_yes : Good (cellS 22 24).wo off0 := ⟨_, _, _, cel_mk 22 24 2 1 1 1 0 0 0 40 0 (by decide) (by decide) (by decide) (by decide) (by decide) (by decide) (by decide) (by decide) (by decide) (by decide) off0⟩
theorem cel_stE : stE (cellS 22 24) = 0 := stE_zero.2 ⟨cel_ck (by decide), cel_yes⟩
/-- the book of the chapter. -/
def celB : Bk := ⟨[100, 5], [45, 20, 0]⟩
theorem cel_los : losR (cellS 22 24) celB 0 = 1 := by
  have h0 : lostB (cellS 22 24) celB 0 0 = false := by unfold lostB; rw [cel_r00]; decide
  have h1 : lostB (cellS 22 24) celB 0 1 = true := by unfold lostB; rw [cel_r10]; decide
  show firstOf (lostB (cellS 22 24) celB 0) 2 = 1
  simp [firstOf, h0, h1]
theorem cel_losD : losD (cellS 22 24) celB = 0 := by
  show firstOf (fun d => decide (0 ≤ losR (cellS 22 24) celB d)) 3 = 0
  simp [firstOf, cel_los]
theorem cel_losE : losE (cellS 22 24) celB = 0 := by
  unfold losE
  rw [if_pos (cel_ck (by decide)), show bookB (cellS 22 24) celB = true from rfl, if_pos rfl, if_pos (truB_iff.2 cel_yes), cel_losD]
  rfl
theorem cel_losV : losV (cellS 22 24) celB = (1, 0) := by
  unfold losV
  rw [if_pos cel_losE, cel_losD]
  show (losR (cellS 22 24) celB 0, _) = _
  rw [cel_los]
theorem cel_no : ¬ Good (cellS 35 40).wo off0 := fun ⟨F, V, G, h⟩ => by
  have h := (cel_good 35 40 _ _ _ off0).1 h
  have := h.w0 rfl; have := h.f1; have := h.g0; have := h.g1; have := h.v10; have := h.v11; omega
theorem cel_out : Good (cellS 35 40).wo (setO off0 0) := ⟨cF 2, cV 1 1 1 0 0 0, cG 40 0, (cel_good 35 40 _ _ _ _).2 ⟨rfl, by decide, by decide, by decide, by decide, by decide, by decide, by decide, by decide, rfl, by decide, fun h => by cases h⟩⟩
theorem cel_l0 : listsL (cellS 35 40) 0 = [] := by
  show (if agrO (cellS 35 40) off0 = true then _ else _) = _
  rw [if_neg (show ¬ agrO (cellS 35 40) off0 = true from fun h => cel_no (truB_iff.1 h))]
theorem cel_l1 : listsL (cellS 35 40) 1 = [[0]] := by
  show (if agrO (cellS 35 40) (setO off0 0) = true then [([0] : List Int)] else _) ++ [] = _
  rw [if_pos (show agrO (cellS 35 40) (setO off0 0) = true from truB_iff.2 cel_out)]
  rfl
theorem cel_few : fewK (cellS 35 40) = 1 := by
  show firstOf (fun k => decide (0 < (listsL (cellS 35 40) k).length)) 2 = 1
  simp [firstOf, cel_l0, cel_l1]
theorem cel_fwE : fwE (cellS 35 40) = 0 := by
  unfold fwE
  rw [if_pos (cel_ck (by decide)), cel_few]
  rfl
theorem cel_fwL : fwL (cellS 35 40) = [0] := by
  unfold fwL
  rw [if_pos cel_fwE, cel_few]
  show (listsL (cellS 35 40) 1).headD [] = _
  rw [cel_l1]
  rfl
/-- the team. -/
theorem shf_ok : TmOk shiftT := ckTm_iff.1 rfl
theorem shf_h : hoursV shiftT = ⟨4, 3, 0⟩ := rfl
theorem shf_few : fewT shiftT = 2 := by
  refine (fewT_is shiftT).uniq ?_
  rw [shf_h]
  refine .inl ⟨by omega, ⟨⟨4, 1, 0⟩, ⟨fun i hi => ?_, by decide⟩, ⟨0, 2, 0⟩, ⟨fun i hi => ?_, by decide⟩, rfl⟩, fun k hk => ?_⟩
  · match i, hi with
    | 0, _ => decide
    | 1, _ => decide
    | 2, _ => decide
  · match i, hi with
    | 0, _ => decide
    | 1, _ => decide
    | 2, _ => decide
  · match k, hk with
    | 0, _ => intro h; exact absurd (show (⟨4, 3, 0⟩ : V3) = z3 from h) (by decide)
    | 1, _ =>
      rintro ⟨d, hd, hz⟩
      have e : (⟨4, 3, 0⟩ : V3).sub d = z3 := hz
      have e1 : (4 : Int) - d.a = 0 := congrArg V3.a e
      have e2 : (3 : Int) - d.b = 0 := congrArg V3.b e
      have e3 : (0 : Int) - d.c = 0 := congrArg V3.c e
      have hd' : d = ⟨4, 3, 0⟩ := by
        obtain ⟨a, b, c⟩ := d
        simp only at e1 e2 e3
        rw [show a = 4 by omega, show b = 3 by omega, show c = 0 by omega]
      have := hd.may
      rw [hd'] at this
      exact absurd this (by decide)
theorem shf_roE : roE shiftT = 0 := by
  unfold roE
  rw [if_pos (ckTm_iff.2 shf_ok), shf_few]
  rfl
theorem getD_l {α : Type} {l m : List α} {k : Nat} (z : α) (h : k < l.length) : (l ++ m).getD k z = l.getD k z := by
  rw [List.getD_eq_getElem?_getD, List.getElem?_append_left h, List.getD_eq_getElem?_getD]
theorem getD_r {α : Type} (l : List α) (x z : α) : (l ++ [x]).getD l.length z = x := by
  rw [List.getD_eq_getElem?_getD, List.getElem?_append_right (Nat.le_refl _), Nat.sub_self]
  rfl
theorem chain_at {t : Tm} {Ls : List V3} {l m : V3} (h : Chain t Ls l m) (hl : HrOk t l) : HrOk t m ∧ (∀ k, k < Ls.length → ∃ u, HrOk t u ∧ Part t (Ls.getD k z3) u) ∧ ∀ i, i < 3 → m.get i = l.get i - esum (fun k => (Ls.getD k z3).get i) (List.range Ls.length) := by
  induction h with
  | nil => exact ⟨hl, fun k hk => absurd hk (by simp), fun i hi => by simp [esum]⟩
  | snoc hc hp hz ih =>
    rename_i ds l m d
    obtain ⟨hm, hpart, hsum⟩ := ih hl
    refine ⟨(hp.hr hm).2, fun k hk => ?_, fun i hi => ?_⟩
    · rw [List.length_append] at hk
      by_cases h : k < ds.length
      · rw [getD_l _ h]; exact hpart k h
      · obtain rfl : k = ds.length := by simp at hk; omega
        refine ⟨m, hm, ?_⟩
        rw [getD_r]
        exact hp
    · rw [V3.sub_get, hsum i hi, List.length_append, show ds.length + [d].length = ds.length + 1 from rfl, List.range_succ, esum_app]
      have e1 : esum (fun k => ((ds ++ [d]).getD k z3).get i) (List.range ds.length) = esum (fun k => (ds.getD k z3).get i) (List.range ds.length) := esum_congr fun k hk => by
        rw [getD_l _ (List.mem_range.1 hk)]
      rw [e1]
      show _ = _ - (_ + (((ds ++ [d]).getD ds.length z3).get i + 0))
      rw [getD_r]
      omega
theorem hrsL_get (v : V3) {n i : Nat} (hn : n ≤ 3) (hi : i < n) : gI (hrsL v n) i = v.get i := by
  rw [hrsL_eq _ hn]
  unfold gI
  rw [List.getD_eq_getElem?_getD, List.getElem?_map, List.getElem?_range hi]
  rfl
theorem hrsL_len (v : V3) {n : Nat} (hn : n ≤ 3) : (hrsL v n).length = n := by rw [hrsL_eq _ hn]; simp
/-- the rows of a roster. -/
def rosL (t : Tm) (Ls : List V3) : List (List Int) := Ls.map fun v => hrsL v t.rates.length
theorem rosL_at (t : Tm) {Ls : List V3} {k : Nat} (hk : k < Ls.length) : gL (rosL t Ls) k = hrsL (Ls.getD k z3) t.rates.length := by
  unfold gL rosL
  rw [List.getD_eq_getElem?_getD, List.getElem?_map, List.getD_eq_getElem?_getD, List.getElem?_eq_getElem hk]
  rfl
theorem layV_hrs {t : Tm} (v : V3) (hn : t.rates.length ≤ 3) (hf : ∀ i, t.rates.length ≤ i → v.get i = 0) : layV (hrsL v t.rates.length) t.rates.length = v := V3.ext' fun i hi => by
  rw [layV_get _ _ hi]
  split
  · rename_i h; exact hrsL_get v hn h
  · rename_i h; rw [hf i (by omega)]
theorem done_chain {t : Tm} {Ls : List V3} (hn : t.rates.length ≤ 3) (hf : ∀ k, k < Ls.length → ∀ i, t.rates.length ≤ i → (Ls.getD k z3).get i = 0) (i : Nat) : ∀ k, k ≤ Ls.length → (doneV t (rosL t Ls) k).get i = esum (fun k => (Ls.getD k z3).get i) (List.range k)
  | 0, _ => by
    match i with
    | 0 => rfl
    | 1 => rfl
    | 2 => rfl
    | _ + 3 => rfl
  | k + 1, hk => by
    rw [doneV_get, done_chain hn hf i k (by omega), rosL_at t (by omega), layV_hrs _ hn (hf k (by omega)), List.range_succ, esum_app]
    show _ = _ + ((Ls.getD k z3).get i + 0)
    omega
theorem chain_prove {t : Tm} {Ls : List V3} {many : Int} (ht : TmOk t) (h : Chain t Ls (hoursV t) z3) (h6 : Ls.length ≤ 6) (hm : (Ls.length : Int) ≤ many) : proveR t (rosL t Ls) many = true := by
  obtain ⟨_, hp, hs⟩ := chain_at h (hoursV_ok ht)
  have hn := ht.len.2.1
  have hl : (rosL t Ls).length = Ls.length := by simp [rosL]
  have hfar : ∀ k, k < Ls.length → ∀ i, t.rates.length ≤ i → (Ls.getD k z3).get i = 0 := fun k hk i hi => by
    obtain ⟨u, hu, hpu⟩ := hp k hk
    exact (hpu.hr hu).1.far i hi
  unfold proveR
  rw [hl]
  simp only [Bool.and_eq_true, decide_eq_true_eq, allTo_iff]
  refine ⟨ckTm_iff.2 ht, hm, h6, fun k hk => ?_, ht.len.2.2.symm, fun i hi => ?_⟩
  · obtain ⟨u, hu, hpu⟩ := hp k hk
    rw [rosL_at t hk]
    unfold rowR
    simp only [Bool.and_eq_true, decide_eq_true_eq, allTo_iff]
    refine ⟨hrsL_len _ hn, fun i hi => ?_, ?_⟩
    · rw [hrsL_len _ hn] at hi
      rw [hrsL_get _ hn hi]
      have hb := hpu.bd i (by omega)
      have hmay := hpu.may
      unfold mayB at hmay
      simp only [Bool.and_eq_true, decide_eq_true_eq] at hmay
      refine inB_iff.2 ⟨hb.1, ?_⟩
      have hle : (Ls.getD k z3).get i ≤ hrsTo (Ls.getD k z3) t.rates.length := esum_mem (g := fun i => (Ls.getD k z3).get i) (fun e he => (hpu.bd e (by have := List.mem_range.1 he; omega)).1) (List.mem_range.2 hi)
      omega
    · rw [layV_hrs _ hn (hfar k hk)]; exact hpu.may
  · rw [done_chain hn hfar i _ (Nat.le_refl _)]
    have := hs i (by omega)
    rw [z3_get] at this
    have e : (hoursV t).get i = gI t.hours i := by
      unfold hoursV; rw [layV_get _ _ (by omega), if_pos hi]
    rw [e] at this
    show esum (fun k => (Ls.getD k z3).get i) (List.range Ls.length) = gI t.hours i
    generalize esum (fun k => (Ls.getD k z3).get i) (List.range Ls.length) = E at *
    omega
end Go.Proofs.Ythihdiilokdidaa
end

section
namespace Go.Proofs.Ythihdiilokdidaa
open Go.RowKit
attribute [local go_sem] Ex.cell? Ex.frozen?

theorem MatIn.lis {W : World} {B : Nat} {A : Option Addr} {t : Tm} {Ls : List V3} {rA : Nat → Option Addr} {rc : Nat → Nat} (hn : t.rates.length ≤ 3) (h : MatIn W B A Ls.length t.rates.length (fun k i => (Ls.getD k z3).get i) rA rc) : LisIn W B A (rosL t Ls) rA rc := by
  have hl : (rosL t Ls).length = Ls.length := by simp [rosL]
  have hr : ∀ k, k < Ls.length → (gL (rosL t Ls) k).length = t.rates.length := fun k hk => by rw [rosL_at t hk, hrsL_len _ hn]
  refine ⟨fun hp => ?_, fun k hk hp => ?_⟩
  · rw [hl] at hp ⊢
    obtain ⟨b, o, e, hb, x⟩ := h.out hp
    exact ⟨b, o, e, hb, fun k j hk hj => by
      rw [x k j hk hj]
      show some (Value.slice (rA k) t.rates.length (rc k)) = some (Value.slice (rA k) (gL (rosL t Ls) k).length (rc k))
      rw [hr k hk]⟩
  · rw [hl] at hk
    rw [hr k hk] at hp ⊢
    obtain ⟨b, o, e, hb, x⟩ := h.row k hk hp
    refine ⟨b, o, e, hb, fun i j hi hj => ?_⟩
    rw [x i j hi hj, rosL_at t hk]
    unfold fI
    rw [hrsL_get _ hn hi]
theorem rosL_len (t : Tm) (Ls : List V3) : (rosL t Ls).length = Ls.length := by simp [rosL]
theorem rosL_rows {t : Tm} {Ls : List V3} (hn : t.rates.length ≤ 3) : ∀ k, k < (rosL t Ls).length → (gL (rosL t Ls) k).length ≤ 1000 := fun k hk => by
  rw [rosL_at t (by rw [← rosL_len t Ls]; exact hk), hrsL_len _ hn]; omega
theorem cel_rg {L : Nat → Rg} {d : Nat} {a b : Int} (h : L d = ⟨a, b⟩) : fRg L d 0 = .int .i64 a ∧ fRg L d 1 = .int .i64 b := ⟨by show Value.int .i64 (L d).lo = _; rw [h], by show Value.int .i64 (L d).hi = _; rw [h]⟩
set_option maxRecDepth 100000 in
set_option maxHeartbeats 6400000 in
theorem awake_any (w : World) :
    Calls Try.prog 17 #[] w fun e w' => e = .returned (.bool true) ∧ Below w.heap.size w w' := by
  go_enter Try.func17, Try.ntmps17
  have B_w := Below.refl w.heap.size w
  go_wp2_with fail
  refine (cellar_any 22 24 w).mono ?_
  rintro e W1 ⟨⟨Ar1, Am1, Aw1, cr1, cm1, cw1, rfl, hs1⟩, hW1⟩
  have B_W1 := ex_trans B_w hW1
  go_wp2_with fail
  refine (Stocks_any (cellS 22 24) Ar1 Am1 Aw1 cr1 cm1 cw1 W1 hs1).mono ?_
  rintro e W2 ⟨⟨n2, As, cs, rAs, rcs, rfl, hv2⟩, hW2⟩
  replace hs1 := hs1.go hW2
  have B_W2 := ex_trans B_W1 hW2
  obtain ⟨hn2, hr⟩ := hv2.yes cel_stE
  have hn2' : n2 = 2 := hn2
  subst hn2'
  clear hn2 hv2 hs1
  rw [cel_stE]
  go_wp2_with fail
  refine (cellar_any 22 24 W2).mono ?_
  rintro e W3 ⟨⟨Ar3, Am3, Aw3, cr3, cm3, cw3, rfl, hs3⟩, hW3⟩
  replace hr := hr.go hW3
  have B_W3 := ex_trans B_W2 hW3
  go_wp2_with fail
  have N_W4 := ex_alloc (Below.refl W3.heap.size W3) (.cells #[.int .i64 100, .int .i64 5] 3)
  have qa : Blk (W3.alloc (.cells #[.int .i64 100, .int .i64 5] 3)) W3.heap.size 3 #[.int .i64 100, .int .i64 5] := Blk.new _ _ _
  replace hr := hr.go N_W4
  replace hs3 := hs3.go N_W4
  have B_W4 := ex_trans B_W3 N_W4
  have N_W5 := ex_alloc (Below.refl (W3.alloc (.cells #[.int .i64 100, .int .i64 5] 3)).heap.size (W3.alloc (.cells #[.int .i64 100, .int .i64 5] 3))) (.cells #[.int .i64 45, .int .i64 20, .int .i64 0] 3)
  have qb : Blk ((W3.alloc (.cells #[.int .i64 100, .int .i64 5] 3)).alloc (.cells #[.int .i64 45, .int .i64 20, .int .i64 0] 3)) (W3.alloc (.cells #[.int .i64 100, .int .i64 5] 3)).heap.size 3 #[.int .i64 45, .int .i64 20, .int .i64 0] := Blk.new _ _ _
  obtain ⟨pa, hpa⟩ : ∃ p, W3.heap.size = p := ⟨_, rfl⟩
  have hsz : (W3.alloc (.cells #[.int .i64 100, .int .i64 5] 3)).heap.size = pa + 1 := by simp [hpa]
  rw [hpa] at qa
  rw [hsz] at qb
  replace hr := hr.go N_W5
  replace hs3 := hs3.go N_W5
  replace qa := qa.below N_W5 qa.lt
  have B_W5 := ex_trans B_W4 N_W5
  try rw [hpa]
  clear hpa hsz
  generalize ((W3.alloc (.cells #[.int .i64 100, .int .i64 5] 3)).alloc (.cells #[.int .i64 45, .int .i64 20, .int .i64 0] 3)) = W5 at *
  have sa := blk_sl (sz := 1) (n := 2) (f := fI [100, 5]) qa (fun k j hk hj => by
    obtain rfl : j = 0 := by omega
    match k, hk with
    | 0, _ => rfl
    | 1, _ => rfl)
  have sb := blk_sl (sz := 1) (n := 3) (f := fI [45, 20, 0]) qb (fun k j hk hj => by
    obtain rfl : j = 0 := by omega
    match k, hk with
    | 0, _ => rfl
    | 1, _ => rfl
    | 2, _ => rfl)
  clear qa qb
  refine (Lost_any (cellS 22 24) Ar3 Am3 Aw3 cr3 cm3 cw3 W5 hs3 celB (some ⟨pa, 0, none⟩) (some ⟨pa + 1, 0, none⟩) 2 3 sa sb ⟨by show 2 ≤ _; omega, by show 3 ≤ _; omega⟩ ⟨by show 2 ≤ _; omega, by show 3 ≤ _; omega⟩).mono ?_
  rintro e W6 ⟨rfl, hW6⟩
  replace hr := hr.go hW6
  replace hs3 := hs3.go hW6
  have B_W6 := ex_trans B_W5 hW6
  rw [cel_losV, cel_losE]
  clear sa sb hs3
  go_wp2_with fail
  refine (cellar_any 35 40 W6).mono ?_
  rintro e W7 ⟨⟨Ar7, Am7, Aw7, cr7, cm7, cw7, rfl, hs7⟩, hW7⟩
  replace hr := hr.go hW7
  have B_W7 := ex_trans B_W6 hW7
  go_wp2_with fail
  refine (Fewest_any (cellS 35 40) Ar7 Am7 Aw7 cr7 cm7 cw7 W7 hs7).mono ?_
  rintro e W8 ⟨⟨Af, cf, rfl, slf⟩, hW8⟩
  replace hr := hr.go hW8
  replace hs7 := hs7.go hW8
  have B_W8 := ex_trans B_W7 hW8
  clear hs7
  rw [cel_fwL] at slf ⊢
  rw [cel_fwE]
  replace slf : SlAt W8 W8.heap.size 1 Af 1 (fI [0]) := slf
  skip
  go_wp2_with fail
  refine (shift_any W8).mono ?_
  rintro e W9 ⟨⟨Ah9, Ak9, ch9, ck9, rfl, ht9⟩, hW9⟩
  replace hr := hr.go hW9
  replace slf := (slf.below hW9).up hW9.size
  have B_W9 := ex_trans B_W8 hW9
  go_wp2_with fail
  refine (Roster_any shiftT Ah9 Ak9 ch9 ck9 W9 ht9 ⟨by show 2 ≤ _; omega, by show 2 ≤ _; omega⟩).mono ?_
  rintro e W10 ⟨⟨⟨Ax, nx, cx, rfl, hyes, _⟩⟩, hW10⟩
  replace hr := hr.go hW10
  replace slf := (slf.below hW10).up hW10.size
  replace ht9 := ht9.go hW10
  have B_W10 := ex_trans B_W9 hW10
  obtain ⟨Ls, rAx, rcx, hn, hn2, hch, hmat⟩ := hyes shf_roE
  rw [shf_few] at hn2
  subst hn2
  have HLs := Lib.hid hn
  rw [shf_roE]
  rw [HLs.out] at hmat
  have hlis := MatIn.lis (by show 2 ≤ _; omega) hmat
  have HCH := Lib.hid hch
  clear hyes hn hmat hch ht9
  go_wp2_with fail
  obtain ⟨b, o, rfl, hb, xo⟩ := hr.out (by show 0 < 2; omega)
  obtain ⟨b0, o0, e0, hb0, x0⟩ := hr.row 0 (by show 0 < 2; omega) (by show 0 < 3; omega)
  obtain ⟨b1, o1, e1, hb1, x1⟩ := hr.row 1 (by show 1 < 2; omega) (by show 0 < 3; omega)
  have y0 : W10.cell? ⟨b, o, none⟩ = some (.slice (some ⟨b0, o0, none⟩) 3 (rcs 0)) := (xo 0 0 (by show 0 < 2; omega) (by omega)).trans (by show some (Value.slice (rAs 0) 3 (rcs 0)) = _; rw [e0])
  have y1 : W10.cell? ⟨b, o + 1, none⟩ = some (.slice (some ⟨b1, o1, none⟩) 3 (rcs 1)) := (xo 1 0 (by show 1 < 2; omega) (by omega)).trans (by show some (Value.slice (rAs 1) 3 (rcs 1)) = _; rw [e1])
  have z000 : W10.cell? ⟨b0, o0, none⟩ = some (.int .i64 53) := by have := x0 0 0 (by show 0 < 3; omega) (by omega); rw [(cel_rg cel_r00).1] at this; exact this
  have z001 : W10.cell? ⟨b0, o0 + 1, none⟩ = some (.int .i64 59) := by have := x0 0 1 (by show 0 < 3; omega) (by omega); rw [(cel_rg cel_r00).2] at this; exact this
  have z020 : W10.cell? ⟨b0, o0 + 4, none⟩ = some (.int .i64 39) := by have := x0 2 0 (by show 2 < 3; omega) (by omega); rw [(cel_rg cel_r02).1] at this; exact this
  have z021 : W10.cell? ⟨b0, o0 + 5, none⟩ = some (.int .i64 57) := by have := x0 2 1 (by show 2 < 3; omega) (by omega); rw [(cel_rg cel_r02).2] at this; exact this
  have z100 : W10.cell? ⟨b1, o1, none⟩ = some (.int .i64 42) := by have := x1 0 0 (by show 0 < 3; omega) (by omega); rw [(cel_rg cel_r10).1] at this; exact this
  have z101 : W10.cell? ⟨b1, o1 + 1, none⟩ = some (.int .i64 45) := by have := x1 0 1 (by show 0 < 3; omega) (by omega); rw [(cel_rg cel_r10).2] at this; exact this
  have z120 : W10.cell? ⟨b1, o1 + 4, none⟩ = some (.int .i64 21) := by have := x1 2 0 (by show 2 < 3; omega) (by omega); rw [(cel_rg cel_r12).1] at this; exact this
  have z121 : W10.cell? ⟨b1, o1 + 5, none⟩ = some (.int .i64 34) := by have := x1 2 1 (by show 2 < 3; omega) (by omega); rw [(cel_rg cel_r12).2] at this; exact this
  clear hr xo x0 x1 e0 e1
  simp only [List.append_eq, List.cons_append, List.nil_append]
  refine wp_region_ext_tqF 92 (.quiet 0 (.quiet 1 (.quiet 2 (.quiet 3 (.quiet 4 (.quiet 5 (.quiet 6 (.quiet 7 (.quiet 8 (.quiet 9 (.quiet 10 (.quiet 11 (.quiet 12 (.quiet 13 (.quiet 14 (.quiet 15 (.quiet 16 (.quiet 17 (.quiet 18 (.quiet 19 (.quiet 20 (.quiet 21 (.quiet 22 (.quiet 23 (.quiet 24 (.quiet 25 (.quiet 26 (.loud 27 (.quiet 28 (.quiet 29 (.quiet 30 (.quiet 31 (.quiet 32 (.quiet 33 (.quiet 34 (.quiet 35 (.loud 36 (.quiet 37 (.quiet 38 (.quiet 39 (.quiet 40 (.quiet 41 (.quiet 42 (.quiet 43 (.quiet 44 (.loud 45 (.quiet 46 (.quiet 47 (.quiet 48 (.quiet 49 (.quiet 50 (.quiet 51 (.quiet 52 (.quiet 53 (.loud 54 (.quiet 55 (.quiet 56 (.quiet 57 (.quiet 58 (.quiet 59 (.quiet 60 (.quiet 61 (.quiet 62 (.quiet 63 (.quiet 64 (.quiet 65 (.quiet 66 (.quiet 67 (.quiet 68 (.quiet 69 (.quiet 70 (.quiet 71 (.quiet 72 (.quiet 73 (.quiet 74 (.loud 75 (.loud 76 (.quiet 77 (.quiet 78 (.quiet 79 (.quiet 80 (.quiet 81 (.quiet 82 (.quiet 83 (.quiet 84 (.quiet 85 (.quiet 86 (.quiet 87 (.quiet 89 (.loud 88 (.loud 90 (.quiet 91 .done)))))))))))))))))))))))))))))))))))))))))))))))))))))))))))))))))))))))))))))))))))))))))))) (by kernel_rfl) (by kernel_rfl) (by intro d _ _ _ _ h; cases d <;> exact h) ?_
  have D0 := (Below.refl W10.heap.size W10).drew
  repeat (refine tq_quiet rfl ?_; go_big_quiet_step (fail); refine wpQuiet_nil ?_)
  obtain ⟨Y, hY⟩ : ∃ Y, W10.drew = Y := ⟨_, rfl⟩
  rw [hY] at D0 ⊢
  clear hY
  replace slf := (slf.below D0).up D0.size
  replace hlis := hlis.go D0
  have B_Y := ex_trans B_W10 D0
  refine tq_loud rfl ?_
  go_wp2_with fail
  refine (between_any 53 59 Y).mono ?_
  rintro e Y0 ⟨rfl, hY0⟩
  replace slf := (slf.below hY0).up hY0.size
  replace hlis := hlis.go hY0
  have B_Y0 := ex_trans B_Y hY0
  have X_Y0 := ex_trans D0 hY0
  go_wp2_with fail
  refine ⟨inEx X_Y0, ?_⟩
  repeat (refine tq_quiet rfl ?_; go_big_quiet_step (fail); refine wpQuiet_nil ?_)
  refine tq_loud rfl ?_
  go_wp2_with fail
  refine (between_any 39 57 Y0).mono ?_
  rintro e Y1 ⟨rfl, hY1⟩
  replace slf := (slf.below hY1).up hY1.size
  replace hlis := hlis.go hY1
  have B_Y1 := ex_trans B_Y0 hY1
  have X_Y1 := ex_trans X_Y0 hY1
  go_wp2_with fail
  refine ⟨inEx X_Y1, ?_⟩
  repeat (refine tq_quiet rfl ?_; go_big_quiet_step (fail); refine wpQuiet_nil ?_)
  refine tq_loud rfl ?_
  go_wp2_with fail
  refine (between_any 42 45 Y1).mono ?_
  rintro e Y2 ⟨rfl, hY2⟩
  replace slf := (slf.below hY2).up hY2.size
  replace hlis := hlis.go hY2
  have B_Y2 := ex_trans B_Y1 hY2
  have X_Y2 := ex_trans X_Y1 hY2
  go_wp2_with fail
  refine ⟨inEx X_Y2, ?_⟩
  repeat (refine tq_quiet rfl ?_; go_big_quiet_step (fail); refine wpQuiet_nil ?_)
  refine tq_loud rfl ?_
  go_wp2_with fail
  refine (between_any 21 34 Y2).mono ?_
  rintro e Y3 ⟨rfl, hY3⟩
  replace slf := (slf.below hY3).up hY3.size
  replace hlis := hlis.go hY3
  have B_Y3 := ex_trans B_Y2 hY3
  have X_Y3 := ex_trans X_Y2 hY3
  go_wp2_with fail
  refine ⟨inEx X_Y3, ?_⟩
  repeat (refine tq_quiet rfl ?_; go_big_quiet_step (fail); refine wpQuiet_nil ?_)
  refine tq_loud rfl ?_
  go_wp2_with fail
  have N_Y5 := ex_alloc (Below.refl Y3.heap.size Y3) (.cells #[.int .i64 0] 3)
  have q0 : Blk (Y3.alloc (.cells #[.int .i64 0] 3)) Y3.heap.size 3 #[.int .i64 0] := Blk.new _ _ _
  replace slf := (slf.below N_Y5).up N_Y5.size
  replace hlis := hlis.go N_Y5
  have B_Y5 := ex_trans B_Y3 N_Y5
  have X_Y5 := ex_trans X_Y3 N_Y5
  clear N_Y5
  generalize Y3.alloc (.cells #[.int .i64 0] 3) = Y5 at *
  refine ⟨inEx X_Y5, ?_⟩
  repeat (refine tq_quiet rfl ?_; go_big_quiet_step (fail); refine wpQuiet_nil ?_)
  obtain ⟨pz, hpz⟩ : ∃ p, Y3.heap.size = p := ⟨_, rfl⟩
  rw [hpz] at q0 ⊢
  clear hpz
  have s0 := blk_sl (sz := 1) (n := 1) (f := fI [0]) q0 (fun k j hk hj => by
    obtain rfl : j = 0 := by omega
    match k, hk with
    | 0, _ => rfl)
  refine tq_loud rfl ?_
  go_wp2_with fail
  refine (ints_eq Af (some ⟨pz, 0, none⟩) cf 1 1 1 (gI [0]) (gI [0]) Y5 slf s0 (by omega) (by omega)).mono ?_
  rintro e Y6 ⟨rfl, hY6⟩
  replace slf := (slf.below hY6).up hY6.size
  replace hlis := hlis.go hY6
  replace q0 := q0.below hY6 q0.lt
  have B_Y6 := ex_trans B_Y5 hY6
  have X_Y6 := ex_trans X_Y5 hY6
  clear s0 q0 slf
  rw [show (decide (1 = 1) && allTo (fun i => decide (gI [0] i = gI [0] i)) 1) = true from rfl]
  go_wp2_with fail
  refine ⟨inEx X_Y6, ?_⟩
  repeat (refine tq_quiet rfl ?_; go_big_quiet_step (fail); refine wpQuiet_nil ?_)
  refine tq_loud rfl ?_
  go_wp2_with fail
  refine (shift_any Y6).mono ?_
  rintro e Y7 ⟨⟨Ah7, Ak7, ch7, ck7, rfl, ht7⟩, hY7⟩
  replace hlis := hlis.go hY7
  have B_Y7 := ex_trans B_Y6 hY7
  have X_Y7 := ex_trans X_Y6 hY7
  go_wp2_with fail
  refine ⟨inEx X_Y7, ?_⟩
  repeat (refine tq_quiet rfl ?_; go_big_quiet_step (fail); refine wpQuiet_nil ?_)
  have hpr := ProveR_any shiftT Ah7 Ak7 ch7 ck7 Y7 ht7 ⟨by show 2 ≤ _; omega, by show 2 ≤ _; omega⟩ (rosL shiftT Ls) Ax cx rAx rcx hlis ⟨by rw [rosL_len, ← HLs.out]; omega, rosL_rows (by show 2 ≤ _; omega)⟩ 2
  rw [rosL_len, ← HLs.out, chain_prove shf_ok HCH.out (by rw [← HLs.out]; omega) (by rw [← HLs.out]; omega)] at hpr
  refine tq_loud rfl ?_
  go_wp2_with fail
  refine hpr.mono ?_
  rintro e Y8 ⟨rfl, hY8⟩
  have B_Y8 := ex_trans B_Y7 hY8
  have X_Y8 := ex_trans X_Y7 hY8
  go_wp2_with fail
  refine ⟨inEx X_Y8, ?_⟩
  repeat (refine tq_quiet rfl ?_; go_big_quiet_step (fail); refine wpQuiet_nil ?_)
  refine tq_done (r := [_]) rfl ?_
  go_wp2
  go_ret
  exact ⟨rfl, B_Y8⟩
end Go.Proofs.Ythihdiilokdidaa
end

section
namespace Go.Proofs.Ythihdiilokdidaa
open Go.RowKit
attribute [local go_sem] Ex.cell? Ex.frozen? Gx.cell?

theorem take_push {α : Type} {l L : List α} {k : Nat} (hk : k < l.length) (h : L = l.take k) {x : α} (hx : l[k] = x) : L ++ [x] = l.take (k + 1) := by
  rw [List.take_succ_eq_append_getElem hk, h, hx]
theorem IOwn.lis {W : World} {B : Nat} {v : Value} {X : List IRow} {L : List (List Int)} (h : IOwn W B v X) (hX : X.map (fun x => x.2.2) = L) : ∃ A c rA rc, v = .slice A L.length c ∧ LisIn W W.heap.size A L rA rc := by
  have hl : X.length = L.length := by have := congrArg List.length hX; simpa using this
  have hx : ∀ (k : Nat) (hk : k < X.length), (X[k]).2.2 = gL L k := fun k hk => by
    subst hX
    simp [gL, hk]
  obtain ⟨A, c, e, _, _, hr⟩ := own_row (c := cIR) (sz := 1) (fun _ => rfl) (f := fun k _ => .slice (X.getD k default).1 (gL L k).length (X.getD k default).2.1) (fun k hk j hj => by
      have hj0 : j = 0 := by omega
      subst hj0
      have hlen := hx k hk
      simp [cIR, hk, ← hlen]) h.own
  refine ⟨A, c, fun k => (X.getD k default).1, fun k => (X.getD k default).2.1, by rw [e, hl], ?_, fun k hk => ?_⟩
  · have := hr.sl
    rw [hl] at this
    exact this
  · have hkX : k < X.length := by omega
    have h1 := (NOwn.ins h X[k] (List.getElem_mem hkX)).sl
    have e1 := hx k hkX
    have e2 : X.getD k default = X[k] := by simp [hkX]
    show SlAt W W.heap.size 1 (X.getD k default).1 (gL L k).length (fI (gL L k))
    change SlAt W W.heap.size 1 (X[k]).1 (X[k]).2.2.length (fI (X[k]).2.2) at h1
    rw [e2]
    rw [e1] at h1
    exact h1
set_option maxRecDepth 100000 in
set_option maxHeartbeats 1600000 in
theorem list_any (A : Option Addr) (c : Nat) (l : List Int) (w : World) (hl : l.length ≤ 1000000) (hA : SlAt w w.heap.size 1 A l.length (fI l)) :
    Calls Try.prog 69 #[.slice A l.length c] w fun e w' => (∃ A' c', e = .returned (.slice A' l.length c') ∧ RowAt w' w.heap.size 3 1 A' l.length (fI l)) ∧ Below w.heap.size w w' := by
  obtain ⟨i0, hi0, hz0, hz1, hz2⟩ := info_parts int_info
  have HI := Lib.hid hi0
  clear hi0
  have hb1 := ex_alloc (Below.refl w.heap.size w) (.cells #[] 3)
  have hA2 := (hA.below hb1).up hb1.size
  go_enter Try.func69, Try.ntmps69
  go_wp2_with (refine pause_at 4 rfl ?_)
  refine Paused.mk ?_
  refine wpList_append_list (α := Int) (f := cI1) (F := fI) (sz := 1) (fun _ => rfl) (fun l k hk j hj => by have hj0 : j = 0 := (by omega); subst hj0; simp [cI1, fI, gI, hk]) (fun a u hu => by simp [cI1] at hu; subst hu; rfl) rfl _ _ _ rfl w.heap.size 3 i0 _ 8 Try.underlying28 HI.out hz0 hz1 hz2 rfl (by omega) none 0 [] rfl ⟨rfl, .inl ⟨rfl, rfl⟩⟩ A c l rfl hA (by simp; unfold maxLen; omega) (by simp; omega) (by simp) w.heap.size (by simp) ?_
  intro L1 B1' k1' v1 HL1 o1 g1 n1
  have hL : L1 = l := HL1.out
  clear HL1
  subst hL
  go_wp2
  go_ret
  obtain ⟨A2, k2, e2, _, _, hr⟩ := lay_ints o1
  injection e2 with e1 _ e3
  subst e1
  exact ⟨⟨_, _, rfl, hr⟩, (Below.refl w.heap.size w).grown g1 (Nat.le_refl _) (fun j hj => by cases hj)⟩
set_option maxRecDepth 100000 in
set_option maxHeartbeats 1600000 in
theorem Book_any (b : Bk) (Af Ag : Option Addr) (cf cg : Nat) (w : World) (hsm : b.fs.length ≤ 1000 ∧ b.gs.length ≤ 1000) (h : SlAt w w.heap.size 1 Af b.fs.length (fI b.fs) ∧ SlAt w w.heap.size 1 Ag b.gs.length (fI b.gs)) :
    Calls Try.prog 44 #[.agg #[.slice Af b.fs.length cf, .slice Ag b.gs.length cg]] w fun e w' => (∃ A1 A2 c1 c2, e = .returned (.agg #[.slice A1 b.fs.length c1, .slice A2 b.gs.length c2]) ∧ SlAt w' w'.heap.size 1 A1 b.fs.length (fI b.fs) ∧ SlAt w' w'.heap.size 1 A2 b.gs.length (fI b.gs)) ∧ Below w.heap.size w w' := by
  have hb1 := ex_alloc (ex_alloc (Below.refl w.heap.size w) (.cells #[.slice Af b.fs.length cf, .slice Ag b.gs.length cg] 96)) (.cells #[.slice none 0 0, .slice none 0 0] 99)
  have q0 : Blk ((w.alloc (.cells #[.slice Af b.fs.length cf, .slice Ag b.gs.length cg] 96)).alloc (.cells #[.slice none 0 0, .slice none 0 0] 99)) w.heap.size 96 #[.slice Af b.fs.length cf, .slice Ag b.gs.length cg] := (Blk.new _ _ _).alloc _
  have q1 : Blk ((w.alloc (.cells #[.slice Af b.fs.length cf, .slice Ag b.gs.length cg] 96)).alloc (.cells #[.slice none 0 0, .slice none 0 0] 99)) (w.heap.size + 1) 99 #[.slice none 0 0, .slice none 0 0] := Blk.new' _ _ _ (by simp)
  go_enter Try.func44, Try.ntmps44
  go_upto_region 1 with fail
  show Code.wp _ _ _ _ ((w.alloc (.cells #[.slice Af b.fs.length cf, .slice Ag b.gs.length cg] 96)).alloc (.cells #[.slice none 0 0, .slice none 0 0] 99))
  generalize (w.alloc (.cells #[.slice Af b.fs.length cf, .slice Ag b.gs.length cg] 96)).alloc (.cells #[.slice none 0 0, .slice none 0 0] 99) = V at *
  have a0 : V.cell? ⟨w.heap.size, 0, none⟩ = some (.slice Af b.fs.length cf) := q0.cell 0
  have a1 : V.cell? ⟨w.heap.size, 1, none⟩ = some (.slice Ag b.gs.length cg) := q0.cell 1
  have l0 := q0.lt
  have l1 := q1.lt
  have h0 := (h.1.below hb1).up hb1.size
  have h1 := (h.2.below hb1).up hb1.size
  refine wp_region_ext_mix 7 [(false, 0), (false, 1), (false, 3), (false, 4), (true, 2), (true, 5), (false, 6)] (by kernel_rfl) (by kernel_rfl) (by intro d _ _ _ _ h; cases d <;> exact h) ?_
  have D_V := (Below.refl V.heap.size V).drew
  repeat (refine mix_quiet rfl ?_; go_big_quiet_step (fail); refine wpQuiet_nil ?_)
  obtain ⟨Y, hY⟩ : ∃ Y, V.drew = Y := ⟨_, rfl⟩
  rw [hY] at D_V ⊢
  clear hY
  replace q1 := q1.below D_V q1.lt
  have B_Y := ex_trans hb1 D_V
  have hszY := B_Y.size
  have hszV : w.heap.size + 1 < Y.heap.size := q1.lt
  replace h0 := (h0.below D_V).up D_V.size
  replace h1 := (h1.below D_V).up D_V.size
  refine mix_loud rfl ?_
  go_wp2_with fail
  refine (list_any Af cf b.fs Y (by omega) h0).mono ?_
  rintro e Y1 ⟨⟨A1, c1, rfl, r1⟩, hY1⟩
  replace q1 := q1.below hY1 q1.lt
  replace h0 := (h0.below hY1).up hY1.size
  replace h1 := (h1.below hY1).up hY1.size
  have B_Y1 := ex_trans B_Y hY1
  have X_Y1 := ex_trans D_V hY1
  have hsz_r1 := hszV
  go_wp2_with fail
  refine ⟨inEx X_Y1, ?_⟩
  repeat (refine mix_quiet rfl ?_; go_big_quiet_step (fail); refine wpQuiet_nil ?_)
  refine mix_loud rfl ?_
  go_wp2_with fail
  refine (list_any Ag cg b.gs Y1 (by omega) h1).mono ?_
  rintro e Y2 ⟨⟨A2, c2, rfl, r2⟩, hY2⟩
  replace q1 := q1.below hY2 q1.lt
  replace h0 := (h0.below hY2).up hY2.size
  replace h1 := (h1.below hY2).up hY2.size
  replace r1 := r1.below hY2
  have B_Y2 := ex_trans B_Y1 hY2
  have X_Y2 := ex_trans X_Y1 hY2
  have hsz_r2 : w.heap.size + 1 < Y1.heap.size := by have := hY1.size; omega
  go_wp2_with fail
  refine ⟨inEx X_Y2, ?_⟩
  repeat (refine mix_quiet rfl ?_; go_big_quiet_step (fail); refine wpQuiet_nil ?_)
  have z0 : Y2.cell? ⟨w.heap.size + 1, 0, none⟩ = some (.slice none 0 0) := q1.cell 0
  have z1 : Y2.cell? ⟨w.heap.size + 1, 1, none⟩ = some (.slice none 0 0) := q1.cell 1
  have lz := q1.lt
  have fz := q1.frozen0
  have qz := (q1.set_ 0 (.slice A1 b.fs.length c1)).set_ 1 (.slice A2 b.gs.length c2)
  simp only [List.setIfInBounds_toArray, List.set_cons_zero, List.set_cons_succ] at qz
  have frz : Fr (fun b => b = w.heap.size + 1) Y2 ((Y2.setCell ⟨w.heap.size + 1, 0, none⟩ (.slice A1 b.fs.length c1)).setCell ⟨w.heap.size + 1, 1, none⟩ (.slice A2 b.gs.length c2)) := (Fr.set (R := fun b => b = w.heap.size + 1) _ _ _ _ rfl).trans (Fr.set (R := fun b => b = w.heap.size + 1) _ _ _ _ rfl) (fun _ _ h => h)
  have Bz := frz.toBelow B_Y2 B_Y2.size (fun x hx => by omega)
  have z_r1 := r1.fr frz (fun g hg _ e => by have := hsz_r1; omega)
  have z_r2 := r2.fr frz (fun g hg _ e => by have := hsz_r2; omega)
  refine mix_nil (r := [_]) rfl ?_
  go_wp2_with fail
  refine bodyPost_ret (results_cell_row rfl _ _ (w.heap.size + 1) 99 _ (0, 0) _ rfl qz rfl rfl rfl) rfl ?_
  exact ⟨⟨_, _, _, _, rfl, z_r1.sl, z_r2.sl⟩, Bz⟩
/-- a truth that is told. -/
structure TtV (t : Tt) (w' : World) (e : Ending) : Prop where
  out : ∃ A1 A2 A3 c1 c2 c3 rA rc, e = .returned (.agg #[.slice A1 t.fs.length c1, .slice A2 t.vs.length c2, .slice A3 t.gs.length c3]) ∧ TtIn w' w'.heap.size t A1 A2 A3 rA rc
end Go.Proofs.Ythihdiilokdidaa
end

section
namespace Go.Proofs.Ythihdiilokdidaa
open Go.RowKit
attribute [local go_sem] Ex.cell? Ex.frozen? Gx.cell?

theorem RowAt.set {W : World} {B sz n : Nat} {T T' : TypeId} {A : Option Addr} {f : Nat → Nat → Value} (h : RowAt W B T sz A n f) {b : Nat} {cs : Array Value} (hq : Blk W b T' cs) (ht : T ≠ T') (i : Nat) (u : Value) : RowAt (W.setCell ⟨b, i, none⟩ u) B T sz A n f := by
  rcases h with h3 | ⟨g, cur, e, k1, k2, k3⟩
  · exact .inl h3
  · exact .inr ⟨g, cur, e, k1, k2.fr (Fr.set (R := fun x => x = b) W b i u rfl) (blk_ne k2 hq ht), k3⟩
theorem room_info : (Try.prog.info? 126).map (fun i => (i.zero, i.size, i.bytes)) = some (some (.agg #[.int .i64 0, .int .i64 0, .int .i64 0, .int .i64 0]), 4, 32) := by kernel_rfl
theorem move_info : (Try.prog.info? 122).map (fun i => (i.zero, i.size, i.bytes)) = some (some (.agg #[.int .i64 0, .int .i64 0, .int .i64 0, .int .i64 0, .int .i64 0]), 5, 40) := by kernel_rfl
theorem wg_info : (Try.prog.info? 128).map (fun i => (i.zero, i.size, i.bytes)) = some (some (.agg #[.int .i64 0, .int .i64 0, .int .i64 0, .int .i64 0]), 4, 32) := by kernel_rfl
theorem gRm_at {l : List Rm} {k : Nat} (hk : k < l.length) : gRm l k = l[k] := by simp [gRm, hk]
theorem gMv_at {l : List Mv} {k : Nat} (hk : k < l.length) : gMv l k = l[k] := by simp [gMv, hk]
theorem gWg_at {l : List Wg} {k : Nat} (hk : k < l.length) : gWg l k = l[k] := by simp [gWg, hk]
def cRm (r : Rm) : List Value := [.int .i64 r.fst.lo, .int .i64 r.fst.hi, .int .i64 r.vap.lo, .int .i64 r.vap.hi]
def cMv (m : Mv) : List Value := [.int .i64 m.day, .int .i64 m.src, .int .i64 m.dst, .int .i64 m.g.lo, .int .i64 m.g.hi]
def cWg (x : Wg) : List Value := [.int .i64 x.room, .int .i64 x.day, .int .i64 x.g.lo, .int .i64 x.g.hi]
theorem lay_Rm {W : World} {B : Nat} {v : Value} {l : List Rm} (T : TypeId) (h : W.ownsRow B T 4 v l.length (l.flatMap cRm)) : ∃ A k, v = .slice A l.length k ∧ l.length ≤ k ∧ k ≤ maxLen ∧ RowAt W B T 4 A l.length (fRm l) :=
  own_row (c := cRm) (sz := 4) (fun _ => rfl) (fun k hk j hj => by
    have hg := gRm_at hk
    match j, hj with
    | 0, _ => simp [cRm, fRm, hg]
    | 1, _ => simp [cRm, fRm, hg]
    | 2, _ => simp [cRm, fRm, hg]
    | 3, _ => simp [cRm, fRm, hg]) h
theorem lay_Mv {W : World} {B : Nat} {v : Value} {l : List Mv} (T : TypeId) (h : W.ownsRow B T 5 v l.length (l.flatMap cMv)) : ∃ A k, v = .slice A l.length k ∧ l.length ≤ k ∧ k ≤ maxLen ∧ RowAt W B T 5 A l.length (fMv l) :=
  own_row (c := cMv) (sz := 5) (fun _ => rfl) (fun k hk j hj => by
    have hg := gMv_at hk
    match j, hj with
    | 0, _ => simp [cMv, fMv, hg]
    | 1, _ => simp [cMv, fMv, hg]
    | 2, _ => simp [cMv, fMv, hg]
    | 3, _ => simp [cMv, fMv, hg]
    | 4, _ => simp [cMv, fMv, hg]) h
theorem lay_Wg {W : World} {B : Nat} {v : Value} {l : List Wg} (T : TypeId) (h : W.ownsRow B T 4 v l.length (l.flatMap cWg)) : ∃ A k, v = .slice A l.length k ∧ l.length ≤ k ∧ k ≤ maxLen ∧ RowAt W B T 4 A l.length (fWg l) :=
  own_row (c := cWg) (sz := 4) (fun _ => rfl) (fun k hk j hj => by
    have hg := gWg_at hk
    match j, hj with
    | 0, _ => simp [cWg, fWg, hg]
    | 1, _ => simp [cWg, fWg, hg]
    | 2, _ => simp [cWg, fWg, hg]
    | 3, _ => simp [cWg, fWg, hg]) h
/-- a works that is told. -/
structure WsV (s : Ws) (w' : World) (e : Ending) : Prop where
  out : ∃ Ar Am Aw cr cm cw, e = .returned (.agg #[.slice Ar s.rooms.length cr, .int .i64 s.days, .slice Am s.moves.length cm, .slice Aw s.wgs.length cw]) ∧ WsIn w' w'.heap.size s Ar Am Aw
set_option maxRecDepth 100000 in
set_option maxHeartbeats 12800000 in
theorem Works_any (s : Ws) (Ar Am Aw : Option Addr) (cr cm cw : Nat) (w : World) (hs : WsIn w w.heap.size s Ar Am Aw) (hsm : s.rooms.length ≤ 1000 ∧ s.moves.length ≤ 1000 ∧ s.wgs.length ≤ 1000) :
    Calls Try.prog 19 #[.agg #[.slice Ar s.rooms.length cr, .int .i64 s.days, .slice Am s.moves.length cm, .slice Aw s.wgs.length cw]] w fun e w' => WsV s w' e ∧ Below w.heap.size w w' := by
  obtain ⟨i0, hi0, hv0, hv1, hv2⟩ := info_parts room_info
  obtain ⟨i1, hi1, hy0, hy1, hy2⟩ := info_parts move_info
  obtain ⟨i2, hi2, hz0, hz1, hz2⟩ := info_parts wg_info
  have HI0 := Lib.hid hi0
  have HI1 := Lib.hid hi1
  have HI2 := Lib.hid hi2
  clear hi0 hi1 hi2
  obtain ⟨hlr, hlm, hlw⟩ := hsm
  have hb1 := ex_alloc (ex_alloc (ex_alloc (Below.refl w.heap.size w) (.cells #[.slice Ar s.rooms.length cr, .int .i64 s.days, .slice Am s.moves.length cm, .slice Aw s.wgs.length cw] 26)) (.cells #[.slice none 0 0, .int .i64 0, .slice none 0 0, .slice none 0 0] 42)) (.cells #[.slice none 0 0, .int .i64 s.days, .slice none 0 0, .slice none 0 0] 42)
  have q0 : Blk (((w.alloc (.cells #[.slice Ar s.rooms.length cr, .int .i64 s.days, .slice Am s.moves.length cm, .slice Aw s.wgs.length cw] 26)).alloc (.cells #[.slice none 0 0, .int .i64 0, .slice none 0 0, .slice none 0 0] 42)).alloc (.cells #[.slice none 0 0, .int .i64 s.days, .slice none 0 0, .slice none 0 0] 42)) w.heap.size 26 #[.slice Ar s.rooms.length cr, .int .i64 s.days, .slice Am s.moves.length cm, .slice Aw s.wgs.length cw] := ((Blk.new _ _ _).alloc _).alloc _
  have q1 : Blk (((w.alloc (.cells #[.slice Ar s.rooms.length cr, .int .i64 s.days, .slice Am s.moves.length cm, .slice Aw s.wgs.length cw] 26)).alloc (.cells #[.slice none 0 0, .int .i64 0, .slice none 0 0, .slice none 0 0] 42)).alloc (.cells #[.slice none 0 0, .int .i64 s.days, .slice none 0 0, .slice none 0 0] 42)) (w.heap.size + 1) 42 #[.slice none 0 0, .int .i64 0, .slice none 0 0, .slice none 0 0] := (Blk.new' _ _ _ (by simp)).alloc _
  have q2 : Blk (((w.alloc (.cells #[.slice Ar s.rooms.length cr, .int .i64 s.days, .slice Am s.moves.length cm, .slice Aw s.wgs.length cw] 26)).alloc (.cells #[.slice none 0 0, .int .i64 0, .slice none 0 0, .slice none 0 0] 42)).alloc (.cells #[.slice none 0 0, .int .i64 s.days, .slice none 0 0, .slice none 0 0] 42)) (w.heap.size + 1 + 1) 42 #[.slice none 0 0, .int .i64 s.days, .slice none 0 0, .slice none 0 0] := Blk.new' _ _ _ (by simp)
  go_enter Try.func19, Try.ntmps19
  go_wp2_with fail
  have hVs : w.heap.size + 1 + 1 + 1 ≤ (((w.alloc (.cells #[.slice Ar s.rooms.length cr, .int .i64 s.days, .slice Am s.moves.length cm, .slice Aw s.wgs.length cw] 26)).alloc (.cells #[.slice none 0 0, .int .i64 0, .slice none 0 0, .slice none 0 0] 42)).alloc (.cells #[.slice none 0 0, .int .i64 s.days, .slice none 0 0, .slice none 0 0] 42)).heap.size := by simp
  generalize ((w.alloc (.cells #[.slice Ar s.rooms.length cr, .int .i64 s.days, .slice Am s.moves.length cm, .slice Aw s.wgs.length cw] 26)).alloc (.cells #[.slice none 0 0, .int .i64 0, .slice none 0 0, .slice none 0 0] 42)).alloc (.cells #[.slice none 0 0, .int .i64 s.days, .slice none 0 0, .slice none 0 0] 42) = V at *
  refine wp_loop (fun a W => Rel (fun a W => ∃ k : Nat, k ≤ s.rooms.length ∧ Below w.heap.size w W ∧ w.heap.size + 1 + 1 + 1 ≤ W.heap.size ∧ Blk W w.heap.size 26 #[.slice Ar s.rooms.length cr, .int .i64 s.days, .slice Am s.moves.length cm, .slice Aw s.wgs.length cw] ∧ Blk W (w.heap.size + 1) 42 #[.slice none 0 0, .int .i64 0, .slice none 0 0, .slice none 0 0] ∧ ∃ v, ∃ L : List Rm, Hid (L = s.rooms.take k) ∧ Blk W (w.heap.size + 1 + 1) 42 #[v, .int .i64 s.days, .slice none 0 0, .slice none 0 0] ∧ W.ownsRow (w.heap.size + 1 + 1 + 1) 126 4 v L.length (L.flatMap cRm) ∧ ∃ u : Nat → Value, a = ⟨List.toArray (u 0 :: .pointer (some ⟨w.heap.size, 0, none⟩) :: .pointer (some ⟨w.heap.size + 1, 0, none⟩) :: .pointer (some ⟨w.heap.size + 1 + 1, 0, none⟩) :: .int .i64 (k : Int) :: u 5 :: u 6 :: u 7 :: u 8 :: u 9 :: u 10 :: u 11 :: u 12 :: u 13 :: u 14 :: u 15 :: u 16 :: u 17 :: u 18 :: u 19 :: u 20 :: u 21 :: u 22 :: u 23 :: u 24 :: u 25 :: u 26 :: u 27 :: u 28 :: u 29 :: u 30 :: u 31 :: u 32 :: u 33 :: u 34 :: u 35 :: u 36 :: u 37 :: u 38 :: u 39 :: u 40 :: u 41 :: u 42 :: u 43 :: u 44 :: u 45 :: u 46 :: u 47 :: u 48 :: u 49 :: u 50 :: u 51 :: u 52 :: u 53 :: u 54 :: u 55 :: u 56 :: u 57 :: u 58 :: u 59 :: u 60 :: u 61 :: u 62 :: u 63 :: u 64 :: u 65 :: u 66 :: u 67 :: u 68 :: u 69 :: u 70 :: u 71 :: u 72 :: u 73 :: u 74 :: u 75 :: u 76 :: u 77 :: u 78 :: u 79 :: u 80 :: u 81 :: u 82 :: u 83 :: u 84 :: u 85 :: u 86 :: u 87 :: u 88 :: u 89 :: u 90 :: u 91 :: []), []⟩) a W) (fun a _ => s.rooms.length - (intOf (a.tmps.getD 4 undef)).toNat) ⟨⟨0, by omega, hb1, hVs, q0, q1, .slice none 0 0, [], Lib.hid rfl, q2, ⟨rfl, .inl ⟨rfl, rfl⟩⟩, exFrame (by kernel_rfl)⟩⟩ ?_
  clear hb1 hVs q0 q1 q2  V
  rintro a W ⟨⟨k, hk, hbl, hsz, q0, q1, v, L, HL, q2, hown, u, rfl⟩⟩
  have l0 := q0.lt
  have l1 := q1.lt
  have l2 := q2.lt
  have a0 : W.cell? ⟨w.heap.size, 0, none⟩ = some (.slice Ar s.rooms.length cr) := q0.cell 0
  by_cases hlt : k < s.rooms.length
  · obtain ⟨br, orr, rfl, hbr, r0, r1, r2, r3⟩ := IsRms.at_ (hs.rooms.below hbl) hlt
    have lbr : br < W.heap.size := by omega
    have hlen : L.length = k := by rw [HL.out, List.length_take]; omega
    have hat := (gRm_at hlt).symm
    obtain ⟨e0, he0⟩ : ∃ x, (gRm s.rooms k).fst.lo = x := ⟨_, rfl⟩
    rw [he0] at r0
    obtain ⟨e1, he1⟩ : ∃ x, (gRm s.rooms k).fst.hi = x := ⟨_, rfl⟩
    rw [he1] at r1
    obtain ⟨e2, he2⟩ : ∃ x, (gRm s.rooms k).vap.lo = x := ⟨_, rfl⟩
    rw [he2] at r2
    obtain ⟨e3, he3⟩ : ∃ x, (gRm s.rooms k).vap.hi = x := ⟨_, rfl⟩
    rw [he3] at r3
    have HN : Hid (L ++ [⟨⟨e0, e1⟩, ⟨e2, e3⟩⟩] = s.rooms.take (k + 1)) := Lib.hid (take_push hlt HL.out (by rw [hat, ← he0, ← he1, ← he2, ← he3]))
    have HLEN := Lib.hid hlen
    have hlk : L.length ≤ 1000 := by omega
    have hkn : (k : Int) < (s.rooms.length : Int) := by omega
    clear hat hlen he0 he1 he2 he3
    have hge := fun (j : Nat) (hj : v.ownBlock = some j) => own_ge hown hj
    have hbr2 : br < w.heap.size := hbr
    obtain ⟨row, hrow⟩ : ∃ row, v.ownBlock = row := ⟨_, rfl⟩
    have hn0 : ¬ some (w.heap.size) = row := fun e => by have := hge _ (hrow.trans e.symm); omega
    have hn1 : ¬ some (w.heap.size + 1) = row := fun e => by have := hge _ (hrow.trans e.symm); omega
    have hn2 : ¬ some (w.heap.size + 1 + 1) = row := fun e => by have := hge _ (hrow.trans e.symm); omega
    have hnr : ¬ some br = row := fun e => by have := hge _ (hrow.trans e.symm); omega
    have hrw : ∀ j, row = some j → w.heap.size ≤ j := fun j hj => by have := hge _ (hrow.trans hj); omega
    have e2c : W.cell? ⟨w.heap.size + 1 + 1, 0, none⟩ = some v := q2.cell 0
    have HROW := Lib.hid hrow
    clear hrow hge
    go_wp2_with fail
    refine wp_region_gx_mix row 20 [(false, 0), (false, 1), (false, 2), (false, 3), (false, 4), (false, 5), (false, 6), (false, 7), (false, 9), (false, 10), (false, 11), (false, 12), (false, 13), (false, 14), (true, 8), (true, 15), (false, 16), (true, 17), (true, 18), (false, 19)] (by kernel_rfl) (by kernel_rfl) (by intro d _ _ _ _ h; cases d <;> exact h) ?_
    repeat (refine mix_quiet rfl ?_; go_big_quiet_step (fail); refine wpQuiet_nil ?_)
    have hX0 := (Below.refl W.heap.size W).drew
    refine mix_loud rfl ?_
    go_wp2_with fail
    refine (to_any e0 e1 W.drew).mono ?_
    rintro e x1 ⟨rfl, hx1⟩
    have hX_x1 := ex_trans hX0 hx1
    go_wp2_with fail
    refine ⟨inGx (grown_row hX_x1), ?_⟩
    repeat (refine mix_quiet rfl ?_; go_big_quiet_step (fail); refine wpQuiet_nil ?_)
    refine mix_loud rfl ?_
    go_wp2_with fail
    refine (to_any e2 e3 x1).mono ?_
    rintro e x2 ⟨rfl, hx2⟩
    have hX_x2 := ex_trans hX_x1 hx2
    go_wp2_with fail
    refine ⟨inGx (grown_row hX_x2), ?_⟩
    repeat (refine mix_quiet rfl ?_; go_big_quiet_step (fail); refine wpQuiet_nil ?_)
    refine mix_loud rfl ?_
    go_wp2_with fail
    have hX3 := ex_alloc hX_x2 (.cells #[.int .i64 e0, .int .i64 e1, .int .i64 e2, .int .i64 e3] 126)
    refine ⟨inGx (grown_row hX3), ?_⟩
    repeat (refine mix_quiet rfl ?_; go_big_quiet_step (fail); refine wpQuiet_nil ?_)
    have y4 := own_below hown hX3
    have c63 : L.length + 1 ≤ maxLen := by unfold maxLen; omega
    have cby : (L.length + 1) * 32 ≤ 140737488355328 := by omega
    have hbase : w.heap.size + 1 + 1 + 1 ≤ (x2.alloc (.cells #[.int .i64 e0, .int .i64 e1, .int .i64 e2, .int .i64 e3] 126)).heap.size := by have := hX3.size; omega
    refine mix_loud rfl ?_
    go_wp2_with (at_builtin; refine wpList_append_lies _ rfl _ _ _ rfl (w.heap.size + 1 + 1 + 1) 126 i0 _ 4 32 Try.underlying38 HI0.out hv0 hv1 hv2 rfl (by omega) v _ _ rfl y4 ⟨x2.heap.size, 0, none⟩ 1 1 [.int .i64 e0, .int .i64 e1, .int .i64 e2, .int .i64 e3] rfl rfl (World.news_of_block (heap_alloc_new x2 _)) (by simp [Value.oneCell']) (by omega) c63 cby hbase (x2.heap.size + 1) (by simp) ?_; intro gg cap w1 hown' hgrow hat hlt')
    rw [HROW.out] at hgrow
    have hgB := (grown_row (r := row) hX3).andThen hgrow (fun j hj => .inr hj)
    refine ⟨inGx hgB, ?_⟩
    repeat (refine mix_quiet rfl ?_; go_big_quiet_step (fail); refine wpQuiet_nil ?_)
    refine mix_nil rfl ?_
    have B5 := hbl.grown hgB hbl.size hrw
    have p0 := q0.grown hgB hn0
    have p1 := q1.grown hgB hn1
    have p2 := q2.grown hgB hn2
    have f0 : w1.cell? ⟨w.heap.size + 1 + 1, 0, none⟩ = some v := p2.cell 0
    have ff := p2.frozen0
    have lp0 := p0.lt
    have lp1 := p1.lt
    have lp2 := p2.lt
    have hs7 : w.heap.size + 1 + 1 + 1 ≤ w1.heap.size := by have := hgB.size; omega
    have own7 := own_push (f := cRm) (x := (⟨⟨e0, e1⟩, ⟨e2, e3⟩⟩ : Rm)) rfl hown'
    have own8 := own_far own7 (p := ⟨w.heap.size + 1 + 1, 0, none⟩) (by show w.heap.size + 1 + 1 < w.heap.size + 1 + 1 + 1; omega) (.slice (some ⟨gg, 0, none⟩) (L.length + 1) cap)
    have B8 := ex_set B5 (p := ⟨w.heap.size + 1 + 1, 0, none⟩) (by show w.heap.size ≤ w.heap.size + 1 + 1; omega) (.slice (some ⟨gg, 0, none⟩) (L.length + 1) cap)
    have p08 := p0.far (p := ⟨w.heap.size + 1 + 1, 0, none⟩) (by show w.heap.size ≠ w.heap.size + 1 + 1; omega) (.slice (some ⟨gg, 0, none⟩) (L.length + 1) cap)
    have p18 := p1.far (p := ⟨w.heap.size + 1 + 1, 0, none⟩) (by show w.heap.size + 1 ≠ w.heap.size + 1 + 1; omega) (.slice (some ⟨gg, 0, none⟩) (L.length + 1) cap)
    have p28 := p2.set_ 0 (.slice (some ⟨gg, 0, none⟩) (L.length + 1) cap)
    simp only [List.setIfInBounds_toArray, List.set_cons_zero, List.set_cons_succ] at p28
    clear hown' own7 hgB hgrow y4 hX3 hX_x2 hX0 hx2 e2c q0 q1 q2 p0 p1 hown hnr hn0 hn1 hn2 a0 r0 r1 r2 r3 hx1 hX_x1
    go_wp2_with fail
    refine ⟨⟨⟨k + 1, by omega, B8, by simp; omega, p08, p18, _, _, HN, p28, own8, exFrame (by kernel_rfl)⟩⟩, ?_⟩
    show s.rooms.length - (intOf (.int .i64 ((k : Int) + 1))).toNat < s.rooms.length - (intOf (.int .i64 (k : Int))).toNat
    simp [intOf]
    omega
  obtain rfl : k = s.rooms.length := by omega
  have hLL : L = s.rooms := HL.out.trans List.take_length
  clear HL
  rw [hLL] at hown
  obtain ⟨A1, c1, rfl, _, _, ro0⟩ := lay_Rm 126 hown
  clear hown hLL
  have hb1 := hbl
  have hVs := hsz
  clear hbl hsz
  go_wp2_with fail
  refine wp_loop (fun a W => Rel (fun a W => ∃ k : Nat, k ≤ s.moves.length ∧ Below w.heap.size w W ∧ w.heap.size + 1 + 1 + 1 ≤ W.heap.size ∧ Blk W w.heap.size 26 #[.slice Ar s.rooms.length cr, .int .i64 s.days, .slice Am s.moves.length cm, .slice Aw s.wgs.length cw] ∧ Blk W (w.heap.size + 1) 42 #[.slice none 0 0, .int .i64 0, .slice none 0 0, .slice none 0 0] ∧ RowAt W (w.heap.size + 1 + 1 + 1) 126 4 A1 s.rooms.length (fRm s.rooms) ∧ ∃ v, ∃ L : List Mv, Hid (L = s.moves.take k) ∧ Blk W (w.heap.size + 1 + 1) 42 #[.slice A1 s.rooms.length c1, .int .i64 s.days, v, .slice none 0 0] ∧ W.ownsRow (w.heap.size + 1 + 1 + 1) 122 5 v L.length (L.flatMap cMv) ∧ ∃ u : Nat → Value, a = ⟨List.toArray (u 0 :: .pointer (some ⟨w.heap.size, 0, none⟩) :: .pointer (some ⟨w.heap.size + 1, 0, none⟩) :: .pointer (some ⟨w.heap.size + 1 + 1, 0, none⟩) :: u 4 :: .int .i64 (k : Int) :: u 6 :: u 7 :: u 8 :: u 9 :: u 10 :: u 11 :: u 12 :: u 13 :: u 14 :: u 15 :: u 16 :: u 17 :: u 18 :: u 19 :: u 20 :: u 21 :: u 22 :: u 23 :: u 24 :: u 25 :: u 26 :: u 27 :: u 28 :: u 29 :: u 30 :: u 31 :: u 32 :: u 33 :: u 34 :: u 35 :: u 36 :: u 37 :: u 38 :: u 39 :: u 40 :: u 41 :: u 42 :: u 43 :: u 44 :: u 45 :: u 46 :: u 47 :: u 48 :: u 49 :: u 50 :: u 51 :: u 52 :: u 53 :: u 54 :: u 55 :: u 56 :: u 57 :: u 58 :: u 59 :: u 60 :: u 61 :: u 62 :: u 63 :: u 64 :: u 65 :: u 66 :: u 67 :: u 68 :: u 69 :: u 70 :: u 71 :: u 72 :: u 73 :: u 74 :: u 75 :: u 76 :: u 77 :: u 78 :: u 79 :: u 80 :: u 81 :: u 82 :: u 83 :: u 84 :: u 85 :: u 86 :: u 87 :: u 88 :: u 89 :: u 90 :: u 91 :: []), []⟩) a W) (fun a _ => s.moves.length - (intOf (a.tmps.getD 5 undef)).toNat) ⟨⟨0, by omega, hb1, hVs, q0, q1, ro0, .slice none 0 0, [], Lib.hid rfl, q2, ⟨rfl, .inl ⟨rfl, rfl⟩⟩, exFrame (by kernel_rfl)⟩⟩ ?_
  clear hb1 hVs q0 q1 q2 ro0 a0 l0 l1 l2 W
  rintro a W ⟨⟨k, hk, hbl, hsz, q0, q1, ro0, v, L, HL, q2, hown, u, rfl⟩⟩
  have l0 := q0.lt
  have l1 := q1.lt
  have l2 := q2.lt
  have a0 : W.cell? ⟨w.heap.size, 2, none⟩ = some (.slice Am s.moves.length cm) := q0.cell 2
  by_cases hlt : k < s.moves.length
  · obtain ⟨br, orr, rfl, hbr, r0, r1, r2, r3, r4⟩ := IsMvs.at_ (hs.moves.below hbl) hlt
    have lbr : br < W.heap.size := by omega
    have hlen : L.length = k := by rw [HL.out, List.length_take]; omega
    have hat := (gMv_at hlt).symm
    obtain ⟨e0, he0⟩ : ∃ x, (gMv s.moves k).day = x := ⟨_, rfl⟩
    rw [he0] at r0
    obtain ⟨e1, he1⟩ : ∃ x, (gMv s.moves k).src = x := ⟨_, rfl⟩
    rw [he1] at r1
    obtain ⟨e2, he2⟩ : ∃ x, (gMv s.moves k).dst = x := ⟨_, rfl⟩
    rw [he2] at r2
    obtain ⟨e3, he3⟩ : ∃ x, (gMv s.moves k).g.lo = x := ⟨_, rfl⟩
    rw [he3] at r3
    obtain ⟨e4, he4⟩ : ∃ x, (gMv s.moves k).g.hi = x := ⟨_, rfl⟩
    rw [he4] at r4
    have HN : Hid (L ++ [⟨e0, e1, e2, ⟨e3, e4⟩⟩] = s.moves.take (k + 1)) := Lib.hid (take_push hlt HL.out (by rw [hat, ← he0, ← he1, ← he2, ← he3, ← he4]))
    have HLEN := Lib.hid hlen
    have hlk : L.length ≤ 1000 := by omega
    have hkn : (k : Int) < (s.moves.length : Int) := by omega
    clear hat hlen he0 he1 he2 he3 he4
    have hge := fun (j : Nat) (hj : v.ownBlock = some j) => own_ge hown hj
    have hbr2 : br < w.heap.size := hbr
    have hA := ex_alloc (Below.refl W.heap.size W) (.cells #[.int .i64 e0, .int .i64 e1, .int .i64 e2, .int .i64 e3, .int .i64 e4] 78)
    have qm : Blk (W.alloc (.cells #[.int .i64 e0, .int .i64 e1, .int .i64 e2, .int .i64 e3, .int .i64 e4] 78)) W.heap.size 78 #[.int .i64 e0, .int .i64 e1, .int .i64 e2, .int .i64 e3, .int .i64 e4] := Blk.new _ _ _
    have hnm : ¬ v.ownBlock = some W.heap.size := fun e => by have := (own_lt hown e).2; omega
    go_wp2_with fail
    replace hbl := ex_trans hbl hA
    replace q0 := q0.below hA l0
    replace q1 := q1.below hA l1
    replace q2 := q2.below hA l2
    replace hown := own_below hown hA
    replace hsz : w.heap.size + 1 + 1 + 1 ≤ (W.alloc (.cells #[.int .i64 e0, .int .i64 e1, .int .i64 e2, .int .i64 e3, .int .i64 e4] 78)).heap.size := by have := hA.size; omega
    replace ro0 := ro0.below hA
    obtain ⟨pm, hpm⟩ : ∃ p, W.heap.size = p := ⟨_, rfl⟩
    rw [hpm] at qm hnm ⊢
    clear l0 l1 l2 a0 hA hpm r0 r1 r2 r3 r4 lbr
    generalize W.alloc (.cells #[.int .i64 e0, .int .i64 e1, .int .i64 e2, .int .i64 e3, .int .i64 e4] 78) = V at *
    have l0 := q0.lt
    have l1 := q1.lt
    have l2 := q2.lt
    have lm := qm.lt
    have m0 : V.cell? ⟨pm, 0, none⟩ = some (.int .i64 e0) := qm.cell 0
    have m1 : V.cell? ⟨pm, 1, none⟩ = some (.int .i64 e1) := qm.cell 1
    have m2 : V.cell? ⟨pm, 2, none⟩ = some (.int .i64 e2) := qm.cell 2
    have m3 : V.cell? ⟨pm, 3, none⟩ = some (.int .i64 e3) := qm.cell 3
    have m4 : V.cell? ⟨pm, 4, none⟩ = some (.int .i64 e4) := qm.cell 4
    obtain ⟨row, hrow⟩ : ∃ row, v.ownBlock = row := ⟨_, rfl⟩
    have hn0 : ¬ some (w.heap.size) = row := fun e => by have := hge _ (hrow.trans e.symm); omega
    have hn1 : ¬ some (w.heap.size + 1) = row := fun e => by have := hge _ (hrow.trans e.symm); omega
    have hn2 : ¬ some (w.heap.size + 1 + 1) = row := fun e => by have := hge _ (hrow.trans e.symm); omega
    have hnr : ¬ some pm = row := fun e => hnm (hrow.trans e.symm)
    have hrw : ∀ j, row = some j → w.heap.size ≤ j := fun j hj => by have := hge _ (hrow.trans hj); omega
    have e2c : V.cell? ⟨w.heap.size + 1 + 1, 2, none⟩ = some v := q2.cell 2
    have HROW := Lib.hid hrow
    clear hrow hge hnm
    refine wp_region_gx_mix row 15 [(false, 0), (false, 1), (false, 2), (false, 3), (false, 4), (false, 5), (false, 6), (false, 7), (false, 8), (false, 9), (true, 10), (false, 11), (true, 12), (true, 13), (false, 14)] (by kernel_rfl) (by kernel_rfl) (by intro d _ _ _ _ h; cases d <;> exact h) ?_
    repeat (refine mix_quiet rfl ?_; go_big_quiet_step (fail); refine wpQuiet_nil ?_)
    have hX0 := (Below.refl V.heap.size V).drew
    refine mix_loud rfl ?_
    go_wp2_with fail
    refine (to_any e3 e4 V.drew).mono ?_
    rintro e x2 ⟨rfl, hx2⟩
    have hX_x2 := ex_trans hX0 hx2
    go_wp2_with fail
    refine ⟨inGx (grown_row hX_x2), ?_⟩
    repeat (refine mix_quiet rfl ?_; go_big_quiet_step (fail); refine wpQuiet_nil ?_)
    refine mix_loud rfl ?_
    go_wp2_with fail
    have hX3 := ex_alloc hX_x2 (.cells #[.int .i64 e0, .int .i64 e1, .int .i64 e2, .int .i64 e3, .int .i64 e4] 122)
    refine ⟨inGx (grown_row hX3), ?_⟩
    repeat (refine mix_quiet rfl ?_; go_big_quiet_step (fail); refine wpQuiet_nil ?_)
    have y4 := own_below hown hX3
    have c63 : L.length + 1 ≤ maxLen := by unfold maxLen; omega
    have cby : (L.length + 1) * 40 ≤ 140737488355328 := by omega
    have hbase : w.heap.size + 1 + 1 + 1 ≤ (x2.alloc (.cells #[.int .i64 e0, .int .i64 e1, .int .i64 e2, .int .i64 e3, .int .i64 e4] 122)).heap.size := by have := hX3.size; omega
    refine mix_loud rfl ?_
    go_wp2_with (at_builtin; refine wpList_append_lies _ rfl _ _ _ rfl (w.heap.size + 1 + 1 + 1) 122 i1 _ 5 40 Try.underlying39 HI1.out hy0 hy1 hy2 rfl (by omega) v _ _ rfl y4 ⟨x2.heap.size, 0, none⟩ 1 1 [.int .i64 e0, .int .i64 e1, .int .i64 e2, .int .i64 e3, .int .i64 e4] rfl rfl (World.news_of_block (heap_alloc_new x2 _)) (by simp [Value.oneCell']) (by omega) c63 cby hbase (x2.heap.size + 1) (by simp) ?_; intro gg cap w1 hown' hgrow hat hlt')
    rw [HROW.out] at hgrow
    have hgB := (grown_row (r := row) hX3).andThen hgrow (fun j hj => .inr hj)
    refine ⟨inGx hgB, ?_⟩
    repeat (refine mix_quiet rfl ?_; go_big_quiet_step (fail); refine wpQuiet_nil ?_)
    refine mix_nil rfl ?_
    have B5 := hbl.grown hgB hbl.size hrw
    have p0 := q0.grown hgB hn0
    have p1 := q1.grown hgB hn1
    have p2 := q2.grown hgB hn2
    have f0 : w1.cell? ⟨w.heap.size + 1 + 1, 2, none⟩ = some v := p2.cell 2
    have ff := p2.frozen0
    have lp0 := p0.lt
    have lp1 := p1.lt
    have lp2 := p2.lt
    have hs7 : w.heap.size + 1 + 1 + 1 ≤ w1.heap.size := by have := hgB.size; omega
    have ro0g := (ro0.grown (HROW.out ▸ hgB) hown (by decide)).set p2 (by decide) 2 (.slice (some ⟨gg, 0, none⟩) (L.length + 1) cap)
    have own7 := own_push (f := cMv) (x := (⟨e0, e1, e2, ⟨e3, e4⟩⟩ : Mv)) rfl hown'
    have own8 := own_far own7 (p := ⟨w.heap.size + 1 + 1, 2, none⟩) (by show w.heap.size + 1 + 1 < w.heap.size + 1 + 1 + 1; omega) (.slice (some ⟨gg, 0, none⟩) (L.length + 1) cap)
    have B8 := ex_set B5 (p := ⟨w.heap.size + 1 + 1, 2, none⟩) (by show w.heap.size ≤ w.heap.size + 1 + 1; omega) (.slice (some ⟨gg, 0, none⟩) (L.length + 1) cap)
    have p08 := p0.far (p := ⟨w.heap.size + 1 + 1, 2, none⟩) (by show w.heap.size ≠ w.heap.size + 1 + 1; omega) (.slice (some ⟨gg, 0, none⟩) (L.length + 1) cap)
    have p18 := p1.far (p := ⟨w.heap.size + 1 + 1, 2, none⟩) (by show w.heap.size + 1 ≠ w.heap.size + 1 + 1; omega) (.slice (some ⟨gg, 0, none⟩) (L.length + 1) cap)
    have p28 := p2.set_ 2 (.slice (some ⟨gg, 0, none⟩) (L.length + 1) cap)
    simp only [List.setIfInBounds_toArray, List.set_cons_zero, List.set_cons_succ] at p28
    clear hown' own7 hgB hgrow y4 hX3 hX_x2 hX0 hx2 e2c q0 q1 q2 p0 p1 hown hnr hn0 hn1 hn2 qm lm m0 m1 m2 m3 m4
    go_wp2_with fail
    refine ⟨⟨⟨k + 1, by omega, B8, by simp; omega, p08, p18, ro0g, _, _, HN, p28, own8, exFrame (by kernel_rfl)⟩⟩, ?_⟩
    show s.moves.length - (intOf (.int .i64 ((k : Int) + 1))).toNat < s.moves.length - (intOf (.int .i64 (k : Int))).toNat
    simp [intOf]
    omega
  obtain rfl : k = s.moves.length := by omega
  have hLL : L = s.moves := HL.out.trans List.take_length
  clear HL
  rw [hLL] at hown
  obtain ⟨A2, c2, rfl, _, _, ro1⟩ := lay_Mv 122 hown
  clear hown hLL
  have hb1 := hbl
  have hVs := hsz
  clear hbl hsz
  go_wp2_with fail
  refine wp_loop (fun a W => Rel (fun a W => ∃ k : Nat, k ≤ s.wgs.length ∧ Below w.heap.size w W ∧ w.heap.size + 1 + 1 + 1 ≤ W.heap.size ∧ Blk W w.heap.size 26 #[.slice Ar s.rooms.length cr, .int .i64 s.days, .slice Am s.moves.length cm, .slice Aw s.wgs.length cw] ∧ Blk W (w.heap.size + 1) 42 #[.slice none 0 0, .int .i64 0, .slice none 0 0, .slice none 0 0] ∧ RowAt W (w.heap.size + 1 + 1 + 1) 126 4 A1 s.rooms.length (fRm s.rooms) ∧ RowAt W (w.heap.size + 1 + 1 + 1) 122 5 A2 s.moves.length (fMv s.moves) ∧ ∃ v, ∃ L : List Wg, Hid (L = s.wgs.take k) ∧ Blk W (w.heap.size + 1 + 1) 42 #[.slice A1 s.rooms.length c1, .int .i64 s.days, .slice A2 s.moves.length c2, v] ∧ W.ownsRow (w.heap.size + 1 + 1 + 1) 128 4 v L.length (L.flatMap cWg) ∧ ∃ u : Nat → Value, a = ⟨List.toArray (u 0 :: .pointer (some ⟨w.heap.size, 0, none⟩) :: .pointer (some ⟨w.heap.size + 1, 0, none⟩) :: .pointer (some ⟨w.heap.size + 1 + 1, 0, none⟩) :: u 4 :: u 5 :: u 6 :: .int .i64 (k : Int) :: u 8 :: u 9 :: u 10 :: u 11 :: u 12 :: u 13 :: u 14 :: u 15 :: u 16 :: u 17 :: u 18 :: u 19 :: u 20 :: u 21 :: u 22 :: u 23 :: u 24 :: u 25 :: u 26 :: u 27 :: u 28 :: u 29 :: u 30 :: u 31 :: u 32 :: u 33 :: u 34 :: u 35 :: u 36 :: u 37 :: u 38 :: u 39 :: u 40 :: u 41 :: u 42 :: u 43 :: u 44 :: u 45 :: u 46 :: u 47 :: u 48 :: u 49 :: u 50 :: u 51 :: u 52 :: u 53 :: u 54 :: u 55 :: u 56 :: u 57 :: u 58 :: u 59 :: u 60 :: u 61 :: u 62 :: u 63 :: u 64 :: u 65 :: u 66 :: u 67 :: u 68 :: u 69 :: u 70 :: u 71 :: u 72 :: u 73 :: u 74 :: u 75 :: u 76 :: u 77 :: u 78 :: u 79 :: u 80 :: u 81 :: u 82 :: u 83 :: u 84 :: u 85 :: u 86 :: u 87 :: u 88 :: u 89 :: u 90 :: u 91 :: []), []⟩) a W) (fun a _ => s.wgs.length - (intOf (a.tmps.getD 7 undef)).toNat) ⟨⟨0, by omega, hb1, hVs, q0, q1, ro0, ro1, .slice none 0 0, [], Lib.hid rfl, q2, ⟨rfl, .inl ⟨rfl, rfl⟩⟩, exFrame (by kernel_rfl)⟩⟩ ?_
  clear hb1 hVs q0 q1 q2 ro0 ro1 a0 l0 l1 l2 W
  rintro a W ⟨⟨k, hk, hbl, hsz, q0, q1, ro0, ro1, v, L, HL, q2, hown, u, rfl⟩⟩
  have l0 := q0.lt
  have l1 := q1.lt
  have l2 := q2.lt
  have a0 : W.cell? ⟨w.heap.size, 3, none⟩ = some (.slice Aw s.wgs.length cw) := q0.cell 3
  by_cases hlt : k < s.wgs.length
  · obtain ⟨br, orr, rfl, hbr, r0, r1, r2, r3⟩ := IsWgs.at_ (hs.wgs.below hbl) hlt
    have lbr : br < W.heap.size := by omega
    have hlen : L.length = k := by rw [HL.out, List.length_take]; omega
    have hat := (gWg_at hlt).symm
    obtain ⟨e0, he0⟩ : ∃ x, (gWg s.wgs k).room = x := ⟨_, rfl⟩
    rw [he0] at r0
    obtain ⟨e1, he1⟩ : ∃ x, (gWg s.wgs k).day = x := ⟨_, rfl⟩
    rw [he1] at r1
    obtain ⟨e2, he2⟩ : ∃ x, (gWg s.wgs k).g.lo = x := ⟨_, rfl⟩
    rw [he2] at r2
    obtain ⟨e3, he3⟩ : ∃ x, (gWg s.wgs k).g.hi = x := ⟨_, rfl⟩
    rw [he3] at r3
    have HN : Hid (L ++ [⟨e0, e1, ⟨e2, e3⟩⟩] = s.wgs.take (k + 1)) := Lib.hid (take_push hlt HL.out (by rw [hat, ← he0, ← he1, ← he2, ← he3]))
    have HLEN := Lib.hid hlen
    have hlk : L.length ≤ 1000 := by omega
    have hkn : (k : Int) < (s.wgs.length : Int) := by omega
    clear hat hlen he0 he1 he2 he3
    have hge := fun (j : Nat) (hj : v.ownBlock = some j) => own_ge hown hj
    have hbr2 : br < w.heap.size := hbr
    have hA := ex_alloc (Below.refl W.heap.size W) (.cells #[.int .i64 e0, .int .i64 e1, .int .i64 e2, .int .i64 e3] 72)
    have qm : Blk (W.alloc (.cells #[.int .i64 e0, .int .i64 e1, .int .i64 e2, .int .i64 e3] 72)) W.heap.size 72 #[.int .i64 e0, .int .i64 e1, .int .i64 e2, .int .i64 e3] := Blk.new _ _ _
    have hnm : ¬ v.ownBlock = some W.heap.size := fun e => by have := (own_lt hown e).2; omega
    go_wp2_with fail
    replace hbl := ex_trans hbl hA
    replace q0 := q0.below hA l0
    replace q1 := q1.below hA l1
    replace q2 := q2.below hA l2
    replace hown := own_below hown hA
    replace hsz : w.heap.size + 1 + 1 + 1 ≤ (W.alloc (.cells #[.int .i64 e0, .int .i64 e1, .int .i64 e2, .int .i64 e3] 72)).heap.size := by have := hA.size; omega
    replace ro0 := ro0.below hA
    replace ro1 := ro1.below hA
    obtain ⟨pm, hpm⟩ : ∃ p, W.heap.size = p := ⟨_, rfl⟩
    rw [hpm] at qm hnm ⊢
    clear l0 l1 l2 a0 hA hpm r0 r1 r2 r3 lbr
    generalize W.alloc (.cells #[.int .i64 e0, .int .i64 e1, .int .i64 e2, .int .i64 e3] 72) = V at *
    have l0 := q0.lt
    have l1 := q1.lt
    have l2 := q2.lt
    have lm := qm.lt
    have m0 : V.cell? ⟨pm, 0, none⟩ = some (.int .i64 e0) := qm.cell 0
    have m1 : V.cell? ⟨pm, 1, none⟩ = some (.int .i64 e1) := qm.cell 1
    have m2 : V.cell? ⟨pm, 2, none⟩ = some (.int .i64 e2) := qm.cell 2
    have m3 : V.cell? ⟨pm, 3, none⟩ = some (.int .i64 e3) := qm.cell 3
    obtain ⟨row, hrow⟩ : ∃ row, v.ownBlock = row := ⟨_, rfl⟩
    have hn0 : ¬ some (w.heap.size) = row := fun e => by have := hge _ (hrow.trans e.symm); omega
    have hn1 : ¬ some (w.heap.size + 1) = row := fun e => by have := hge _ (hrow.trans e.symm); omega
    have hn2 : ¬ some (w.heap.size + 1 + 1) = row := fun e => by have := hge _ (hrow.trans e.symm); omega
    have hnr : ¬ some pm = row := fun e => hnm (hrow.trans e.symm)
    have hrw : ∀ j, row = some j → w.heap.size ≤ j := fun j hj => by have := hge _ (hrow.trans hj); omega
    have e2c : V.cell? ⟨w.heap.size + 1 + 1, 3, none⟩ = some v := q2.cell 3
    have HROW := Lib.hid hrow
    clear hrow hge hnm
    refine wp_region_gx_mix row 13 [(false, 0), (false, 1), (false, 2), (false, 3), (false, 4), (false, 5), (false, 6), (false, 7), (true, 8), (false, 9), (true, 10), (true, 11), (false, 12)] (by kernel_rfl) (by kernel_rfl) (by intro d _ _ _ _ h; cases d <;> exact h) ?_
    repeat (refine mix_quiet rfl ?_; go_big_quiet_step (fail); refine wpQuiet_nil ?_)
    have hX0 := (Below.refl V.heap.size V).drew
    refine mix_loud rfl ?_
    go_wp2_with fail
    refine (to_any e2 e3 V.drew).mono ?_
    rintro e x2 ⟨rfl, hx2⟩
    have hX_x2 := ex_trans hX0 hx2
    go_wp2_with fail
    refine ⟨inGx (grown_row hX_x2), ?_⟩
    repeat (refine mix_quiet rfl ?_; go_big_quiet_step (fail); refine wpQuiet_nil ?_)
    refine mix_loud rfl ?_
    go_wp2_with fail
    have hX3 := ex_alloc hX_x2 (.cells #[.int .i64 e0, .int .i64 e1, .int .i64 e2, .int .i64 e3] 128)
    refine ⟨inGx (grown_row hX3), ?_⟩
    repeat (refine mix_quiet rfl ?_; go_big_quiet_step (fail); refine wpQuiet_nil ?_)
    have y4 := own_below hown hX3
    have c63 : L.length + 1 ≤ maxLen := by unfold maxLen; omega
    have cby : (L.length + 1) * 32 ≤ 140737488355328 := by omega
    have hbase : w.heap.size + 1 + 1 + 1 ≤ (x2.alloc (.cells #[.int .i64 e0, .int .i64 e1, .int .i64 e2, .int .i64 e3] 128)).heap.size := by have := hX3.size; omega
    refine mix_loud rfl ?_
    go_wp2_with (at_builtin; refine wpList_append_lies _ rfl _ _ _ rfl (w.heap.size + 1 + 1 + 1) 128 i2 _ 4 32 Try.underlying40 HI2.out hz0 hz1 hz2 rfl (by omega) v _ _ rfl y4 ⟨x2.heap.size, 0, none⟩ 1 1 [.int .i64 e0, .int .i64 e1, .int .i64 e2, .int .i64 e3] rfl rfl (World.news_of_block (heap_alloc_new x2 _)) (by simp [Value.oneCell']) (by omega) c63 cby hbase (x2.heap.size + 1) (by simp) ?_; intro gg cap w1 hown' hgrow hat hlt')
    rw [HROW.out] at hgrow
    have hgB := (grown_row (r := row) hX3).andThen hgrow (fun j hj => .inr hj)
    refine ⟨inGx hgB, ?_⟩
    repeat (refine mix_quiet rfl ?_; go_big_quiet_step (fail); refine wpQuiet_nil ?_)
    refine mix_nil rfl ?_
    have B5 := hbl.grown hgB hbl.size hrw
    have p0 := q0.grown hgB hn0
    have p1 := q1.grown hgB hn1
    have p2 := q2.grown hgB hn2
    have f0 : w1.cell? ⟨w.heap.size + 1 + 1, 3, none⟩ = some v := p2.cell 3
    have ff := p2.frozen0
    have lp0 := p0.lt
    have lp1 := p1.lt
    have lp2 := p2.lt
    have hs7 : w.heap.size + 1 + 1 + 1 ≤ w1.heap.size := by have := hgB.size; omega
    have ro0g := (ro0.grown (HROW.out ▸ hgB) hown (by decide)).set p2 (by decide) 3 (.slice (some ⟨gg, 0, none⟩) (L.length + 1) cap)
    have ro1g := (ro1.grown (HROW.out ▸ hgB) hown (by decide)).set p2 (by decide) 3 (.slice (some ⟨gg, 0, none⟩) (L.length + 1) cap)
    have own7 := own_push (f := cWg) (x := (⟨e0, e1, ⟨e2, e3⟩⟩ : Wg)) rfl hown'
    have own8 := own_far own7 (p := ⟨w.heap.size + 1 + 1, 3, none⟩) (by show w.heap.size + 1 + 1 < w.heap.size + 1 + 1 + 1; omega) (.slice (some ⟨gg, 0, none⟩) (L.length + 1) cap)
    have B8 := ex_set B5 (p := ⟨w.heap.size + 1 + 1, 3, none⟩) (by show w.heap.size ≤ w.heap.size + 1 + 1; omega) (.slice (some ⟨gg, 0, none⟩) (L.length + 1) cap)
    have p08 := p0.far (p := ⟨w.heap.size + 1 + 1, 3, none⟩) (by show w.heap.size ≠ w.heap.size + 1 + 1; omega) (.slice (some ⟨gg, 0, none⟩) (L.length + 1) cap)
    have p18 := p1.far (p := ⟨w.heap.size + 1 + 1, 3, none⟩) (by show w.heap.size + 1 ≠ w.heap.size + 1 + 1; omega) (.slice (some ⟨gg, 0, none⟩) (L.length + 1) cap)
    have p28 := p2.set_ 3 (.slice (some ⟨gg, 0, none⟩) (L.length + 1) cap)
    simp only [List.setIfInBounds_toArray, List.set_cons_zero, List.set_cons_succ] at p28
    clear hown' own7 hgB hgrow y4 hX3 hX_x2 hX0 hx2 e2c q0 q1 q2 p0 p1 hown hnr hn0 hn1 hn2 qm lm m0 m1 m2 m3
    go_wp2_with fail
    refine ⟨⟨⟨k + 1, by omega, B8, by simp; omega, p08, p18, ro0g, ro1g, _, _, HN, p28, own8, exFrame (by kernel_rfl)⟩⟩, ?_⟩
    show s.wgs.length - (intOf (.int .i64 ((k : Int) + 1))).toNat < s.wgs.length - (intOf (.int .i64 (k : Int))).toNat
    simp [intOf]
    omega
  obtain rfl : k = s.wgs.length := by omega
  have hLL : L = s.wgs := HL.out.trans List.take_length
  clear HL
  rw [hLL] at hown
  obtain ⟨A3, c3, rfl, _, _, ro2⟩ := lay_Wg 128 hown
  clear hown hLL
  have hb1 := hbl
  have hVs := hsz
  clear hbl hsz
  have b0 : W.cell? ⟨w.heap.size + 1 + 1, 0, none⟩ = some (.slice A1 s.rooms.length c1) := q2.cell 0
  have b1 : W.cell? ⟨w.heap.size + 1 + 1, 1, none⟩ = some (.int .i64 s.days) := q2.cell 1
  have b2 : W.cell? ⟨w.heap.size + 1 + 1, 2, none⟩ = some (.slice A2 s.moves.length c2) := q2.cell 2
  have b3 : W.cell? ⟨w.heap.size + 1 + 1, 3, none⟩ = some (.slice A3 s.wgs.length c3) := q2.cell 3
  have z0 : W.cell? ⟨w.heap.size + 1, 0, none⟩ = some (.slice none 0 0) := q1.cell 0
  have z1 : W.cell? ⟨w.heap.size + 1, 1, none⟩ = some (.int .i64 0) := q1.cell 1
  have z2 : W.cell? ⟨w.heap.size + 1, 2, none⟩ = some (.slice none 0 0) := q1.cell 2
  have z3 : W.cell? ⟨w.heap.size + 1, 3, none⟩ = some (.slice none 0 0) := q1.cell 3
  have ff := q1.frozen0
  have hw1 : w.heap.size ≤ w.heap.size + 1 := by omega
  have B90 := ex_set hb1 (p := ⟨w.heap.size + 1, 0, none⟩) hw1 (.slice A1 s.rooms.length c1)
  have r00 := ro0.set q1 (by decide) 0 (.slice A1 s.rooms.length c1)
  have r10 := ro1.set q1 (by decide) 0 (.slice A1 s.rooms.length c1)
  have r20 := ro2.set q1 (by decide) 0 (.slice A1 s.rooms.length c1)
  have q80 := q1.set_ 0 (.slice A1 s.rooms.length c1)
  have B91 := ex_set B90 (p := ⟨w.heap.size + 1, 1, none⟩) hw1 (.int .i64 s.days)
  have r01 := r00.set q80 (by decide) 1 (.int .i64 s.days)
  have r11 := r10.set q80 (by decide) 1 (.int .i64 s.days)
  have r21 := r20.set q80 (by decide) 1 (.int .i64 s.days)
  have q81 := q80.set_ 1 (.int .i64 s.days)
  have B92 := ex_set B91 (p := ⟨w.heap.size + 1, 2, none⟩) hw1 (.slice A2 s.moves.length c2)
  have r02 := r01.set q81 (by decide) 2 (.slice A2 s.moves.length c2)
  have r12 := r11.set q81 (by decide) 2 (.slice A2 s.moves.length c2)
  have r22 := r21.set q81 (by decide) 2 (.slice A2 s.moves.length c2)
  have q82 := q81.set_ 2 (.slice A2 s.moves.length c2)
  have B93 := ex_set B92 (p := ⟨w.heap.size + 1, 3, none⟩) hw1 (.slice A3 s.wgs.length c3)
  have r03 := r02.set q82 (by decide) 3 (.slice A3 s.wgs.length c3)
  have r13 := r12.set q82 (by decide) 3 (.slice A3 s.wgs.length c3)
  have r23 := r22.set q82 (by decide) 3 (.slice A3 s.wgs.length c3)
  have q83 := q82.set_ 3 (.slice A3 s.wgs.length c3)
  simp only [List.setIfInBounds_toArray, List.set_cons_zero, List.set_cons_succ] at q83
  have HFIN := Lib.hid (And.intro r03.sl (And.intro r13.sl r23.sl))
  clear ro0 ro1 ro2 r00 r01 r02 r03 r10 r11 r12 r13 r20 r21 r22 r23
  go_wp2
  refine bodyPost_ret (results_cell_row rfl _ _ (w.heap.size + 1) 42 _ (0, 0) _ rfl q83 rfl rfl rfl) rfl ?_
  exact ⟨⟨⟨_, _, _, _, _, _, rfl, HFIN.out.1, HFIN.out.2.1, HFIN.out.2.2⟩⟩, B93⟩
end Go.Proofs.Ythihdiilokdidaa
end

section
namespace Go.Proofs.Ythihdiilokdidaa
open Go.RowKit
attribute [local go_sem] Ex.cell? Ex.frozen?

theorem In_ref (n lo hi : Int) (w : World) :
    Calls Try.prog 47 #[.int .i64 n, .int .i64 lo, .int .i64 hi] w fun e w' => e = .returned (.bool (inB n lo hi)) ∧ w = w' := by
  by_cases h1 : lo ≤ n
  · by_cases h2 : n ≤ hi
    · go_enter Try.func47, Try.ntmps47
      go_wp2
      go_ret
      simp [inB, h1, h2]
    · have h2' : decide (n ≤ hi) = false := by simpa using h2
      go_enter Try.func47, Try.ntmps47
      go_wp2
      go_ret
      simp [inB, h1, h2]
  · have h1' : decide (lo ≤ n) = false := by simpa using h1
    go_enter Try.func47, Try.ntmps47
    go_wp2
    go_ret
    exact ⟨by rw [inB, h1']; rfl, rfl⟩
set_option maxRecDepth 100000 in
theorem span_ref (lo hi high : Int) (w : World) :
    Calls Try.prog 75 #[.agg #[.int .i64 lo, .int .i64 hi], .int .i64 high] w fun e w' => e = .returned (.bool (toB lo hi high)) ∧ Below w.heap.size w w' := by
  have hb1 := ex_alloc (Below.refl w.heap.size w) (.cells #[.int .i64 lo, .int .i64 hi] 52)
  cases h1 : inB lo 0 hi
  · have H1 := Lib.hid h1
    have HR : Hid (toB lo hi high = false) := Lib.hid (by
      cases hs : toB lo hi high
      · rfl
      · have := toB_iff.1 hs
        rw [inB_iff.2 ⟨this.1, this.2.1⟩] at h1; cases h1)
    clear h1
    go_enter Try.func75, Try.ntmps75
    go_wp2_with fail
    refine (In_ref _ _ _ _).mono ?_
    rintro e w' ⟨rfl, rfl⟩
    rw [H1.out]
    go_wp2
    go_ret
    exact ⟨ret_bool HR.out.symm, hb1⟩
  · have H1 := Lib.hid h1
    have HR : Hid (toB lo hi high = decide (hi ≤ high)) := Lib.hid (by
      have h2 := inB_iff.1 h1
      unfold toB
      simp [h2.1, h2.2])
    clear h1
    go_enter Try.func75, Try.ntmps75
    go_wp2_with fail
    refine (In_ref _ _ _ _).mono ?_
    rintro e w' ⟨rfl, rfl⟩
    rw [H1.out]
    go_wp2
    go_ret
    exact ⟨ret_bool HR.out.symm, hb1⟩
theorem side_in (n : Nat) (k : Int) : sideB n k = inB k (-1) ((n : Int) - 1) := by
  unfold sideB inB
  by_cases h : k = -1
  · subst h
    have h2 : (-1 : Int) ≤ (n : Int) - 1 := by omega
    simp [h2]
  · by_cases h2 : 0 ≤ k
    · have h3 : -1 ≤ k := by omega
      simp [h, h2, h3]
    · have h3 : ¬ -1 ≤ k := by omega
      simp [h, h2, h3]
section
variable {s : Ws} {k : Nat}
theorem ck_one (hb : bigWs s = false) (h : goodWs s = false) : ckWs s = 1 := by unfold ckWs; rw [hb, h]; rfl
theorem ck_room (hb : bigWs s = false) (hk : k < s.rooms.length) (h : roomB (gRm s.rooms k) = false) : ckWs s = 1 := ck_one hb (by unfold goodWs; rw [allTo_false (f := fun k => roomB (gRm s.rooms k)) hk h]; simp)
theorem ck_move (hb : bigWs s = false) (hk : k < s.moves.length) (h : moveB s.rooms.length s.days (gMv s.moves k) = false) : ckWs s = 1 := ck_one hb (by unfold goodWs; rw [allTo_false (f := fun k => moveB s.rooms.length s.days (gMv s.moves k)) hk h]; simp)
theorem ck_wg (hb : bigWs s = false) (hk : k < s.wgs.length) (h : wgB s.rooms.length s.days (gWg s.wgs k) = false) : ckWs s = 1 := ck_one hb (by unfold goodWs; rw [allTo_false (f := fun k => wgB s.rooms.length s.days (gWg s.wgs k)) hk h]; simp)
theorem ck_zero (hb : bigWs s = false) (h0 : ¬ s.rooms.length = 0) (hd : inB s.days 1 6 = true) (h1 : ∀ k, k < s.rooms.length → roomB (gRm s.rooms k) = true) (h2 : ∀ k, k < s.moves.length → moveB s.rooms.length s.days (gMv s.moves k) = true) (h3 : ∀ k, k < s.wgs.length → wgB s.rooms.length s.days (gWg s.wgs k) = true) : ckWs s = 0 := by
  unfold ckWs goodWs
  rw [hb, hd, allTo_iff.2 h1, allTo_iff.2 h2, allTo_iff.2 h3]
  simp [h0]
end
set_option maxRecDepth 100000 in
set_option maxHeartbeats 12800000 in
theorem Fault_ref (s : Ws) (Ar Am Aw : Option Addr) (cr cm cw : Nat) (w : World) (hs : WsIn w w.heap.size s Ar Am Aw) :
    Calls Try.prog 61 #[.agg #[.slice Ar s.rooms.length cr, .int .i64 s.days, .slice Am s.moves.length cm, .slice Aw s.wgs.length cw]] w fun e w' => e = .returned (.int .i64 (ckWs s)) ∧ Below w.heap.size w w' := by
  have hb1 := ex_alloc (Below.refl w.heap.size w) (.cells #[.slice Ar s.rooms.length cr, .int .i64 s.days, .slice Am s.moves.length cm, .slice Aw s.wgs.length cw] 26)
  have q0 : Blk (w.alloc (.cells #[.slice Ar s.rooms.length cr, .int .i64 s.days, .slice Am s.moves.length cm, .slice Aw s.wgs.length cw] 26)) w.heap.size 26 #[.slice Ar s.rooms.length cr, .int .i64 s.days, .slice Am s.moves.length cm, .slice Aw s.wgs.length cw] := Blk.new _ _ _
  by_cases hl3 : 3 < s.rooms.length
  · have HR : Hid (ckWs s = 3) := Lib.hid (by unfold ckWs bigWs; rw [if_pos (by simp; omega)])
    have hg3 : decide (3 < (s.rooms.length : Int)) = true := decide_eq_true (by omega)
    clear hl3
    go_enter Try.func61, Try.ntmps61
    go_wp2
    go_ret
    exact ⟨ret_int HR.out.symm, hb1⟩
  have hg3 : decide (3 < (s.rooms.length : Int)) = false := decide_eq_false (by omega)
  by_cases hl12 : 12 < s.moves.length
  · have HR : Hid (ckWs s = 3) := Lib.hid (by unfold ckWs bigWs; rw [if_pos (by simp; omega)])
    have hg12 : decide (12 < (s.moves.length : Int)) = true := decide_eq_true (by omega)
    clear hl12
    go_enter Try.func61, Try.ntmps61
    go_wp2
    go_ret
    exact ⟨ret_int HR.out.symm, hb1⟩
  have hg12 : decide (12 < (s.moves.length : Int)) = false := decide_eq_false (by omega)
  by_cases hl8 : 8 < s.wgs.length
  · have HR : Hid (ckWs s = 3) := Lib.hid (by unfold ckWs bigWs; rw [if_pos (by simp; omega)])
    have hg8 : decide (8 < (s.wgs.length : Int)) = true := decide_eq_true (by omega)
    clear hl8
    go_enter Try.func61, Try.ntmps61
    go_wp2
    go_ret
    exact ⟨ret_int HR.out.symm, hb1⟩
  have hg8 : decide (8 < (s.wgs.length : Int)) = false := decide_eq_false (by omega)
  have HB : Hid (bigWs s = false) := Lib.hid (by unfold bigWs; simp; omega)
  have hlr : s.rooms.length ≤ 3 := by omega
  have hlm : s.moves.length ≤ 12 := by omega
  have hlw : s.wgs.length ≤ 8 := by omega
  clear hl3 hl12 hl8
  by_cases h0 : s.rooms.length = 0
  · have HR : Hid (ckWs s = 1) := Lib.hid (ck_one HB.out (by unfold goodWs; simp [h0]))
    have hz : ((s.rooms.length : Int) == 0) = true := by simp [h0]
    clear h0
    go_enter Try.func61, Try.ntmps61
    go_wp2
    go_ret
    exact ⟨ret_int HR.out.symm, hb1⟩
  have hz : ((s.rooms.length : Int) == 0) = false := by simp [h0]
  have HZ := Lib.hid h0
  have hpos : 0 < s.rooms.length := by omega
  clear h0
  go_enter Try.func61, Try.ntmps61
  go_wp2_with fail
  generalize w.alloc (.cells #[.slice Ar s.rooms.length cr, .int .i64 s.days, .slice Am s.moves.length cm, .slice Aw s.wgs.length cw] 26) = V at *
  refine (In_ref _ _ _ _).mono ?_
  rintro e w' ⟨rfl, rfl⟩
  cases hdy : inB s.days 1 6
  · have HD := Lib.hid hdy
    clear hdy
    have HR : Hid (ckWs s = 1) := Lib.hid (ck_one HB.out (by unfold goodWs; rw [HD.out]; simp))
    go_wp2
    go_ret
    exact ⟨ret_int HR.out.symm, hb1⟩
  have HD := Lib.hid hdy
  have hd := inB_iff.1 hdy
  clear hdy
  go_wp2_with fail
  refine wp_loop (fun a W => Rel (fun a W => ∃ k : Nat, k ≤ s.rooms.length ∧ Below w.heap.size w W ∧ Blk W w.heap.size 26 #[.slice Ar s.rooms.length cr, .int .i64 s.days, .slice Am s.moves.length cm, .slice Aw s.wgs.length cw] ∧ Hid (∀ j, j < k → roomB (gRm s.rooms j) = true) ∧ ∃ u : Nat → Value, a = ⟨List.toArray (u 0 :: .pointer (some ⟨w.heap.size, 0, none⟩) :: u 2 :: .int .i64 (k : Int) :: u 4 :: u 5 :: u 6 :: u 7 :: u 8 :: u 9 :: u 10 :: u 11 :: u 12 :: u 13 :: u 14 :: u 15 :: u 16 :: u 17 :: u 18 :: u 19 :: u 20 :: u 21 :: u 22 :: u 23 :: u 24 :: u 25 :: u 26 :: u 27 :: u 28 :: u 29 :: u 30 :: u 31 :: u 32 :: u 33 :: u 34 :: u 35 :: u 36 :: u 37 :: u 38 :: u 39 :: u 40 :: u 41 :: u 42 :: u 43 :: u 44 :: u 45 :: u 46 :: u 47 :: u 48 :: u 49 :: u 50 :: u 51 :: u 52 :: u 53 :: u 54 :: u 55 :: u 56 :: u 57 :: u 58 :: u 59 :: u 60 :: u 61 :: u 62 :: u 63 :: u 64 :: u 65 :: u 66 :: u 67 :: u 68 :: u 69 :: u 70 :: u 71 :: u 72 :: u 73 :: u 74 :: u 75 :: u 76 :: u 77 :: u 78 :: u 79 :: u 80 :: u 81 :: u 82 :: u 83 :: u 84 :: u 85 :: u 86 :: u 87 :: u 88 :: u 89 :: u 90 :: u 91 :: u 92 :: u 93 :: u 94 :: u 95 :: u 96 :: u 97 :: u 98 :: u 99 :: u 100 :: u 101 :: u 102 :: u 103 :: u 104 :: u 105 :: u 106 :: u 107 :: u 108 :: u 109 :: u 110 :: u 111 :: u 112 :: u 113 :: u 114 :: u 115 :: u 116 :: u 117 :: u 118 :: u 119 :: u 120 :: u 121 :: u 122 :: u 123 :: u 124 :: u 125 :: u 126 :: u 127 :: u 128 :: u 129 :: u 130 :: u 131 :: u 132 :: u 133 :: u 134 :: u 135 :: u 136 :: u 137 :: u 138 :: u 139 :: u 140 :: u 141 :: u 142 :: u 143 :: []), []⟩) a W) (fun a _ => s.rooms.length - (intOf (a.tmps.getD 3 undef)).toNat) ⟨⟨0, by omega, hb1, q0, Lib.hid (fun j hj => by omega), exFrame (by kernel_rfl)⟩⟩ ?_
  clear hb1 q0 V
  rintro a W ⟨⟨k, hk, hb1, q0, HO, u, rfl⟩⟩
  have l0 := q0.lt
  by_cases hlt : k < s.rooms.length
  · obtain ⟨br, orr, rfl, hbr, r0, r1, r2, r3⟩ := IsRms.at_ (hs.rooms.below hb1) hlt
    have hkn : (k : Int) < (s.rooms.length : Int) := by omega
    have lbr : br < W.heap.size := by have := hb1.size; omega
    have HRM : Hid (roomB (gRm s.rooms k) = (toB (gRm s.rooms k).fst.lo (gRm s.rooms k).fst.hi 2000 && toB (gRm s.rooms k).vap.lo (gRm s.rooms k).vap.hi 50)) := Lib.hid rfl
    obtain ⟨e0, he0⟩ : ∃ x, (gRm s.rooms k).fst.lo = x := ⟨_, rfl⟩
    rw [he0] at r0 HRM
    clear he0
    obtain ⟨e1, he1⟩ : ∃ x, (gRm s.rooms k).fst.hi = x := ⟨_, rfl⟩
    rw [he1] at r1 HRM
    clear he1
    obtain ⟨e2, he2⟩ : ∃ x, (gRm s.rooms k).vap.lo = x := ⟨_, rfl⟩
    rw [he2] at r2 HRM
    clear he2
    obtain ⟨e3, he3⟩ : ∃ x, (gRm s.rooms k).vap.hi = x := ⟨_, rfl⟩
    rw [he3] at r3 HRM
    clear he3
    skip
    have a0 : W.cell? ⟨w.heap.size, 0, none⟩ = some (.slice (some ⟨br, orr, none⟩) s.rooms.length cr) := q0.cell 0
    have a1 : W.cell? ⟨w.heap.size, 1, none⟩ = some (.int .i64 s.days) := q0.cell 1
    have a2 : W.cell? ⟨w.heap.size, 2, none⟩ = some (.slice Am s.moves.length cm) := q0.cell 2
    have a3 : W.cell? ⟨w.heap.size, 3, none⟩ = some (.slice Aw s.wgs.length cw) := q0.cell 3
    go_wp2_with fail
    refine (span_ref e0 e1 2000 W).mono ?_
    rintro e W1 ⟨rfl, hW1⟩
    replace q0 := q0.below hW1 q0.lt
    have B_W1 := ex_trans hb1 hW1
    clear a0 a1 a2 a3 l0
    have a0 : W1.cell? ⟨w.heap.size, 0, none⟩ = some (.slice (some ⟨br, orr, none⟩) s.rooms.length cr) := q0.cell 0
    have a1 : W1.cell? ⟨w.heap.size, 1, none⟩ = some (.int .i64 s.days) := q0.cell 1
    have a2 : W1.cell? ⟨w.heap.size, 2, none⟩ = some (.slice Am s.moves.length cm) := q0.cell 2
    have a3 : W1.cell? ⟨w.heap.size, 3, none⟩ = some (.slice Aw s.wgs.length cw) := q0.cell 3
    have l0 := q0.lt
    replace r0 : W1.cell? _ = _ := (hW1.cell (p := ⟨br, _, none⟩) (show br < W.heap.size from lbr)).trans r0
    replace r1 : W1.cell? _ = _ := (hW1.cell (p := ⟨br, _, none⟩) (show br < W.heap.size from lbr)).trans r1
    replace r2 : W1.cell? _ = _ := (hW1.cell (p := ⟨br, _, none⟩) (show br < W.heap.size from lbr)).trans r2
    replace r3 : W1.cell? _ = _ := (hW1.cell (p := ⟨br, _, none⟩) (show br < W.heap.size from lbr)).trans r3
    replace lbr : br < W1.heap.size := by have := hW1.size; omega
    cases hS1 : toB e0 e1 2000
    · have HS1 := Lib.hid hS1
      clear hS1
      have HR : Hid (ckWs s = 1) := Lib.hid (ck_room HB.out hlt (by rw [HRM.out, HS1.out]; rfl))
      go_wp2
      go_ret
      exact ⟨ret_int HR.out.symm, B_W1⟩
    have HS1 := Lib.hid hS1
    clear hS1
    go_wp2_with fail
    refine (span_ref e2 e3 50 W1).mono ?_
    rintro e W2 ⟨rfl, hW2⟩
    replace q0 := q0.below hW2 q0.lt
    have B_W2 := ex_trans B_W1 hW2
    clear a0 a1 a2 a3 l0
    have a0 : W2.cell? ⟨w.heap.size, 0, none⟩ = some (.slice (some ⟨br, orr, none⟩) s.rooms.length cr) := q0.cell 0
    have a1 : W2.cell? ⟨w.heap.size, 1, none⟩ = some (.int .i64 s.days) := q0.cell 1
    have a2 : W2.cell? ⟨w.heap.size, 2, none⟩ = some (.slice Am s.moves.length cm) := q0.cell 2
    have a3 : W2.cell? ⟨w.heap.size, 3, none⟩ = some (.slice Aw s.wgs.length cw) := q0.cell 3
    have l0 := q0.lt
    cases hS2 : toB e2 e3 50
    · have HS2 := Lib.hid hS2
      clear hS2
      have HR : Hid (ckWs s = 1) := Lib.hid (ck_room HB.out hlt (by rw [HRM.out, HS2.out, Bool.and_false]))
      go_wp2
      go_ret
      exact ⟨ret_int HR.out.symm, B_W2⟩
    have HS2 := Lib.hid hS2
    clear hS2
    have HO2 : Hid (∀ j, j < k + 1 → roomB (gRm s.rooms j) = true) := Lib.hid (fun j hj => by
      rcases Nat.lt_succ_iff_lt_or_eq.1 hj with h | h
      · exact HO.out j h
      · subst h; rw [HRM.out, HS1.out, HS2.out]; rfl)
    clear r0 r1 r2 r3
    go_wp2_with fail
    refine ⟨⟨⟨k + 1, by omega, B_W2, q0, HO2, exFrame (by kernel_rfl)⟩⟩, ?_⟩
    show s.rooms.length - (intOf (.int .i64 ((k : Int) + 1))).toNat < s.rooms.length - (intOf (.int .i64 (k : Int))).toNat
    simp [intOf]
    omega
  have HO1 : Hid (∀ j, j < s.rooms.length → roomB (gRm s.rooms j) = true) := Lib.hid (fun j hj => HO.out j (by omega))
  obtain rfl : k = s.rooms.length := by omega
  clear HO
  have a0 : W.cell? ⟨w.heap.size, 0, none⟩ = some (.slice Ar s.rooms.length cr) := q0.cell 0
  have a1 : W.cell? ⟨w.heap.size, 1, none⟩ = some (.int .i64 s.days) := q0.cell 1
  have a2 : W.cell? ⟨w.heap.size, 2, none⟩ = some (.slice Am s.moves.length cm) := q0.cell 2
  have a3 : W.cell? ⟨w.heap.size, 3, none⟩ = some (.slice Aw s.wgs.length cw) := q0.cell 3
  go_wp2_with fail
  clear a0 a1 a2 a3 l0 hlt hk
  refine wp_loop (fun a W => Rel (fun a W => ∃ k : Nat, k ≤ s.moves.length ∧ Below w.heap.size w W ∧ Blk W w.heap.size 26 #[.slice Ar s.rooms.length cr, .int .i64 s.days, .slice Am s.moves.length cm, .slice Aw s.wgs.length cw] ∧ Hid (∀ j, j < k → moveB s.rooms.length s.days (gMv s.moves j) = true) ∧ ∃ u : Nat → Value, a = ⟨List.toArray (u 0 :: .pointer (some ⟨w.heap.size, 0, none⟩) :: u 2 :: u 3 :: .int .i64 (s.rooms.length : Int) :: .int .i64 (k : Int) :: u 6 :: u 7 :: u 8 :: u 9 :: u 10 :: u 11 :: u 12 :: u 13 :: u 14 :: u 15 :: u 16 :: u 17 :: u 18 :: u 19 :: u 20 :: u 21 :: u 22 :: u 23 :: u 24 :: u 25 :: u 26 :: u 27 :: u 28 :: u 29 :: u 30 :: u 31 :: u 32 :: u 33 :: u 34 :: u 35 :: u 36 :: u 37 :: u 38 :: u 39 :: u 40 :: u 41 :: u 42 :: u 43 :: u 44 :: u 45 :: u 46 :: u 47 :: u 48 :: u 49 :: u 50 :: u 51 :: u 52 :: u 53 :: u 54 :: u 55 :: u 56 :: u 57 :: u 58 :: u 59 :: u 60 :: u 61 :: u 62 :: u 63 :: u 64 :: u 65 :: u 66 :: u 67 :: u 68 :: u 69 :: u 70 :: u 71 :: u 72 :: u 73 :: u 74 :: u 75 :: u 76 :: u 77 :: u 78 :: u 79 :: u 80 :: u 81 :: u 82 :: u 83 :: u 84 :: u 85 :: u 86 :: u 87 :: u 88 :: u 89 :: u 90 :: u 91 :: u 92 :: u 93 :: u 94 :: u 95 :: u 96 :: u 97 :: u 98 :: u 99 :: u 100 :: u 101 :: u 102 :: u 103 :: u 104 :: u 105 :: u 106 :: u 107 :: u 108 :: u 109 :: u 110 :: u 111 :: u 112 :: u 113 :: u 114 :: u 115 :: u 116 :: u 117 :: u 118 :: u 119 :: u 120 :: u 121 :: u 122 :: u 123 :: u 124 :: u 125 :: u 126 :: u 127 :: u 128 :: u 129 :: u 130 :: u 131 :: u 132 :: u 133 :: u 134 :: u 135 :: u 136 :: u 137 :: u 138 :: u 139 :: u 140 :: u 141 :: u 142 :: u 143 :: []), []⟩) a W) (fun a _ => s.moves.length - (intOf (a.tmps.getD 5 undef)).toNat) ⟨⟨0, by omega, hb1, q0, Lib.hid (fun j hj => by omega), exFrame (by kernel_rfl)⟩⟩ ?_
  clear hb1 q0 W
  rintro a W ⟨⟨k, hk, hb1, q0, HO, u, rfl⟩⟩
  have l0 := q0.lt
  by_cases hlt : k < s.moves.length
  · have HRM : Hid (moveB s.rooms.length s.days (gMv s.moves k) = (inB (gMv s.moves k).day 0 (s.days - 1) && (inB (gMv s.moves k).src (-1) ((s.rooms.length : Int) - 1) && (inB (gMv s.moves k).dst (-1) ((s.rooms.length : Int) - 1) && (decide ((gMv s.moves k).src ≠ (gMv s.moves k).dst) && toB (gMv s.moves k).g.lo (gMv s.moves k).g.hi 2000))))) := Lib.hid (by rw [← side_in, ← side_in]; rfl)
    obtain ⟨br, orr, rfl, hbr, r0, r1, r2, r3, r4⟩ := IsMvs.at_ (hs.moves.below hb1) hlt
    have hkn : (k : Int) < (s.moves.length : Int) := by omega
    have lbr : br < W.heap.size := by have := hb1.size; omega
    obtain ⟨e0, he0⟩ : ∃ x, (gMv s.moves k).day = x := ⟨_, rfl⟩
    rw [he0] at r0 HRM
    clear he0
    obtain ⟨e1, he1⟩ : ∃ x, (gMv s.moves k).src = x := ⟨_, rfl⟩
    rw [he1] at r1 HRM
    clear he1
    obtain ⟨e2, he2⟩ : ∃ x, (gMv s.moves k).dst = x := ⟨_, rfl⟩
    rw [he2] at r2 HRM
    clear he2
    obtain ⟨e3, he3⟩ : ∃ x, (gMv s.moves k).g.lo = x := ⟨_, rfl⟩
    rw [he3] at r3 HRM
    clear he3
    obtain ⟨e4, he4⟩ : ∃ x, (gMv s.moves k).g.hi = x := ⟨_, rfl⟩
    rw [he4] at r4 HRM
    clear he4
    have a0 : W.cell? ⟨w.heap.size, 0, none⟩ = some (.slice Ar s.rooms.length cr) := q0.cell 0
    have a1 : W.cell? ⟨w.heap.size, 1, none⟩ = some (.int .i64 s.days) := q0.cell 1
    have a2 : W.cell? ⟨w.heap.size, 2, none⟩ = some (.slice (some ⟨br, orr, none⟩) s.moves.length cm) := q0.cell 2
    have a3 : W.cell? ⟨w.heap.size, 3, none⟩ = some (.slice Aw s.wgs.length cw) := q0.cell 3
    have qm : Blk (W.alloc (.cells #[.int .i64 e0, .int .i64 e1, .int .i64 e2, .int .i64 e3, .int .i64 e4] 78)) W.heap.size 78 #[.int .i64 e0, .int .i64 e1, .int .i64 e2, .int .i64 e3, .int .i64 e4] := Blk.new _ _ _
    go_wp2_with fail
    have N_V := ex_alloc (Below.refl W.heap.size W) (.cells #[.int .i64 e0, .int .i64 e1, .int .i64 e2, .int .i64 e3, .int .i64 e4] 78)
    clear a0 a1 a2 a3 l0 r0 r1 r2 r3 r4 lbr
    replace q0 := q0.below N_V q0.lt
    have B_V := ex_trans hb1 N_V
    obtain ⟨pm, hpm⟩ : ∃ p, W.heap.size = p := ⟨_, rfl⟩
    rw [hpm] at qm ⊢
    clear hpm N_V
    generalize W.alloc (.cells #[.int .i64 e0, .int .i64 e1, .int .i64 e2, .int .i64 e3, .int .i64 e4] 78) = V at *
    have a0 : V.cell? ⟨w.heap.size, 0, none⟩ = some (.slice Ar s.rooms.length cr) := q0.cell 0
    have a1 : V.cell? ⟨w.heap.size, 1, none⟩ = some (.int .i64 s.days) := q0.cell 1
    have a2 : V.cell? ⟨w.heap.size, 2, none⟩ = some (.slice (some ⟨br, orr, none⟩) s.moves.length cm) := q0.cell 2
    have a3 : V.cell? ⟨w.heap.size, 3, none⟩ = some (.slice Aw s.wgs.length cw) := q0.cell 3
    have l0 := q0.lt
    have lm := qm.lt
    have m0 : V.cell? ⟨pm, 0, none⟩ = some (.int .i64 e0) := qm.cell 0
    have m1 : V.cell? ⟨pm, 1, none⟩ = some (.int .i64 e1) := qm.cell 1
    have m2 : V.cell? ⟨pm, 2, none⟩ = some (.int .i64 e2) := qm.cell 2
    have m3 : V.cell? ⟨pm, 3, none⟩ = some (.int .i64 e3) := qm.cell 3
    have m4 : V.cell? ⟨pm, 4, none⟩ = some (.int .i64 e4) := qm.cell 4
    go_wp2_with fail
    refine (In_ref _ _ _ _).mono ?_
    rintro e w' ⟨rfl, rfl⟩
    cases hI1 : inB e0 0 (s.days - 1)
    · have HI1 := Lib.hid hI1
      clear hI1
      have HR : Hid (ckWs s = 1) := Lib.hid (ck_move HB.out hlt (by rw [HRM.out, HI1.out]; rfl))
      go_wp2
      go_ret
      exact ⟨ret_int HR.out.symm, B_V⟩
    have HI1 := Lib.hid hI1
    clear hI1
    go_wp2_with fail
    refine (In_ref _ _ _ _).mono ?_
    rintro e w' ⟨rfl, rfl⟩
    cases hI2 : inB e1 (-1) ((s.rooms.length : Int) - 1)
    · have HI2 := Lib.hid hI2
      clear hI2
      have HR : Hid (ckWs s = 1) := Lib.hid (ck_move HB.out hlt (by rw [HRM.out, HI1.out, HI2.out]; rfl))
      go_wp2
      go_ret
      exact ⟨ret_int HR.out.symm, B_V⟩
    have HI2 := Lib.hid hI2
    clear hI2
    go_wp2_with fail
    refine (In_ref _ _ _ _).mono ?_
    rintro e w' ⟨rfl, rfl⟩
    cases hI3 : inB e2 (-1) ((s.rooms.length : Int) - 1)
    · have HI3 := Lib.hid hI3
      clear hI3
      have HR : Hid (ckWs s = 1) := Lib.hid (ck_move HB.out hlt (by rw [HRM.out, HI1.out, HI2.out, HI3.out]; rfl))
      go_wp2
      go_ret
      exact ⟨ret_int HR.out.symm, B_V⟩
    have HI3 := Lib.hid hI3
    clear hI3
    by_cases hne : e1 = e2
    · have hq : (e1 == e2) = true := by simp [hne]
      have HNE := Lib.hid hne
      clear hne
      have HR : Hid (ckWs s = 1) := Lib.hid (ck_move HB.out hlt (by rw [HRM.out, HI1.out, HI2.out, HI3.out, HNE.out]; simp))
      go_wp2
      go_ret
      exact ⟨ret_int HR.out.symm, B_V⟩
    have hq : (e1 == e2) = false := by simp [hne]
    have HNE := Lib.hid hne
    clear hne
    go_wp2_with fail
    refine (span_ref e3 e4 2000 V).mono ?_
    rintro e V1 ⟨rfl, hV1⟩
    replace q0 := q0.below hV1 q0.lt
    replace qm := qm.below hV1 qm.lt
    have B_V1 := ex_trans B_V hV1
    clear a0 a1 a2 a3 l0 lm m0 m1 m2 m3 m4
    have a0 : V1.cell? ⟨w.heap.size, 0, none⟩ = some (.slice Ar s.rooms.length cr) := q0.cell 0
    have a1 : V1.cell? ⟨w.heap.size, 1, none⟩ = some (.int .i64 s.days) := q0.cell 1
    have a2 : V1.cell? ⟨w.heap.size, 2, none⟩ = some (.slice (some ⟨br, orr, none⟩) s.moves.length cm) := q0.cell 2
    have a3 : V1.cell? ⟨w.heap.size, 3, none⟩ = some (.slice Aw s.wgs.length cw) := q0.cell 3
    have l0 := q0.lt
    have lm := qm.lt
    have m0 : V1.cell? ⟨pm, 0, none⟩ = some (.int .i64 e0) := qm.cell 0
    have m1 : V1.cell? ⟨pm, 1, none⟩ = some (.int .i64 e1) := qm.cell 1
    have m2 : V1.cell? ⟨pm, 2, none⟩ = some (.int .i64 e2) := qm.cell 2
    have m3 : V1.cell? ⟨pm, 3, none⟩ = some (.int .i64 e3) := qm.cell 3
    have m4 : V1.cell? ⟨pm, 4, none⟩ = some (.int .i64 e4) := qm.cell 4
    cases hS1 : toB e3 e4 2000
    · have HS1 := Lib.hid hS1
      clear hS1
      have HR : Hid (ckWs s = 1) := Lib.hid (ck_move HB.out hlt (by rw [HRM.out, HS1.out]; simp))
      go_wp2
      go_ret
      exact ⟨ret_int HR.out.symm, B_V1⟩
    have HS1 := Lib.hid hS1
    clear hS1
    have HO2 : Hid (∀ j, j < k + 1 → moveB s.rooms.length s.days (gMv s.moves j) = true) := Lib.hid (fun j hj => by
      rcases Nat.lt_succ_iff_lt_or_eq.1 hj with h | h
      · exact HO.out j h
      · subst h; rw [HRM.out, HI1.out, HI2.out, HI3.out, HS1.out, decide_eq_true HNE.out]; rfl)
    go_wp2_with fail
    refine ⟨⟨⟨k + 1, by omega, B_V1, q0, HO2, exFrame (by kernel_rfl)⟩⟩, ?_⟩
    show s.moves.length - (intOf (.int .i64 ((k : Int) + 1))).toNat < s.moves.length - (intOf (.int .i64 (k : Int))).toNat
    simp [intOf]
    omega
  have HO3 : Hid (∀ j, j < s.moves.length → moveB s.rooms.length s.days (gMv s.moves j) = true) := Lib.hid (fun j hj => HO.out j (by omega))
  obtain rfl : k = s.moves.length := by omega
  clear HO
  have a0 : W.cell? ⟨w.heap.size, 0, none⟩ = some (.slice Ar s.rooms.length cr) := q0.cell 0
  have a1 : W.cell? ⟨w.heap.size, 1, none⟩ = some (.int .i64 s.days) := q0.cell 1
  have a2 : W.cell? ⟨w.heap.size, 2, none⟩ = some (.slice Am s.moves.length cm) := q0.cell 2
  have a3 : W.cell? ⟨w.heap.size, 3, none⟩ = some (.slice Aw s.wgs.length cw) := q0.cell 3
  go_wp2_with fail
  clear a0 a1 a2 a3 l0 hlt hk
  refine wp_loop (fun a W => Rel (fun a W => ∃ k : Nat, k ≤ s.wgs.length ∧ Below w.heap.size w W ∧ Blk W w.heap.size 26 #[.slice Ar s.rooms.length cr, .int .i64 s.days, .slice Am s.moves.length cm, .slice Aw s.wgs.length cw] ∧ Hid (∀ j, j < k → wgB s.rooms.length s.days (gWg s.wgs j) = true) ∧ ∃ u : Nat → Value, a = ⟨List.toArray (u 0 :: .pointer (some ⟨w.heap.size, 0, none⟩) :: u 2 :: u 3 :: .int .i64 (s.rooms.length : Int) :: u 5 :: u 6 :: .int .i64 (k : Int) :: u 8 :: u 9 :: u 10 :: u 11 :: u 12 :: u 13 :: u 14 :: u 15 :: u 16 :: u 17 :: u 18 :: u 19 :: u 20 :: u 21 :: u 22 :: u 23 :: u 24 :: u 25 :: u 26 :: u 27 :: u 28 :: u 29 :: u 30 :: u 31 :: u 32 :: u 33 :: u 34 :: u 35 :: u 36 :: u 37 :: u 38 :: u 39 :: u 40 :: u 41 :: u 42 :: u 43 :: u 44 :: u 45 :: u 46 :: u 47 :: u 48 :: u 49 :: u 50 :: u 51 :: u 52 :: u 53 :: u 54 :: u 55 :: u 56 :: u 57 :: u 58 :: u 59 :: u 60 :: u 61 :: u 62 :: u 63 :: u 64 :: u 65 :: u 66 :: u 67 :: u 68 :: u 69 :: u 70 :: u 71 :: u 72 :: u 73 :: u 74 :: u 75 :: u 76 :: u 77 :: u 78 :: u 79 :: u 80 :: u 81 :: u 82 :: u 83 :: u 84 :: u 85 :: u 86 :: u 87 :: u 88 :: u 89 :: u 90 :: u 91 :: u 92 :: u 93 :: u 94 :: u 95 :: u 96 :: u 97 :: u 98 :: u 99 :: u 100 :: u 101 :: u 102 :: u 103 :: u 104 :: u 105 :: u 106 :: u 107 :: u 108 :: u 109 :: u 110 :: u 111 :: u 112 :: u 113 :: u 114 :: u 115 :: u 116 :: u 117 :: u 118 :: u 119 :: u 120 :: u 121 :: u 122 :: u 123 :: u 124 :: u 125 :: u 126 :: u 127 :: u 128 :: u 129 :: u 130 :: u 131 :: u 132 :: u 133 :: u 134 :: u 135 :: u 136 :: u 137 :: u 138 :: u 139 :: u 140 :: u 141 :: u 142 :: u 143 :: []), []⟩) a W) (fun a _ => s.wgs.length - (intOf (a.tmps.getD 7 undef)).toNat) ⟨⟨0, by omega, hb1, q0, Lib.hid (fun j hj => by omega), exFrame (by kernel_rfl)⟩⟩ ?_
  clear hb1 q0 W
  rintro a W ⟨⟨k, hk, hb1, q0, HO, u, rfl⟩⟩
  have l0 := q0.lt
  by_cases hlt : k < s.wgs.length
  · have HRM : Hid (wgB s.rooms.length s.days (gWg s.wgs k) = (inB (gWg s.wgs k).room 0 ((s.rooms.length : Int) - 1) && (inB (gWg s.wgs k).day 0 (s.days - 1) && toB (gWg s.wgs k).g.lo (gWg s.wgs k).g.hi 2000))) := Lib.hid rfl
    obtain ⟨br, orr, rfl, hbr, r0, r1, r2, r3⟩ := IsWgs.at_ (hs.wgs.below hb1) hlt
    have hkn : (k : Int) < (s.wgs.length : Int) := by omega
    have lbr : br < W.heap.size := by have := hb1.size; omega
    obtain ⟨e0, he0⟩ : ∃ x, (gWg s.wgs k).room = x := ⟨_, rfl⟩
    rw [he0] at r0 HRM
    clear he0
    obtain ⟨e1, he1⟩ : ∃ x, (gWg s.wgs k).day = x := ⟨_, rfl⟩
    rw [he1] at r1 HRM
    clear he1
    obtain ⟨e2, he2⟩ : ∃ x, (gWg s.wgs k).g.lo = x := ⟨_, rfl⟩
    rw [he2] at r2 HRM
    clear he2
    obtain ⟨e3, he3⟩ : ∃ x, (gWg s.wgs k).g.hi = x := ⟨_, rfl⟩
    rw [he3] at r3 HRM
    clear he3
    have a0 : W.cell? ⟨w.heap.size, 0, none⟩ = some (.slice Ar s.rooms.length cr) := q0.cell 0
    have a1 : W.cell? ⟨w.heap.size, 1, none⟩ = some (.int .i64 s.days) := q0.cell 1
    have a2 : W.cell? ⟨w.heap.size, 2, none⟩ = some (.slice Am s.moves.length cm) := q0.cell 2
    have a3 : W.cell? ⟨w.heap.size, 3, none⟩ = some (.slice (some ⟨br, orr, none⟩) s.wgs.length cw) := q0.cell 3
    have qm : Blk (W.alloc (.cells #[.int .i64 e0, .int .i64 e1, .int .i64 e2, .int .i64 e3] 72)) W.heap.size 72 #[.int .i64 e0, .int .i64 e1, .int .i64 e2, .int .i64 e3] := Blk.new _ _ _
    go_wp2_with fail
    have N_V := ex_alloc (Below.refl W.heap.size W) (.cells #[.int .i64 e0, .int .i64 e1, .int .i64 e2, .int .i64 e3] 72)
    clear a0 a1 a2 a3 l0 r0 r1 r2 r3 lbr
    replace q0 := q0.below N_V q0.lt
    have B_V := ex_trans hb1 N_V
    obtain ⟨pm, hpm⟩ : ∃ p, W.heap.size = p := ⟨_, rfl⟩
    rw [hpm] at qm ⊢
    clear hpm N_V
    generalize W.alloc (.cells #[.int .i64 e0, .int .i64 e1, .int .i64 e2, .int .i64 e3] 72) = V at *
    have a0 : V.cell? ⟨w.heap.size, 0, none⟩ = some (.slice Ar s.rooms.length cr) := q0.cell 0
    have a1 : V.cell? ⟨w.heap.size, 1, none⟩ = some (.int .i64 s.days) := q0.cell 1
    have a2 : V.cell? ⟨w.heap.size, 2, none⟩ = some (.slice Am s.moves.length cm) := q0.cell 2
    have a3 : V.cell? ⟨w.heap.size, 3, none⟩ = some (.slice (some ⟨br, orr, none⟩) s.wgs.length cw) := q0.cell 3
    have l0 := q0.lt
    have lm := qm.lt
    have m0 : V.cell? ⟨pm, 0, none⟩ = some (.int .i64 e0) := qm.cell 0
    have m1 : V.cell? ⟨pm, 1, none⟩ = some (.int .i64 e1) := qm.cell 1
    have m2 : V.cell? ⟨pm, 2, none⟩ = some (.int .i64 e2) := qm.cell 2
    have m3 : V.cell? ⟨pm, 3, none⟩ = some (.int .i64 e3) := qm.cell 3
    go_wp2_with fail
    refine (In_ref _ _ _ _).mono ?_
    rintro e w' ⟨rfl, rfl⟩
    cases hI1 : inB e0 0 ((s.rooms.length : Int) - 1)
    · have HI1 := Lib.hid hI1
      clear hI1
      have HR : Hid (ckWs s = 1) := Lib.hid (ck_wg HB.out hlt (by rw [HRM.out, HI1.out]; rfl))
      go_wp2
      go_ret
      exact ⟨ret_int HR.out.symm, B_V⟩
    have HI1 := Lib.hid hI1
    clear hI1
    go_wp2_with fail
    refine (In_ref _ _ _ _).mono ?_
    rintro e w' ⟨rfl, rfl⟩
    cases hI2 : inB e1 0 (s.days - 1)
    · have HI2 := Lib.hid hI2
      clear hI2
      have HR : Hid (ckWs s = 1) := Lib.hid (ck_wg HB.out hlt (by rw [HRM.out, HI1.out, HI2.out]; rfl))
      go_wp2
      go_ret
      exact ⟨ret_int HR.out.symm, B_V⟩
    have HI2 := Lib.hid hI2
    clear hI2
    go_wp2_with fail
    refine (span_ref e2 e3 2000 V).mono ?_
    rintro e V1 ⟨rfl, hV1⟩
    replace q0 := q0.below hV1 q0.lt
    replace qm := qm.below hV1 qm.lt
    have B_V1 := ex_trans B_V hV1
    clear a0 a1 a2 a3 l0 lm m0 m1 m2 m3
    have a0 : V1.cell? ⟨w.heap.size, 0, none⟩ = some (.slice Ar s.rooms.length cr) := q0.cell 0
    have a1 : V1.cell? ⟨w.heap.size, 1, none⟩ = some (.int .i64 s.days) := q0.cell 1
    have a2 : V1.cell? ⟨w.heap.size, 2, none⟩ = some (.slice Am s.moves.length cm) := q0.cell 2
    have a3 : V1.cell? ⟨w.heap.size, 3, none⟩ = some (.slice (some ⟨br, orr, none⟩) s.wgs.length cw) := q0.cell 3
    have l0 := q0.lt
    have lm := qm.lt
    have m0 : V1.cell? ⟨pm, 0, none⟩ = some (.int .i64 e0) := qm.cell 0
    have m1 : V1.cell? ⟨pm, 1, none⟩ = some (.int .i64 e1) := qm.cell 1
    have m2 : V1.cell? ⟨pm, 2, none⟩ = some (.int .i64 e2) := qm.cell 2
    have m3 : V1.cell? ⟨pm, 3, none⟩ = some (.int .i64 e3) := qm.cell 3
    cases hS1 : toB e2 e3 2000
    · have HS1 := Lib.hid hS1
      clear hS1
      have HR : Hid (ckWs s = 1) := Lib.hid (ck_wg HB.out hlt (by rw [HRM.out, HI1.out, HI2.out, HS1.out]; rfl))
      go_wp2
      go_ret
      exact ⟨ret_int HR.out.symm, B_V1⟩
    have HS1 := Lib.hid hS1
    clear hS1
    have HO2 : Hid (∀ j, j < k + 1 → wgB s.rooms.length s.days (gWg s.wgs j) = true) := Lib.hid (fun j hj => by
      rcases Nat.lt_succ_iff_lt_or_eq.1 hj with h | h
      · exact HO.out j h
      · subst h; rw [HRM.out, HI1.out, HI2.out, HS1.out]; rfl)
    go_wp2_with fail
    refine ⟨⟨⟨k + 1, by omega, B_V1, q0, HO2, exFrame (by kernel_rfl)⟩⟩, ?_⟩
    show s.wgs.length - (intOf (.int .i64 ((k : Int) + 1))).toNat < s.wgs.length - (intOf (.int .i64 (k : Int))).toNat
    simp [intOf]
    omega
  have HR : Hid (ckWs s = 0) := Lib.hid (ck_zero HB.out HZ.out HD.out HO1.out HO3.out (fun j hj => HO.out j (by omega)))
  obtain rfl : k = s.wgs.length := by omega
  clear HO
  have a0 : W.cell? ⟨w.heap.size, 0, none⟩ = some (.slice Ar s.rooms.length cr) := q0.cell 0
  have a1 : W.cell? ⟨w.heap.size, 1, none⟩ = some (.int .i64 s.days) := q0.cell 1
  have a2 : W.cell? ⟨w.heap.size, 2, none⟩ = some (.slice Am s.moves.length cm) := q0.cell 2
  have a3 : W.cell? ⟨w.heap.size, 3, none⟩ = some (.slice Aw s.wgs.length cw) := q0.cell 3
  go_wp2
  go_ret
  exact ⟨ret_int HR.out.symm, hb1⟩
set_option maxRecDepth 100000 in
set_option maxHeartbeats 1600000 in
theorem fault_any (s : Ws) (Ar Am Aw : Option Addr) (cr cm cw : Nat) (w : World) (hs : WsIn w w.heap.size s Ar Am Aw) :
    Calls Try.prog 20 #[.agg #[.slice Ar s.rooms.length cr, .int .i64 s.days, .slice Am s.moves.length cm, .slice Aw s.wgs.length cw]] w fun e w' => e = .returned (.int .i64 (ckWs s)) ∧ Below w.heap.size w w' := by
  have hb1 := ex_alloc (Below.refl w.heap.size w) (.cells #[.slice Ar s.rooms.length cr, .int .i64 s.days, .slice Am s.moves.length cm, .slice Aw s.wgs.length cw] 26)
  have q0 : Blk (w.alloc (.cells #[.slice Ar s.rooms.length cr, .int .i64 s.days, .slice Am s.moves.length cm, .slice Aw s.wgs.length cw] 26)) w.heap.size 26 #[.slice Ar s.rooms.length cr, .int .i64 s.days, .slice Am s.moves.length cm, .slice Aw s.wgs.length cw] := Blk.new _ _ _
  have hs1 := hs.go hb1
  go_enter Try.func20, Try.ntmps20
  go_wp2_with fail
  refine (Fault_ref s Ar Am Aw cr cm cw _ hs1).mono ?_
  rintro e W1 ⟨rfl, hx⟩
  go_wp2
  go_ret
  exact ⟨rfl, ex_trans hb1 hx⟩
end Go.Proofs.Ythihdiilokdidaa
end

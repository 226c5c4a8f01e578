/- Bath: a series in memory; instrument, bath (walks). · Bath: all[Range] by offset and by heat, all[Bath] by bath (walks). · Bath: plans in memory. · Bath's laws: readings of arguments: series, works, plans, lists. · Rows in rows: elements that hold slices of the call's own. · Bath: CheckWorks, dip, all[Dip] (walks). · Bath: all[Dip], CheckWorks (walks). · What is known by a plan (plain): the bounds of a state, what a dip tells, the state at which nothing is nearer. -/
import Derived.Test.YtnplefhigbkbbaaQ1
set_option linter.unusedVariables false
set_option linter.unusedSimpArgs false
set_option linter.unusedSectionVars false
section
namespace Go.Proofs.Ytnplefhigbkbbaa
open Go.RowKit
attribute [local go_sem] Ex.cell? Ex.frozen?

def fRd (l : List Rd) : Nat → Nat → Value := fun k j => match j with | 0 => .int .i64 (gRd l k).inst | _ => .int .i64 (gRd l k).val
def fBt (l : List Bt) (rA : Nat → Option Addr) (rc : Nat → Nat) : Nat → Nat → Value := fun k j => match j with | 0 => .int .i64 (gBt l k).heat.lo | 1 => .int .i64 (gBt l k).heat.hi | _ => .slice (rA k) (gBt l k).reads.length (rc k)
theorem IsRds.at_ {w : World} {B n : Nat} {A : Option Addr} {l : List Rd} (h : SlAt w B 2 A n (fRd l)) {k : Nat} (hk : k < n) :
    ∃ b off, A = some ⟨b, off, none⟩ ∧ b < B ∧ w.cell? ⟨b, off + k * 2, none⟩ = some (.int .i64 (gRd l k).inst) ∧ w.cell? ⟨b, off + k * 2 + 1, none⟩ = some (.int .i64 (gRd l k).val) := by
  obtain ⟨b, off, e, hb, hc⟩ := h (by omega)
  refine ⟨b, off, e, hb, ?_, ?_⟩
  · have := hc k 0 hk (by omega); simpa [fRd] using this
  · have := hc k 1 hk (by omega); simpa [fRd, Nat.add_assoc] using this
theorem IsBts.at_ {w : World} {B n : Nat} {A : Option Addr} {l : List Bt} {rA : Nat → Option Addr} {rc : Nat → Nat} (h : SlAt w B 3 A n (fBt l rA rc)) {k : Nat} (hk : k < n) :
    ∃ b off, A = some ⟨b, off, none⟩ ∧ b < B ∧ w.cell? ⟨b, off + k * 3, none⟩ = some (.int .i64 (gBt l k).heat.lo) ∧ w.cell? ⟨b, off + k * 3 + 1, none⟩ = some (.int .i64 (gBt l k).heat.hi) ∧ w.cell? ⟨b, off + k * 3 + 2, none⟩ = some (.slice (rA k) (gBt l k).reads.length (rc k)) := by
  obtain ⟨b, off, e, hb, hc⟩ := h (by omega)
  refine ⟨b, off, e, hb, ?_, ?_, ?_⟩
  · have := hc k 0 hk (by omega); simpa [fBt] using this
  · have := hc k 1 hk (by omega); simpa [fBt, Nat.add_assoc] using this
  · have := hc k 2 hk (by omega); simpa [fBt, Nat.add_assoc] using this
/-- a series lies in memory. -/
structure SeIn (w : World) (B : Nat) (s : Se) (Ao Ab : Option Addr) (rA : Nat → Option Addr) (rc : Nat → Nat) : Prop where
  offs : SlAt w B 2 Ao s.offs.length (fR s.offs)
  baths : SlAt w B 3 Ab s.baths.length (fBt s.baths rA rc)
  reads : ∀ b, b < s.baths.length → SlAt w B 2 (rA b) (gBt s.baths b).reads.length (fRd (gBt s.baths b).reads)
theorem SeIn.below {w w' : World} {s : Se} {Ao Ab : Option Addr} {rA : Nat → Option Addr} {rc : Nat → Nat} (h : SeIn w w.heap.size s Ao Ab rA rc) (hb : Below w.heap.size w w') : SeIn w' w.heap.size s Ao Ab rA rc :=
  ⟨h.offs.below hb, h.baths.below hb, fun b hb' => (h.reads b hb').below hb⟩
theorem SeIn.up {w : World} {B B' : Nat} {s : Se} {Ao Ab : Option Addr} {rA : Nat → Option Addr} {rc : Nat → Nat} (h : SeIn w B s Ao Ab rA rc) (hB : B ≤ B') : SeIn w B' s Ao Ab rA rc :=
  ⟨h.offs.up hB, h.baths.up hB, fun b hb' => (h.reads b hb').up hB⟩
theorem SeIn.go {w w' : World} {s : Se} {Ao Ab : Option Addr} {rA : Nat → Option Addr} {rc : Nat → Nat} (h : SeIn w w.heap.size s Ao Ab rA rc) (hb : Below w.heap.size w w') : SeIn w' w'.heap.size s Ao Ab rA rc := (h.below hb).up hb.size

/-- a row of n values that one reads by their places. -/
def VArr (W : World) (q : Nat) (T : TypeId) (n : Nat) (g : Nat → Value) : Prop := ∃ cs, Blk W q T cs ∧ cs.size = n ∧ ∀ i, i < n → cs[i]? = some (g i)
section
variable {W W' : World} {q n : Nat} {T : TypeId} {g : Nat → Value}
theorem VArr.lt (h : VArr W q T n g) : q < W.heap.size := by obtain ⟨_, h1, _⟩ := h; exact h1.lt
theorem VArr.cell (h : VArr W q T n g) {i : Nat} (hi : i < n) : W.cell? ⟨q, i, none⟩ = some (g i) := by obtain ⟨cs, h1, _, h2⟩ := h; rw [h1.cell]; exact h2 i hi
theorem VArr.frozen (h : VArr W q T n g) (i : Nat) : W.frozen? ⟨q, i, none⟩ = false := by obtain ⟨_, h1, _⟩ := h; exact h1.frozen i
theorem VArr.below (h : VArr W q T n g) (hb : Below W.heap.size W W') : VArr W' q T n g := by obtain ⟨cs, h1, h2⟩ := h; exact ⟨cs, h1.below hb h1.lt, h2⟩
theorem VArr.fr {R : Nat → Prop} (h : VArr W q T n g) (hf : Fr R W W') (hn : ¬ R q) : VArr W' q T n g := by obtain ⟨cs, h1, h2⟩ := h; exact ⟨cs, h1.fr hf hn, h2⟩
theorem VArr.set (h : VArr W q T n g) {i : Nat} (v : Value) (hi : i < n) : VArr (W.setCell ⟨q, i, none⟩ v) q T n (fun j => if j = i then v else g j) := by
  obtain ⟨cs, h1, h2, h3⟩ := h
  refine ⟨cs.setIfInBounds i v, h1.set_ _ _, by simpa using h2, fun j hj => ?_⟩
  rw [Array.getElem?_setIfInBounds]
  by_cases he : i = j
  · subst he
    rw [if_pos rfl, if_pos (by omega)]
    show some v = some (if i = i then v else g i)
    rw [if_pos rfl]
  · rw [if_neg he, h3 j hj]
    show some (g j) = some (if j = i then v else g j)
    rw [if_neg (fun e => he e.symm)]
theorem VArr.ext {g' : Nat → Value} (h : VArr W q T n g) (he : ∀ i, i < n → g i = g' i) : VArr W q T n g' := by
  obtain ⟨cs, h1, h2, h3⟩ := h
  exact ⟨cs, h1, h2, fun i hi => by rw [← he i hi]; exact h3 i hi⟩
theorem VArr.of {cs : Array Value} (h : Blk W q T cs) (hs : cs.size = n) (hc : ∀ i, i < n → cs[i]? = some (g i)) : VArr W q T n g := ⟨cs, h, hs, hc⟩
end
theorem rdOk_iff {n : Nat} {l : List Rd} {k : Nat} : rdOk n l k = true ↔ (0 ≤ (gRd l k).inst ∧ (gRd l k).inst ≤ (n : Int) - 1) ∧ (∀ j, j < k → (gRd l j).inst ≠ (gRd l k).inst) ∧ (-1000 ≤ (gRd l k).val ∧ (gRd l k).val ≤ 2000) := by
  simp only [rdOk, Bool.and_eq_true, decide_eq_true_eq, allTo_iff]
theorem bt_false {n : Nat} {b : Bt} {k : Nat} (hk : k < b.reads.length) (h : rdOk n b.reads k = false) : btOk n b = false := by
  unfold btOk rdsB
  rw [allTo_false hk h, Bool.false_and]
/-- which instruments have been seen. -/
def seenB (l : List Rd) (k : Nat) (i : Nat) : Bool := !allTo (fun j => decide ((gRd l j).inst ≠ (i : Int))) k
theorem seenB_iff {l : List Rd} {k i : Nat} : seenB l k i = true ↔ ∃ j, j < k ∧ (gRd l j).inst = (i : Int) := by
  unfold seenB
  rw [Bool.not_eq_true', ← Bool.not_eq_true, allTo_iff]
  simp only [decide_eq_true_eq, ne_eq]
  constructor
  · intro h
    exact Classical.byContradiction fun h2 => h fun j hj e => h2 ⟨j, hj, e⟩
  · rintro ⟨j, hj, e⟩ h
    exact h j hj e
theorem seenB_zero {l : List Rd} {i : Nat} : seenB l 0 i = false := rfl
theorem seenB_step {l : List Rd} {k i : Nat} (h : (gRd l k).inst = (i : Int)) (j : Nat) : seenB l (k + 1) j = if j = i then true else seenB l k j := by
  unfold seenB
  rw [allTo, Bool.not_and]
  by_cases e : j = i
  · subst e; rw [if_pos rfl, h]; simp
  · rw [if_neg e, h]
    have : decide ((i : Int) ≠ (j : Int)) = true := decide_eq_true (by omega)
    rw [this]; simp

theorem instrument_any (n err nb co cb : Nat) (Ao Ab : Option Addr) (e k : Int) (w : World) (hn : n ≤ 1000000) :
    Calls Try.prog 74 #[.agg #[.slice Ao n co, .int .i64 e, .slice Ab nb cb], .int .i64 k] w fun e w' => e = .returned (.bool (inB k 0 ((n : Int) - 1))) ∧ Below w.heap.size w w' := by
  have w1 : IntKind.i64.wrap ((n : Int) - 1) = (n : Int) - 1 := IntWalk.i64_in _ (by omega)
  go_enter Try.func74, Try.ntmps74
  go_wp2_with (go_at_call 96; refine (within_any _ _ _ _).mono ?_; rintro e w' ⟨rfl, rfl⟩)
  go_ret
  exact ⟨rfl, ex_alloc (Below.refl _ _) _⟩

set_option maxRecDepth 100000 in
set_option maxHeartbeats 1600000 in
theorem bath_any (n nb co cb : Nat) (Ao Ab Ar : Option Addr) (cr : Nat) (er : Int) (b : Bt) (w : World) (hn : n ≤ 6) (hr : SlAt w w.heap.size 2 Ar b.reads.length (fRd b.reads)) (hl : b.reads.length ≤ 1000000) :
    Calls Try.prog 100 #[.agg #[.slice Ao n co, .int .i64 er, .slice Ab nb cb], .agg #[.int .i64 b.heat.lo, .int .i64 b.heat.hi, .slice Ar b.reads.length cr]] w fun e w' => e = .returned (.bool (btOk n b)) ∧ Below w.heap.size w w' := by
  have hb1 := ex_alloc (ex_alloc (ex_alloc (Below.refl w.heap.size w) (.cells #[.slice Ao n co, .int .i64 er, .slice Ab nb cb] 34)) (.cells #[.int .i64 b.heat.lo, .int .i64 b.heat.hi, .slice Ar b.reads.length cr] 116)) (.cells #[.bool false, .bool false, .bool false, .bool false, .bool false, .bool false] 183)
  go_enter Try.func100, Try.ntmps100
  go_wp2_with fail
  have q0 : Blk (((w.alloc (.cells #[.slice Ao n co, .int .i64 er, .slice Ab nb cb] 34)).alloc (.cells #[.int .i64 b.heat.lo, .int .i64 b.heat.hi, .slice Ar b.reads.length cr] 116)).alloc (.cells #[.bool false, .bool false, .bool false, .bool false, .bool false, .bool false] 183)) w.heap.size 34 #[.slice Ao n co, .int .i64 er, .slice Ab nb cb] := ((Blk.new _ _ _).alloc _).alloc _
  have q1 : Blk (((w.alloc (.cells #[.slice Ao n co, .int .i64 er, .slice Ab nb cb] 34)).alloc (.cells #[.int .i64 b.heat.lo, .int .i64 b.heat.hi, .slice Ar b.reads.length cr] 116)).alloc (.cells #[.bool false, .bool false, .bool false, .bool false, .bool false, .bool false] 183)) (w.heap.size + 1) 116 #[.int .i64 b.heat.lo, .int .i64 b.heat.hi, .slice Ar b.reads.length cr] := (Blk.new' _ _ _ (by simp)).alloc _
  have q2 : VArr (((w.alloc (.cells #[.slice Ao n co, .int .i64 er, .slice Ab nb cb] 34)).alloc (.cells #[.int .i64 b.heat.lo, .int .i64 b.heat.hi, .slice Ar b.reads.length cr] 116)).alloc (.cells #[.bool false, .bool false, .bool false, .bool false, .bool false, .bool false] 183)) (w.heap.size + 1 + 1) 183 6 (fun i => .bool (seenB b.reads 0 i)) :=
    VArr.of (Blk.new' _ _ _ (by simp)) rfl (fun i hi => by
      match i, hi with
      | 0, _ => rfl
      | 1, _ => rfl
      | 2, _ => rfl
      | 3, _ => rfl
      | 4, _ => rfl
      | 5, _ => rfl)
  generalize ((w.alloc (.cells #[.slice Ao n co, .int .i64 er, .slice Ab nb cb] 34)).alloc (.cells #[.int .i64 b.heat.lo, .int .i64 b.heat.hi, .slice Ar b.reads.length cr] 116)).alloc (.cells #[.bool false, .bool false, .bool false, .bool false, .bool false, .bool false] 183) = V at *
  refine wp_loop (fun a W => Rel (fun a W => ∃ k : Nat, k ≤ b.reads.length ∧ Below w.heap.size w W ∧ Blk W w.heap.size 34 #[.slice Ao n co, .int .i64 er, .slice Ab nb cb] ∧ Blk W (w.heap.size + 1) 116 #[.int .i64 b.heat.lo, .int .i64 b.heat.hi, .slice Ar b.reads.length cr] ∧ VArr W (w.heap.size + 1 + 1) 183 6 (fun i => .bool (seenB b.reads k i)) ∧ Hid (∀ j, j < k → rdOk n b.reads j = true) ∧ ∃ u : Nat → Value, a = ⟨List.toArray (u 0 :: .agg #[.int .i64 b.heat.lo, .int .i64 b.heat.hi, .slice Ar b.reads.length cr] :: .pointer (some ⟨w.heap.size, 0, none⟩) :: .pointer (some ⟨w.heap.size + 1, 0, none⟩) :: u 4 :: .pointer (some ⟨w.heap.size + 1 + 1, 0, none⟩) :: u 6 :: u 7 :: u 8 :: .slice Ar b.reads.length cr :: .int .i64 (b.reads.length : Int) :: .int .i64 (k : Int) :: u 12 :: u 13 :: u 14 :: u 15 :: u 16 :: u 17 :: u 18 :: u 19 :: u 20 :: u 21 :: u 22 :: u 23 :: u 24 :: u 25 :: u 26 :: u 27 :: u 28 :: u 29 :: u 30 :: u 31 :: u 32 :: u 33 :: u 34 :: u 35 :: u 36 :: u 37 :: u 38 :: []), []⟩) a W)
    (fun a _ => b.reads.length - (intOf (a.tmps.getD 11 undef)).toNat) ⟨⟨0, by omega, hb1, q0, q1, q2, Lib.hid (fun j hj => by omega), exFrame (by kernel_rfl)⟩⟩ ?_
  clear hb1 q0 q1 q2
  rintro a W ⟨⟨k, hk, hbl, q0, q1, q2, HO, u, rfl⟩⟩
  have hws := hbl.size
  have l0 := q0.lt
  have l1 := q1.lt
  have l2 := q2.lt
  by_cases hlt : k < b.reads.length
  · obtain ⟨bi, oi, rfl, hbi, g0, g1⟩ := IsRds.at_ (hr.below hbl) hlt
    have hbW : bi < W.heap.size := by omega
    obtain ⟨iv, hiv⟩ : ∃ iv, (gRd b.reads k).inst = iv := ⟨_, rfl⟩
    obtain ⟨vv, hvv⟩ : ∃ vv, (gRd b.reads k).val = vv := ⟨_, rfl⟩
    rw [hiv] at g0
    rw [hvv] at g1
    have HI := Lib.hid hiv
    have HV := Lib.hid hvv
    clear hiv hvv
    have a0 : W.cell? ⟨w.heap.size, 0, none⟩ = some (.slice Ao n co) := q0.cell 0
    have a1 : W.cell? ⟨w.heap.size, 1, none⟩ = some (.int .i64 er) := q0.cell 1
    have a2 : W.cell? ⟨w.heap.size, 2, none⟩ = some (.slice Ab nb cb) := q0.cell 2
    have hbX := ex_alloc hbl (.cells #[.int .i64 iv, .int .i64 vv] 118)
    have hX := ex_alloc (Below.refl W.heap.size W) (.cells #[.int .i64 iv, .int .i64 vv] 118)
    cases hin : inB iv 0 ((n : Int) - 1)
    · have HIN := Lib.hid hin
      have HF : Hid (btOk n b = false) := Lib.hid (bt_false hlt (by
        rw [← Bool.not_eq_true, rdOk_iff, HI.out]
        rintro ⟨h1, _⟩
        rw [inB_iff.2 h1] at hin; cases hin))
      clear hin
      go_wp2_with fail
      refine (instrument_any n 0 nb co cb Ao Ab er _ _ (by omega)).mono ?_
      rintro e w2 ⟨rfl, hb2⟩
      rw [HIN.out]
      go_wp2
      go_ret
      exact ⟨by rw [HF.out]; rfl, ex_trans hbX hb2⟩
    have HIN := Lib.hid hin
    obtain ⟨hi0, hi1⟩ := inB_iff.1 hin
    obtain ⟨i, rfl⟩ : ∃ i : Nat, iv = (i : Int) := ⟨iv.toNat, by omega⟩
    clear hin
    have hi6 : i < 6 := by omega
    have qX := (q2.below hX)
    have qx : Blk (W.alloc (.cells #[.int .i64 (i : Int), .int .i64 vv] 118)) W.heap.size 118 #[.int .i64 (i : Int), .int .i64 vv] := Blk.new _ _ _
    cases hsn : seenB b.reads k i
    rotate_left
    · have HF : Hid (btOk n b = false) := Lib.hid (bt_false hlt (by
        rw [← Bool.not_eq_true, rdOk_iff, HI.out]
        rintro ⟨_, h1, _⟩
        obtain ⟨j, hj, e⟩ := seenB_iff.1 hsn
        exact h1 j hj e))
      have HSN := Lib.hid hsn
      clear hsn
      go_wp2_with fail
      refine (instrument_any n 0 nb co cb Ao Ab er _ _ (by omega)).mono ?_
      rintro e w2 ⟨rfl, hb2⟩
      rw [HIN.out]
      have qy := qX.below hb2
      have sc := qy.cell hi6
      have sl := qy.lt
      rw [HSN.out] at sc
      have qz := qx.below hb2 qx.lt
      have x0 : w2.cell? ⟨W.heap.size, 0, none⟩ = some (.int .i64 (i : Int)) := qz.cell 0
      have x1 : w2.cell? ⟨W.heap.size, 1, none⟩ = some (.int .i64 vv) := qz.cell 1
      have lz := qz.lt
      go_wp2
      go_ret
      exact ⟨by rw [HF.out]; rfl, ex_trans hbX hb2⟩
    have HSN := Lib.hid hsn
    clear hsn
    cases hvl : inB vv (-1000) 2000
    · have HVL := Lib.hid hvl
      have HF : Hid (btOk n b = false) := Lib.hid (bt_false hlt (by
        rw [← Bool.not_eq_true, rdOk_iff, HV.out]
        rintro ⟨_, _, h1⟩
        rw [inB_iff.2 h1] at hvl; cases hvl))
      clear hvl
      go_wp2_with fail
      refine (instrument_any n 0 nb co cb Ao Ab er _ _ (by omega)).mono ?_
      rintro e w2 ⟨rfl, hb2⟩
      rw [HIN.out]
      have qy := qX.below hb2
      have sc := qy.cell hi6
      have sl := qy.lt
      rw [HSN.out] at sc
      have qz := qx.below hb2 qx.lt
      have x0 : w2.cell? ⟨W.heap.size, 0, none⟩ = some (.int .i64 (i : Int)) := qz.cell 0
      have x1 : w2.cell? ⟨W.heap.size, 1, none⟩ = some (.int .i64 vv) := qz.cell 1
      have lz := qz.lt
      go_wp2_with fail
      refine (within_any _ _ _ _).mono ?_
      rintro e w' ⟨rfl, rfl⟩
      rw [HVL.out]
      go_wp2
      go_ret
      exact ⟨by rw [HF.out]; rfl, ex_trans hbX hb2⟩
    · have HVL := Lib.hid hvl
      have HOK := Lib.hid (show ∀ j, j < k + 1 → rdOk n b.reads j = true from fun j hj => by
        rcases Nat.lt_succ_iff_lt_or_eq.1 hj with h1 | h1
        · exact HO.out j h1
        · subst h1
          refine rdOk_iff.2 ⟨by rw [HI.out]; exact ⟨hi0, hi1⟩, fun m hm e => ?_, by rw [HV.out]; exact inB_iff.1 hvl⟩
          have := seenB_iff.2 ⟨m, hm, e.trans HI.out⟩
          rw [HSN.out] at this; cases this)
      clear hvl
      go_wp2_with fail
      refine (instrument_any n 0 nb co cb Ao Ab er _ _ (by omega)).mono ?_
      rintro e w2 ⟨rfl, hb2⟩
      rw [HIN.out]
      have qy := qX.below hb2
      have sc := qy.cell hi6
      have sl := qy.lt
      rw [HSN.out] at sc
      have qz := qx.below hb2 qx.lt
      have x0 : w2.cell? ⟨W.heap.size, 0, none⟩ = some (.int .i64 (i : Int)) := qz.cell 0
      have x1 : w2.cell? ⟨W.heap.size, 1, none⟩ = some (.int .i64 vv) := qz.cell 1
      have lz := qz.lt
      have fz := qy.frozen i
      go_wp2_with fail
      refine (within_any _ _ _ _).mono ?_
      rintro e w' ⟨rfl, rfl⟩
      rw [HVL.out]
      have hB2 := ex_trans hbX hb2
      have hf : Fr (fun x => x = w.heap.size + 1 + 1) w2 (w2.setCell ⟨w.heap.size + 1 + 1, i, none⟩ (.bool true)) := (Fr.refl (fun x => x = w.heap.size + 1 + 1) w2).andSet rfl
      have Q0 := ((q0.below (ex_trans hX hb2) q0.lt).fr hf (by omega))
      have Q1 := ((q1.below (ex_trans hX hb2) q1.lt).fr hf (by omega))
      have Q2 := (qy.set (.bool true) hi6).ext (g' := fun j => .bool (seenB b.reads (k + 1) j)) (fun j hj => by
        rw [seenB_step HI.out j]
        by_cases e : j = i
        · subst e; simp
        · simp [e])
      have hB3 := hf.toBelow hB2 hB2.size (fun x hx => by omega)
      go_wp2_with fail
      refine ⟨⟨⟨k + 1, by omega, hB3, Q0, Q1, Q2, HOK, exFrame (by kernel_rfl)⟩⟩, ?_⟩
      show b.reads.length - (intOf (.int .i64 ((k : Int) + 1))).toNat < b.reads.length - (intOf (.int .i64 (k : Int))).toNat
      simp [intOf]
      omega
  · have hkE : k = b.reads.length := by omega
    subst hkE
    have b0 : W.cell? ⟨w.heap.size + 1, 0, none⟩ = some (.int .i64 b.heat.lo) := q1.cell 0
    have b1 : W.cell? ⟨w.heap.size + 1, 1, none⟩ = some (.int .i64 b.heat.hi) := q1.cell 1
    have HF : Hid (btOk n b = spanB b.heat 0 1000) := Lib.hid (by
      unfold btOk rdsB
      rw [allTo_iff.2 HO.out, Bool.true_and])
    go_wp2_with fail
    refine (heat_any b.heat.lo b.heat.hi W).mono ?_
    rintro e w2 ⟨rfl, hb2⟩
    go_wp2
    go_ret
    exact ⟨by rw [HF.out]; rfl, ex_trans hbl hb2⟩
end Go.Proofs.Ytnplefhigbkbbaa
end

section
namespace Go.Proofs.Ytnplefhigbkbbaa
open Go.RowKit
attribute [local go_sem] Ex.cell? Ex.frozen?

set_option maxHeartbeats 1600000 in
theorem all1_off (n : Nat) (l : List Rg) (w : World)  (k pb : Nat) (hk : k < n) (hp : pb < w.heap.size) (hc : w.cell? ⟨pb, 0, none⟩ = some (.func (.func 98) #[] #[])) :
    Calls Try.prog 117 #[.agg #[.int .i64 (gR l k).lo, .int .i64 (gR l k).hi], .pointer (some ⟨pb, 0, none⟩)] w fun e w' => e = .returned (.bool (!(spanB (gR l k) (-100) 100))) ∧ Below w.heap.size w w' := by
  go_enter Try.func117, Try.ntmps117
  go_wp2_with fail
  refine (offset_any _ _ _).mono ?_
  rintro e w2 ⟨rfl, hb2⟩
  go_wp2
  go_ret
  exact ⟨rfl, ex_trans (ex_alloc (Below.refl _ _) _) hb2⟩

set_option maxHeartbeats 1600000 in
theorem index_off (n : Nat) (l : List Rg) (A : Option Addr) (c : Nat) (w : World)  (hA : SlAt w w.heap.size 2 A n (fR l)) (hl : n ≤ 1000000) (pb : Nat) (hp : pb < w.heap.size) (hc : w.cell? ⟨pb, 0, none⟩ = some (.func (.func 98) #[] #[])) :
    Calls Try.prog 129 #[.slice A n c, .func (.func 117) #[] #[.pointer (some ⟨pb, 0, none⟩)]] w fun e w' => e = .returned (.int .i64 (firstOf (fun k => !(spanB (gR l k) (-100) 100)) n)) ∧ Below w.heap.size w w' := by
  go_enter Try.func129, Try.ntmps129
  go_wp2
  go_loopw [8] (fun i wr => ∃ k : Nat, k ≤ n ∧ i = .int .i64 k ∧ (∀ k', k' < k → (spanB (gR l k') (-100) 100) = true) ∧ Below w.heap.size w wr)
    (fun i _ => n - (intOf i).toNat)
  case atStart => exact ⟨0, by omega, rfl, fun j hj => by omega, Below.refl _ _⟩
  case round =>
    obtain ⟨k, hk, rfl, hok, hbl⟩ := hrel
    by_cases hlt : k < n
    · have hAW := (hA.below hbl).up hbl.size
      obtain ⟨bi, oi, rfl, hbi, g0, g1⟩ := IsRgs.at_ hAW hlt
      have hcr : wr.cell? ⟨pb, 0, none⟩ = some (.func (.func 98) #[] #[]) := (hbl.cell (p := ⟨pb, 0, none⟩) hp).trans hc
      have hpr : pb < wr.heap.size := by have := hbl.size; omega
      have HOK := Lib.hid hok
      clear hok
      cases ht : (spanB (gR l k) (-100) 100)
      · have HT := Lib.hid ht
        have HF : Hid (firstOf (fun k => !(spanB (gR l k) (-100) 100)) n = (k : Int)) := Lib.hid (firstOf_at hlt (fun j hj => by have := HOK.out j hj; simp only [this]; rfl) (by simp only [ht]; rfl))
        clear ht
        go_wp2_with fail
        refine (all1_off n l wr  k pb hlt hpr hcr).mono ?_
        rintro e w2 ⟨rfl, hb2⟩
        rw [HT.out]
        go_wp2
        go_ret
        exact ⟨ret_int HF.out.symm, ex_trans hbl hb2⟩
      · have HT := Lib.hid ht
        clear ht
        go_wp2_with fail
        refine (all1_off n l wr  k pb hlt hpr hcr).mono ?_
        rintro e w2 ⟨rfl, hb2⟩
        rw [HT.out]
        go_wp2
        go_roundw
        case rel => exact ⟨k + 1, by omega, by go_num, fun j hj => by rcases Nat.lt_succ_iff_lt_or_eq.1 hj with h | h; exact HOK.out j h; exact h ▸ HT.out, ex_trans hbl hb2⟩
        case measure => simp [intOf]; omega
    · obtain rfl : k = n := by omega
      have HF : Hid (firstOf (fun k => !(spanB (gR l k) (-100) 100)) k = -1) := Lib.hid (firstOf_neg fun j hj => by have := hok j hj; simp only [this]; rfl)
      go_wp2
      go_ret
      exact ⟨ret_int HF.out.symm, hbl⟩

theorem contains_off (n : Nat) (l : List Rg) (A : Option Addr) (c : Nat) (w : World)  (hA : SlAt w w.heap.size 2 A n (fR l)) (hl : n ≤ 1000000) (pb : Nat) (hp : pb < w.heap.size) (hc : w.cell? ⟨pb, 0, none⟩ = some (.func (.func 98) #[] #[])) :
    Calls Try.prog 116 #[.slice A n c, .func (.func 117) #[] #[.pointer (some ⟨pb, 0, none⟩)]] w fun e w' => e = .returned (.bool (!allTo (fun k => (spanB (gR l k) (-100) 100)) n)) ∧ Below w.heap.size w w' := by
  have HF : Hid (decide (0 ≤ firstOf (fun k => !(spanB (gR l k) (-100) 100)) n) = !allTo (fun k => (spanB (gR l k) (-100) 100)) n) := Lib.hid (by rw [firstOf_nonneg]; simp)
  go_enter Try.func116, Try.ntmps116
  go_wp2_with fail
  refine (index_off n l A c w  hA hl pb hp hc).mono ?_
  rintro e w2 ⟨rfl, hb2⟩
  go_wp2
  go_ret
  exact ⟨ret_bool HF.out, hb2⟩

theorem all_off (n : Nat) (l : List Rg) (A : Option Addr) (c : Nat) (w : World)  (hA : SlAt w w.heap.size 2 A n (fR l)) (hl : n ≤ 1000000) :
    Calls Try.prog 94 #[.slice A n c, .func (.func 98) #[] #[]] w fun e w' => e = .returned (.bool (allTo (fun k => (spanB (gR l k) (-100) 100)) n)) ∧ Below w.heap.size w w' := by
  have hb1 := ex_alloc (Below.refl w.heap.size w) (.cells #[.func (.func 98) #[] #[]] 162)
  have hA1 := (hA.below hb1).up hb1.size
  go_enter Try.func94, Try.ntmps94
  go_wp2_with fail
  refine (contains_off n l A c _  hA1 hl w.heap.size (by simp) (by simp [go_sem])).mono ?_
  rintro e w2 ⟨rfl, hb2⟩
  go_wp2
  go_ret
  exact ⟨by simp, ex_trans hb1 hb2⟩

set_option maxHeartbeats 1600000 in
theorem all1_heat (n : Nat) (l : List Rg) (w : World)  (k pb : Nat) (hk : k < n) (hp : pb < w.heap.size) (hc : w.cell? ⟨pb, 0, none⟩ = some (.func (.func 95) #[] #[])) :
    Calls Try.prog 117 #[.agg #[.int .i64 (gR l k).lo, .int .i64 (gR l k).hi], .pointer (some ⟨pb, 0, none⟩)] w fun e w' => e = .returned (.bool (!(spanB (gR l k) 0 1000))) ∧ Below w.heap.size w w' := by
  go_enter Try.func117, Try.ntmps117
  go_wp2_with fail
  refine (heat_any _ _ _).mono ?_
  rintro e w2 ⟨rfl, hb2⟩
  go_wp2
  go_ret
  exact ⟨rfl, ex_trans (ex_alloc (Below.refl _ _) _) hb2⟩

set_option maxHeartbeats 1600000 in
theorem index_heat (n : Nat) (l : List Rg) (A : Option Addr) (c : Nat) (w : World)  (hA : SlAt w w.heap.size 2 A n (fR l)) (hl : n ≤ 1000000) (pb : Nat) (hp : pb < w.heap.size) (hc : w.cell? ⟨pb, 0, none⟩ = some (.func (.func 95) #[] #[])) :
    Calls Try.prog 129 #[.slice A n c, .func (.func 117) #[] #[.pointer (some ⟨pb, 0, none⟩)]] w fun e w' => e = .returned (.int .i64 (firstOf (fun k => !(spanB (gR l k) 0 1000)) n)) ∧ Below w.heap.size w w' := by
  go_enter Try.func129, Try.ntmps129
  go_wp2
  go_loopw [8] (fun i wr => ∃ k : Nat, k ≤ n ∧ i = .int .i64 k ∧ (∀ k', k' < k → (spanB (gR l k') 0 1000) = true) ∧ Below w.heap.size w wr)
    (fun i _ => n - (intOf i).toNat)
  case atStart => exact ⟨0, by omega, rfl, fun j hj => by omega, Below.refl _ _⟩
  case round =>
    obtain ⟨k, hk, rfl, hok, hbl⟩ := hrel
    by_cases hlt : k < n
    · have hAW := (hA.below hbl).up hbl.size
      obtain ⟨bi, oi, rfl, hbi, g0, g1⟩ := IsRgs.at_ hAW hlt
      have hcr : wr.cell? ⟨pb, 0, none⟩ = some (.func (.func 95) #[] #[]) := (hbl.cell (p := ⟨pb, 0, none⟩) hp).trans hc
      have hpr : pb < wr.heap.size := by have := hbl.size; omega
      have HOK := Lib.hid hok
      clear hok
      cases ht : (spanB (gR l k) 0 1000)
      · have HT := Lib.hid ht
        have HF : Hid (firstOf (fun k => !(spanB (gR l k) 0 1000)) n = (k : Int)) := Lib.hid (firstOf_at hlt (fun j hj => by have := HOK.out j hj; simp only [this]; rfl) (by simp only [ht]; rfl))
        clear ht
        go_wp2_with fail
        refine (all1_heat n l wr  k pb hlt hpr hcr).mono ?_
        rintro e w2 ⟨rfl, hb2⟩
        rw [HT.out]
        go_wp2
        go_ret
        exact ⟨ret_int HF.out.symm, ex_trans hbl hb2⟩
      · have HT := Lib.hid ht
        clear ht
        go_wp2_with fail
        refine (all1_heat n l wr  k pb hlt hpr hcr).mono ?_
        rintro e w2 ⟨rfl, hb2⟩
        rw [HT.out]
        go_wp2
        go_roundw
        case rel => exact ⟨k + 1, by omega, by go_num, fun j hj => by rcases Nat.lt_succ_iff_lt_or_eq.1 hj with h | h; exact HOK.out j h; exact h ▸ HT.out, ex_trans hbl hb2⟩
        case measure => simp [intOf]; omega
    · obtain rfl : k = n := by omega
      have HF : Hid (firstOf (fun k => !(spanB (gR l k) 0 1000)) k = -1) := Lib.hid (firstOf_neg fun j hj => by have := hok j hj; simp only [this]; rfl)
      go_wp2
      go_ret
      exact ⟨ret_int HF.out.symm, hbl⟩

theorem contains_heat (n : Nat) (l : List Rg) (A : Option Addr) (c : Nat) (w : World)  (hA : SlAt w w.heap.size 2 A n (fR l)) (hl : n ≤ 1000000) (pb : Nat) (hp : pb < w.heap.size) (hc : w.cell? ⟨pb, 0, none⟩ = some (.func (.func 95) #[] #[])) :
    Calls Try.prog 116 #[.slice A n c, .func (.func 117) #[] #[.pointer (some ⟨pb, 0, none⟩)]] w fun e w' => e = .returned (.bool (!allTo (fun k => (spanB (gR l k) 0 1000)) n)) ∧ Below w.heap.size w w' := by
  have HF : Hid (decide (0 ≤ firstOf (fun k => !(spanB (gR l k) 0 1000)) n) = !allTo (fun k => (spanB (gR l k) 0 1000)) n) := Lib.hid (by rw [firstOf_nonneg]; simp)
  go_enter Try.func116, Try.ntmps116
  go_wp2_with fail
  refine (index_heat n l A c w  hA hl pb hp hc).mono ?_
  rintro e w2 ⟨rfl, hb2⟩
  go_wp2
  go_ret
  exact ⟨ret_bool HF.out, hb2⟩

theorem all_heat (n : Nat) (l : List Rg) (A : Option Addr) (c : Nat) (w : World)  (hA : SlAt w w.heap.size 2 A n (fR l)) (hl : n ≤ 1000000) :
    Calls Try.prog 94 #[.slice A n c, .func (.func 95) #[] #[]] w fun e w' => e = .returned (.bool (allTo (fun k => (spanB (gR l k) 0 1000)) n)) ∧ Below w.heap.size w w' := by
  have hb1 := ex_alloc (Below.refl w.heap.size w) (.cells #[.func (.func 95) #[] #[]] 162)
  have hA1 := (hA.below hb1).up hb1.size
  go_enter Try.func94, Try.ntmps94
  go_wp2_with fail
  refine (contains_heat n l A c _  hA1 hl w.heap.size (by simp) (by simp [go_sem])).mono ?_
  rintro e w2 ⟨rfl, hb2⟩
  go_wp2
  go_ret
  exact ⟨by simp, ex_trans hb1 hb2⟩

set_option maxHeartbeats 1600000 in
theorem all1_bath (no nb co cb : Nat) (Ao Ab : Option Addr) (er : Int) (hno : no ≤ 6) (n : Nat) (l : List Bt) (rA : Nat → Option Addr) (rc : Nat → Nat) (hrl : ∀ k, k < n → (gBt l k).reads.length ≤ 1000000) (w : World) (hr : ∀ k, k < n → SlAt w w.heap.size 2 (rA k) (gBt l k).reads.length (fRd (gBt l k).reads)) (k pb : Nat) (hk : k < n) (hp : pb < w.heap.size) (hc : w.cell? ⟨pb, 0, none⟩ = some (.func (.func 100) #[.agg #[.slice Ao no co, .int .i64 er, .slice Ab nb cb]] #[])) :
    Calls Try.prog 120 #[.agg #[.int .i64 (gBt l k).heat.lo, .int .i64 (gBt l k).heat.hi, .slice (rA k) (gBt l k).reads.length (rc k)], .pointer (some ⟨pb, 0, none⟩)] w fun e w' => e = .returned (.bool (!(btOk no (gBt l k)))) ∧ Below w.heap.size w w' := by
  go_enter Try.func120, Try.ntmps120
  go_wp2_with fail
  have hb1 := ex_alloc (Below.refl w.heap.size w) (.cells #[.int .i64 (gBt l k).heat.lo, .int .i64 (gBt l k).heat.hi, .slice (rA k) (gBt l k).reads.length (rc k)] 116)
  refine (bath_any no nb co cb Ao Ab (rA k) (rc k) er (gBt l k) _ hno (((hr k hk).below hb1).up hb1.size) (hrl k hk)).mono ?_
  rintro e w2 ⟨rfl, hb2⟩
  go_wp2
  go_ret
  exact ⟨rfl, ex_trans hb1 hb2⟩

set_option maxHeartbeats 1600000 in
theorem index_bath (no nb co cb : Nat) (Ao Ab : Option Addr) (er : Int) (hno : no ≤ 6) (n : Nat) (l : List Bt) (rA : Nat → Option Addr) (rc : Nat → Nat) (hrl : ∀ k, k < n → (gBt l k).reads.length ≤ 1000000) (A : Option Addr) (c : Nat) (w : World) (hr : ∀ k, k < n → SlAt w w.heap.size 2 (rA k) (gBt l k).reads.length (fRd (gBt l k).reads)) (hA : SlAt w w.heap.size 3 A n (fBt l rA rc)) (hl : n ≤ 1000000) (pb : Nat) (hp : pb < w.heap.size) (hc : w.cell? ⟨pb, 0, none⟩ = some (.func (.func 100) #[.agg #[.slice Ao no co, .int .i64 er, .slice Ab nb cb]] #[])) :
    Calls Try.prog 130 #[.slice A n c, .func (.func 120) #[] #[.pointer (some ⟨pb, 0, none⟩)]] w fun e w' => e = .returned (.int .i64 (firstOf (fun k => !(btOk no (gBt l k))) n)) ∧ Below w.heap.size w w' := by
  go_enter Try.func130, Try.ntmps130
  go_wp2
  go_loopw [8] (fun i wr => ∃ k : Nat, k ≤ n ∧ i = .int .i64 k ∧ (∀ k', k' < k → (btOk no (gBt l k')) = true) ∧ Below w.heap.size w wr)
    (fun i _ => n - (intOf i).toNat)
  case atStart => exact ⟨0, by omega, rfl, fun j hj => by omega, Below.refl _ _⟩
  case round =>
    obtain ⟨k, hk, rfl, hok, hbl⟩ := hrel
    by_cases hlt : k < n
    · have hAW := (hA.below hbl).up hbl.size
      obtain ⟨bi, oi, rfl, hbi, g0, g1, g2⟩ := IsBts.at_ hAW hlt
      have hcr : wr.cell? ⟨pb, 0, none⟩ = some (.func (.func 100) #[.agg #[.slice Ao no co, .int .i64 er, .slice Ab nb cb]] #[]) := (hbl.cell (p := ⟨pb, 0, none⟩) hp).trans hc
      have hpr : pb < wr.heap.size := by have := hbl.size; omega
      have HOK := Lib.hid hok
      clear hok
      cases ht : (btOk no (gBt l k))
      · have HT := Lib.hid ht
        have HF : Hid (firstOf (fun k => !(btOk no (gBt l k))) n = (k : Int)) := Lib.hid (firstOf_at hlt (fun j hj => by have := HOK.out j hj; simp only [this]; rfl) (by simp only [ht]; rfl))
        clear ht
        go_wp2_with fail
        refine (all1_bath no nb co cb Ao Ab er hno n l rA rc hrl wr (fun k hk => ((hr k hk).below hbl).up hbl.size) k pb hlt hpr hcr).mono ?_
        rintro e w2 ⟨rfl, hb2⟩
        rw [HT.out]
        go_wp2
        go_ret
        exact ⟨ret_int HF.out.symm, ex_trans hbl hb2⟩
      · have HT := Lib.hid ht
        clear ht
        go_wp2_with fail
        refine (all1_bath no nb co cb Ao Ab er hno n l rA rc hrl wr (fun k hk => ((hr k hk).below hbl).up hbl.size) k pb hlt hpr hcr).mono ?_
        rintro e w2 ⟨rfl, hb2⟩
        rw [HT.out]
        go_wp2
        go_roundw
        case rel => exact ⟨k + 1, by omega, by go_num, fun j hj => by rcases Nat.lt_succ_iff_lt_or_eq.1 hj with h | h; exact HOK.out j h; exact h ▸ HT.out, ex_trans hbl hb2⟩
        case measure => simp [intOf]; omega
    · obtain rfl : k = n := by omega
      have HF : Hid (firstOf (fun k => !(btOk no (gBt l k))) k = -1) := Lib.hid (firstOf_neg fun j hj => by have := hok j hj; simp only [this]; rfl)
      go_wp2
      go_ret
      exact ⟨ret_int HF.out.symm, hbl⟩

theorem contains_bath (no nb co cb : Nat) (Ao Ab : Option Addr) (er : Int) (hno : no ≤ 6) (n : Nat) (l : List Bt) (rA : Nat → Option Addr) (rc : Nat → Nat) (hrl : ∀ k, k < n → (gBt l k).reads.length ≤ 1000000) (A : Option Addr) (c : Nat) (w : World) (hr : ∀ k, k < n → SlAt w w.heap.size 2 (rA k) (gBt l k).reads.length (fRd (gBt l k).reads)) (hA : SlAt w w.heap.size 3 A n (fBt l rA rc)) (hl : n ≤ 1000000) (pb : Nat) (hp : pb < w.heap.size) (hc : w.cell? ⟨pb, 0, none⟩ = some (.func (.func 100) #[.agg #[.slice Ao no co, .int .i64 er, .slice Ab nb cb]] #[])) :
    Calls Try.prog 119 #[.slice A n c, .func (.func 120) #[] #[.pointer (some ⟨pb, 0, none⟩)]] w fun e w' => e = .returned (.bool (!allTo (fun k => (btOk no (gBt l k))) n)) ∧ Below w.heap.size w w' := by
  have HF : Hid (decide (0 ≤ firstOf (fun k => !(btOk no (gBt l k))) n) = !allTo (fun k => (btOk no (gBt l k))) n) := Lib.hid (by rw [firstOf_nonneg]; simp)
  go_enter Try.func119, Try.ntmps119
  go_wp2_with fail
  refine (index_bath no nb co cb Ao Ab er hno n l rA rc hrl A c w hr hA hl pb hp hc).mono ?_
  rintro e w2 ⟨rfl, hb2⟩
  go_wp2
  go_ret
  exact ⟨ret_bool HF.out, hb2⟩

theorem all_bath (no nb co cb : Nat) (Ao Ab : Option Addr) (er : Int) (hno : no ≤ 6) (n : Nat) (l : List Bt) (rA : Nat → Option Addr) (rc : Nat → Nat) (hrl : ∀ k, k < n → (gBt l k).reads.length ≤ 1000000) (A : Option Addr) (c : Nat) (w : World) (hr : ∀ k, k < n → SlAt w w.heap.size 2 (rA k) (gBt l k).reads.length (fRd (gBt l k).reads)) (hA : SlAt w w.heap.size 3 A n (fBt l rA rc)) (hl : n ≤ 1000000) :
    Calls Try.prog 99 #[.slice A n c, .func (.func 100) #[.agg #[.slice Ao no co, .int .i64 er, .slice Ab nb cb]] #[]] w fun e w' => e = .returned (.bool (allTo (fun k => (btOk no (gBt l k))) n)) ∧ Below w.heap.size w w' := by
  have hb1 := ex_alloc (Below.refl w.heap.size w) (.cells #[.func (.func 100) #[.agg #[.slice Ao no co, .int .i64 er, .slice Ab nb cb]] #[]] 165)
  have hA1 := (hA.below hb1).up hb1.size
  go_enter Try.func99, Try.ntmps99
  go_wp2_with fail
  refine (contains_bath no nb co cb Ao Ab er hno n l rA rc hrl A c _ (fun k hk => ((hr k hk).below hb1).up hb1.size) hA1 hl w.heap.size (by simp) (by simp [go_sem])).mono ?_
  rintro e w2 ⟨rfl, hb2⟩
  go_wp2
  go_ret
  exact ⟨by simp, ex_trans hb1 hb2⟩
end Go.Proofs.Ytnplefhigbkbbaa
end

section
namespace Go.Proofs.Ytnplefhigbkbbaa
open Go.RowKit
attribute [local go_sem] Ex.cell? Ex.frozen?

def fDp (l : List Dp) (rA : Nat → Option Addr) (rc : Nat → Nat) : Nat → Nat → Value := fun k j => match j with | 0 => .int .i64 (gDp l k).heat | _ => .slice (rA k) (gDp l k).ins.length (rc k)
theorem IsDps.at_ {w : World} {B n : Nat} {A : Option Addr} {l : List Dp} {rA : Nat → Option Addr} {rc : Nat → Nat} (h : SlAt w B 2 A n (fDp l rA rc)) {k : Nat} (hk : k < n) :
    ∃ b off, A = some ⟨b, off, none⟩ ∧ b < B ∧ w.cell? ⟨b, off + k * 2, none⟩ = some (.int .i64 (gDp l k).heat) ∧ w.cell? ⟨b, off + k * 2 + 1, none⟩ = some (.slice (rA k) (gDp l k).ins.length (rc k)) := by
  obtain ⟨b, off, e, hb, hc⟩ := h (by omega)
  exact ⟨b, off, e, hb, by have := hc k 0 hk (by omega); simpa [fDp] using this, by have := hc k 1 hk (by omega); simpa [fDp, Nat.add_assoc] using this⟩
/-- a plan lies in memory. -/
structure PlIn (w : World) (B : Nat) (p : List Dp) (A : Option Addr) (rA : Nat → Option Addr) (rc : Nat → Nat) : Prop where
  rows : SlAt w B 2 A p.length (fDp p rA rc)
  ins : ∀ k, k < p.length → SlAt w B 1 (rA k) (gDp p k).ins.length (fI (gDp p k).ins)
theorem PlIn.below {w w' : World} {p : List Dp} {A : Option Addr} {rA : Nat → Option Addr} {rc : Nat → Nat} (h : PlIn w w.heap.size p A rA rc) (hb : Below w.heap.size w w') : PlIn w' w'.heap.size p A rA rc :=
  ⟨(h.rows.below hb).up hb.size, fun k hk => ((h.ins k hk).below hb).up hb.size⟩
/-- no list of a plan is too long. -/
structure SmPl (p : List Dp) : Prop where
  len : p.length ≤ 1000000
  ins : ∀ k, k < p.length → (gDp p k).ins.length ≤ 1000000


theorem eq_ints6 (a b c d e f a' b' c' d' e' f' : Int) (w : World) :
    (Op.equal 145 (.agg #[.int .i64 a, .int .i64 b, .int .i64 c, .int .i64 d, .int .i64 e, .int .i64 f]) (.agg #[.int .i64 a', .int .i64 b', .int .i64 c', .int .i64 d', .int .i64 e', .int .i64 f'])).run Try.prog w = .ok (decide (a = a' ∧ b = b' ∧ c = c' ∧ d = d' ∧ e = e' ∧ f = f')) w := by
  show (Op.equalIn (9999 + 1) 145 (.agg #[.int .i64 a, .int .i64 b, .int .i64 c, .int .i64 d, .int .i64 e, .int .i64 f]) (.agg #[.int .i64 a', .int .i64 b', .int .i64 c', .int .i64 d', .int .i64 e', .int .i64 f'])).run Try.prog w = _
  rw [Op.equalIn]
  have hr : List.range' 0 6 = [0, 1, 2, 3, 4, 5] := rfl
  have he : ∀ (x y : Int) (w : World), (Op.equalIn 9999 3 (.int .i64 x) (.int .i64 y)).run Try.prog w = .ok (x == y) w := fun x y w => run_equalIn_int w 9998 3 .i64 .i64 x y Try.underlying3
  have hi : ∀ w, (isAgg 3).run Try.prog w = .ok false w := fun w => by kernel_rfl
  simp only [Sem.run_bind, run_underlying Try.underlying145, Result.andThen_ok]
  by_cases h1 : a = a'
  · by_cases h2 : b = b'
    · by_cases h3 : c = c'
      · by_cases h4 : d = d'
        · by_cases h5 : e = e'
          · by_cases h6 : f = f' <;> simp [go_sem, hr, List.forIn_cons, h1, h2, h3, h4, h5, h6]
          · simp [go_sem, hr, List.forIn_cons, h1, h2, h3, h4, h5]
        · simp [go_sem, hr, List.forIn_cons, h1, h2, h3, h4]
      · simp [go_sem, hr, List.forIn_cons, h1, h2, h3]
    · simp [go_sem, hr, List.forIn_cons, h1, h2]
  · simp [go_sem, hr, List.forIn_cons, h1]
theorem s6_eq (s u : S6) : decide (s.a = u.a ∧ s.b = u.b ∧ s.c = u.c ∧ s.d = u.d ∧ s.e = u.e ∧ s.f = u.f) = decide (s = u) := by
  rw [decide_eq_decide]
  constructor
  · rintro ⟨h1, h2, h3, h4, h5, h6⟩
    cases s; cases u; simp_all
  · rintro rfl
    exact ⟨rfl, rfl, rfl, rfl, rfl, rfl⟩
theorem eq_s6 (s u : S6) (w : World) : (Op.equal 145 (.agg (sC s)) (.agg (sC u))).run Try.prog w = .ok (decide (s = u)) w := (eq_ints6 _ _ _ _ _ _ _ _ _ _ _ _ w).trans (by rw [s6_eq])
end Go.Proofs.Ytnplefhigbkbbaa
end

section
namespace Go.Proofs.Ytnplefhigbkbbaa
open Go.RowKit Go.ChangeShapes Go.WideShapes Go.Deep Go.ChangeAt
section
variable {H : Type} {enc : TypeId × Value → H} {w : World} {base : Nat} {spare : Nat → Bool} {held : Bool} {r : Reach} {b0 : Nat}
instance : Inhabited Rd := ⟨⟨0, 0⟩⟩
set_option maxRecDepth 100000 in
theorem tr_rg5 {fuel : Nat} {cs : List Value} {x : DataW H × List MemPlace} (h : DataW.trod enc Try.prog w base spare held fuel 46 cs = some x) : ∃ r : Rg, cs = cR r := by
  obtain ⟨xs, n, _, _, hc, hxl, hf⟩ := DataW.trod_struct Try.underlying46 h
  have hcs : cs.length = 2 := hc.trans (by kernel_rfl)
  obtain ⟨c0, c1, rfl⟩ := list2 hcs
  have hl : xs.length = 2 := hxl.trans rfl
  obtain ⟨y0, e0⟩ := some_of (l := xs) (i := 0) (by omega)
  obtain ⟨y1, e1⟩ := some_of (l := xs) (i := 1) (by omega)
  have h0 := fld hf (i := 0) 3 0 1 rfl rfl rfl (by kernel_rfl) e0
  have h1 := fld hf (i := 1) 3 1 1 rfl rfl rfl (by kernel_rfl) e1
  simp only [List.drop_zero, List.drop_succ_cons, List.take_succ_cons, List.take_zero] at h0 h1
  obtain ⟨a, ha, _⟩ := tr_int Try.underlying3 h0
  obtain ⟨b, hb, _⟩ := tr_int Try.underlying3 h1
  injection ha with ha _
  injection hb with hb _
  exact ⟨⟨a, b⟩, by rw [ha, hb]; rfl⟩
def cRd (r : Rd) : List Value := [.int .i64 r.inst, .int .i64 r.val]
theorem gRd_at {l : List Rd} {k : Nat} (hk : k < l.length) : gRd l k = l[k] := by simp [gRd, hk]
set_option maxRecDepth 100000 in
theorem tr_rd5 {fuel : Nat} {cs : List Value} {x : DataW H × List MemPlace} (h : DataW.trod enc Try.prog w base spare held fuel 89 cs = some x) : ∃ r : Rd, cs = cRd r := by
  obtain ⟨xs, n, _, _, hc, hxl, hf⟩ := DataW.trod_struct Try.underlying89 h
  have hcs : cs.length = 2 := hc.trans (by kernel_rfl)
  obtain ⟨c0, c1, rfl⟩ := list2 hcs
  have hl : xs.length = 2 := hxl.trans rfl
  obtain ⟨y0, e0⟩ := some_of (l := xs) (i := 0) (by omega)
  obtain ⟨y1, e1⟩ := some_of (l := xs) (i := 1) (by omega)
  have h0 := fld hf (i := 0) 3 0 1 rfl rfl rfl (by kernel_rfl) e0
  have h1 := fld hf (i := 1) 3 1 1 rfl rfl rfl (by kernel_rfl) e1
  simp only [List.drop_zero, List.drop_succ_cons, List.take_succ_cons, List.take_zero] at h0 h1
  obtain ⟨a, ha, _⟩ := tr_int Try.underlying3 h0
  obtain ⟨b, hb, _⟩ := tr_int Try.underlying3 h1
  injection ha with ha _
  injection hb with hb _
  exact ⟨⟨a, b⟩, by rw [ha, hb]; rfl⟩
set_option maxRecDepth 100000 in
theorem tr_rgs5 {fuel : Nat} {cs : List Value} {x : DataW H × List MemPlace} (h : DataW.trod enc Try.prog w base spare held fuel 22 cs = some x) :
    ∃ A l cp, cs = [.slice A (l : List Rg).length cp] ∧ l.length ≤ cp ∧ cp ≤ maxLen ∧ SlAt w w.heap.size 2 A l.length (fR l) := by
  obtain ⟨A, l, cp, h1, h2, h3, h4⟩ := tr_sl (sz := 2) (c := cR) Try.underlying22 (by omega) (by kernel_rfl) (fun h => tr_rg5 h) (fun _ => rfl) h
  refine ⟨A, l, cp, h1, h2, h3, h4 _ (fun k hk j hj => ?_)⟩
  have e := gR_at hk
  match j, hj with
  | 0, _ => simp [cR, fR, e]
  | 1, _ => simp [cR, fR, e]
set_option maxRecDepth 100000 in
theorem tr_rds5 {fuel : Nat} {cs : List Value} {x : DataW H × List MemPlace} (h : DataW.trod enc Try.prog w base spare held fuel 80 cs = some x) :
    ∃ A l cp, cs = [.slice A (l : List Rd).length cp] ∧ l.length ≤ cp ∧ cp ≤ maxLen ∧ SlAt w w.heap.size 2 A l.length (fRd l) := by
  obtain ⟨A, l, cp, h1, h2, h3, h4⟩ := tr_sl (sz := 2) (c := cRd) Try.underlying80 (by omega) (by kernel_rfl) (fun h => tr_rd5 h) (fun _ => rfl) h
  refine ⟨A, l, cp, h1, h2, h3, h4 _ (fun k hk j hj => ?_)⟩
  have e := gRd_at hk
  match j, hj with
  | 0, _ => simp [cRd, fRd, e]
  | 1, _ => simp [cRd, fRd, e]
/-- a bath, and where its readings lie. -/
structure Bx where
  b : Bt
  A : Option Addr
  c : Nat
instance : Inhabited Bx := ⟨⟨⟨⟨0, 0⟩, []⟩, none, 0⟩⟩
def cBx (x : Bx) : List Value := [.int .i64 x.b.heat.lo, .int .i64 x.b.heat.hi, .slice x.A x.b.reads.length x.c]
set_option maxRecDepth 100000 in
theorem tr_bt5 {fuel : Nat} {cs : List Value} {x : DataW H × List MemPlace} (h : DataW.trod enc Try.prog w base spare held fuel 82 cs = some x) : ∃ b : Bx, cs = cBx b ∧ (SlAt w w.heap.size 2 b.A b.b.reads.length (fRd b.b.reads) ∧ b.b.reads.length ≤ maxLen) := by
  obtain ⟨xs, n, _, _, hc, hxl, hf⟩ := DataW.trod_struct Try.underlying82 h
  have hcs : cs.length = 3 := hc.trans (by kernel_rfl)
  obtain ⟨c0, c1, c2, rfl⟩ := list3 hcs
  have hl : xs.length = 2 := hxl.trans rfl
  obtain ⟨y0, e0⟩ := some_of (l := xs) (i := 0) (by omega)
  obtain ⟨y1, e1⟩ := some_of (l := xs) (i := 1) (by omega)
  have h0 := fld hf (i := 0) 46 0 2 rfl rfl rfl (by kernel_rfl) e0
  have h1 := fld hf (i := 1) 80 2 1 rfl rfl rfl (by kernel_rfl) e1
  simp only [List.drop_zero, List.drop_succ_cons, List.take_succ_cons, List.take_zero] at h0 h1
  obtain ⟨a, ha⟩ := tr_rg5 h0
  obtain ⟨A, l, cp, hb, hb1, hb2, hb3⟩ := tr_rds5 h1
  unfold cR at ha
  injection ha with ha1 ha2
  injection ha2 with ha2 _
  injection hb with hb _
  exact ⟨⟨⟨a, l⟩, A, cp⟩, by rw [ha1, ha2, hb]; rfl, hb3, Nat.le_trans hb1 hb2⟩
set_option maxRecDepth 100000 in
theorem open_series {v : Value} {d : DataW H} {p : List MemPlace} (hv : Value.okWide Try.prog w r b0 25 v) (h : DataW.Trod enc Try.prog w base spare held 25 v d p) :
    ∃ (s : Se) (Ao Ab : Option Addr) (co cb : Nat) (rA : Nat → Option Addr) (rc : Nat → Nat), v = .agg #[.slice Ao s.offs.length co, .int .i64 s.err, .slice Ab s.baths.length cb] ∧ (s.offs.length ≤ maxLen ∧ s.baths.length ≤ maxLen ∧ ∀ b, b < s.baths.length → (gBt s.baths b).reads.length ≤ maxLen) ∧ SeIn w w.heap.size s Ao Ab rA rc := by
  obtain ⟨cs, rfl, hsz⟩ := okWide_struct Try.underlying25 hv
  obtain ⟨l⟩ := cs
  obtain ⟨c0, c1, c2, rfl⟩ := list3 (l := l) (hsz.trans (by kernel_rfl))
  obtain ⟨fuel, hfu⟩ := h
  obtain ⟨xs, n, _, _, hc, hxl, hf⟩ := DataW.trod_struct Try.underlying25 hfu
  have hl : xs.length = 3 := hxl.trans rfl
  obtain ⟨y0, e0⟩ := some_of (l := xs) (i := 0) (by omega)
  obtain ⟨y1, e1⟩ := some_of (l := xs) (i := 1) (by omega)
  obtain ⟨y2, e2⟩ := some_of (l := xs) (i := 2) (by omega)
  have h0 := fld hf (i := 0) 22 0 1 rfl rfl rfl (by kernel_rfl) e0
  have h1 := fld hf (i := 1) 3 1 1 rfl rfl rfl (by kernel_rfl) e1
  have h2 := fld hf (i := 2) 23 2 1 rfl rfl rfl (by kernel_rfl) e2
  simp only [Value.cells, List.drop_zero, List.drop_succ_cons, List.take_succ_cons, List.take_zero] at h0 h1 h2
  obtain ⟨Ao, lo, co, hb1, hb2, hb3, hb4⟩ := tr_rgs5 h0
  obtain ⟨u, hu, _⟩ := tr_int Try.underlying3 h1
  obtain ⟨Ab, lb, cb, hd1, hd2, hd3, hR, hd4⟩ := tr_slR (sz := 3) (c := cBx) (R := fun b : Bx => SlAt w w.heap.size 2 b.A b.b.reads.length (fRd b.b.reads) ∧ b.b.reads.length ≤ maxLen) Try.underlying23 (by omega) (by kernel_rfl) (fun h => tr_bt5 h) (fun _ => rfl) h2
  injection hu with hu _
  injection hb1 with hb1 _
  injection hd1 with hd1 _
  have hlb : (lb.map (·.b)).length = lb.length := by simp
  have hg : ∀ k (hk : k < lb.length), gBt (lb.map (·.b)) k = (lb[k]).b := fun k hk => by simp [gBt, hk]
  have hgA : ∀ k (hk : k < lb.length), (lb.getD k default).A = (lb[k]).A := fun k hk => by simp [hk]
  have hgc : ∀ k (hk : k < lb.length), (lb.getD k default).c = (lb[k]).c := fun k hk => by simp [hk]
  refine ⟨⟨lo, u, lb.map (·.b)⟩, Ao, Ab, co, cb, fun k => (lb.getD k default).A, fun k => (lb.getD k default).c, by rw [hu, hb1, hd1]; simp, ⟨Nat.le_trans hb2 hb3, by simp only [hlb]; omega, fun b hb => ?_⟩, ⟨hb4, ?_, fun b hb => ?_⟩⟩
  · simp only [hlb] at hb
    show (gBt (lb.map (·.b)) b).reads.length ≤ maxLen
    rw [hg b hb]
    exact (hR _ (List.getElem_mem hb)).2
  · show SlAt w w.heap.size 3 Ab (lb.map (·.b)).length _
    rw [hlb]
    refine hd4 _ (fun k hk j hj => ?_)
    match j, hj with
    | 0, _ => simp [cBx, fBt, hg k hk]
    | 1, _ => simp [cBx, fBt, hg k hk]
    | 2, _ => simp [cBx, fBt, hg k hk, hk]
  · simp only [hlb] at hb
    show SlAt w w.heap.size 2 (lb.getD b default).A (gBt (lb.map (·.b)) b).reads.length (fRd (gBt (lb.map (·.b)) b).reads)
    rw [hg b hb, hgA b hb]
    exact (hR _ (List.getElem_mem hb)).1
set_option maxRecDepth 100000 in
theorem open_works {v : Value} {d : DataW H} {p : List MemPlace} (hv : Value.okWide Try.prog w r b0 60 v) (h : DataW.Trod enc Try.prog w base spare held 60 v d p) :
    ∃ (w0 : Wo) (Ar : Option Addr) (cr : Nat), v = .agg #[.slice Ar w0.rng.length cr, .int .i64 w0.room, .int .i64 w0.steps] ∧ w0.rng.length ≤ maxLen ∧ SlAt w w.heap.size 2 Ar w0.rng.length (fR w0.rng) := by
  obtain ⟨cs, rfl, hsz⟩ := okWide_struct Try.underlying60 hv
  obtain ⟨l⟩ := cs
  obtain ⟨c0, c1, c2, rfl⟩ := list3 (l := l) (hsz.trans (by kernel_rfl))
  obtain ⟨fuel, hfu⟩ := h
  obtain ⟨xs, n, _, _, hc, hxl, hf⟩ := DataW.trod_struct Try.underlying60 hfu
  have hl : xs.length = 3 := hxl.trans rfl
  obtain ⟨y0, e0⟩ := some_of (l := xs) (i := 0) (by omega)
  obtain ⟨y1, e1⟩ := some_of (l := xs) (i := 1) (by omega)
  obtain ⟨y2, e2⟩ := some_of (l := xs) (i := 2) (by omega)
  have h0 := fld hf (i := 0) 22 0 1 rfl rfl rfl (by kernel_rfl) e0
  have h1 := fld hf (i := 1) 3 1 1 rfl rfl rfl (by kernel_rfl) e1
  have h2 := fld hf (i := 2) 3 2 1 rfl rfl rfl (by kernel_rfl) e2
  simp only [Value.cells, List.drop_zero, List.drop_succ_cons, List.take_succ_cons, List.take_zero] at h0 h1 h2
  obtain ⟨Ao, lo, co, hb1, hb2, hb3, hb4⟩ := tr_rgs5 h0
  obtain ⟨u, hu, _⟩ := tr_int Try.underlying3 h1
  obtain ⟨u2, hu2, _⟩ := tr_int Try.underlying3 h2
  injection hu with hu _
  injection hu2 with hu2 _
  injection hb1 with hb1 _
  exact ⟨⟨lo, u, u2⟩, Ao, co, by rw [hu, hb1, hu2], Nat.le_trans hb2 hb3, hb4⟩
/-- a dip, and where its list lies. -/
structure Dx where
  d : Dp
  A : Option Addr
  c : Nat
instance : Inhabited Dx := ⟨⟨⟨0, []⟩, none, 0⟩⟩
def cDx (x : Dx) : List Value := [.int .i64 x.d.heat, .slice x.A x.d.ins.length x.c]
set_option maxRecDepth 100000 in
theorem tr_dp5 {fuel : Nat} {cs : List Value} {x : DataW H × List MemPlace} (h : DataW.trod enc Try.prog w base spare held fuel 104 cs = some x) : ∃ b : Dx, cs = cDx b ∧ (SlAt w w.heap.size 1 b.A b.d.ins.length (fI b.d.ins) ∧ b.d.ins.length ≤ maxLen) := by
  obtain ⟨xs, n, _, _, hc, hxl, hf⟩ := DataW.trod_struct Try.underlying104 h
  have hcs : cs.length = 2 := hc.trans (by kernel_rfl)
  obtain ⟨c0, c1, rfl⟩ := list2 hcs
  have hl : xs.length = 2 := hxl.trans rfl
  obtain ⟨y0, e0⟩ := some_of (l := xs) (i := 0) (by omega)
  obtain ⟨y1, e1⟩ := some_of (l := xs) (i := 1) (by omega)
  have h0 := fld hf (i := 0) 3 0 1 rfl rfl rfl (by kernel_rfl) e0
  have h1 := fld hf (i := 1) 52 1 1 rfl rfl rfl (by kernel_rfl) e1
  simp only [List.drop_zero, List.drop_succ_cons, List.take_succ_cons, List.take_zero] at h0 h1
  obtain ⟨a, ha, _⟩ := tr_int Try.underlying3 h0
  obtain ⟨A, l, cp, hb, hb1, hb2, hb3⟩ := tr_ints h1
  injection ha with ha1 _
  injection hb with hb _
  exact ⟨⟨⟨a, l⟩, A, cp⟩, by rw [ha1, hb]; rfl, hb3, Nat.le_trans hb1 hb2⟩
set_option maxRecDepth 100000 in
theorem open_dips {v : Value} {d : DataW H} {p : List MemPlace} (hv : Value.okWide Try.prog w r b0 61 v) (h : DataW.Trod enc Try.prog w base spare held 61 v d p) :
    ∃ (pl : List Dp) (A : Option Addr) (c : Nat) (rA : Nat → Option Addr) (rc : Nat → Nat), v = .slice A pl.length c ∧ (pl.length ≤ maxLen ∧ ∀ k, k < pl.length → (gDp pl k).ins.length ≤ maxLen) ∧ PlIn w w.heap.size pl A rA rc := by
  obtain ⟨a, len, cap, rfl⟩ := okWide_slice Try.underlying61 hv
  obtain ⟨fuel, hf⟩ := h
  obtain ⟨A, lb, cb, hd1, hd2, hd3, hR, hd4⟩ := tr_slR (sz := 2) (c := cDx) (R := fun b : Dx => SlAt w w.heap.size 1 b.A b.d.ins.length (fI b.d.ins) ∧ b.d.ins.length ≤ maxLen) Try.underlying61 (by omega) (by kernel_rfl) (fun h => tr_dp5 h) (fun _ => rfl) hf
  injection hd1 with hd1 _
  have hlb : (lb.map (·.d)).length = lb.length := by simp
  have hg : ∀ k (hk : k < lb.length), gDp (lb.map (·.d)) k = (lb[k]).d := fun k hk => by simp [gDp, hk]
  have hgA : ∀ k (hk : k < lb.length), (lb.getD k default).A = (lb[k]).A := fun k hk => by simp [hk]
  refine ⟨lb.map (·.d), A, cb, fun k => (lb.getD k default).A, fun k => (lb.getD k default).c, by rw [hd1, hlb], ⟨by rw [hlb]; omega, fun b hb => ?_⟩, ⟨?_, fun b hb => ?_⟩⟩
  · rw [hlb] at hb
    rw [hg b hb]
    exact (hR _ (List.getElem_mem hb)).2
  · rw [hlb]
    refine hd4 _ (fun k hk j hj => ?_)
    match j, hj with
    | 0, _ => simp [cDx, fDp, hg k hk]
    | 1, _ => simp [cDx, fDp, hg k hk, hk]
  · rw [hlb] at hb
    show SlAt w w.heap.size 1 (lb.getD b default).A (gDp (lb.map (·.d)) b).ins.length (fI (gDp (lb.map (·.d)) b).ins)
    rw [hg b hb, hgA b hb]
    exact (hR _ (List.getElem_mem hb)).1
set_option maxRecDepth 100000 in
theorem open_rgs5 {v : Value} {d : DataW H} {p : List MemPlace} (hv : Value.okWide Try.prog w r b0 22 v) (h : DataW.Trod enc Try.prog w base spare held 22 v d p) :
    ∃ A l cp, v = .slice A (l : List Rg).length cp ∧ l.length ≤ maxLen ∧ SlAt w w.heap.size 2 A l.length (fR l) := by
  obtain ⟨a, len, cap, rfl⟩ := okWide_slice Try.underlying22 hv
  obtain ⟨fuel, hf⟩ := h
  obtain ⟨A, l, cp, h1, h2, h3, h4⟩ := tr_rgs5 hf
  exact ⟨A, l, cp, by injection h1, Nat.le_trans h2 h3, h4⟩
set_option maxRecDepth 100000 in
theorem open_ints {v : Value} {d : DataW H} {p : List MemPlace} (hv : Value.okWide Try.prog w r b0 52 v) (h : DataW.Trod enc Try.prog w base spare held 52 v d p) :
    ∃ A l cp, v = .slice A (l : List Int).length cp ∧ l.length ≤ maxLen ∧ SlAt w w.heap.size 1 A l.length (fI l) := by
  obtain ⟨a, len, cap, rfl⟩ := okWide_slice Try.underlying52 hv
  obtain ⟨fuel, hf⟩ := h
  obtain ⟨A, l, cp, h1, h2, h3, h4⟩ := tr_ints hf
  exact ⟨A, l, cp, by injection h1, Nat.le_trans h2 h3, h4⟩
end
end Go.Proofs.Ytnplefhigbkbbaa
end

section
namespace Go.Proofs.Ytnplefhigbkbbaa
open Go.RowKit

/-- n elements of sz cells each in a block of its own; none needs no block. -/
def RowAt (W : World) (B : Nat) (T : TypeId) (sz : Nat) (A : Option Addr) (n : Nat) (f : Nat → Nat → Value) : Prop :=
  n = 0 ∨ ∃ g cur, A = some ⟨g, 0, none⟩ ∧ B ≤ g ∧ Blk W g T cur ∧ ∀ k j, k < n → j < sz → cur[k * sz + j]? = some (f k j)
section
variable {W W' : World} {B sz n : Nat} {T : TypeId} {A : Option Addr} {f : Nat → Nat → Value}
theorem RowAt.sl (h : RowAt W B T sz A n f) : SlAt W W.heap.size sz A n f := fun hn => by
  rcases h with h | ⟨g, cur, e, _, hb, hc⟩
  · omega
  · exact ⟨g, 0, e, hb.lt, fun k j hk hj => by rw [Nat.zero_add, hb.cell]; exact hc k j hk hj⟩
theorem RowAt.below (h : RowAt W B T sz A n f) (hb : Below W.heap.size W W') : RowAt W' B T sz A n f := by
  rcases h with h | ⟨g, cur, e, h1, h2, h3⟩
  · exact .inl h
  · exact .inr ⟨g, cur, e, h1, h2.below hb h2.lt, h3⟩
theorem RowAt.base {B' : Nat} (h : RowAt W B T sz A n f) (hB : B' ≤ B) : RowAt W B' T sz A n f := by
  rcases h with h | ⟨g, cur, e, h1, h2, h3⟩
  · exact .inl h
  · exact .inr ⟨g, cur, e, by omega, h2, h3⟩
theorem RowAt.fr {R : Nat → Prop} (h : RowAt W B T sz A n f) (hf : Fr R W W') (hn : ∀ g, B ≤ g → g < W.heap.size → ¬ R g) : RowAt W' B T sz A n f := by
  rcases h with h | ⟨g, cur, e, h1, h2, h3⟩
  · exact .inl h
  · exact .inr ⟨g, cur, e, h1, h2.fr hf (hn g h1 h2.lt), h3⟩
theorem RowAt.grown {base m s1 : Nat} {T1 : TypeId} {v : Value} {xs : List Value} (h : RowAt W B T sz A n f) (hg : W.grownBy W' v.ownBlock) (ho : W.ownsRow base T1 s1 v m xs) (ht : T1 ≠ T) : RowAt W' B T sz A n f := by
  rcases h with h | ⟨g, cur, e, h1, h2, h3⟩
  · exact .inl h
  · exact .inr ⟨g, cur, e, h1, h2.grown hg (fun e2 => own_blkne ho h2 ht e2.symm), h3⟩
theorem RowAt.ext {f' : Nat → Nat → Value} (h : RowAt W B T sz A n f) (he : ∀ k j, k < n → j < sz → f k j = f' k j) : RowAt W B T sz A n f' := by
  rcases h with h | ⟨g, cur, e, h1, h2, h3⟩
  · exact .inl h
  · exact .inr ⟨g, cur, e, h1, h2, fun k j hk hj => by rw [← he k j hk hj]; exact h3 k j hk hj⟩
end
theorem own_row {α : Type} {c : α → List Value} {sz : Nat} (hc : ∀ a, (c a).length = sz) {W : World} {B : Nat} {T : TypeId} {v : Value} {l : List α} {f : Nat → Nat → Value} (hf : ∀ (k : Nat) (hk : k < l.length) (j : Nat), j < sz → (c l[k])[j]? = some (f k j))
    (h : W.ownsRow B T sz v l.length (l.flatMap c)) : ∃ A k, v = .slice A l.length k ∧ l.length ≤ k ∧ k ≤ maxLen ∧ RowAt W B T sz A l.length f := by
  rcases h.2 with ⟨rfl, h0⟩ | ⟨g, cap, cur, rfl, hb, hh, hn, hm, hs, hcc⟩
  · exact ⟨none, 0, by rw [h0], by omega, by unfold maxLen; omega, .inl h0⟩
  · refine ⟨_, cap, rfl, hn, hm, .inr ⟨g, cur, rfl, hb, hh, fun k j hk hj => ?_⟩⟩
    have h1 := (flat_get (f := c) hc hk hj).trans (hf k hk j hj)
    rw [← hcc, List.getElem?_take] at h1
    rw [← Array.getElem?_toList]
    by_cases hx : k * sz + j < l.length * sz
    · rwa [if_pos hx] at h1
    · rw [if_neg hx] at h1; cases h1
/-- elements in a row of the call's own, each with a row of its own. -/
structure NOwn {α : Type} (T1 : TypeId) (s1 : Nat) (T2 : TypeId) (s2 : Nat) (c : α → List Value) (A : α → Option Addr) (n : α → Nat) (f : α → Nat → Nat → Value) (W : World) (B : Nat) (v : Value) (X : List α) : Prop where
  own : W.ownsRow B T1 s1 v X.length (X.flatMap c)
  ins : ∀ x ∈ X, RowAt W B T2 s2 (A x) (n x) (f x)
section
variable {α : Type} {T1 T2 : TypeId} {s1 s2 : Nat} {c : α → List Value} {A : α → Option Addr} {n : α → Nat} {f : α → Nat → Nat → Value} {W W' : World} {B : Nat} {v : Value} {X : List α}
theorem NOwn.nil : NOwn T1 s1 T2 s2 c A n f W B (.slice none 0 0) [] := ⟨⟨by simp, .inl ⟨rfl, rfl⟩⟩, fun x hx => by cases hx⟩
theorem NOwn.below (h : NOwn T1 s1 T2 s2 c A n f W B v X) (hb : Below W.heap.size W W') : NOwn T1 s1 T2 s2 c A n f W' B v X := ⟨own_below h.own hb, fun x hx => (h.ins x hx).below hb⟩
theorem NOwn.lt (h : NOwn T1 s1 T2 s2 c A n f W B v X) {g : Nat} (hg : v.ownBlock = some g) : g < W.heap.size := by
  rcases h.own.2 with ⟨rfl, _⟩ | ⟨g', cap, cur, rfl, _, hh, _⟩
  · simp [Value.ownBlock] at hg
  · simp only [Value.ownBlock] at hg
    injection hg with hg
    rw [← hg]; exact (Array.getElem?_eq_some_iff.1 hh).1
theorem NOwn.fr {R : Nat → Prop} (h : NOwn T1 s1 T2 s2 c A n f W B v X) (hf : Fr R W W') (hn : ∀ g, B ≤ g → g < W.heap.size → ¬ R g) : NOwn T1 s1 T2 s2 c A n f W' B v X :=
  ⟨own_fr h.own hf (fun b hb => hn b (own_ge h.own hb) (h.lt hb)), fun x hx => (h.ins x hx).fr hf hn⟩
/-- a store into a block of another type. -/
theorem NOwn.set (h : NOwn T1 s1 T2 s2 c A n f W B v X) {b : Nat} {T : TypeId} {cs : Array Value} (hq : Blk W b T cs) (h1 : T1 ≠ T) (h2 : T2 ≠ T) (i : Nat) (u : Value) : NOwn T1 s1 T2 s2 c A n f (W.setCell ⟨b, i, none⟩ u) B v X := by
  have hF := Fr.set (R := fun x => x = b) W b i u rfl
  refine ⟨own_fr h.own hF (fun g hg e => own_blkne h.own hq h1 (by rw [hg, show g = b from e])), fun x hx => ?_⟩
  rcases h.ins x hx with h3 | ⟨g, cur, e, k1, k2, k3⟩
  · exact .inl h3
  · exact .inr ⟨g, cur, e, k1, k2.fr hF (blk_ne k2 hq h2), k3⟩
/-- behind an append. -/
theorem NOwn.push {v' : Value} {X' Y : List α} (h : NOwn T1 s1 T2 s2 c A n f W B v X) (hg : W.grownBy W' v.ownBlock) (ht : T1 ≠ T2) (hX : X' = X ++ Y) (ho : W'.ownsRow B T1 s1 v' X'.length (X'.flatMap c)) (hY : ∀ y ∈ Y, RowAt W B T2 s2 (A y) (n y) (f y)) : NOwn T1 s1 T2 s2 c A n f W' B v' X' := by
  refine ⟨ho, fun x hx => ?_⟩
  rw [hX] at hx
  rcases List.mem_append.1 hx with h1 | h1
  · exact (h.ins x h1).grown hg h.own ht
  · exact (hY x h1).grown hg h.own ht
end
end Go.Proofs.Ytnplefhigbkbbaa
end

section
namespace Go.Proofs.Ytnplefhigbkbbaa
open Go.RowKit
attribute [local go_sem] Ex.cell? Ex.frozen?

set_option maxRecDepth 100000 in
set_option maxHeartbeats 6400000 in
theorem dip_any (w0 : Wo) (d : Dp) (Ar Ad : Option Addr) (cr cd : Nat) (w : World) (hr : SlAt w w.heap.size 2 Ar w0.rng.length (fR w0.rng)) (hd : SlAt w w.heap.size 1 Ad d.ins.length (fI d.ins)) (hn : w0.rng.length ≤ 1000000) (hl : d.ins.length ≤ 1000000) :
    Calls Try.prog 81 #[.agg #[.slice Ar w0.rng.length cr, .int .i64 w0.room, .int .i64 w0.steps], .agg #[.int .i64 d.heat, .slice Ad d.ins.length cd]] w fun e w' => e = .returned (.bool (dipB w0 d)) ∧ Below w.heap.size w w' := by
  have hb1 := ex_alloc (ex_alloc (Below.refl w.heap.size w) (.cells #[.slice Ar w0.rng.length cr, .int .i64 w0.room, .int .i64 w0.steps] 65)) (.cells #[.int .i64 d.heat, .slice Ad d.ins.length cd] 112)
  have q0 : Blk ((w.alloc (.cells #[.slice Ar w0.rng.length cr, .int .i64 w0.room, .int .i64 w0.steps] 65)).alloc (.cells #[.int .i64 d.heat, .slice Ad d.ins.length cd] 112)) w.heap.size 65 #[.slice Ar w0.rng.length cr, .int .i64 w0.room, .int .i64 w0.steps] := (Blk.new _ _ _).alloc _
  have q1 : Blk ((w.alloc (.cells #[.slice Ar w0.rng.length cr, .int .i64 w0.room, .int .i64 w0.steps] 65)).alloc (.cells #[.int .i64 d.heat, .slice Ad d.ins.length cd] 112)) (w.heap.size + 1) 112 #[.int .i64 d.heat, .slice Ad d.ins.length cd] := Blk.new' _ _ _ (by simp)
  cases hln : inB (d.ins.length : Int) 2 w0.room
  · have HLN := Lib.hid hln
    have HF : Hid (dipB w0 d = false) := Lib.hid (by unfold dipB; rw [hln]; rfl)
    clear hln
    go_enter Try.func81, Try.ntmps81
    go_wp2_with fail
    refine (within_any _ _ _ _).mono ?_
    rintro e w' ⟨rfl, rfl⟩
    rw [HLN.out]
    go_wp2
    go_ret
    exact ⟨ret_bool HF.out.symm, hb1⟩
  have HLN := Lib.hid hln
  clear hln
  go_enter Try.func81, Try.ntmps81
  go_wp2_with fail
  refine (within_any _ _ _ _).mono ?_
  rintro e w' ⟨rfl, rfl⟩
  rw [HLN.out]
  go_wp2_with fail
  generalize (w.alloc (.cells #[.slice Ar w0.rng.length cr, .int .i64 w0.room, .int .i64 w0.steps] 65)).alloc (.cells #[.int .i64 d.heat, .slice Ad d.ins.length cd] 112) = V at *
  refine wp_loop (fun a W => Rel (fun a W => ∃ k : Nat, k ≤ d.ins.length ∧ Below w.heap.size w W ∧ Blk W w.heap.size 65 #[.slice Ar w0.rng.length cr, .int .i64 w0.room, .int .i64 w0.steps] ∧ Blk W (w.heap.size + 1) 112 #[.int .i64 d.heat, .slice Ad d.ins.length cd] ∧ Hid (∀ j, j < k → inOk w0 d j = true) ∧ ∃ u : Nat → Value, a = ⟨List.toArray (u 0 :: u 1 :: .pointer (some ⟨w.heap.size, 0, none⟩) :: .pointer (some ⟨w.heap.size + 1, 0, none⟩) :: u 4 :: u 5 :: u 6 :: u 7 :: u 8 :: u 9 :: u 10 :: u 11 :: u 12 :: u 13 :: u 14 :: .slice Ad d.ins.length cd :: .int .i64 (d.ins.length : Int) :: .int .i64 (k : Int) :: u 18 :: u 19 :: u 20 :: u 21 :: u 22 :: u 23 :: u 24 :: u 25 :: u 26 :: u 27 :: u 28 :: u 29 :: u 30 :: u 31 :: u 32 :: u 33 :: u 34 :: u 35 :: u 36 :: u 37 :: u 38 :: u 39 :: u 40 :: u 41 :: u 42 :: u 43 :: u 44 :: u 45 :: u 46 :: u 47 :: u 48 :: u 49 :: u 50 :: u 51 :: u 52 :: u 53 :: u 54 :: []), []⟩) a W)
    (fun a _ => d.ins.length - (intOf (a.tmps.getD 17 undef)).toNat) ⟨⟨0, by omega, hb1, q0, q1, Lib.hid (fun j hj => by omega), exFrame (by kernel_rfl)⟩⟩ ?_
  clear hb1 q0 q1
  rintro a W ⟨⟨k, hk, hbl, q0, q1, HO, u, rfl⟩⟩
  by_cases hlt : k < d.ins.length
  rotate_left
  · have hkE : k = d.ins.length := by omega
    have HF : Hid (dipB w0 d = true) := Lib.hid (by unfold dipB; rw [HLN.out, Bool.true_and]; exact allTo_iff.2 (fun j hj => HO.out j (by omega)))
    subst hkE
    go_wp2
    go_ret
    exact ⟨ret_bool HF.out.symm, hbl⟩
  have hws := hbl.size
  obtain ⟨bd, od, rfl, hbd, g0⟩ := IsInts.at_ (hd.below hbl) hlt
  have lbd : bd < W.heap.size := by omega
  have a0 : W.cell? ⟨w.heap.size, 0, none⟩ = some (.slice Ar w0.rng.length cr) := q0.cell 0
  have l0 := q0.lt
  have b0 : W.cell? ⟨w.heap.size + 1, 0, none⟩ = some (.int .i64 d.heat) := q1.cell 0
  have b1 : W.cell? ⟨w.heap.size + 1, 1, none⟩ = some (.slice (some ⟨bd, od, none⟩) d.ins.length cd) := q1.cell 1
  have l1 := q1.lt
  have HIN : Hid (inOk w0 d k = (inB (gI d.ins k) 0 ((w0.rng.length : Int) - 1) && (!(decide (0 < k) && decide (gI d.ins k ≤ gI d.ins (k - 1))) && inB d.heat (gR w0.rng (gI d.ins k).toNat).lo (gR w0.rng (gI d.ins k).toNat).hi))) := Lib.hid rfl
  have HFF : Hid (inOk w0 d k = false → dipB w0 d = false) := Lib.hid (fun h => by unfold dipB; rw [allTo_false hlt h, Bool.and_false])
  have wn : IntKind.i64.wrap ((w0.rng.length : Int) - 1) = (w0.rng.length : Int) - 1 := IntWalk.i64_in _ (by omega)
  obtain ⟨iv, hiv⟩ : ∃ iv, gI d.ins k = iv := ⟨_, rfl⟩
  rw [hiv] at g0 HIN
  clear hiv
  cases h1 : inB iv 0 ((w0.rng.length : Int) - 1)
  ·
    have H1 := Lib.hid h1
    have HF : Hid (dipB w0 d = false) := Lib.hid (HFF.out (by rw [HIN.out, h1]; rfl))
    clear h1
    go_wp2_with fail
    refine wp_region_ext_mix 31 [(false, 0), (false, 1), (false, 2), (false, 3), (false, 4), (true, 5), (false, 6), (false, 7), (false, 8), (false, 9), (false, 10), (false, 11), (false, 12), (false, 13), (false, 14), (false, 15), (false, 16), (false, 17), (false, 18), (false, 19), (false, 20), (false, 21), (false, 22), (false, 23), (false, 24), (false, 25), (false, 26), (false, 27), (false, 28), (true, 29), (false, 30)] (by kernel_rfl) (by kernel_rfl) (by intro d _ _ _ _ h; cases d <;> exact h) ?_
    have hX0 := (Below.refl W.heap.size W).drew
    repeat (refine mix_quiet rfl ?_; go_big_quiet_step (fail); refine wpQuiet_nil ?_)
    refine mix_loud rfl ?_
    go_wp2_with fail
    refine (within_any _ _ _ _).mono ?_
    rintro e w' ⟨rfl, rfl⟩
    rw [H1.out]
    go_wp2_with fail
    refine ⟨inEx hX0, ?_⟩

    repeat (refine mix_quiet rfl ?_; go_big_quiet_step (fail); refine wpQuiet_nil ?_)
    refine mix_loud rfl ?_
    go_wp2_with fail
    refine ⟨inEx hX0, ?_⟩
    repeat (refine mix_quiet rfl ?_; go_big_quiet_step (fail); refine wpQuiet_nil ?_)
    refine mix_nil rfl ?_
    go_wp2
    go_ret
    exact ⟨ret_bool HF.out.symm, ex_trans hbl hX0⟩

  have H1 := Lib.hid h1
  obtain ⟨i0', i1'⟩ := inB_iff.1 h1
  obtain ⟨i, rfl⟩ : ∃ i : Nat, iv = (i : Int) := ⟨iv.toNat, by omega⟩
  have hin : i < w0.rng.length := by omega
  rw [Int.toNat_natCast] at HIN
  obtain ⟨br, orr, rfl, hbr, r0, r1⟩ := IsRgs.at_ (hr.below hbl) hin
  have lbr : br < W.heap.size := by omega
  obtain ⟨lo, hlo⟩ : ∃ lo, (gR w0.rng i).lo = lo := ⟨_, rfl⟩
  obtain ⟨hi, hhi⟩ : ∃ hi, (gR w0.rng i).hi = hi := ⟨_, rfl⟩
  rw [hlo] at r0 HIN
  rw [hhi] at r1 HIN
  clear h1 hlo hhi i0' i1'
  have HOK : Hid ((inOk w0 d k = true) → ∀ j, j < k + 1 → inOk w0 d j = true) := Lib.hid (fun h j hj => by
    rcases Nat.lt_succ_iff_lt_or_eq.1 hj with h2 | h2
    · exact HO.out j h2
    · subst h2; exact h)
  rcases Nat.eq_zero_or_pos k with hk0 | hk0
  · have HI2 : Hid (inOk w0 d k = inB d.heat lo hi) := Lib.hid (by rw [HIN.out, H1.out, hk0]; rfl)
    have d0 : decide ((0 : Int) < (k : Int)) = false := decide_eq_false (by omega)
    have d0' : decide (0 < k) = false := decide_eq_false (by omega)
    clear hk0
    cases h3 : inB d.heat lo hi
    ·
      have H3 := Lib.hid h3
      have HF : Hid (dipB w0 d = false) := Lib.hid (HFF.out (by rw [HI2.out, h3]))
      clear h3
      go_wp2_with fail
      refine wp_region_ext_mix 31 [(false, 0), (false, 1), (false, 2), (false, 3), (false, 4), (true, 5), (false, 6), (false, 7), (false, 8), (false, 9), (false, 10), (false, 11), (false, 12), (false, 13), (false, 14), (false, 15), (false, 16), (false, 17), (false, 18), (false, 19), (false, 20), (false, 21), (false, 22), (false, 23), (false, 24), (false, 25), (false, 26), (false, 27), (false, 28), (true, 29), (false, 30)] (by kernel_rfl) (by kernel_rfl) (by intro d _ _ _ _ h; cases d <;> exact h) ?_
      have hX0 := (Below.refl W.heap.size W).drew
      repeat (refine mix_quiet rfl ?_; go_big_quiet_step (fail); refine wpQuiet_nil ?_)
      refine mix_loud rfl ?_
      go_wp2_with fail
      refine (within_any _ _ _ _).mono ?_
      rintro e w' ⟨rfl, rfl⟩
      rw [H1.out]
      go_wp2_with fail
      refine ⟨inEx hX0, ?_⟩

      repeat (refine mix_quiet rfl ?_; go_big_quiet_step (fail); refine wpQuiet_nil ?_)
      refine mix_loud rfl ?_
      go_wp2_with fail
      refine (has_any lo hi d.heat _).mono ?_
      rintro e w2 ⟨rfl, hb2⟩
      rw [H3.out]
      have hX2 := ex_trans hX0 hb2
      go_wp2_with fail
      refine ⟨inEx hX2, ?_⟩
      repeat (refine mix_quiet rfl ?_; go_big_quiet_step (fail); refine wpQuiet_nil ?_)
      refine mix_nil rfl ?_

      go_wp2
      go_ret
      exact ⟨ret_bool HF.out.symm, ex_trans hbl hX2⟩
    ·
      have H3 := Lib.hid h3
      have HO2 := Lib.hid (HOK.out (by rw [HI2.out, h3]))
      clear h3
      go_wp2_with fail
      refine wp_region_ext_mix 31 [(false, 0), (false, 1), (false, 2), (false, 3), (false, 4), (true, 5), (false, 6), (false, 7), (false, 8), (false, 9), (false, 10), (false, 11), (false, 12), (false, 13), (false, 14), (false, 15), (false, 16), (false, 17), (false, 18), (false, 19), (false, 20), (false, 21), (false, 22), (false, 23), (false, 24), (false, 25), (false, 26), (false, 27), (false, 28), (true, 29), (false, 30)] (by kernel_rfl) (by kernel_rfl) (by intro d _ _ _ _ h; cases d <;> exact h) ?_
      have hX0 := (Below.refl W.heap.size W).drew
      repeat (refine mix_quiet rfl ?_; go_big_quiet_step (fail); refine wpQuiet_nil ?_)
      refine mix_loud rfl ?_
      go_wp2_with fail
      refine (within_any _ _ _ _).mono ?_
      rintro e w' ⟨rfl, rfl⟩
      rw [H1.out]
      go_wp2_with fail
      refine ⟨inEx hX0, ?_⟩

      repeat (refine mix_quiet rfl ?_; go_big_quiet_step (fail); refine wpQuiet_nil ?_)
      refine mix_loud rfl ?_
      go_wp2_with fail
      refine (has_any lo hi d.heat _).mono ?_
      rintro e w2 ⟨rfl, hb2⟩
      rw [H3.out]
      have hX2 := ex_trans hX0 hb2
      go_wp2_with fail
      refine ⟨inEx hX2, ?_⟩
      repeat (refine mix_quiet rfl ?_; go_big_quiet_step (fail); refine wpQuiet_nil ?_)
      refine mix_nil rfl ?_

      go_wp2_with fail
      refine ⟨⟨⟨k + 1, by omega, ex_trans hbl hX2, q0.below hX2 l0, q1.below hX2 l1, HO2, exFrame (by kernel_rfl)⟩⟩, ?_⟩
      show d.ins.length - (intOf (.int .i64 ((k : Int) + 1))).toNat < d.ins.length - (intOf (.int .i64 (k : Int))).toNat
      simp [intOf]
      omega
  · obtain ⟨j, hjk⟩ : ∃ j, j = k - 1 := ⟨_, rfl⟩
    have hjn : j < d.ins.length := by omega
    have wj : IntKind.i64.wrap ((k : Int) - 1) = (j : Int) := by rw [IntWalk.i64_in _ (by omega)]; omega
    obtain ⟨bd', od', hAd', _, gj⟩ := IsInts.at_ (hd.below hbl) hjn
    injection hAd' with hAd'
    injection hAd' with hA1 hA2
    subst hA1 hA2
    have d0 : decide ((0 : Int) < (k : Int)) = true := decide_eq_true (by omega)
    have d0' : decide (0 < k) = true := decide_eq_true hk0
    rw [d0', ← hjk, Bool.true_and] at HIN
    obtain ⟨pv, hpv⟩ : ∃ pv, gI d.ins j = pv := ⟨_, rfl⟩
    rw [hpv] at gj HIN
    clear hpv hjk hk0
    by_cases h2 : (i : Int) ≤ pv
    ·
      have HF : Hid (dipB w0 d = false) := Lib.hid (HFF.out (by rw [HIN.out, H1.out, decide_eq_true h2]; rfl))
      have e2 : decide ((i : Int) ≤ pv) = true := decide_eq_true h2
      clear h2
      go_wp2_with fail
      refine wp_region_ext_mix 31 [(false, 0), (false, 1), (false, 2), (false, 3), (false, 4), (true, 5), (false, 6), (false, 7), (false, 8), (false, 9), (false, 10), (false, 11), (false, 12), (false, 13), (false, 14), (false, 15), (false, 16), (false, 17), (false, 18), (false, 19), (false, 20), (false, 21), (false, 22), (false, 23), (false, 24), (false, 25), (false, 26), (false, 27), (false, 28), (true, 29), (false, 30)] (by kernel_rfl) (by kernel_rfl) (by intro d _ _ _ _ h; cases d <;> exact h) ?_
      have hX0 := (Below.refl W.heap.size W).drew
      repeat (refine mix_quiet rfl ?_; go_big_quiet_step (fail); refine wpQuiet_nil ?_)
      refine mix_loud rfl ?_
      go_wp2_with fail
      refine (within_any _ _ _ _).mono ?_
      rintro e w' ⟨rfl, rfl⟩
      rw [H1.out]
      go_wp2_with fail
      refine ⟨inEx hX0, ?_⟩

      repeat (refine mix_quiet rfl ?_; go_big_quiet_step (fail); refine wpQuiet_nil ?_)
      refine mix_loud rfl ?_
      go_wp2_with fail
      refine ⟨inEx hX0, ?_⟩
      repeat (refine mix_quiet rfl ?_; go_big_quiet_step (fail); refine wpQuiet_nil ?_)
      refine mix_nil rfl ?_
      go_wp2
      go_ret
      exact ⟨ret_bool HF.out.symm, ex_trans hbl hX0⟩

    have e2 : decide ((i : Int) ≤ pv) = false := decide_eq_false h2
    have HI2 : Hid (inOk w0 d k = inB d.heat lo hi) := Lib.hid (by rw [HIN.out, H1.out, e2]; rfl)
    clear h2
    cases h3 : inB d.heat lo hi
    ·
      have H3 := Lib.hid h3
      have HF : Hid (dipB w0 d = false) := Lib.hid (HFF.out (by rw [HI2.out, h3]))
      clear h3
      go_wp2_with fail
      refine wp_region_ext_mix 31 [(false, 0), (false, 1), (false, 2), (false, 3), (false, 4), (true, 5), (false, 6), (false, 7), (false, 8), (false, 9), (false, 10), (false, 11), (false, 12), (false, 13), (false, 14), (false, 15), (false, 16), (false, 17), (false, 18), (false, 19), (false, 20), (false, 21), (false, 22), (false, 23), (false, 24), (false, 25), (false, 26), (false, 27), (false, 28), (true, 29), (false, 30)] (by kernel_rfl) (by kernel_rfl) (by intro d _ _ _ _ h; cases d <;> exact h) ?_
      have hX0 := (Below.refl W.heap.size W).drew
      repeat (refine mix_quiet rfl ?_; go_big_quiet_step (fail); refine wpQuiet_nil ?_)
      refine mix_loud rfl ?_
      go_wp2_with fail
      refine (within_any _ _ _ _).mono ?_
      rintro e w' ⟨rfl, rfl⟩
      rw [H1.out]
      go_wp2_with fail
      refine ⟨inEx hX0, ?_⟩

      repeat (refine mix_quiet rfl ?_; go_big_quiet_step (fail); refine wpQuiet_nil ?_)
      refine mix_loud rfl ?_
      go_wp2_with fail
      refine (has_any lo hi d.heat _).mono ?_
      rintro e w2 ⟨rfl, hb2⟩
      rw [H3.out]
      have hX2 := ex_trans hX0 hb2
      go_wp2_with fail
      refine ⟨inEx hX2, ?_⟩
      repeat (refine mix_quiet rfl ?_; go_big_quiet_step (fail); refine wpQuiet_nil ?_)
      refine mix_nil rfl ?_

      go_wp2
      go_ret
      exact ⟨ret_bool HF.out.symm, ex_trans hbl hX2⟩
    ·
      have H3 := Lib.hid h3
      have HO2 := Lib.hid (HOK.out (by rw [HI2.out, h3]))
      clear h3
      go_wp2_with fail
      refine wp_region_ext_mix 31 [(false, 0), (false, 1), (false, 2), (false, 3), (false, 4), (true, 5), (false, 6), (false, 7), (false, 8), (false, 9), (false, 10), (false, 11), (false, 12), (false, 13), (false, 14), (false, 15), (false, 16), (false, 17), (false, 18), (false, 19), (false, 20), (false, 21), (false, 22), (false, 23), (false, 24), (false, 25), (false, 26), (false, 27), (false, 28), (true, 29), (false, 30)] (by kernel_rfl) (by kernel_rfl) (by intro d _ _ _ _ h; cases d <;> exact h) ?_
      have hX0 := (Below.refl W.heap.size W).drew
      repeat (refine mix_quiet rfl ?_; go_big_quiet_step (fail); refine wpQuiet_nil ?_)
      refine mix_loud rfl ?_
      go_wp2_with fail
      refine (within_any _ _ _ _).mono ?_
      rintro e w' ⟨rfl, rfl⟩
      rw [H1.out]
      go_wp2_with fail
      refine ⟨inEx hX0, ?_⟩

      repeat (refine mix_quiet rfl ?_; go_big_quiet_step (fail); refine wpQuiet_nil ?_)
      refine mix_loud rfl ?_
      go_wp2_with fail
      refine (has_any lo hi d.heat _).mono ?_
      rintro e w2 ⟨rfl, hb2⟩
      rw [H3.out]
      have hX2 := ex_trans hX0 hb2
      go_wp2_with fail
      refine ⟨inEx hX2, ?_⟩
      repeat (refine mix_quiet rfl ?_; go_big_quiet_step (fail); refine wpQuiet_nil ?_)
      refine mix_nil rfl ?_

      go_wp2_with fail
      refine ⟨⟨⟨k + 1, by omega, ex_trans hbl hX2, q0.below hX2 l0, q1.below hX2 l1, HO2, exFrame (by kernel_rfl)⟩⟩, ?_⟩
      show d.ins.length - (intOf (.int .i64 ((k : Int) + 1))).toNat < d.ins.length - (intOf (.int .i64 (k : Int))).toNat
      simp [intOf]
      omega
end Go.Proofs.Ytnplefhigbkbbaa
end

section
namespace Go.Proofs.Ytnplefhigbkbbaa
open Go.RowKit
attribute [local go_sem] Ex.cell? Ex.frozen?


set_option maxHeartbeats 1600000 in
theorem all1_dip (w0 : Wo) (Ar : Option Addr) (cr : Nat) (hn0 : w0.rng.length ≤ 1000000) (n : Nat) (l : List Dp) (rA : Nat → Option Addr) (rc : Nat → Nat) (hrl : ∀ k, k < n → (gDp l k).ins.length ≤ 1000000) (w : World) (hr : SlAt w w.heap.size 2 Ar w0.rng.length (fR w0.rng)) (hi : ∀ k, k < n → SlAt w w.heap.size 1 (rA k) (gDp l k).ins.length (fI (gDp l k).ins)) (k pb : Nat) (hk : k < n) (hp : pb < w.heap.size) (hc : w.cell? ⟨pb, 0, none⟩ = some (.func (.func 81) #[.agg #[.slice Ar w0.rng.length cr, .int .i64 w0.room, .int .i64 w0.steps]] #[])) :
    Calls Try.prog 111 #[.agg #[.int .i64 (gDp l k).heat, .slice (rA k) (gDp l k).ins.length (rc k)], .pointer (some ⟨pb, 0, none⟩)] w fun e w' => e = .returned (.bool (!(dipB w0 (gDp l k)))) ∧ Below w.heap.size w w' := by
  go_enter Try.func111, Try.ntmps111
  go_wp2_with fail
  have hb1 := ex_alloc (Below.refl w.heap.size w) (.cells #[.int .i64 (gDp l k).heat, .slice (rA k) (gDp l k).ins.length (rc k)] 112)
  refine (dip_any w0 (gDp l k) Ar (rA k) cr (rc k) _ ((hr.below hb1).up hb1.size) (((hi k hk).below hb1).up hb1.size) hn0 (hrl k hk)).mono ?_
  rintro e w2 ⟨rfl, hb2⟩
  go_wp2
  go_ret
  exact ⟨rfl, ex_trans hb1 hb2⟩

set_option maxHeartbeats 1600000 in
theorem index_dip (w0 : Wo) (Ar : Option Addr) (cr : Nat) (hn0 : w0.rng.length ≤ 1000000) (n : Nat) (l : List Dp) (rA : Nat → Option Addr) (rc : Nat → Nat) (hrl : ∀ k, k < n → (gDp l k).ins.length ≤ 1000000) (A : Option Addr) (c : Nat) (w : World) (hr : SlAt w w.heap.size 2 Ar w0.rng.length (fR w0.rng)) (hi : ∀ k, k < n → SlAt w w.heap.size 1 (rA k) (gDp l k).ins.length (fI (gDp l k).ins)) (hA : SlAt w w.heap.size 2 A n (fDp l rA rc)) (hl : n ≤ 1000000) (pb : Nat) (hp : pb < w.heap.size) (hc : w.cell? ⟨pb, 0, none⟩ = some (.func (.func 81) #[.agg #[.slice Ar w0.rng.length cr, .int .i64 w0.room, .int .i64 w0.steps]] #[])) :
    Calls Try.prog 124 #[.slice A n c, .func (.func 111) #[] #[.pointer (some ⟨pb, 0, none⟩)]] w fun e w' => e = .returned (.int .i64 (firstOf (fun k => !(dipB w0 (gDp l k))) n)) ∧ Below w.heap.size w w' := by
  go_enter Try.func124, Try.ntmps124
  go_wp2
  go_loopw [8] (fun i wr => ∃ k : Nat, k ≤ n ∧ i = .int .i64 k ∧ (∀ k', k' < k → (dipB w0 (gDp l k')) = true) ∧ Below w.heap.size w wr)
    (fun i _ => n - (intOf i).toNat)
  case atStart => exact ⟨0, by omega, rfl, fun j hj => by omega, Below.refl _ _⟩
  case round =>
    obtain ⟨k, hk, rfl, hok, hbl⟩ := hrel
    by_cases hlt : k < n
    · have hAW := (hA.below hbl).up hbl.size
      obtain ⟨bi, oi, rfl, hbi, g0, g1⟩ := IsDps.at_ hAW hlt
      have hcr : wr.cell? ⟨pb, 0, none⟩ = some (.func (.func 81) #[.agg #[.slice Ar w0.rng.length cr, .int .i64 w0.room, .int .i64 w0.steps]] #[]) := (hbl.cell (p := ⟨pb, 0, none⟩) hp).trans hc
      have hpr : pb < wr.heap.size := by have := hbl.size; omega
      have HOK := Lib.hid hok
      clear hok
      cases ht : (dipB w0 (gDp l k))
      · have HT := Lib.hid ht
        have HF : Hid (firstOf (fun k => !(dipB w0 (gDp l k))) n = (k : Int)) := Lib.hid (firstOf_at hlt (fun j hj => by have := HOK.out j hj; simp only [this]; rfl) (by simp only [ht]; rfl))
        clear ht
        go_wp2_with fail
        refine (all1_dip w0 Ar cr hn0 n l rA rc hrl wr ((hr.below hbl).up hbl.size) (fun k hk => ((hi k hk).below hbl).up hbl.size) k pb hlt hpr hcr).mono ?_
        rintro e w2 ⟨rfl, hb2⟩
        rw [HT.out]
        go_wp2
        go_ret
        exact ⟨ret_int HF.out.symm, ex_trans hbl hb2⟩
      · have HT := Lib.hid ht
        clear ht
        go_wp2_with fail
        refine (all1_dip w0 Ar cr hn0 n l rA rc hrl wr ((hr.below hbl).up hbl.size) (fun k hk => ((hi k hk).below hbl).up hbl.size) k pb hlt hpr hcr).mono ?_
        rintro e w2 ⟨rfl, hb2⟩
        rw [HT.out]
        go_wp2
        go_roundw
        case rel => exact ⟨k + 1, by omega, by go_num, fun j hj => by rcases Nat.lt_succ_iff_lt_or_eq.1 hj with h | h; exact HOK.out j h; exact h ▸ HT.out, ex_trans hbl hb2⟩
        case measure => simp [intOf]; omega
    · obtain rfl : k = n := by omega
      have HF : Hid (firstOf (fun k => !(dipB w0 (gDp l k))) k = -1) := Lib.hid (firstOf_neg fun j hj => by have := hok j hj; simp only [this]; rfl)
      go_wp2
      go_ret
      exact ⟨ret_int HF.out.symm, hbl⟩

theorem contains_dip (w0 : Wo) (Ar : Option Addr) (cr : Nat) (hn0 : w0.rng.length ≤ 1000000) (n : Nat) (l : List Dp) (rA : Nat → Option Addr) (rc : Nat → Nat) (hrl : ∀ k, k < n → (gDp l k).ins.length ≤ 1000000) (A : Option Addr) (c : Nat) (w : World) (hr : SlAt w w.heap.size 2 Ar w0.rng.length (fR w0.rng)) (hi : ∀ k, k < n → SlAt w w.heap.size 1 (rA k) (gDp l k).ins.length (fI (gDp l k).ins)) (hA : SlAt w w.heap.size 2 A n (fDp l rA rc)) (hl : n ≤ 1000000) (pb : Nat) (hp : pb < w.heap.size) (hc : w.cell? ⟨pb, 0, none⟩ = some (.func (.func 81) #[.agg #[.slice Ar w0.rng.length cr, .int .i64 w0.room, .int .i64 w0.steps]] #[])) :
    Calls Try.prog 110 #[.slice A n c, .func (.func 111) #[] #[.pointer (some ⟨pb, 0, none⟩)]] w fun e w' => e = .returned (.bool (!allTo (fun k => (dipB w0 (gDp l k))) n)) ∧ Below w.heap.size w w' := by
  have HF : Hid (decide (0 ≤ firstOf (fun k => !(dipB w0 (gDp l k))) n) = !allTo (fun k => (dipB w0 (gDp l k))) n) := Lib.hid (by rw [firstOf_nonneg]; simp)
  go_enter Try.func110, Try.ntmps110
  go_wp2_with fail
  refine (index_dip w0 Ar cr hn0 n l rA rc hrl A c w hr hi hA hl pb hp hc).mono ?_
  rintro e w2 ⟨rfl, hb2⟩
  go_wp2
  go_ret
  exact ⟨ret_bool HF.out, hb2⟩

theorem all_dip (w0 : Wo) (Ar : Option Addr) (cr : Nat) (hn0 : w0.rng.length ≤ 1000000) (n : Nat) (l : List Dp) (rA : Nat → Option Addr) (rc : Nat → Nat) (hrl : ∀ k, k < n → (gDp l k).ins.length ≤ 1000000) (A : Option Addr) (c : Nat) (w : World) (hr : SlAt w w.heap.size 2 Ar w0.rng.length (fR w0.rng)) (hi : ∀ k, k < n → SlAt w w.heap.size 1 (rA k) (gDp l k).ins.length (fI (gDp l k).ins)) (hA : SlAt w w.heap.size 2 A n (fDp l rA rc)) (hl : n ≤ 1000000) :
    Calls Try.prog 80 #[.slice A n c, .func (.func 81) #[.agg #[.slice Ar w0.rng.length cr, .int .i64 w0.room, .int .i64 w0.steps]] #[]] w fun e w' => e = .returned (.bool (allTo (fun k => (dipB w0 (gDp l k))) n)) ∧ Below w.heap.size w w' := by
  have hb1 := ex_alloc (Below.refl w.heap.size w) (.cells #[.func (.func 81) #[.agg #[.slice Ar w0.rng.length cr, .int .i64 w0.room, .int .i64 w0.steps]] #[]] 142)
  have hA1 := (hA.below hb1).up hb1.size
  go_enter Try.func80, Try.ntmps80
  go_wp2_with fail
  refine (contains_dip w0 Ar cr hn0 n l rA rc hrl A c _ ((hr.below hb1).up hb1.size) (fun k hk => ((hi k hk).below hb1).up hb1.size) hA1 hl w.heap.size (by simp) (by simp [go_sem])).mono ?_
  rintro e w2 ⟨rfl, hb2⟩
  go_wp2
  go_ret
  exact ⟨by simp, ex_trans hb1 hb2⟩
set_option maxRecDepth 100000 in
set_option maxHeartbeats 3200000 in
theorem ckWorks_any (w0 : Wo) (Ar : Option Addr) (cr : Nat) (w : World) (hr : SlAt w w.heap.size 2 Ar w0.rng.length (fR w0.rng)) (hn : w0.rng.length ≤ 1000000) :
    Calls Try.prog 58 #[.agg #[.slice Ar w0.rng.length cr, .int .i64 w0.room, .int .i64 w0.steps]] w fun e w' => e = .returned (.int .i64 (ckWo w0)) ∧ Below w.heap.size w w' := by
  have hb1 := ex_alloc (Below.refl w.heap.size w) (.cells #[.slice Ar w0.rng.length cr, .int .i64 w0.room, .int .i64 w0.steps] 65)
  have q1 : Blk (w.alloc (.cells #[.slice Ar w0.rng.length cr, .int .i64 w0.room, .int .i64 w0.steps] 65)) w.heap.size 65 #[.slice Ar w0.rng.length cr, .int .i64 w0.room, .int .i64 w0.steps] := Blk.new _ _ _
  by_cases h1 : 6 < w0.rng.length
  · have HR : Hid (ckWo w0 = 3) := Lib.hid (by unfold ckWo; rw [if_pos h1])
    have d1 : decide ((6 : Int) < (w0.rng.length : Int)) = true := decide_eq_true (by omega)
    go_enter Try.func58, Try.ntmps58
    go_wp2
    go_ret
    exact ⟨ret_int HR.out.symm, hb1⟩
  have d1 : decide ((6 : Int) < (w0.rng.length : Int)) = false := decide_eq_false (by omega)
  by_cases h3 : w0.rng.length = 0
  · have HR : Hid (ckWo w0 = 1) := Lib.hid (by unfold ckWo; rw [if_neg h1, if_pos (.inl h3)])
    have c1 : (w0.rng.length == 0) = true := by simp [h3]
    have c2 : ((w0.rng.length : Int) == 0) = true := by simp [h3]
    clear h3
    go_enter Try.func58, Try.ntmps58
    go_wp2
    go_ret
    exact ⟨ret_int HR.out.symm, hb1⟩
  have c1 : (w0.rng.length == 0) = false := by simp [h3]
  have c2 : ((w0.rng.length : Int) == 0) = false := by rw [beq_eq_false_iff_ne]; omega
  have H1 := Lib.hid h1
  have H3 := Lib.hid h3
  cases h4 : heatsB w0.rng
  · have HR : Hid (ckWo w0 = 1) := Lib.hid (by unfold ckWo; rw [if_neg h1, if_pos (.inr (.inl h4))])
    have H4 : Hid (allTo (fun k => (spanB (gR w0.rng k) 0 1000)) w0.rng.length = false) := Lib.hid h4
    clear h4
    go_enter Try.func58, Try.ntmps58
    go_wp2_with fail
    refine (all_heat w0.rng.length w0.rng Ar cr _ ((hr.below hb1).up hb1.size) (by omega)).mono ?_
    rintro e w2 ⟨rfl, hb2⟩
    rw [H4.out]
    go_wp2
    go_ret
    exact ⟨ret_int HR.out.symm, ex_trans hb1 hb2⟩
  have H4 : Hid (allTo (fun k => (spanB (gR w0.rng k) 0 1000)) w0.rng.length = true) := Lib.hid h4
  have HO := Lib.hid h4
  clear h4
  cases h5 : inB w0.room 2 6
  · have HR : Hid (ckWo w0 = 1) := Lib.hid (by
      unfold ckWo
      rw [if_neg h1, if_pos (.inr (.inr (.inl (fun k => by rw [inB_iff.2 k] at h5; cases h5))))])
    have H5 := Lib.hid h5
    clear h5
    go_enter Try.func58, Try.ntmps58
    go_wp2_with fail
    refine (all_heat w0.rng.length w0.rng Ar cr _ ((hr.below hb1).up hb1.size) (by omega)).mono ?_
    rintro e w2 ⟨rfl, hb2⟩
    rw [H4.out]
    have p1 := q1.below hb2 q1.lt
    have a1 : w2.cell? ⟨w.heap.size, 1, none⟩ = some (.int .i64 w0.room) := p1.cell 1
    have l1 := p1.lt
    go_wp2_with fail
    refine (within_any _ _ _ _).mono ?_
    rintro e w3 ⟨rfl, rfl⟩
    rw [H5.out]
    go_wp2
    go_ret
    exact ⟨ret_int HR.out.symm, ex_trans hb1 hb2⟩
  have H5 := Lib.hid h5
  have HE := Lib.hid (inB_iff.1 h5)
  clear h5
  obtain ⟨r, hr6⟩ : ∃ r, inB w0.steps 1 4 = r := ⟨_, rfl⟩
  have HB := Lib.hid hr6
  have HR : Hid (ckWo w0 = if r then 0 else 1) := Lib.hid (by
    unfold ckWo
    rw [if_neg h1]
    cases r
    · rw [if_pos (.inr (.inr (.inr (fun k => by rw [inB_iff.2 k] at hr6; cases hr6))))]; rfl
    · rw [if_neg]
      · rfl
      · rintro (k | k | k | k)
        · exact h3 k
        · rw [HO.out] at k; cases k
        · exact k HE.out
        · exact k (inB_iff.1 hr6))
  clear hr6
  go_enter Try.func58, Try.ntmps58
  go_wp2_with fail
  refine (all_heat w0.rng.length w0.rng Ar cr _ ((hr.below hb1).up hb1.size) (by omega)).mono ?_
  rintro e w2 ⟨rfl, hb2⟩
  rw [H4.out]
  have p1 := q1.below hb2 q1.lt
  have a1 : w2.cell? ⟨w.heap.size, 1, none⟩ = some (.int .i64 w0.room) := p1.cell 1
  have a2 : w2.cell? ⟨w.heap.size, 2, none⟩ = some (.int .i64 w0.steps) := p1.cell 2
  have l1 := p1.lt
  go_wp2_with fail
  refine (within_any _ _ _ _).mono ?_
  rintro e w3 ⟨rfl, rfl⟩
  rw [H5.out]
  go_wp2_with fail
  refine (within_any _ _ _ _).mono ?_
  rintro e w3 ⟨rfl, rfl⟩
  rw [HB.out]
  cases r
  · go_wp2
    go_ret
    exact ⟨ret_int HR.out.symm, ex_trans hb1 hb2⟩
  · go_wp2
    go_ret
    exact ⟨ret_int HR.out.symm, ex_trans hb1 hb2⟩
end Go.Proofs.Ytnplefhigbkbbaa
end

section
namespace Go.Proofs.Ytnplefhigbkbbaa

def c1 (x v : Int) : Int := if 0 ≤ x ∧ x ≤ v then 1 else 0
/-- how many are known by at most so many steps. -/
def cnt (s : S6) (v : Int) : Int := c1 s.a v + c1 s.b v + c1 s.c v + c1 s.d v + c1 s.e v + c1 s.f v
theorem c1_bd {x v : Int} : 0 ≤ c1 x v ∧ c1 x v ≤ 1 := by unfold c1; split <;> omega
theorem c1_mono {x v u : Int} (h : v ≤ u) : c1 x v ≤ c1 x u := by unfold c1; split <;> split <;> omega
theorem cnt_mono {s : S6} {v u : Int} (h : v ≤ u) : cnt s v ≤ cnt s u := by
  have h1 := c1_mono (x := s.a) h
  have h2 := c1_mono (x := s.b) h
  have h3 := c1_mono (x := s.c) h
  have h4 := c1_mono (x := s.d) h
  have h5 := c1_mono (x := s.e) h
  have h6 := c1_mono (x := s.f) h
  unfold cnt
  omega
theorem cnt_le {s : S6} {v : Int} : cnt s v ≤ 6 := by
  have h1 := c1_bd (x := s.a) (v := v)
  have h2 := c1_bd (x := s.b) (v := v)
  have h3 := c1_bd (x := s.c) (v := v)
  have h4 := c1_bd (x := s.d) (v := v)
  have h5 := c1_bd (x := s.e) (v := v)
  have h6 := c1_bd (x := s.f) (v := v)
  unfold cnt
  omega
theorem cnt_set {s : S6} {i : Nat} {x v : Int} (hi : i < 6) : cnt (s.set i x) v = cnt s v - c1 (s.get i) v + c1 x v := by
  rcases six hi with rfl | rfl | rfl | rfl | rfl | rfl <;> simp only [cnt, S6.set, S6.get] <;> omega
/-- who is known by v steps stands behind some that are known by fewer. -/
structure Cnt (s : S6) : Prop where
  lo : ∀ i, i < 6 → -1 ≤ s.get i
  cnt : ∀ v : Int, 0 ≤ v → (∃ i, i < 6 ∧ v ≤ s.get i) → v + 1 ≤ cnt s v
  std : s.get 0 = 0
theorem Cnt.hi {s : S6} (h : Cnt s) {i : Nat} (hi : i < 6) : s.get i ≤ 5 := by
  rcases Int.lt_or_le 5 (s.get i) with h1 | h1
  · have h2 := h.cnt 6 (by omega) ⟨i, hi, by omega⟩
    have h3 := cnt_le (s := s) (v := 6)
    omega
  · exact h1
theorem Cnt.bd {s : S6} (h : Cnt s) : Bd6 5 s := fun i hi => ⟨h.lo i hi, h.hi hi⟩
theorem begun_get {i : Nat} (h : i < 6) : begun6.get i = if i = 0 then 0 else -1 := by
  rcases six h with rfl | rfl | rfl | rfl | rfl | rfl <;> rfl
theorem Cnt.begun : Cnt begun6 where
  lo := fun i hi => by rw [begun_get hi]; split <;> omega
  cnt := fun v hv ⟨i, hi, h⟩ => by
    rw [begun_get hi] at h
    have h0 : v = 0 := by split at h <;> omega
    subst h0
    decide
  std := rfl

section
variable {s : S6} {d : List Int}
/-- the first is known by none, or by the least of them. -/
theorem fstTo_spec (hlo : ∀ i, i < 6 → -1 ≤ s.get i) (hd : In6 d) : ∀ {k : Nat}, k ≤ d.length → (fstTo s d k = -1 ∧ ∀ j, j < k → s.get (gI d j).toNat = -1) ∨
    (0 ≤ fstTo s d k ∧ (∃ j, j < k ∧ s.get (gI d j).toNat = fstTo s d k) ∧ ∀ j, j < k → s.get (gI d j).toNat = -1 ∨ fstTo s d k ≤ s.get (gI d j).toNat)
  | 0, _ => .inl ⟨rfl, fun j h => by omega⟩
  | k + 1, hk => by
    have h0 := hd k (by omega)
    have h1 := hlo (gI d k).toNat (by omega)
    rw [fstTo]
    rcases fstTo_spec hlo hd (k := k) (by omega) with ⟨e, h⟩ | ⟨e, ⟨j0, hj0, e0⟩, h⟩
    · by_cases hk1 : s.get (gI d k).toNat = -1
      · rw [if_neg (by omega)]
        exact .inl ⟨e, fun j hj => by
          rcases Nat.lt_succ_iff_lt_or_eq.1 hj with h2 | h2
          · exact h j h2
          · rw [h2]; exact hk1⟩
      · rw [if_pos ⟨hk1, .inl e⟩]
        exact .inr ⟨by omega, ⟨k, by omega, rfl⟩, fun j hj => by
          rcases Nat.lt_succ_iff_lt_or_eq.1 hj with h2 | h2
          · exact .inl (h j h2)
          · rw [h2]; exact .inr (Int.le_refl _)⟩
    · by_cases hc : s.get (gI d k).toNat ≠ -1 ∧ (fstTo s d k = -1 ∨ s.get (gI d k).toNat < fstTo s d k)
      · rw [if_pos hc]
        exact .inr ⟨by omega, ⟨k, by omega, rfl⟩, fun j hj => by
          rcases Nat.lt_succ_iff_lt_or_eq.1 hj with h2 | h2
          · rcases h j h2 with h3 | h3
            · exact .inl h3
            · exact .inr (by omega)
          · rw [h2]; exact .inr (Int.le_refl _)⟩
      · rw [if_neg hc]
        exact .inr ⟨e, ⟨j0, by omega, e0⟩, fun j hj => by
          rcases Nat.lt_succ_iff_lt_or_eq.1 hj with h2 | h2
          · exact h j h2
          · rw [h2]
            by_cases hk1 : s.get (gI d k).toNat = -1
            · exact .inl hk1
            · right
              rcases Int.lt_or_le (s.get (gI d k).toNat) (fstTo s d k) with h3 | h3
              · exact absurd ⟨hk1, .inr h3⟩ hc
              · exact h3⟩
/-- no number grows; who was known stays known; those that have been gone through are known by at most one step more. -/
theorem nrTo_spec {f : Int} (hlo : ∀ i, i < 6 → -1 ≤ s.get i) (hd : In6 d) (hf : f = -1 ∨ 0 ≤ f) : ∀ {k : Nat}, k ≤ d.length →
    (∀ i, i < 6 → (nrTo s d f k).get i = s.get i ∨ (f ≠ -1 ∧ (nrTo s d f k).get i = f + 1 ∧ (s.get i = -1 ∨ f + 1 < s.get i) ∧ ∃ j, j < k ∧ (gI d j).toNat = i)) ∧
    (f ≠ -1 → ∀ j, j < k → 0 ≤ (nrTo s d f k).get (gI d j).toNat ∧ (nrTo s d f k).get (gI d j).toNat ≤ f + 1)
  | 0, _ => ⟨fun i hi => .inl rfl, fun _ j h => by omega⟩
  | k + 1, hk => by
    have h0 := hd k (by omega)
    obtain ⟨h1, h2⟩ := nrTo_spec hlo hd hf (k := k) (by omega)
    have hn : (gI d k).toNat < 6 := by omega
    have h3 := hlo _ hn
    rw [nrTo]
    split
    · rename_i hc
      refine ⟨fun i hi => ?_, fun _ j hj => ?_⟩
      · rw [S6.get_set hn hi]
        by_cases e : i = (gI d k).toNat
        · rw [if_pos e]
          refine .inr ⟨hc.1, rfl, ?_, k, by omega, e.symm⟩
          rw [e]
          rcases h1 _ hn with h4 | ⟨_, h4, _⟩
          · have := hc.2; rw [h4] at this; omega
          · have := hc.2; rw [h4] at this; omega
        · rw [if_neg e]
          rcases h1 i hi with h4 | ⟨h4, h5, h6, j, hj, h7⟩
          · exact .inl h4
          · exact .inr ⟨h4, h5, h6, j, by omega, h7⟩
      · have hj6 : (gI d j).toNat < 6 := by have := hd j (by omega); omega
        rw [S6.get_set hn hj6]
        split
        · omega
        · rename_i e
          rcases Nat.lt_succ_iff_lt_or_eq.1 hj with h4 | h4
          · exact h2 hc.1 j h4
          · exact absurd (by rw [h4]) e
    · rename_i hc
      refine ⟨fun i hi => ?_, fun hf1 j hj => ?_⟩
      · rcases h1 i hi with h4 | ⟨h4, h5, h6, j, hj, h7⟩
        · exact .inl h4
        · exact .inr ⟨h4, h5, h6, j, by omega, h7⟩
      · rcases Nat.lt_succ_iff_lt_or_eq.1 hj with h4 | h4
        · exact h2 hf1 j h4
        · rw [h4]
          have h5 : ¬ ((nrTo s d f k).get (gI d k).toNat = -1 ∨ (nrTo s d f k).get (gI d k).toNat > f + 1) := fun h => hc ⟨hf1, h⟩
          have h6 : -1 ≤ (nrTo s d f k).get (gI d k).toNat := by
            rcases h1 _ hn with h | ⟨_, h, _⟩ <;> rw [h] <;> omega
          omega
theorem nrTo_cnt {f : Int} (h : Cnt s) (hd : In6 d) (hf : f = -1 ∨ (0 ≤ f ∧ ∃ i, i < 6 ∧ f ≤ s.get i)) : ∀ {k : Nat}, k ≤ d.length → Cnt (nrTo s d f k) ∧ (f ≠ -1 → ∀ v, 0 ≤ v → v ≤ f → v + 1 ≤ cnt (nrTo s d f k) v)
  | 0, _ => ⟨h, fun hf1 v hv hvf => by
      rcases hf with hf | ⟨_, i, hi, hf⟩
      · exact absurd hf hf1
      · exact h.cnt v hv ⟨i, hi, by omega⟩⟩
  | k + 1, hk => by
    have h0 := hd k (by omega)
    obtain ⟨h1, h2⟩ := nrTo_cnt h hd hf (k := k) (by omega)
    have hn : (gI d k).toNat < 6 := by omega
    rw [nrTo]
    split
    · rename_i hc
      have hf0 : 0 ≤ f := by
        rcases hf with hf | ⟨hf, _⟩
        · exact absurd hf hc.1
        · exact hf
      have hset : ∀ v, cnt ((nrTo s d f k).set (gI d k).toNat (f + 1)) v = cnt (nrTo s d f k) v - c1 ((nrTo s d f k).get (gI d k).toNat) v + c1 (f + 1) v := fun v => cnt_set hn
      have hge : ∀ v, cnt (nrTo s d f k) v ≤ cnt ((nrTo s d f k).set (gI d k).toNat (f + 1)) v := fun v => by
        rw [hset]
        have : c1 ((nrTo s d f k).get (gI d k).toNat) v ≤ c1 (f + 1) v := by
          have := hc.2
          unfold c1
          split <;> split <;> omega
        omega
      have hlow : ∀ v, 0 ≤ v → v ≤ f → v + 1 ≤ cnt ((nrTo s d f k).set (gI d k).toNat (f + 1)) v := fun v h3 h4 => Int.le_trans (h2 hc.1 v h3 h4) (hge v)
      refine ⟨⟨fun i hi => ?_, fun v hv ⟨i, hi, h3⟩ => ?_, ?_⟩, fun _ => hlow⟩
      · rw [S6.get_set hn hi]
        split
        · omega
        · exact h1.lo i hi
      · rcases Int.lt_or_le f v with h4 | h4
        · by_cases h5 : v = f + 1
          · subst h5
            rw [hset]
            have h6 : c1 ((nrTo s d f k).get (gI d k).toNat) (f + 1) = 0 := by
              have := hc.2
              unfold c1
              rw [if_neg (by omega)]
            have h7 : c1 (f + 1) (f + 1) = 1 := by unfold c1; rw [if_pos (by omega)]
            have h8 := h2 hc.1 f hf0 (Int.le_refl _)
            have h9 := cnt_mono (s := nrTo s d f k) (v := f) (u := f + 1) (by omega)
            omega
          · rw [S6.get_set hn hi] at h3
            split at h3
            · omega
            · exact Int.le_trans (h1.cnt v hv ⟨i, hi, h3⟩) (hge v)
        · exact hlow v hv h4
      · rw [S6.get_set hn (by omega)]
        have h5 := h1.std
        by_cases e : 0 = (gI d k).toNat
        · have := hc.2
          rw [← e, h5] at this
          omega
        · rw [if_neg e]; exact h5
    · exact ⟨h1, h2⟩
theorem Cnt.nearer (h : Cnt s) (hd : In6 d) : Cnt (nearer s d) := by
  refine (nrTo_cnt h hd ?_ (Nat.le_refl _)).1
  rcases fstTo_spec h.lo hd (Nat.le_refl d.length) with ⟨e, _⟩ | ⟨e, ⟨j, hj, e2⟩, _⟩
  · exact .inl e
  · exact .inr ⟨e, (gI d j).toNat, by have := hd j hj; omega, by omega⟩
/-- what a dip tells: either nothing of it was known, or all of it is known by at most a step more than the first. -/
theorem nearer_spec (h : Cnt s) (hd : In6 d) :
    (∀ i, i < 6 → (nearer s d).get i = s.get i ∨ ((∃ j m, j < d.length ∧ m < d.length ∧ (gI d j).toNat = i ∧ 0 ≤ s.get (gI d m).toNat ∧ (nearer s d).get i = s.get (gI d m).toNat + 1) ∧ (s.get i = -1 ∨ (nearer s d).get i < s.get i))) ∧
    (∀ j m, j < d.length → m < d.length → s.get (gI d m).toNat ≠ -1 → 0 ≤ (nearer s d).get (gI d j).toNat ∧ (nearer s d).get (gI d j).toNat ≤ s.get (gI d m).toNat + 1) := by
  unfold nearer
  rcases fstTo_spec h.lo hd (Nat.le_refl d.length) with ⟨e, h1⟩ | ⟨e, ⟨j0, hj0, e2⟩, h1⟩
  · obtain ⟨g1, g2⟩ := nrTo_spec (f := fstTo s d d.length) h.lo hd (.inl e) (Nat.le_refl d.length)
    refine ⟨fun i hi => ?_, fun j m hj hm hne => absurd (h1 m hm) hne⟩
    rcases g1 i hi with h2 | ⟨h2, _⟩
    · exact .inl h2
    · exact absurd e h2
  · obtain ⟨g1, g2⟩ := nrTo_spec (f := fstTo s d d.length) h.lo hd (.inr e) (Nat.le_refl d.length)
    refine ⟨fun i hi => ?_, fun j m hj hm hne => ?_⟩
    · rcases g1 i hi with h2 | ⟨h2, h3, h4, j, hj, h5⟩
      · exact .inl h2
      · exact .inr ⟨⟨j, j0, hj, hj0, h5, by omega, by rw [h3, e2]⟩, by rw [h3]; exact h4⟩
    · have h2 := g2 (by omega) j hj
      rcases h1 m hm with h3 | h3
      · exact absurd h3 hne
      · omega

def pv (x : Int) : Nat := if x = -1 then 6 else x.toNat
/-- how much is left to be told. -/
def pot (s : S6) : Nat := pv s.a + pv s.b + pv s.c + pv s.d + pv s.e + pv s.f
theorem pot_lt {t : S6} (hs : Bd6 5 s) (ht : Bd6 5 t) (h : ∀ i, i < 6 → t.get i = s.get i ∨ (0 ≤ t.get i ∧ (s.get i = -1 ∨ t.get i < s.get i))) : t = s ∨ pot t < pot s := by
  have hp : ∀ i, i < 6 → t.get i = s.get i ∨ pv (t.get i) < pv (s.get i) := fun i hi => by
    rcases h i hi with e | ⟨h1, h2⟩
    · exact .inl e
    · right
      have h3 := ht i hi
      have h4 := hs i hi
      unfold pv
      split <;> split <;> omega
  by_cases e : t = s
  · exact .inl e
  · right
    have h0 := hp 0 (by omega)
    have h1 := hp 1 (by omega)
    have h2 := hp 2 (by omega)
    have h3 := hp 3 (by omega)
    have h4 := hp 4 (by omega)
    have h5 := hp 5 (by omega)
    simp only [S6.get] at h0 h1 h2 h3 h4 h5
    have hn : ¬ (t.a = s.a ∧ t.b = s.b ∧ t.c = s.c ∧ t.d = s.d ∧ t.e = s.e ∧ t.f = s.f) := fun ⟨e1, e2, e3, e4, e5, e6⟩ => e (by cases s; cases t; simp_all)
    have q : ∀ {x y : Int}, (x = y ∨ pv x < pv y) → pv x ≤ pv y := fun {x y} h => by
      rcases h with h | h
      · rw [h]; exact Nat.le_refl _
      · omega
    have q0 := q h0
    have q1 := q h1
    have q2 := q h2
    have q3 := q h3
    have q4 := q h4
    have q5 := q h5
    unfold pot
    by_cases e0 : t.a = s.a
    · by_cases e1 : t.b = s.b
      · by_cases e2 : t.c = s.c
        · by_cases e3 : t.d = s.d
          · by_cases e4 : t.e = s.e
            · by_cases e5 : t.f = s.f
              · exact absurd ⟨e0, e1, e2, e3, e4, e5⟩ hn
              · have := h5.resolve_left e5; omega
            · have := h4.resolve_left e4; omega
          · have := h3.resolve_left e3; omega
        · have := h2.resolve_left e2; omega
      · have := h1.resolve_left e1; omega
    · have := h0.resolve_left e0; omega
theorem nearer_pot (h : Cnt s) (hd : In6 d) : nearer s d = s ∨ pot (nearer s d) < pot s :=
  pot_lt h.bd (h.nearer hd).bd fun i hi => by
    rcases (nearer_spec h hd).1 i hi with e | ⟨⟨j, m, _, _, _, h1, e⟩, h2⟩
    · exact .inl e
    · exact .inr ⟨by omega, h2⟩
end

/-- all dips of a plan, one after the other. -/
def rndTo (s : S6) (p : List Dp) : Nat → S6
  | 0 => s
  | k + 1 => nearer (rndTo s p k) (gDp p k).ins
def In6P (p : List Dp) : Prop := ∀ k, k < p.length → In6 (gDp p k).ins
theorem rndTo_cnt {s : S6} {p : List Dp} (h : Cnt s) (hp : In6P p) : ∀ {k : Nat}, k ≤ p.length → Cnt (rndTo s p k)
  | 0, _ => h
  | k + 1, hk => (rndTo_cnt h hp (k := k) (by omega)).nearer (hp k (by omega))
theorem rndTo_pot {s : S6} {p : List Dp} (h : Cnt s) (hp : In6P p) : ∀ {k : Nat}, k ≤ p.length → (rndTo s p k = s ∧ ∀ j, j < k → nearer s (gDp p j).ins = s) ∨ pot (rndTo s p k) < pot s
  | 0, _ => .inl ⟨rfl, fun j h => by omega⟩
  | k + 1, hk => by
    have h1 := nearer_pot (rndTo_cnt h hp (k := k) (by omega)) (hp k (by omega))
    rcases rndTo_pot h hp (k := k) (by omega) with ⟨e, h2⟩ | h2
    · rw [rndTo]
      rw [e] at h1 ⊢
      rcases h1 with h3 | h3
      · exact .inl ⟨h3, fun j hj => by
          rcases Nat.lt_succ_iff_lt_or_eq.1 hj with h4 | h4
          · exact h2 j h4
          · rw [h4]; exact h3⟩
      · exact .inr h3
    · rw [rndTo]
      rcases h1 with h3 | h3
      · rw [h3]; exact .inr h2
      · exact .inr (Nat.lt_trans h3 h2)

/-- an instrument can be known by so many steps. -/
inductive Dst (p : List Dp) : Nat → Nat → Prop where
  | std : Dst p 0 0
  | step {m v k i j : Nat} : Dst p m v → k < p.length → i < (gDp p k).ins.length → j < (gDp p k).ins.length → (gI (gDp p k).ins i).toNat = m → Dst p (gI (gDp p k).ins j).toNat (v + 1)
/-- the least number of steps by which each is known; -1: by none. -/
def KnownIs (p : List Dp) (s : S6) : Prop := ∀ i, i < 6 → (s.get i = -1 ∧ ∀ v, ¬ Dst p i v) ∨ (0 ≤ s.get i ∧ Dst p i (s.get i).toNat ∧ ∀ v, Dst p i v → s.get i ≤ (v : Int))
theorem KnownIs.uniq {p : List Dp} {s t : S6} (h : KnownIs p s) (k : KnownIs p t) : s = t := S6.ext' fun i hi => by
  rcases h i hi with ⟨e, h1⟩ | ⟨e, h1, h2⟩
  · rcases k i hi with ⟨e', k1⟩ | ⟨e', k1, k2⟩
    · rw [e, e']
    · exact absurd k1 (h1 _)
  · rcases k i hi with ⟨e', k1⟩ | ⟨e', k1, k2⟩
    · exact absurd h1 (k1 _)
    · have a := h2 _ k1
      have b := k2 _ h1
      omega
/-- all that is known is so by the plan. -/
def Sound (p : List Dp) (s : S6) : Prop := ∀ i, i < 6 → s.get i = -1 ∨ (0 ≤ s.get i ∧ Dst p i (s.get i).toNat)
theorem Sound.begun (p : List Dp) : Sound p begun6 := fun i hi => by
  rw [begun_get hi]
  split
  · rename_i e; subst e; exact .inr ⟨by omega, .std⟩
  · exact .inl rfl
theorem Sound.nearer {p : List Dp} {s : S6} {k : Nat} (h : Sound p s) (hc : Cnt s) (hk : k < p.length) (hd : In6 (gDp p k).ins) : Sound p (nearer s (gDp p k).ins) := fun i hi => by
  rcases (nearer_spec hc hd).1 i hi with e | ⟨⟨j, m, hj, hm, e1, h1, e2⟩, _⟩
  · rw [e]; exact h i hi
  · have hm6 : (gI (gDp p k).ins m).toNat < 6 := by have := hd m hm; omega
    rcases h _ hm6 with h2 | ⟨_, h2⟩
    · omega
    · refine .inr ⟨by omega, ?_⟩
      rw [e2]
      have h3 := Dst.step h2 hk hm hj rfl
      rw [e1] at h3
      rw [show (s.get (gI (gDp p k).ins m).toNat + 1).toNat = (s.get (gI (gDp p k).ins m).toNat).toNat + 1 by omega]
      exact h3
theorem Sound.rnd {p : List Dp} {s : S6} (h : Sound p s) (hc : Cnt s) (hp : In6P p) : ∀ {k : Nat}, k ≤ p.length → Sound p (rndTo s p k)
  | 0, _ => h
  | k + 1, hk => (Sound.rnd h hc hp (k := k) (by omega)).nearer (rndTo_cnt hc hp (by omega)) (by omega) (hp k (by omega))
/-- where nothing is nearer, all is known. -/
theorem fix_le {p : List Dp} {s : S6} (hc : Cnt s) (hp : In6P p) (hfix : ∀ k, k < p.length → nearer s (gDp p k).ins = s) {i v : Nat} (h : Dst p i v) : i < 6 ∧ 0 ≤ s.get i ∧ s.get i ≤ (v : Int) := by
  induction h with
  | std => exact ⟨by omega, by rw [hc.std]; omega, by rw [hc.std]; omega⟩
  | @step m v k i j _ hk hi hj e ih =>
    obtain ⟨h1, h2, h3⟩ := ih
    have h4 := (nearer_spec hc (hp k hk)).2 j i hj hi (by rw [e]; omega)
    rw [hfix k hk, e] at h4
    have h5 := hp k hk j hj
    exact ⟨by omega, h4.1, by omega⟩
theorem known_of {p : List Dp} {s : S6} (hc : Cnt s) (hp : In6P p) (hs : Sound p s) (hfix : ∀ k, k < p.length → nearer s (gDp p k).ins = s) : KnownIs p s := fun i hi => by
  rcases hs i hi with h | ⟨h1, h2⟩
  · refine .inl ⟨h, fun v hv => ?_⟩
    have := fix_le hc hp hfix hv
    omega
  · exact .inr ⟨h1, h2, fun v hv => (fix_le hc hp hfix hv).2.2⟩
end Go.Proofs.Ytnplefhigbkbbaa
end

/- Spill's laws: SpillBlames (walk). -/
import Derived.Test.YthihdiilokdidaaT14
import Derived.Test.YthihdiilokdidaaT13
import Derived.Test.YthihdiilokdidaaT11
set_option linter.unusedVariables false
set_option linter.unusedSimpArgs false
set_option linter.unusedSectionVars false
section
namespace Go.Proofs.Ythihdiilokdidaa
open Go.RowKit
attribute [local go_sem] Ex.cell? Ex.frozen?

def bN (k : Nat) : Bool := decide (k ≠ 0)
theorem fw_ck {s : Ws} (h : ckWs s ≠ 0) : fwE s = ckWs s ∧ fwL s = [] ∧ bmE s = ckWs s ∧ bmV s = 0 := by
  have h1 : fwE s = ckWs s := by unfold fwE; rw [if_neg h]
  have h2 : bmE s = ckWs s := by unfold bmE; rw [if_neg h]
  refine ⟨h1, ?_, h2, ?_⟩
  · unfold fwL; rw [h1, if_neg h]
  · unfold bmV; rw [h2, if_neg h]
theorem ints_self (l : List Int) : (decide (l.length = l.length) && allTo (fun i => decide (gI l i = gI l i)) l.length) = true := by
  rw [Bool.and_eq_true, allTo_iff]
  exact ⟨decide_eq_true rfl, fun k _ => decide_eq_true rfl⟩
theorem pow_four {n : Nat} (hn : n ≤ 4) : 1 ≤ 2 ^ n ∧ 2 ^ n ≤ 16 := by
  have h1 : 2 ^ n ≤ 2 ^ 4 := Nat.pow_le_pow_right (by omega) hn
  have h2 : 1 ≤ 2 ^ n := Nat.one_le_two_pow
  have h3 : (2 : Nat) ^ 4 = 16 := rfl
  omega
set_option maxRecDepth 100000 in
set_option maxHeartbeats 6400000 in
theorem BlamesLaw_any (s : Ws) (Ar Am Aw : Option Addr) (cr cm cw : Nat) (w : World) (hs : WsIn w w.heap.size s Ar Am Aw) :
    Calls Try.prog 9 #[.agg #[.slice Ar s.rooms.length cr, .int .i64 s.days, .slice Am s.moves.length cm, .slice Aw s.wgs.length cw]] w fun e w' => e = .returned (.bool true) ∧ Below w.heap.size w w' := by
  have hb1 := ex_alloc (Below.refl w.heap.size w) (.cells #[.slice Ar s.rooms.length cr, .int .i64 s.days, .slice Am s.moves.length cm, .slice Aw s.wgs.length cw] 26)
  have q0 : Blk (w.alloc (.cells #[.slice Ar s.rooms.length cr, .int .i64 s.days, .slice Am s.moves.length cm, .slice Aw s.wgs.length cw] 26)) (w.heap.size) 26 #[.slice Ar s.rooms.length cr, .int .i64 s.days, .slice Am s.moves.length cm, .slice Aw s.wgs.length cw] := Blk.new _ _ _
  replace hs := hs.go hb1
  skip
  go_enter Try.func9, Try.ntmps9
  go_upto_region 1 with fail
  show Code.wp _ _ _ _ (w.alloc (.cells #[.slice Ar s.rooms.length cr, .int .i64 s.days, .slice Am s.moves.length cm, .slice Aw s.wgs.length cw] 26))
  obtain ⟨pq0, hpq0⟩ : ∃ p, w.heap.size = p := ⟨_, rfl⟩
  rw [hpq0] at q0 ⊢
  clear hpq0
  generalize w.alloc (.cells #[.slice Ar s.rooms.length cr, .int .i64 s.days, .slice Am s.moves.length cm, .slice Aw s.wgs.length cw] 26) = V at *
  have a0 : V.cell? ⟨pq0, 0, none⟩ = some (.slice Ar s.rooms.length cr) := q0.cell 0
  have a1 : V.cell? ⟨pq0, 1, none⟩ = some (.int .i64 s.days) := q0.cell 1
  have a2 : V.cell? ⟨pq0, 2, none⟩ = some (.slice Am s.moves.length cm) := q0.cell 2
  have a3 : V.cell? ⟨pq0, 3, none⟩ = some (.slice Aw s.wgs.length cw) := q0.cell 3
  have la := q0.lt
  go_wp2_with fail
  refine (Thin_any s Ar Am Aw cr cm cw V hs ⟨[], [], []⟩ none none none 0 0 0 (fun _ => none) (fun _ => 0) ⟨fun h => absurd h (by simp), fun h => absurd h (by simp), fun k h => absurd h (by simp), fun h => absurd h (by simp)⟩).mono ?_
  rintro e V2 ⟨rfl, hV2⟩
  replace hs := hs.go hV2
  replace q0 := q0.below hV2 q0.lt
  have B_V2 := ex_trans hb1 hV2
  clear a0 a1 a2 a3 la
  have a0 : V2.cell? ⟨pq0, 0, none⟩ = some (.slice Ar s.rooms.length cr) := q0.cell 0
  have a1 : V2.cell? ⟨pq0, 1, none⟩ = some (.int .i64 s.days) := q0.cell 1
  have a2 : V2.cell? ⟨pq0, 2, none⟩ = some (.slice Am s.moves.length cm) := q0.cell 2
  have a3 : V2.cell? ⟨pq0, 3, none⟩ = some (.slice Aw s.wgs.length cw) := q0.cell 3
  have la := q0.lt
  cases hth : thinB s ⟨[], [], []⟩
  · clear hth
    go_wp2_with fail
    refine (awake_any V2).mono ?_
    rintro e Wz ⟨rfl, hz⟩
    go_wp2
    go_ret
    exact ⟨rfl, ex_trans B_V2 hz⟩
  have HTN := Lib.hid (thinB_iff.1 hth)
  clear hth
  have HSM : Hid (s.rooms.length ≤ 1000 ∧ s.moves.length ≤ 1000 ∧ s.wgs.length ≤ 1000) := Lib.hid ⟨by have := HTN.out.nr; omega, by have := HTN.out.nm; omega, by have := HTN.out.nw; omega⟩
  go_wp2_with fail
  refine (few_any s Ar Am Aw cr cm cw V2 hs).mono ?_
  rintro e V3 ⟨rfl, hV3⟩
  replace hs := hs.go hV3
  replace q0 := q0.below hV3 q0.lt
  have B_V3 := ex_trans B_V2 hV3
  clear a0 a1 a2 a3 la
  have a0 : V3.cell? ⟨pq0, 0, none⟩ = some (.slice Ar s.rooms.length cr) := q0.cell 0
  have a1 : V3.cell? ⟨pq0, 1, none⟩ = some (.int .i64 s.days) := q0.cell 1
  have a2 : V3.cell? ⟨pq0, 2, none⟩ = some (.slice Am s.moves.length cm) := q0.cell 2
  have a3 : V3.cell? ⟨pq0, 3, none⟩ = some (.slice Aw s.wgs.length cw) := q0.cell 3
  have la := q0.lt
  cases hfw : fewB s
  · clear hfw
    go_wp2_with fail
    refine (awake_any V3).mono ?_
    rintro e Wz ⟨rfl, hz⟩
    go_wp2
    go_ret
    exact ⟨rfl, ex_trans B_V3 hz⟩
  have HFW : Hid (ckWs s = 0 → wideTo (wdP s.wo) (placesP s.wo) ≤ 1500) := Lib.hid (truB_iff.1 hfw)
  clear hfw
  go_wp2_with fail
  refine (fault_any s Ar Am Aw cr cm cw V3 hs).mono ?_
  rintro e V4 ⟨rfl, hV4⟩
  replace hs := hs.go hV4
  replace q0 := q0.below hV4 q0.lt
  have B_V4 := ex_trans B_V3 hV4
  clear a0 a1 a2 a3 la
  have a0 : V4.cell? ⟨pq0, 0, none⟩ = some (.slice Ar s.rooms.length cr) := q0.cell 0
  have a1 : V4.cell? ⟨pq0, 1, none⟩ = some (.int .i64 s.days) := q0.cell 1
  have a2 : V4.cell? ⟨pq0, 2, none⟩ = some (.slice Am s.moves.length cm) := q0.cell 2
  have a3 : V4.cell? ⟨pq0, 3, none⟩ = some (.slice Aw s.wgs.length cw) := q0.cell 3
  have la := q0.lt
  by_cases hck : ckWs s = 0
  rotate_left
  · have HNE := Lib.hid hck
    have e9 : (ckWs s == 0) = false := by simp [hck]
    clear hck
    go_wp2_with fail
    refine (Works_any s Ar Am Aw cr cm cw V4 hs HSM.out).mono ?_
    rintro e V5 ⟨⟨⟨Ar1, Am1, Aw1, cr1, cm1, cw1, rfl, hw1⟩⟩, hV5⟩
    replace hs := hs.go hV5
    replace q0 := q0.below hV5 q0.lt
    have B_V5 := ex_trans B_V4 hV5
    clear a0 a1 a2 a3 la
    have a0 : V5.cell? ⟨pq0, 0, none⟩ = some (.slice Ar s.rooms.length cr) := q0.cell 0
    have a1 : V5.cell? ⟨pq0, 1, none⟩ = some (.int .i64 s.days) := q0.cell 1
    have a2 : V5.cell? ⟨pq0, 2, none⟩ = some (.slice Am s.moves.length cm) := q0.cell 2
    have a3 : V5.cell? ⟨pq0, 3, none⟩ = some (.slice Aw s.wgs.length cw) := q0.cell 3
    have la := q0.lt
    go_wp2_with fail
    refine (Fewest_any s Ar1 Am1 Aw1 cr1 cm1 cw1 V5 hw1).mono ?_
    rintro e V6 ⟨⟨Af, cf, rfl, slf⟩, hV6⟩
    replace hs := hs.go hV6
    replace q0 := q0.below hV6 q0.lt
    replace hw1 := hw1.go hV6
    have B_V6 := ex_trans B_V5 hV6
    clear hw1
    clear a0 a1 a2 a3 la
    have a0 : V6.cell? ⟨pq0, 0, none⟩ = some (.slice Ar s.rooms.length cr) := q0.cell 0
    have a1 : V6.cell? ⟨pq0, 1, none⟩ = some (.int .i64 s.days) := q0.cell 1
    have a2 : V6.cell? ⟨pq0, 2, none⟩ = some (.slice Am s.moves.length cm) := q0.cell 2
    have a3 : V6.cell? ⟨pq0, 3, none⟩ = some (.slice Aw s.wgs.length cw) := q0.cell 3
    have la := q0.lt
    go_wp2_with fail
    refine (Works_any s Ar Am Aw cr cm cw V6 hs HSM.out).mono ?_
    rintro e V7 ⟨⟨⟨Ar2, Am2, Aw2, cr2, cm2, cw2, rfl, hw2⟩⟩, hV7⟩
    replace hs := hs.go hV7
    replace q0 := q0.below hV7 q0.lt
    replace slf := (slf.below hV7).up hV7.size
    have B_V7 := ex_trans B_V6 hV7
    clear a0 a1 a2 a3 la
    have a0 : V7.cell? ⟨pq0, 0, none⟩ = some (.slice Ar s.rooms.length cr) := q0.cell 0
    have a1 : V7.cell? ⟨pq0, 1, none⟩ = some (.int .i64 s.days) := q0.cell 1
    have a2 : V7.cell? ⟨pq0, 2, none⟩ = some (.slice Am s.moves.length cm) := q0.cell 2
    have a3 : V7.cell? ⟨pq0, 3, none⟩ = some (.slice Aw s.wgs.length cw) := q0.cell 3
    have la := q0.lt
    go_wp2_with fail
    refine (Blame_any s Ar2 Am2 Aw2 cr2 cm2 cw2 V7 hw2).mono ?_
    rintro e V8 ⟨rfl, hV8⟩
    replace hs := hs.go hV8
    replace q0 := q0.below hV8 q0.lt
    replace slf := (slf.below hV8).up hV8.size
    replace hw2 := hw2.go hV8
    have B_V8 := ex_trans B_V7 hV8
    clear hw2
    clear a0 a1 a2 a3 la
    have a0 : V8.cell? ⟨pq0, 0, none⟩ = some (.slice Ar s.rooms.length cr) := q0.cell 0
    have a1 : V8.cell? ⟨pq0, 1, none⟩ = some (.int .i64 s.days) := q0.cell 1
    have a2 : V8.cell? ⟨pq0, 2, none⟩ = some (.slice Am s.moves.length cm) := q0.cell 2
    have a3 : V8.cell? ⟨pq0, 3, none⟩ = some (.slice Aw s.wgs.length cw) := q0.cell 3
    have la := q0.lt
    go_wp2_with fail
    refine (fault_any s Ar Am Aw cr cm cw V8 hs).mono ?_
    rintro e V9 ⟨rfl, hV9⟩
    replace hs := hs.go hV9
    replace q0 := q0.below hV9 q0.lt
    replace slf := (slf.below hV9).up hV9.size
    have B_V9 := ex_trans B_V8 hV9
    clear a0 a1 a2 a3 la
    have a0 : V9.cell? ⟨pq0, 0, none⟩ = some (.slice Ar s.rooms.length cr) := q0.cell 0
    have a1 : V9.cell? ⟨pq0, 1, none⟩ = some (.int .i64 s.days) := q0.cell 1
    have a2 : V9.cell? ⟨pq0, 2, none⟩ = some (.slice Am s.moves.length cm) := q0.cell 2
    have a3 : V9.cell? ⟨pq0, 3, none⟩ = some (.slice Aw s.wgs.length cw) := q0.cell 3
    have la := q0.lt
    clear e9
    obtain ⟨h1, h2, h3, h4⟩ := fw_ck HNE.out
    rw [h1, h2, h3, h4]
    have hck := HNE.out
    clear slf
    have e0 : (ckWs s == 0) = false := by simp [hck]
    have e1 : (ckWs s != 0) = true := by simp [hck]
    generalize ckWs s = cc at *
    clear hck h1 h2 h3 h4 HNE
    go_wp2_with fail
    refine (awake_any V9).mono ?_
    rintro e Wz ⟨rfl, hz⟩
    go_wp2
    go_ret
    exact ⟨rfl, ex_trans B_V9 hz⟩
  obtain ⟨hwo, hdd⟩ := ckWs_iff.1 hck
  have HWO := Lib.hid hwo
  have HDD := Lib.hid hdd
  have HCK := Lib.hid hck
  rw [hck]
  clear hck hwo hdd
  by_cases hw4 : 4 < s.wgs.length
  · have hw4' : (4 : Int) < (s.wgs.length : Int) := by omega
    go_wp2_with fail
    refine (awake_any V4).mono ?_
    rintro e Wz ⟨rfl, hz⟩
    go_wp2
    go_ret
    exact ⟨rfl, ex_trans B_V4 hz⟩
  have hw4' : ¬ (4 : Int) < (s.wgs.length : Int) := by omega
  go_wp2_with fail
  refine (Wide_ref s Ar Am Aw cr cm cw V4 hs HWO.out HDD.out).mono ?_
  rintro e V10 ⟨rfl, hV10⟩
  replace hs := hs.go hV10
  replace q0 := q0.below hV10 q0.lt
  have B_V10 := ex_trans B_V4 hV10
  clear a0 a1 a2 a3 la
  have a0 : V10.cell? ⟨pq0, 0, none⟩ = some (.slice Ar s.rooms.length cr) := q0.cell 0
  have a1 : V10.cell? ⟨pq0, 1, none⟩ = some (.int .i64 s.days) := q0.cell 1
  have a2 : V10.cell? ⟨pq0, 2, none⟩ = some (.slice Am s.moves.length cm) := q0.cell 2
  have a3 : V10.cell? ⟨pq0, 3, none⟩ = some (.slice Aw s.wgs.length cw) := q0.cell 3
  have la := q0.lt
  obtain ⟨N, hN⟩ : ∃ N, wideTo (wdP s.wo) (placesP s.wo) = N := ⟨_, rfl⟩
  rw [hN]
  clear hN
  by_cases hN4 : 400 < N
  · have hN4' : (400 : Int) < (N : Int) := by omega
    go_wp2_with fail
    refine (awake_any V10).mono ?_
    rintro e Wz ⟨rfl, hz⟩
    go_wp2
    go_ret
    exact ⟨rfl, ex_trans B_V10 hz⟩
  have hN4' : ¬ (400 : Int) < (N : Int) := by omega
  go_wp2_with fail
  refine (Works_any s Ar Am Aw cr cm cw V10 hs HSM.out).mono ?_
  rintro e V11 ⟨⟨⟨Ar1, Am1, Aw1, cr1, cm1, cw1, rfl, hw1⟩⟩, hV11⟩
  replace hs := hs.go hV11
  replace q0 := q0.below hV11 q0.lt
  have B_V11 := ex_trans B_V10 hV11
  clear a0 a1 a2 a3 la
  have a0 : V11.cell? ⟨pq0, 0, none⟩ = some (.slice Ar s.rooms.length cr) := q0.cell 0
  have a1 : V11.cell? ⟨pq0, 1, none⟩ = some (.int .i64 s.days) := q0.cell 1
  have a2 : V11.cell? ⟨pq0, 2, none⟩ = some (.slice Am s.moves.length cm) := q0.cell 2
  have a3 : V11.cell? ⟨pq0, 3, none⟩ = some (.slice Aw s.wgs.length cw) := q0.cell 3
  have la := q0.lt
  go_wp2_with fail
  refine (Fewest_any s Ar1 Am1 Aw1 cr1 cm1 cw1 V11 hw1).mono ?_
  rintro e V12 ⟨⟨Af, cf, rfl, slf⟩, hV12⟩
  replace hs := hs.go hV12
  replace q0 := q0.below hV12 q0.lt
  replace hw1 := hw1.go hV12
  have B_V12 := ex_trans B_V11 hV12
  clear hw1
  clear a0 a1 a2 a3 la
  have a0 : V12.cell? ⟨pq0, 0, none⟩ = some (.slice Ar s.rooms.length cr) := q0.cell 0
  have a1 : V12.cell? ⟨pq0, 1, none⟩ = some (.int .i64 s.days) := q0.cell 1
  have a2 : V12.cell? ⟨pq0, 2, none⟩ = some (.slice Am s.moves.length cm) := q0.cell 2
  have a3 : V12.cell? ⟨pq0, 3, none⟩ = some (.slice Aw s.wgs.length cw) := q0.cell 3
  have la := q0.lt
  go_wp2_with fail
  refine (Works_any s Ar Am Aw cr cm cw V12 hs HSM.out).mono ?_
  rintro e V13 ⟨⟨⟨Ar2, Am2, Aw2, cr2, cm2, cw2, rfl, hw2⟩⟩, hV13⟩
  replace hs := hs.go hV13
  replace q0 := q0.below hV13 q0.lt
  replace slf := (slf.below hV13).up hV13.size
  have B_V13 := ex_trans B_V12 hV13
  clear a0 a1 a2 a3 la
  have a0 : V13.cell? ⟨pq0, 0, none⟩ = some (.slice Ar s.rooms.length cr) := q0.cell 0
  have a1 : V13.cell? ⟨pq0, 1, none⟩ = some (.int .i64 s.days) := q0.cell 1
  have a2 : V13.cell? ⟨pq0, 2, none⟩ = some (.slice Am s.moves.length cm) := q0.cell 2
  have a3 : V13.cell? ⟨pq0, 3, none⟩ = some (.slice Aw s.wgs.length cw) := q0.cell 3
  have la := q0.lt
  go_wp2_with fail
  refine (Blame_any s Ar2 Am2 Aw2 cr2 cm2 cw2 V13 hw2).mono ?_
  rintro e V14 ⟨rfl, hV14⟩
  replace hs := hs.go hV14
  replace q0 := q0.below hV14 q0.lt
  replace slf := (slf.below hV14).up hV14.size
  replace hw2 := hw2.go hV14
  have B_V14 := ex_trans B_V13 hV14
  clear hw2
  clear a0 a1 a2 a3 la
  have a0 : V14.cell? ⟨pq0, 0, none⟩ = some (.slice Ar s.rooms.length cr) := q0.cell 0
  have a1 : V14.cell? ⟨pq0, 1, none⟩ = some (.int .i64 s.days) := q0.cell 1
  have a2 : V14.cell? ⟨pq0, 2, none⟩ = some (.slice Am s.moves.length cm) := q0.cell 2
  have a3 : V14.cell? ⟨pq0, 3, none⟩ = some (.slice Aw s.wgs.length cw) := q0.cell 3
  have la := q0.lt
  go_wp2_with fail
  refine (fault_any s Ar Am Aw cr cm cw V14 hs).mono ?_
  rintro e V15 ⟨rfl, hV15⟩
  replace hs := hs.go hV15
  replace q0 := q0.below hV15 q0.lt
  replace slf := (slf.below hV15).up hV15.size
  have B_V15 := ex_trans B_V14 hV15
  clear a0 a1 a2 a3 la
  have a0 : V15.cell? ⟨pq0, 0, none⟩ = some (.slice Ar s.rooms.length cr) := q0.cell 0
  have a1 : V15.cell? ⟨pq0, 1, none⟩ = some (.int .i64 s.days) := q0.cell 1
  have a2 : V15.cell? ⟨pq0, 2, none⟩ = some (.slice Am s.moves.length cm) := q0.cell 2
  have a3 : V15.cell? ⟨pq0, 3, none⟩ = some (.slice Aw s.wgs.length cw) := q0.cell 3
  have la := q0.lt
  rw [HCK.out]
  clear hN4 hN4' hw4'
  obtain ⟨n, hn⟩ : ∃ n, s.wgs.length = n := ⟨_, rfl⟩
  have HNN := Lib.hid hn
  have hn4 : n ≤ 4 := by omega
  obtain ⟨P, hP⟩ : ∃ P : Nat, 2 ^ n = P := ⟨_, rfl⟩
  have hPb := pow_four hn4
  rw [hP] at hPb
  have hPi : (2 : Int) ^ n = (P : Int) := by rw [← hP]; simp
  have w1 : wrap64 ((2 : Int) ^ n) = (P : Int) := by rw [hPi]; unfold wrap64; omega
  have HPP := Lib.hid hP
  clear hPi hP hw4 hn
  have HZ : Hid (BTo (agrO s) n 0 false []) := Lib.hid BTo.zero
  obtain ⟨mN, hmN⟩ : ∃ mN : Nat → Nat, mN = fun b => (sgl (agrO s) n b).length := ⟨_, rfl⟩
  obtain ⟨lA, hlA⟩ : ∃ lA : Nat → Int, lA = sgA (agrO s) n := ⟨_, rfl⟩
  have HMN : Hid (∀ b : Nat, ¬ ((ofL (b : Int) n).length = 1 ∧ agrO s (outL (ofL (b : Int) n)) = true) → mN (b + 1) = mN b ∧ lA (b + 1) = lA b) := Lib.hid (fun b h => by rw [hmN, hlA]; exact sgl_no h)
  have HMY : Hid (∀ b : Nat, (ofL (b : Int) n).length = 1 → agrO s (outL (ofL (b : Int) n)) = true → mN (b + 1) = mN b + 1 ∧ lA (b + 1) = gI (ofL (b : Int) n) 0) := Lib.hid (fun b h h' => by rw [hmN, hlA]; exact sgl_yes h h')
  have HML : ∀ b, mN b ≤ b := fun b => by rw [hmN]; exact sgl_len
  have HEND : Hid (∀ fd r, BTo (agrO s) n P fd r → BlmIs s fd r (mN P) (lA P)) := Lib.hid (fun fd r h => by
    have hh := blame_is (s := s) HCK.out (by rw [HNN.out]; exact hn4) (fd := fd) (r := r) (by rw [HNN.out, HPP.out]; exact h)
    rw [HNN.out, HPP.out] at hh
    rw [hmN, hlA]
    exact hh)
  have hm0 : mN 0 = 0 := by rw [hmN]; rfl
  have hl0 : lA 0 = 0 := by rw [hlA]; rfl
  clear hmN hlA
  clear a0 a1 a2 a3 la
  have a0 : V15.cell? ⟨pq0, 0, none⟩ = some (.slice Ar s.rooms.length cr) := q0.cell 0
  have a1 : V15.cell? ⟨pq0, 1, none⟩ = some (.int .i64 s.days) := q0.cell 1
  have a2 : V15.cell? ⟨pq0, 2, none⟩ = some (.slice Am s.moves.length cm) := q0.cell 2
  have a3 : V15.cell? ⟨pq0, 3, none⟩ = some (.slice Aw s.wgs.length cw) := q0.cell 3
  have la := q0.lt
  rw [HNN.out] at a3
  go_wp2_with fail
  refine wp_loop (fun a W => Rel (fun a W => ∃ b : Nat, b ≤ P ∧ ∃ (fd : Nat) (r : List Int) (A : Option Addr) (c : Nat), Below V15.heap.size V15 W ∧ SlAt W W.heap.size 1 A r.length (fI r) ∧ Hid (BTo (agrO s) n b (bN fd) r) ∧ Hid (r.length ≤ 8) ∧ ∃ u : Nat → Value, a = ⟨List.toArray (u 0 :: .pointer (some ⟨pq0, 0, none⟩) :: u 2 :: .slice Af (fwL s).length cf :: .int .i64 (fwE s) :: .int .i64 (bmV s) :: .int .i64 (bmE s) :: .int .i64 0 :: .slice A r.length c :: .bool (bN fd) :: .int .i64 (lA b) :: .int .i64 (mN b : Int) :: .int .i64 (b : Int) :: u 13 :: u 14 :: u 15 :: u 16 :: u 17 :: u 18 :: u 19 :: u 20 :: u 21 :: u 22 :: u 23 :: u 24 :: u 25 :: u 26 :: u 27 :: u 28 :: u 29 :: u 30 :: u 31 :: u 32 :: u 33 :: u 34 :: u 35 :: u 36 :: u 37 :: u 38 :: u 39 :: u 40 :: u 41 :: u 42 :: u 43 :: u 44 :: u 45 :: u 46 :: u 47 :: u 48 :: u 49 :: u 50 :: u 51 :: u 52 :: u 53 :: u 54 :: u 55 :: u 56 :: u 57 :: u 58 :: u 59 :: u 60 :: u 61 :: u 62 :: u 63 :: u 64 :: u 65 :: u 66 :: u 67 :: u 68 :: u 69 :: u 70 :: u 71 :: u 72 :: u 73 :: u 74 :: u 75 :: u 76 :: u 77 :: u 78 :: u 79 :: u 80 :: u 81 :: u 82 :: u 83 :: u 84 :: u 85 :: u 86 :: u 87 :: u 88 :: u 89 :: u 90 :: u 91 :: u 92 :: u 93 :: u 94 :: u 95 :: u 96 :: u 97 :: u 98 :: u 99 :: u 100 :: u 101 :: u 102 :: u 103 :: u 104 :: u 105 :: u 106 :: u 107 :: u 108 :: u 109 :: u 110 :: u 111 :: u 112 :: u 113 :: u 114 :: u 115 :: u 116 :: u 117 :: u 118 :: u 119 :: u 120 :: u 121 :: u 122 :: u 123 :: u 124 :: u 125 :: u 126 :: u 127 :: u 128 :: u 129 :: u 130 :: u 131 :: u 132 :: u 133 :: u 134 :: u 135 :: u 136 :: u 137 :: u 138 :: u 139 :: u 140 :: u 141 :: u 142 :: u 143 :: u 144 :: u 145 :: u 146 :: u 147 :: u 148 :: u 149 :: u 150 :: u 151 :: u 152 :: u 153 :: u 154 :: u 155 :: u 156 :: u 157 :: u 158 :: u 159 :: u 160 :: u 161 :: u 162 :: u 163 :: u 164 :: u 165 :: u 166 :: u 167 :: u 168 :: u 169 :: u 170 :: u 171 :: u 172 :: u 173 :: []), []⟩) a W) (fun a _ => P - (intOf (a.tmps.getD 12 undef)).toNat) ⟨⟨0, by omega, 0, [], none, 0, Below.refl _ _, fun h => absurd h (by simp), HZ, Lib.hid (by simp), by rw [hm0, hl0]; exact exFrame (by kernel_rfl)⟩⟩ ?_
  clear a0 a1 a2 a3 la
  rintro a W ⟨⟨b, hb, fd, r, A, c, hbw, sr, HT, HRL, u, rfl⟩⟩
  replace hs := hs.go hbw
  replace q0 := q0.below hbw q0.lt
  replace slf := (slf.below hbw).up hbw.size
  have B_W := ex_trans B_V15 hbw
  have a0 : W.cell? ⟨pq0, 0, none⟩ = some (.slice Ar s.rooms.length cr) := q0.cell 0
  have a1 : W.cell? ⟨pq0, 1, none⟩ = some (.int .i64 s.days) := q0.cell 1
  have a2 : W.cell? ⟨pq0, 2, none⟩ = some (.slice Am s.moves.length cm) := q0.cell 2
  have a3 : W.cell? ⟨pq0, 3, none⟩ = some (.slice Aw s.wgs.length cw) := q0.cell 3
  have la := q0.lt
  rw [HNN.out] at a3
  by_cases hlt : b < P
  · have hlt' : (b : Int) < (P : Int) := by omega
    have hmb := HML b
    have hFin : Hid (n = s.wgs.length) := Lib.hid HNN.out.symm
    go_wp2_with fail
    refine (Of_ref n (b : Int) W (by omega) (by omega) (by omega)).mono ?_
    rintro e V16 ⟨⟨v, rfl, hv⟩, hV16⟩
    replace hs := hs.go hV16
    replace q0 := q0.below hV16 q0.lt
    replace slf := (slf.below hV16).up hV16.size
    replace sr := (sr.below hV16).up hV16.size
    have B_V16 := ex_trans B_W hV16
    have X_V16 := ex_trans hbw hV16
    obtain ⟨A4, c4, rfl, _, s4⟩ := own_sl hv
    have hL4 := ofL_len (b := (b : Int)) (n := n)
    obtain ⟨L, hL⟩ : ∃ L, ofL (b : Int) n = L := ⟨_, rfl⟩
    have HL := Lib.hid hL
    rw [hL] at s4 hL4 ⊢
    clear hL hv
    clear a0 a1 a2 a3 la
    have a0 : V16.cell? ⟨pq0, 0, none⟩ = some (.slice Ar s.rooms.length cr) := q0.cell 0
    have a1 : V16.cell? ⟨pq0, 1, none⟩ = some (.int .i64 s.days) := q0.cell 1
    have a2 : V16.cell? ⟨pq0, 2, none⟩ = some (.slice Am s.moves.length cm) := q0.cell 2
    have a3 : V16.cell? ⟨pq0, 3, none⟩ = some (.slice Aw s.wgs.length cw) := q0.cell 3
    have la := q0.lt
    go_wp2_with fail
    refine (Stocks_ref s Ar Am Aw cr cm cw V16 hs HWO.out HDD.out L A4 c4 s4 (by omega) (HFW.out HCK.out)).mono ?_
    rintro e V17 ⟨⟨n2, A2, c2, rA2, rc2, rfl, hrv⟩, hV17⟩
    replace hs := hs.go hV17
    replace q0 := q0.below hV17 q0.lt
    replace slf := (slf.below hV17).up hV17.size
    replace sr := (sr.below hV17).up hV17.size
    replace s4 := (s4.below hV17).up hV17.size
    have B_V17 := ex_trans B_V16 hV17
    have X_V17 := ex_trans X_V16 hV17
    clear hrv
    clear a0 a1 a2 a3 la
    have a0 : V17.cell? ⟨pq0, 0, none⟩ = some (.slice Ar s.rooms.length cr) := q0.cell 0
    have a1 : V17.cell? ⟨pq0, 1, none⟩ = some (.int .i64 s.days) := q0.cell 1
    have a2 : V17.cell? ⟨pq0, 2, none⟩ = some (.slice Am s.moves.length cm) := q0.cell 2
    have a3 : V17.cell? ⟨pq0, 3, none⟩ = some (.slice Aw s.wgs.length cw) := q0.cell 3
    have la := q0.lt
    by_cases hg : Good s.wo (outL L)
    rotate_left
    · have HB : Hid (BTo (agrO s) n (b + 1) (bN fd) r) := Lib.hid (HT.out.off (by rw [HL.out]; exact fun h => hg (agL_iff.1 h)))
      have HNM : Hid (¬ ((ofL (b : Int) n).length = 1 ∧ agrO s (outL (ofL (b : Int) n)) = true)) := Lib.hid (fun h => by rw [HL.out] at h; exact hg (truB_iff.1 h.2))
      rw [truB_false hg]
      clear hg
      obtain ⟨m1, m2⟩ := HMN.out b HNM.out
      have m1' : ((mN (b + 1) : Nat) : Int) = (mN b : Int) := by rw [m1]
      skip
      go_wp2_with fail
      refine ⟨⟨⟨b + 1, by omega, fd, r, A, c, X_V17, sr, HB, HRL, by rw [m1', m2]; exact exFrame (by kernel_rfl)⟩⟩, ?_⟩
      show P - (intOf (.int .i64 ((b : Int) + 1))).toNat < P - (intOf (.int .i64 (b : Int))).toNat
      simp [intOf]
      omega
    have HGA : Hid (AgL (agrO s) (ofL (b : Int) n)) := Lib.hid (by rw [HL.out]; exact agL_iff.2 hg)
    rw [truB_iff.2 hg]
    clear hg
    have hLl : Hid (L.length ≤ 8) := Lib.hid (by omega)
    by_cases hfd : bN fd = true
    rotate_left
    · have hf0 : bN fd = false := by cases h : bN fd; rfl; exact absurd h hfd
      have HB : Hid (BTo (agrO s) n (b + 1) (bN 1) L) := Lib.hid (by
        have := BTo.take (by omega) (by rw [HPP.out]; exact hlt) HT.out HGA.out (fun h => absurd h hfd)
        rw [HL.out] at this
        exact this)
      rw [hf0]
      clear hfd hf0
      by_cases h1 : L.length = 1
      · have e1 : ((L.length : Int) == 1) = true := by rw [beq_iff_eq]; omega
        have e2 : (L.length == 1) = true := by simp [h1]
        have hll : (0 : Int) < (L.length : Int) := by omega
        obtain ⟨b4, o4, e4, hb4, g4⟩ := IsInts.at_ s4 (show 0 < L.length by omega)
        subst e4
        rw [Nat.add_zero] at g4
        have HM1 : Hid ((ofL (b : Int) n).length = 1) := Lib.hid (by rw [HL.out]; exact h1)
        have wm : IntKind.i64.wrap ((mN b : Int) + 1) = (mN b : Int) + 1 := IntWalk.i64_in _ (by omega)
        clear h1
        obtain ⟨m1, m2⟩ := HMY.out b HM1.out HGA.out
        have m1' : ((mN (b + 1) : Nat) : Int) = (mN b : Int) + 1 := by rw [m1]; omega
        rw [HL.out] at m2
        go_wp2_with fail
        refine ⟨⟨⟨b + 1, by omega, 1, L, (some ⟨b4, o4, none⟩), c4, X_V17, s4, HB, hLl, by rw [m1', m2]; exact exFrame (by kernel_rfl)⟩⟩, ?_⟩
        show P - (intOf (.int .i64 ((b : Int) + 1))).toNat < P - (intOf (.int .i64 (b : Int))).toNat
        simp [intOf]
        omega
      · have e1 : ((L.length : Int) == 1) = false := by rw [beq_eq_false_iff_ne]; omega
        have e2 : (L.length == 1) = false := by simp [h1]
        have HNM : Hid (¬ ((ofL (b : Int) n).length = 1 ∧ agrO s (outL (ofL (b : Int) n)) = true)) := Lib.hid (fun h => by rw [HL.out] at h; exact h1 h.1)
        clear h1
        obtain ⟨m1, m2⟩ := HMN.out b HNM.out
        have m1' : ((mN (b + 1) : Nat) : Int) = (mN b : Int) := by rw [m1]
        skip
        go_wp2_with fail
        refine ⟨⟨⟨b + 1, by omega, 1, L, A4, c4, X_V17, s4, HB, hLl, by rw [m1', m2]; exact exFrame (by kernel_rfl)⟩⟩, ?_⟩
        show P - (intOf (.int .i64 ((b : Int) + 1))).toNat < P - (intOf (.int .i64 (b : Int))).toNat
        simp [intOf]
        omega
    have HFD := Lib.hid hfd
    rw [hfd]
    clear hfd
    have hrl := HRL.out
    go_wp2_with fail
    refine (Less_any A4 A c4 c L r V17 (by omega) (by omega) s4 sr).mono ?_
    rintro e V18 ⟨rfl, hV18⟩
    replace hs := hs.go hV18
    replace q0 := q0.below hV18 q0.lt
    replace slf := (slf.below hV18).up hV18.size
    replace sr := (sr.below hV18).up hV18.size
    replace s4 := (s4.below hV18).up hV18.size
    have B_V18 := ex_trans B_V17 hV18
    have X_V18 := ex_trans X_V17 hV18
    clear a0 a1 a2 a3 la
    have a0 : V18.cell? ⟨pq0, 0, none⟩ = some (.slice Ar s.rooms.length cr) := q0.cell 0
    have a1 : V18.cell? ⟨pq0, 1, none⟩ = some (.int .i64 s.days) := q0.cell 1
    have a2 : V18.cell? ⟨pq0, 2, none⟩ = some (.slice Am s.moves.length cm) := q0.cell 2
    have a3 : V18.cell? ⟨pq0, 3, none⟩ = some (.slice Aw s.wgs.length cw) := q0.cell 3
    have la := q0.lt
    cases hle : lessL L r
    · have HB : Hid (BTo (agrO s) n (b + 1) (bN fd) r) := Lib.hid (by rw [HFD.out]; exact BTo.keep (by rw [← HFD.out]; exact HT.out) (by rw [HL.out]; exact hle))
      clear hle
      have HB1 : Hid (BTo (agrO s) n (b + 1) (bN 1) r) := Lib.hid (by have h := HB.out; rw [HFD.out] at h; exact h)
      clear HB
      by_cases h1 : L.length = 1
      · have e1 : ((L.length : Int) == 1) = true := by rw [beq_iff_eq]; omega
        have e2 : (L.length == 1) = true := by simp [h1]
        have hll : (0 : Int) < (L.length : Int) := by omega
        obtain ⟨b4, o4, e4, hb4, g4⟩ := IsInts.at_ s4 (show 0 < L.length by omega)
        subst e4
        rw [Nat.add_zero] at g4
        have HM1 : Hid ((ofL (b : Int) n).length = 1) := Lib.hid (by rw [HL.out]; exact h1)
        have wm : IntKind.i64.wrap ((mN b : Int) + 1) = (mN b : Int) + 1 := IntWalk.i64_in _ (by omega)
        clear h1
        obtain ⟨m1, m2⟩ := HMY.out b HM1.out HGA.out
        have m1' : ((mN (b + 1) : Nat) : Int) = (mN b : Int) + 1 := by rw [m1]; omega
        rw [HL.out] at m2
        go_wp2_with fail
        refine ⟨⟨⟨b + 1, by omega, 1, r, A, c, X_V18, sr, HB1, HRL, by rw [m1', m2]; exact exFrame (by kernel_rfl)⟩⟩, ?_⟩
        show P - (intOf (.int .i64 ((b : Int) + 1))).toNat < P - (intOf (.int .i64 (b : Int))).toNat
        simp [intOf]
        omega
      · have e1 : ((L.length : Int) == 1) = false := by rw [beq_eq_false_iff_ne]; omega
        have e2 : (L.length == 1) = false := by simp [h1]
        have HNM : Hid (¬ ((ofL (b : Int) n).length = 1 ∧ agrO s (outL (ofL (b : Int) n)) = true)) := Lib.hid (fun h => by rw [HL.out] at h; exact h1 h.1)
        clear h1
        obtain ⟨m1, m2⟩ := HMN.out b HNM.out
        have m1' : ((mN (b + 1) : Nat) : Int) = (mN b : Int) := by rw [m1]
        skip
        go_wp2_with fail
        refine ⟨⟨⟨b + 1, by omega, 1, r, A, c, X_V18, sr, HB1, HRL, by rw [m1', m2]; exact exFrame (by kernel_rfl)⟩⟩, ?_⟩
        show P - (intOf (.int .i64 ((b : Int) + 1))).toNat < P - (intOf (.int .i64 (b : Int))).toNat
        simp [intOf]
        omega
    · have HB : Hid (BTo (agrO s) n (b + 1) (bN 1) L) := Lib.hid (by
        have := BTo.take (by omega) (by rw [HPP.out]; exact hlt) HT.out HGA.out (fun _ => by rw [HL.out]; exact hle)
        rw [HL.out] at this
        exact this)
      clear hle
      by_cases h1 : L.length = 1
      · have e1 : ((L.length : Int) == 1) = true := by rw [beq_iff_eq]; omega
        have e2 : (L.length == 1) = true := by simp [h1]
        have hll : (0 : Int) < (L.length : Int) := by omega
        obtain ⟨b4, o4, e4, hb4, g4⟩ := IsInts.at_ s4 (show 0 < L.length by omega)
        subst e4
        rw [Nat.add_zero] at g4
        have HM1 : Hid ((ofL (b : Int) n).length = 1) := Lib.hid (by rw [HL.out]; exact h1)
        have wm : IntKind.i64.wrap ((mN b : Int) + 1) = (mN b : Int) + 1 := IntWalk.i64_in _ (by omega)
        clear h1
        obtain ⟨m1, m2⟩ := HMY.out b HM1.out HGA.out
        have m1' : ((mN (b + 1) : Nat) : Int) = (mN b : Int) + 1 := by rw [m1]; omega
        rw [HL.out] at m2
        go_wp2_with fail
        refine ⟨⟨⟨b + 1, by omega, 1, L, (some ⟨b4, o4, none⟩), c4, X_V18, s4, HB, hLl, by rw [m1', m2]; exact exFrame (by kernel_rfl)⟩⟩, ?_⟩
        show P - (intOf (.int .i64 ((b : Int) + 1))).toNat < P - (intOf (.int .i64 (b : Int))).toNat
        simp [intOf]
        omega
      · have e1 : ((L.length : Int) == 1) = false := by rw [beq_eq_false_iff_ne]; omega
        have e2 : (L.length == 1) = false := by simp [h1]
        have HNM : Hid (¬ ((ofL (b : Int) n).length = 1 ∧ agrO s (outL (ofL (b : Int) n)) = true)) := Lib.hid (fun h => by rw [HL.out] at h; exact h1 h.1)
        clear h1
        obtain ⟨m1, m2⟩ := HMN.out b HNM.out
        have m1' : ((mN (b + 1) : Nat) : Int) = (mN b : Int) := by rw [m1]
        skip
        go_wp2_with fail
        refine ⟨⟨⟨b + 1, by omega, 1, L, A4, c4, X_V18, s4, HB, hLl, by rw [m1', m2]; exact exFrame (by kernel_rfl)⟩⟩, ?_⟩
        show P - (intOf (.int .i64 ((b : Int) + 1))).toNat < P - (intOf (.int .i64 (b : Int))).toNat
        simp [intOf]
        omega
  obtain rfl : b = P := by omega
  have HBL := Lib.hid (HEND.out _ _ HT.out)
  have hmb := HML b
  obtain ⟨mm, hmm⟩ : ∃ m, mN b = m := ⟨_, rfl⟩
  obtain ⟨al, hal⟩ : ∃ m, lA b = m := ⟨_, rfl⟩
  rw [hmm, hal] at HBL
  rw [hmm] at hmb ⊢
  rw [hal]
  clear hmm hal HML
  by_cases hfd : bN fd = true
  rotate_left
  · have hf0 : bN fd = false := by cases h : bN fd; rfl; exact absurd h hfd
    obtain ⟨h1, h2, h3, h4⟩ := HBL.out.none hf0
    rw [h2] at slf
    rw [h1, h2, h3, h4, hf0]
    clear hfd hf0 h1 h2 h3 h4
    clear slf
    go_wp2_with fail
    refine (awake_any W).mono ?_
    rintro e Wz ⟨rfl, hz⟩
    go_wp2
    go_ret
    exact ⟨rfl, ex_trans B_W hz⟩
  obtain ⟨h1, h2, h3, h4⟩ := HBL.out.some hfd
  rw [h2] at slf
  rw [h1, h2, hfd]
  have H3 := Lib.hid h3
  have H4 := Lib.hid h4
  clear h1 h2 h3 h4 hfd
  have hrl := HRL.out
  go_wp2_with fail
  refine (ints_eq Af A cf c r.length r.length (gI r) (gI r) W slf sr (by omega) (by omega)).mono ?_
  rintro e V19 ⟨rfl, hV19⟩
  replace hs := hs.go hV19
  replace q0 := q0.below hV19 q0.lt
  replace slf := (slf.below hV19).up hV19.size
  replace sr := (sr.below hV19).up hV19.size
  have B_V19 := ex_trans B_W hV19
  have X_V19 := ex_trans hbw hV19
  rw [ints_self r]
  clear slf sr
  clear a0 a1 a2 a3 la
  have a0 : V19.cell? ⟨pq0, 0, none⟩ = some (.slice Ar s.rooms.length cr) := q0.cell 0
  have a1 : V19.cell? ⟨pq0, 1, none⟩ = some (.int .i64 s.days) := q0.cell 1
  have a2 : V19.cell? ⟨pq0, 2, none⟩ = some (.slice Am s.moves.length cm) := q0.cell 2
  have a3 : V19.cell? ⟨pq0, 3, none⟩ = some (.slice Aw s.wgs.length cw) := q0.cell 3
  have la := q0.lt
  by_cases hr0 : r.length = 0
  · obtain ⟨h1, h2⟩ := H3.out (.inl hr0)
    rw [h1, h2]
    have e1 : ((r.length : Int) == 0) = true := by rw [beq_iff_eq]; omega
    have e2 : (r.length == 0) = true := by simp [hr0]
    clear h1 h2 hr0
    go_wp2_with fail
    refine (awake_any V19).mono ?_
    rintro e Wz ⟨rfl, hz⟩
    go_wp2
    go_ret
    exact ⟨rfl, ex_trans B_V19 hz⟩
  have e1 : ((r.length : Int) == 0) = false := by rw [beq_eq_false_iff_ne]; omega
  have e2 : (r.length == 0) = false := by simp [hr0]
  by_cases hm1 : mm = 1
  rotate_left
  · obtain ⟨h1, h2⟩ := H3.out (.inr hm1)
    rw [h1, h2]
    have e3 : ((mm : Int) != 1) = true := by simp; omega
    have e4 : ((mm : Int) == 1) = false := by rw [beq_eq_false_iff_ne]; omega
    clear h1 h2 hm1 hr0
    go_wp2_with fail
    refine (awake_any V19).mono ?_
    rintro e Wz ⟨rfl, hz⟩
    go_wp2
    go_ret
    exact ⟨rfl, ex_trans B_V19 hz⟩
  obtain ⟨h1, h2⟩ := H4.out hr0 hm1
  rw [h1, h2]
  subst hm1
  clear h1 h2 hr0
  go_wp2_with fail
  refine (awake_any V19).mono ?_
  rintro e Wz ⟨rfl, hz⟩
  go_wp2
  go_ret
  exact ⟨rfl, ex_trans B_V19 hz⟩
end Go.Proofs.Ythihdiilokdidaa
end

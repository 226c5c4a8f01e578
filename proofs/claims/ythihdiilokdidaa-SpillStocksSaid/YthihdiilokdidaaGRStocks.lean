/- Spill's laws: SpillStocks (walk). · The row SpillStocks: the ranges of all stocks of any works are as the document says, or the error is. -/
import Derived.WalkKit
import Derived.ProofKit
import Derived.OpenShut
import Derived.Test.YthihdiilokdidaaR15
import Derived.Test.YthihdiilokdidaaR13
import Derived.Test.YthihdiilokdidaaRows
import Derived.Test.YthihdiilokdidaaR12
set_option linter.unusedVariables false
set_option linter.unusedSimpArgs false
set_option linter.unusedSectionVars false
section
namespace Go.Proofs.Ythihdiilokdidaa
open Go.RowKit
attribute [local go_sem] Ex.cell? Ex.frozen?

set_option maxRecDepth 100000 in
set_option maxHeartbeats 3200000 in
theorem StocksLaw_any (s : Ws) (Ar Am Aw : Option Addr) (cr cm cw : Nat) (w : World) (hs : WsIn w w.heap.size s Ar Am Aw) :
    Calls Try.prog 3 #[.agg #[.slice Ar s.rooms.length cr, .int .i64 s.days, .slice Am s.moves.length cm, .slice Aw s.wgs.length cw]] w fun e w' => e = .returned (.bool true) ∧ Below w.heap.size w w' := by
  have hb1 := ex_alloc (Below.refl w.heap.size w) (.cells #[.slice Ar s.rooms.length cr, .int .i64 s.days, .slice Am s.moves.length cm, .slice Aw s.wgs.length cw] 26)
  have q0 : Blk (w.alloc (.cells #[.slice Ar s.rooms.length cr, .int .i64 s.days, .slice Am s.moves.length cm, .slice Aw s.wgs.length cw] 26)) (w.heap.size) 26 #[.slice Ar s.rooms.length cr, .int .i64 s.days, .slice Am s.moves.length cm, .slice Aw s.wgs.length cw] := Blk.new _ _ _
  replace hs := hs.go hb1
  skip
  go_enter Try.func3, Try.ntmps3
  go_upto_region 1 with fail
  show Code.wp _ _ _ _ (w.alloc (.cells #[.slice Ar s.rooms.length cr, .int .i64 s.days, .slice Am s.moves.length cm, .slice Aw s.wgs.length cw] 26))
  obtain ⟨pq0, hpq0⟩ : ∃ p, w.heap.size = p := ⟨_, rfl⟩
  rw [hpq0] at q0 ⊢
  clear hpq0
  generalize w.alloc (.cells #[.slice Ar s.rooms.length cr, .int .i64 s.days, .slice Am s.moves.length cm, .slice Aw s.wgs.length cw] 26) = V at *
  have a0 : V.cell? ⟨pq0, 0, none⟩ = some (.slice Ar s.rooms.length cr) := q0.cell 0
  have a1 : V.cell? ⟨pq0, 1, none⟩ = some (.int .i64 s.days) := q0.cell 1
  have a2 : V.cell? ⟨pq0, 2, none⟩ = some (.slice Am s.moves.length cm) := q0.cell 2
  have a3 : V.cell? ⟨pq0, 3, none⟩ = some (.slice Aw s.wgs.length cw) := q0.cell 3
  have la := q0.lt
  go_wp2_with fail
  refine (Thin_any s Ar Am Aw cr cm cw V hs ⟨[], [], []⟩ none none none 0 0 0 (fun _ => none) (fun _ => 0) ⟨fun h => absurd h (by simp), fun h => absurd h (by simp), fun k h => absurd h (by simp), fun h => absurd h (by simp)⟩).mono ?_
  rintro e V2 ⟨rfl, hV2⟩
  replace hs := hs.go hV2
  replace q0 := q0.below hV2 q0.lt
  have B_V2 := ex_trans hb1 hV2
  clear a0 a1 a2 a3 la
  have a0 : V2.cell? ⟨pq0, 0, none⟩ = some (.slice Ar s.rooms.length cr) := q0.cell 0
  have a1 : V2.cell? ⟨pq0, 1, none⟩ = some (.int .i64 s.days) := q0.cell 1
  have a2 : V2.cell? ⟨pq0, 2, none⟩ = some (.slice Am s.moves.length cm) := q0.cell 2
  have a3 : V2.cell? ⟨pq0, 3, none⟩ = some (.slice Aw s.wgs.length cw) := q0.cell 3
  have la := q0.lt
  cases hth : thinB s ⟨[], [], []⟩
  · clear hth
    go_wp2_with fail
    refine (awake_any V2).mono ?_
    rintro e Wz ⟨rfl, hz⟩
    go_wp2
    go_ret
    exact ⟨rfl, ex_trans B_V2 hz⟩
  have HTN := Lib.hid (thinB_iff.1 hth)
  clear hth
  have HSM : Hid (s.rooms.length ≤ 1000 ∧ s.moves.length ≤ 1000 ∧ s.wgs.length ≤ 1000) := Lib.hid ⟨by have := HTN.out.nr; omega, by have := HTN.out.nm; omega, by have := HTN.out.nw; omega⟩
  go_wp2_with fail
  refine (few_any s Ar Am Aw cr cm cw V2 hs).mono ?_
  rintro e V3 ⟨rfl, hV3⟩
  replace hs := hs.go hV3
  replace q0 := q0.below hV3 q0.lt
  have B_V3 := ex_trans B_V2 hV3
  clear a0 a1 a2 a3 la
  have a0 : V3.cell? ⟨pq0, 0, none⟩ = some (.slice Ar s.rooms.length cr) := q0.cell 0
  have a1 : V3.cell? ⟨pq0, 1, none⟩ = some (.int .i64 s.days) := q0.cell 1
  have a2 : V3.cell? ⟨pq0, 2, none⟩ = some (.slice Am s.moves.length cm) := q0.cell 2
  have a3 : V3.cell? ⟨pq0, 3, none⟩ = some (.slice Aw s.wgs.length cw) := q0.cell 3
  have la := q0.lt
  cases hfw : fewB s
  · clear hfw
    go_wp2_with fail
    refine (awake_any V3).mono ?_
    rintro e Wz ⟨rfl, hz⟩
    go_wp2
    go_ret
    exact ⟨rfl, ex_trans B_V3 hz⟩
  have HFW : Hid (ckWs s = 0 → wideTo (wdP s.wo) (placesP s.wo) ≤ 1500) := Lib.hid (truB_iff.1 hfw)
  clear hfw
  go_wp2_with fail
  refine (Works_any s Ar Am Aw cr cm cw V3 hs HSM.out).mono ?_
  rintro e V4 ⟨⟨⟨Ar1, Am1, Aw1, cr1, cm1, cw1, rfl, hw1⟩⟩, hV4⟩
  replace hs := hs.go hV4
  replace q0 := q0.below hV4 q0.lt
  have B_V4 := ex_trans B_V3 hV4
  clear a0 a1 a2 a3 la
  have a0 : V4.cell? ⟨pq0, 0, none⟩ = some (.slice Ar s.rooms.length cr) := q0.cell 0
  have a1 : V4.cell? ⟨pq0, 1, none⟩ = some (.int .i64 s.days) := q0.cell 1
  have a2 : V4.cell? ⟨pq0, 2, none⟩ = some (.slice Am s.moves.length cm) := q0.cell 2
  have a3 : V4.cell? ⟨pq0, 3, none⟩ = some (.slice Aw s.wgs.length cw) := q0.cell 3
  have la := q0.lt
  go_wp2_with fail
  refine (Stocks_any s Ar1 Am1 Aw1 cr1 cm1 cw1 V4 hw1).mono ?_
  rintro e V5 ⟨⟨n1, A1, c1, r1, rc1, rfl, hsv⟩, hV5⟩
  replace hs := hs.go hV5
  replace q0 := q0.below hV5 q0.lt
  replace hw1 := hw1.go hV5
  have B_V5 := ex_trans B_V4 hV5
  clear hw1
  clear a0 a1 a2 a3 la
  have a0 : V5.cell? ⟨pq0, 0, none⟩ = some (.slice Ar s.rooms.length cr) := q0.cell 0
  have a1 : V5.cell? ⟨pq0, 1, none⟩ = some (.int .i64 s.days) := q0.cell 1
  have a2 : V5.cell? ⟨pq0, 2, none⟩ = some (.slice Am s.moves.length cm) := q0.cell 2
  have a3 : V5.cell? ⟨pq0, 3, none⟩ = some (.slice Aw s.wgs.length cw) := q0.cell 3
  have la := q0.lt
  go_wp2_with fail
  refine (fault_any s Ar Am Aw cr cm cw V5 hs).mono ?_
  rintro e V6 ⟨rfl, hV6⟩
  replace hs := hs.go hV6
  replace q0 := q0.below hV6 q0.lt
  have B_V6 := ex_trans B_V5 hV6
  clear a0 a1 a2 a3 la
  have a0 : V6.cell? ⟨pq0, 0, none⟩ = some (.slice Ar s.rooms.length cr) := q0.cell 0
  have a1 : V6.cell? ⟨pq0, 1, none⟩ = some (.int .i64 s.days) := q0.cell 1
  have a2 : V6.cell? ⟨pq0, 2, none⟩ = some (.slice Am s.moves.length cm) := q0.cell 2
  have a3 : V6.cell? ⟨pq0, 3, none⟩ = some (.slice Aw s.wgs.length cw) := q0.cell 3
  have la := q0.lt
  by_cases hck : ckWs s = 0
  rotate_left
  · have hse : stE s = ckWs s := by unfold stE; rw [if_neg hck]
    obtain ⟨rfl, rfl, rfl⟩ := hsv.no (by rw [hse]; exact hck)
    rw [hse]
    have e0 : (ckWs s == 0) = false := by simp [hck]
    have e1 : (ckWs s != 0) = true := by simp [hck]
    clear hsv hse
    generalize ckWs s = cc at *
    clear hck
    go_wp2_with fail
    refine (awake_any V6).mono ?_
    rintro e Wz ⟨rfl, hz⟩
    go_wp2
    go_ret
    exact ⟨rfl, ex_trans B_V6 hz⟩
  obtain ⟨hwo, hdd⟩ := ckWs_iff.1 hck
  have HWO := Lib.hid hwo
  have HDD := Lib.hid hdd
  have HCK := Lib.hid hck
  rw [hck]
  have HSV := Lib.hid hsv
  have hr3 : 1 ≤ s.rooms.length ∧ s.rooms.length ≤ 3 := ⟨hwo.len.1, hwo.len.2.1⟩
  clear hck hwo hdd hsv
  by_cases hg : Good s.wo off0
  rotate_left
  · have hse : stE s = 9 := by unfold stE; rw [if_pos HCK.out, truB_false hg]; rfl
    obtain ⟨rfl, rfl, rfl⟩ := HSV.out.no (by rw [hse]; decide)
    rw [hse]
    have HTB : Hid (truB (Good s.wo (outL [])) = false) := Lib.hid (by rw [outL_nil]; exact truB_false hg)
    clear hse HSV
    go_wp2_with fail
    refine (Stocks_ref s Ar Am Aw cr cm cw V6 hs HWO.out HDD.out [] none 0 (fun h => absurd h (by simp)) (by simp) (HFW.out HCK.out)).mono ?_
    rintro e V7 ⟨⟨n2, A2, c2, rA2, rc2, rfl, hrv⟩, hV7⟩
    replace hs := hs.go hV7
    replace q0 := q0.below hV7 q0.lt
    have B_V7 := ex_trans B_V6 hV7
    rw [HTB.out]
    obtain rfl := hrv.no (by rw [outL_nil]; exact hg)
    clear hrv hg
    clear a0 a1 a2 a3 la
    have a0 : V7.cell? ⟨pq0, 0, none⟩ = some (.slice Ar s.rooms.length cr) := q0.cell 0
    have a1 : V7.cell? ⟨pq0, 1, none⟩ = some (.int .i64 s.days) := q0.cell 1
    have a2 : V7.cell? ⟨pq0, 2, none⟩ = some (.slice Am s.moves.length cm) := q0.cell 2
    have a3 : V7.cell? ⟨pq0, 3, none⟩ = some (.slice Aw s.wgs.length cw) := q0.cell 3
    have la := q0.lt
    go_wp2_with fail
    refine (awake_any V7).mono ?_
    rintro e Wz ⟨rfl, hz⟩
    go_wp2
    go_ret
    exact ⟨rfl, ex_trans B_V7 hz⟩
  have hse : stE s = 0 := stE_zero.2 ⟨HCK.out, hg⟩
  obtain ⟨rfl, hR⟩ := HSV.out.yes hse
  replace hR := hR.go hV6
  rw [hse]
  have HTB : Hid (truB (Good s.wo (outL [])) = true) := Lib.hid (by rw [outL_nil]; exact truB_iff.2 hg)
  clear hse HSV
  go_wp2_with fail
  refine (Stocks_ref s Ar Am Aw cr cm cw V6 hs HWO.out HDD.out [] none 0 (fun h => absurd h (by simp)) (by simp) (HFW.out HCK.out)).mono ?_
  rintro e V8 ⟨⟨n2, A2, c2, rA2, rc2, rfl, hrv⟩, hV8⟩
  replace hs := hs.go hV8
  replace q0 := q0.below hV8 q0.lt
  replace hR := hR.go hV8
  have B_V8 := ex_trans B_V6 hV8
  rw [HTB.out]
  obtain ⟨rfl, hX⟩ := hrv.yes (by rw [outL_nil]; exact hg)
  clear hrv hg
  rw [outL_nil] at hX
  obtain ⟨D, hD⟩ : ∃ D, s.wo.days = D := ⟨_, rfl⟩
  have hD6 : 1 ≤ D ∧ D ≤ 6 := by have := HWO.out.days; omega
  have HD := Lib.hid hD
  have HSD : Hid (s.days = (D : Int)) := Lib.hid (by rw [HDD.out, hD])
  rw [hD] at hR hX
  clear hD
  obtain ⟨L, hL⟩ : ∃ L, stkR s.wo off0 = L := ⟨_, rfl⟩
  rw [hL] at hR hX
  clear hL
  clear a0 a1 a2 a3 la
  have a0 : V8.cell? ⟨pq0, 0, none⟩ = some (.slice Ar s.rooms.length cr) := q0.cell 0
  have a1 : V8.cell? ⟨pq0, 1, none⟩ = some (.int .i64 s.days) := q0.cell 1
  have a2 : V8.cell? ⟨pq0, 2, none⟩ = some (.slice Am s.moves.length cm) := q0.cell 2
  have a3 : V8.cell? ⟨pq0, 3, none⟩ = some (.slice Aw s.wgs.length cw) := q0.cell 3
  have la := q0.lt
  go_wp2_with fail
  refine wp_loop (fun a W3 => Rel (fun a W3 => ∃ i : Nat, i ≤ s.rooms.length ∧ Below V8.heap.size V8 W3 ∧ ∃ u : Nat → Value, a = ⟨List.toArray (u 0 :: .pointer (some ⟨pq0, 0, none⟩) :: u 2 :: .slice A1 s.rooms.length c1 :: u 4 :: u 5 :: .slice A2 s.rooms.length c2 :: u 7 :: .int .i64 (i : Int) :: u 9 :: u 10 :: u 11 :: u 12 :: u 13 :: u 14 :: u 15 :: u 16 :: u 17 :: u 18 :: u 19 :: u 20 :: u 21 :: u 22 :: u 23 :: u 24 :: u 25 :: u 26 :: u 27 :: u 28 :: u 29 :: u 30 :: u 31 :: u 32 :: u 33 :: u 34 :: u 35 :: u 36 :: u 37 :: u 38 :: u 39 :: u 40 :: u 41 :: u 42 :: u 43 :: u 44 :: u 45 :: u 46 :: u 47 :: u 48 :: u 49 :: u 50 :: u 51 :: u 52 :: u 53 :: u 54 :: u 55 :: u 56 :: u 57 :: u 58 :: u 59 :: u 60 :: u 61 :: u 62 :: u 63 :: u 64 :: u 65 :: u 66 :: u 67 :: u 68 :: u 69 :: u 70 :: u 71 :: u 72 :: u 73 :: u 74 :: u 75 :: u 76 :: u 77 :: u 78 :: u 79 :: u 80 :: u 81 :: u 82 :: u 83 :: u 84 :: u 85 :: u 86 :: u 87 :: u 88 :: u 89 :: u 90 :: u 91 :: u 92 :: u 93 :: u 94 :: u 95 :: u 96 :: u 97 :: u 98 :: u 99 :: u 100 :: u 101 :: u 102 :: u 103 :: []), []⟩) a W3) (fun a _ => s.rooms.length - (intOf (a.tmps.getD 8 undef)).toNat) ⟨⟨0, by omega, Below.refl _ _, exFrame (by kernel_rfl)⟩⟩ ?_
  clear a0 a1 a2 a3 la
  rintro a W3 ⟨⟨i, hi, hbw3, u3, rfl⟩⟩
  replace hs := hs.go hbw3
  replace q0 := q0.below hbw3 q0.lt
  replace hR := hR.go hbw3
  replace hX := hX.go hbw3
  have B_W3 := ex_trans B_V8 hbw3
  have a0 : W3.cell? ⟨pq0, 0, none⟩ = some (.slice Ar s.rooms.length cr) := q0.cell 0
  have a1 : W3.cell? ⟨pq0, 1, none⟩ = some (.int .i64 s.days) := q0.cell 1
  have a2 : W3.cell? ⟨pq0, 2, none⟩ = some (.slice Am s.moves.length cm) := q0.cell 2
  have a3 : W3.cell? ⟨pq0, 3, none⟩ = some (.slice Aw s.wgs.length cw) := q0.cell 3
  have la := q0.lt
  rw [HSD.out] at a1
  by_cases hli : i < s.rooms.length
  · have hli' : (i : Int) < (s.rooms.length : Int) := by omega
    obtain ⟨bS, oS, b2, o2, e2, hbS, s0, hb2, _, _⟩ := hR.at_ hli (show 0 < D by omega)
    subst e2
    go_upto_region 15 with fail
    have D15 := (Below.refl W3.heap.size W3).drew
    refine wp_region_ext_mix 7 [(false, 0), (false, 1), (false, 2), (false, 3), (false, 4), (false, 5), (false, 6)] (by kernel_rfl) (by kernel_rfl) (by intro d _ _ _ _ h; cases d <;> exact h) ?_
    repeat (refine mix_quiet rfl ?_; go_big_quiet_step (fail); refine wpQuiet_nil ?_)
    obtain ⟨Y15, hY⟩ : ∃ Y, W3.drew = Y := ⟨_, rfl⟩
    rw [hY] at D15 ⊢
    clear hY
    replace hs := hs.go D15
    replace q0 := q0.below D15 q0.lt
    replace hR := hR.go D15
    replace hX := hX.go D15
    have B_Y15 := ex_trans B_W3 D15
    have X_Y15 := ex_trans hbw3 D15
    refine mix_nil (r := [_]) rfl ?_
    clear a0 a1 a2 a3 la
    have a0 : Y15.cell? ⟨pq0, 0, none⟩ = some (.slice Ar s.rooms.length cr) := q0.cell 0
    have a1 : Y15.cell? ⟨pq0, 1, none⟩ = some (.int .i64 s.days) := q0.cell 1
    have a2 : Y15.cell? ⟨pq0, 2, none⟩ = some (.slice Am s.moves.length cm) := q0.cell 2
    have a3 : Y15.cell? ⟨pq0, 3, none⟩ = some (.slice Aw s.wgs.length cw) := q0.cell 3
    have la := q0.lt
    rw [HSD.out] at a1
    go_wp2_with fail
    refine wp_loop (fun a W4 => Rel (fun a W4 => ∃ j : Nat, j ≤ D ∧ Below Y15.heap.size Y15 W4 ∧ ∃ u : Nat → Value, a = ⟨List.toArray (u 0 :: .pointer (some ⟨pq0, 0, none⟩) :: u 2 :: .slice (some ⟨bS, oS, none⟩) s.rooms.length c1 :: u 4 :: u 5 :: .slice A2 s.rooms.length c2 :: u 7 :: .int .i64 (i : Int) :: .int .i64 (j : Int) :: u 10 :: u 11 :: u 12 :: u 13 :: u 14 :: u 15 :: u 16 :: u 17 :: u 18 :: u 19 :: u 20 :: u 21 :: u 22 :: u 23 :: u 24 :: u 25 :: u 26 :: u 27 :: u 28 :: u 29 :: u 30 :: u 31 :: u 32 :: u 33 :: u 34 :: u 35 :: u 36 :: u 37 :: u 38 :: u 39 :: u 40 :: u 41 :: u 42 :: u 43 :: u 44 :: u 45 :: u 46 :: u 47 :: u 48 :: u 49 :: u 50 :: u 51 :: u 52 :: u 53 :: u 54 :: u 55 :: u 56 :: u 57 :: u 58 :: u 59 :: u 60 :: u 61 :: u 62 :: u 63 :: u 64 :: u 65 :: u 66 :: u 67 :: u 68 :: u 69 :: u 70 :: u 71 :: u 72 :: u 73 :: u 74 :: u 75 :: u 76 :: u 77 :: u 78 :: u 79 :: u 80 :: u 81 :: u 82 :: u 83 :: u 84 :: u 85 :: u 86 :: u 87 :: u 88 :: u 89 :: u 90 :: u 91 :: u 92 :: u 93 :: u 94 :: u 95 :: u 96 :: u 97 :: u 98 :: u 99 :: u 100 :: u 101 :: u 102 :: u 103 :: []), []⟩) a W4) (fun a _ => D - (intOf (a.tmps.getD 9 undef)).toNat) ⟨⟨0, by omega, Below.refl _ _, exFrame (by kernel_rfl)⟩⟩ ?_
    clear a0 a1 a2 a3 la
    clear s0 hbS hb2
    rintro a W4 ⟨⟨j, hj, hbw4, u4, rfl⟩⟩
    replace hs := hs.go hbw4
    replace q0 := q0.below hbw4 q0.lt
    replace hR := hR.go hbw4
    replace hX := hX.go hbw4
    have B_W4 := ex_trans B_Y15 hbw4
    have a0 : W4.cell? ⟨pq0, 0, none⟩ = some (.slice Ar s.rooms.length cr) := q0.cell 0
    have a1 : W4.cell? ⟨pq0, 1, none⟩ = some (.int .i64 s.days) := q0.cell 1
    have a2 : W4.cell? ⟨pq0, 2, none⟩ = some (.slice Am s.moves.length cm) := q0.cell 2
    have a3 : W4.cell? ⟨pq0, 3, none⟩ = some (.slice Aw s.wgs.length cw) := q0.cell 3
    have la := q0.lt
    rw [HSD.out] at a1
    by_cases hlj : j < D
    · have hlj' : (j : Int) < (D : Int) := by omega
      obtain ⟨bS', oS', b2, o2, e2, hbS, s0, hb2, g0, g1⟩ := hR.at_ hli hlj
      injection e2 with e2
      injection e2 with e2 e3
      subst e2 e3
      obtain ⟨bT, oT, b4, o4, e4, hbT, t0, hb4, h0, h1⟩ := hX.at_ hli hlj
      subst e4
      obtain ⟨lo, hlo⟩ : ∃ x, (L i j).lo = x := ⟨_, rfl⟩
      obtain ⟨hi', hhi⟩ : ∃ x, (L i j).hi = x := ⟨_, rfl⟩
      rw [hlo] at g0 h0
      rw [hhi] at g1 h1
      clear hlo hhi
      go_upto_region 20 with fail
      have D20 := (Below.refl W4.heap.size W4).drew
      refine wp_region_ext_mix 15 [(false, 0), (false, 1), (false, 2), (false, 3), (false, 4), (false, 5), (false, 6), (false, 7), (false, 8), (false, 9), (false, 10), (false, 11), (false, 12), (false, 13), (true, 14)] (by kernel_rfl) (by kernel_rfl) (by intro d _ _ _ _ h; cases d <;> exact h) ?_
      repeat (refine mix_quiet rfl ?_; go_big_quiet_step (fail); refine wpQuiet_nil ?_)
      refine mix_loud rfl ?_
      go_wp2_with fail
      refine (to_any lo hi' W4.drew).mono ?_
      rintro e W5 ⟨rfl, h5⟩
      have X5 := ex_trans D20 h5
      go_wp2_with fail
      refine ⟨inEx X5, ?_⟩
      repeat (refine mix_quiet rfl ?_; go_big_quiet_step (fail); refine wpQuiet_nil ?_)
      refine mix_nil (r := [_]) rfl ?_
      have hbw5 := ex_trans hbw4 X5
      clear a0 a1 a2 a3 la
      go_wp2_with fail
      refine ⟨⟨⟨j + 1, by omega, hbw5, exFrame (by kernel_rfl)⟩⟩, ?_⟩
      show D - (intOf (.int .i64 ((j : Int) + 1))).toNat < D - (intOf (.int .i64 (j : Int))).toNat
      simp [intOf]
      omega
    · obtain rfl : j = D := by omega
      have hbw3' := ex_trans (ex_trans hbw3 D15) hbw4
      go_wp2_with fail
      refine ⟨⟨⟨i + 1, by omega, hbw3', exFrame (by kernel_rfl)⟩⟩, ?_⟩
      show s.rooms.length - (intOf (.int .i64 ((i : Int) + 1))).toNat < s.rooms.length - (intOf (.int .i64 (i : Int))).toNat
      simp [intOf]
      omega
  · have hie : ¬ (i : Int) < (s.rooms.length : Int) := by omega
    go_wp2_with fail
    refine (awake_any W3).mono ?_
    rintro e Wz ⟨rfl, hz⟩
    go_wp2
    go_ret
    exact ⟨rfl, ex_trans B_W3 hz⟩
end Go.Proofs.Ythihdiilokdidaa
end

section
namespace Go.Proofs.Ythihdiilokdidaa.spillStocks
open Go.ChangeShapes Go.WideShapes Go.ChangeAt Go.RowKit
set_option linter.unusedVariables false

set_option maxRecDepth 100000 in
theorem lifted (os : Os) (started : os.Started) (H : Type) (enc : TypeId × Value → H) :
    ReturnsInHanded {} Try.checked os 3 .any (Rows.spillStocksSpec.pre6 enc Try.prog Try.f3 Rows.spillStocksRow.domain false) (Rows.spillStocksSpec.post enc Try.prog Try.f3 false true false false) := by
  refine returnsInHanded_of_change (C := Try.checked) own started (by kernel_rfl) Try.func3
    (ChangeSpec.witness6 (enc := enc) (C := Try.checked) false ⟨#[], #[.agg #[.slice none 0 0, .int .i64 0, .slice none 0 0, .slice none 0 0]], []⟩ 8 (by kernel_rfl) (by kernel_rfl) (by kernel_rfl) (by kernel_rfl)) ?_
  intro W base args ds gs before hval0 hW hcnd _
  have hval : ∀ (j : Nat) t v, Try.f3.params[j]? = some t → args[j]? = some v → Value.okWide Try.prog W .any base t v := hval0
  have hW0 := hW
  obtain ⟨p, q, hA0, hV, rfl, hfz, hnd⟩ := hW
  have hA : DataW.TrodAll enc Try.prog W 0 (fun _ => true) true Try.f3.params.toList args.toList ds p := hA0
  rw [Try.params3] at hA hval
  obtain ⟨v0, vs0, d0, ds0, p0, q0, ea0, ed0, ep0, h0, hA0⟩ := trodAll_cons hA
  obtain ⟨ea, ed, ep⟩ := trodAll_nil hA0
  have eargs : args = #[v0] := by rw [← Array.toArray_toList (xs := args), ea0, ea]
  have eds : ds = [d0] := by rw [ed0, ed]
  subst eargs eds
  obtain ⟨rfl, rfl⟩ := trodVars_none hV
  obtain ⟨s, Ar, Am, Aw, cr, cm, cw, rfl, hsl, hs⟩ := open_worksT (hval 0 _ _ rfl rfl) h0
  refine (StocksLaw_any s Ar Am Aw cr cm cw W hs).mono fun e W' he => ?_
  obtain ⟨rfl, hb⟩ := he
  exact ⟨_, rfl, post_law rfl hW0 rfl rfl ⟨⟨by kernel_rfl, of_decide_eq_true (by kernel_rfl)⟩, trivial⟩ hb⟩

theorem over : Rows.spillStocksRow.holds Try.pinned (OpenSpec.ofChange Rows.spillStocksSpec) :=
  OpenClaim.holds_of_wide 3 Try.f3 rfl rfl rfl rfl rfl rfl rfl ⟨rfl, rfl, rfl, rfl, rfl⟩ rfl rfl rfl rfl rfl (by kernel_rfl) Try.func3 (by kernel_rfl)
    (of_decide_eq_true (by kernel_rfl)) (by unfold Func.isWrapper; first | (rw [if_pos (by decide +kernel)]; kernel_rfl) | (rw [if_neg (by decide +kernel)]; exact ⟨rfl, rfl⟩))
    (fun os started H enc _ => lifted os started H enc)

/-- the statement. -/
theorem proved : Rows.SpillStocksSaid :=
  over
#print axioms proved
end Go.Proofs.Ythihdiilokdidaa.spillStocks
end

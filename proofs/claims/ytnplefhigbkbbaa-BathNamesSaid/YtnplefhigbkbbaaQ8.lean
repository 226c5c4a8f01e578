/- Bath's laws: wakes (walk). · Bath's reference: In, span, WorksFault, among (walks). · Bath's reference: IsPlan (walk). · Bath's reference: among (walk). · Bath's reference: what Known goes through, step by step (plain). · Bath's reference: Known (walk). · Bath's laws: list, Works (walks). -/
import Derived.Test.YtnplefhigbkbbaaQ7
import Derived.Test.YtnplefhigbkbbaaQ6
set_option linter.unusedVariables false
set_option linter.unusedSimpArgs false
set_option linter.unusedSectionVars false
section
namespace Go.Proofs.Ytnplefhigbkbbaa
open Go.RowKit
attribute [local go_sem] Ex.cell? Ex.frozen?

theorem gR_pair {l : List Rg} {k : Nat} {a b : Int} (h : gR l k = ⟨a, b⟩) : (gR l k).lo = a ∧ (gR l k).hi = b := by rw [h]; exact ⟨rfl, rfl⟩
theorem thr_sm : Sm (thrS []) := (seOk_iff.1 thr_ok).sm
theorem wrg_sm : Sm (thrS [b3]) := (seOk_iff.1 wrg_ok).sm
set_option maxRecDepth 100000 in
set_option maxHeartbeats 12800000 in
theorem wakes_any (w : World) :
    Calls Try.prog 20 #[] w fun e w' => e = .returned (.bool true) ∧ Below w.heap.size w w' := by
  go_enter Try.func20, Try.ntmps20
  have B_w := Below.refl w.heap.size w
  go_wp2_with fail
  refine (three_law [] none 0 w (by simp) (fun h => absurd h (by simp)) (fun x hx => by cases hx)).mono ?_
  rintro e W1 ⟨⟨v1, rfl, hv1⟩, hW1⟩
  have B_W1 := ex_trans B_w hW1
  obtain ⟨Ao1, Ab1, co1, cb1, rA1, rc1, rfl, hs1⟩ := hv1.se
  clear hv1
  rw [show ([] : List Xb).map (·.1) = [] from rfl] at hs1 ⊢
  go_wp2_with fail
  refine (Offsets_any (thrS []) Ao1 Ab1 co1 cb1 rA1 rc1 W1 hs1 thr_sm).mono ?_
  rintro e W2 ⟨⟨Aol, col, ol, evo, rfl, hol, slo⟩, hW2⟩
  have B_W2 := ex_trans B_W1 hW2
  obtain ⟨rfl, lol, go1, go2⟩ := thr_offs hol.out
  clear hol hs1
  go_wp2_with fail
  refine (three_law [] none 0 W2 (by simp) (fun h => absurd h (by simp)) (fun x hx => by cases hx)).mono ?_
  rintro e W3 ⟨⟨v3, rfl, hv3⟩, hW3⟩
  replace slo := (slo.below hW3).up hW3.size
  have B_W3 := ex_trans B_W2 hW3
  obtain ⟨Ao3, Ab3, co3, cb3, rA3, rc3, rfl, hs3⟩ := hv3.se
  clear hv3
  rw [show ([] : List Xb).map (·.1) = [] from rfl] at hs3 ⊢
  go_wp2_with fail
  refine (Heats_any (thrS []) Ao3 Ab3 co3 cb3 rA3 rc3 W3 hs3 thr_sm).mono ?_
  rintro e W4 ⟨⟨Ahl, chl, hl, evh, rfl, hhl, slh⟩, hW4⟩
  replace slo := (slo.below hW4).up hW4.size
  have B_W4 := ex_trans B_W3 hW4
  obtain ⟨rfl, lhl, gh1⟩ := thr_heats hhl.out
  clear hhl hs3
  go_wp2_with fail
  refine (three_law [] none 0 W4 (by simp) (fun h => absurd h (by simp)) (fun x hx => by cases hx)).mono ?_
  rintro e W5 ⟨⟨v5, rfl, hv5⟩, hW5⟩
  replace slo := (slo.below hW5).up hW5.size
  replace slh := (slh.below hW5).up hW5.size
  have B_W5 := ex_trans B_W4 hW5
  obtain ⟨Ao5, Ab5, co5, cb5, rA5, rc5, rfl, hs5⟩ := hv5.se
  clear hv5
  rw [show ([] : List Xb).map (·.1) = [] from rfl] at hs5 ⊢
  go_wp2_with fail
  refine (Diff_any (thrS []) Ao5 Ab5 co5 cb5 rA5 rc5 W5 hs5 thr_sm 2 1).mono ?_
  rintro e W6 ⟨⟨dlo, dhi, evd, rfl, hdd⟩, hW6⟩
  replace slo := (slo.below hW6).up hW6.size
  replace slh := (slh.below hW6).up hW6.size
  have B_W6 := ex_trans B_W5 hW6
  obtain ⟨rfl, rfl, rfl⟩ := thr_diff hdd.out
  clear hdd hs5
  have qd : Blk (W6.alloc (.cells #[.int .i64 (-4), .int .i64 0] 41)) W6.heap.size 41 #[.int .i64 (-4), .int .i64 0] := Blk.new _ _ _
  have hX7 := ex_alloc (Below.refl W6.heap.size W6) (.cells #[.int .i64 (-4), .int .i64 0] 41)
  go_wp2_with fail
  generalize W6.alloc (.cells #[.int .i64 (-4), .int .i64 0] 41) = W7 at *
  replace slo := (slo.below hX7).up hX7.size
  replace slh := (slh.below hX7).up hX7.size
  have B_W7 := ex_trans B_W6 hX7
  refine (wrong_law W7).mono ?_
  rintro e W8 ⟨⟨v8, rfl, hv8⟩, hW8⟩
  replace slo := (slo.below hW8).up hW8.size
  replace slh := (slh.below hW8).up hW8.size
  replace qd := qd.below hW8 qd.lt
  have B_W8 := ex_trans B_W7 hW8
  obtain ⟨Ao8, Ab8, co8, cb8, rA8, rc8, rfl, hs8⟩ := hv8.se
  clear hv8
  go_wp2_with fail
  refine (Blame_any (thrS [b3]) Ao8 Ab8 co8 cb8 rA8 rc8 W8 hs8 wrg_sm).mono ?_
  rintro e W9 ⟨⟨Apl, pl, cpl, Aal, al, cal, evb, rfl, hbl, _, _, slp, sla⟩, hW9⟩
  replace slo := (slo.below hW9).up hW9.size
  replace slh := (slh.below hW9).up hW9.size
  replace qd := qd.below hW9 qd.lt
  have B_W9 := ex_trans B_W8 hW9
  obtain ⟨rfl, rfl, rfl⟩ := wrg_blame hbl.out
  clear hbl hs8
  go_wp2_with fail
  refine (yard_law 3 W9).mono ?_
  rintro e W10 ⟨⟨v10, rfl, Ay, cy, rfl, hy10⟩, hW10⟩
  replace slo := (slo.below hW10).up hW10.size
  replace slh := (slh.below hW10).up hW10.size
  replace qd := qd.below hW10 qd.lt
  replace slp := (slp.below hW10).up hW10.size
  replace sla := (sla.below hW10).up hW10.size
  have B_W10 := ex_trans B_W9 hW10
  go_wp2_with fail
  refine (Plan_any (yardW 3) Ay cy W10 hy10.sl (by decide)).mono ?_
  rintro e W11 ⟨⟨Apn, pn, cpn, rAp, rcp, evp, rfl, hpv, hp6, hpl⟩, hW11⟩
  replace slo := (slo.below hW11).up hW11.size
  replace slh := (slh.below hW11).up hW11.size
  replace qd := qd.below hW11 qd.lt
  replace slp := (slp.below hW11).up hW11.size
  replace sla := (sla.below hW11).up hW11.size
  have B_W11 := ex_trans B_W10 hW11
  obtain ⟨rfl, lpn, hrp⟩ := yard3_plan hpv.out
  have HRP := Lib.hid hrp
  clear hpv hrp hy10
  go_wp2_with fail
  obtain ⟨bp, op, ep, hbp, cp, dp⟩ := IsRgs.at_ slo (k := 1) (by omega)
  rw [(gR_pair go1).1] at cp
  rw [(gR_pair go1).2] at dp
  replace cp : W11.cell? ⟨bp, op + 2, none⟩ = _ := cp
  replace dp : W11.cell? ⟨bp, op + 3, none⟩ = _ := dp
  subst ep
  obtain ⟨bq, oq, eq, hbq, cq, dq⟩ := IsRgs.at_ slo (k := 2) (by omega)
  rw [(gR_pair go2).1] at cq
  rw [(gR_pair go2).2] at dq
  replace cq : W11.cell? ⟨bq, oq + 4, none⟩ = _ := cq
  replace dq : W11.cell? ⟨bq, oq + 5, none⟩ = _ := dq
  injection eq with eq
  injection eq with eq eq'
  subst eq eq'
  obtain ⟨br, or, er, hbr, cr, dr⟩ := IsRgs.at_ slh (k := 1) (by omega)
  rw [(gR_pair gh1).1] at cr
  rw [(gR_pair gh1).2] at dr
  replace cr : W11.cell? ⟨br, or + 2, none⟩ = _ := cr
  replace dr : W11.cell? ⟨br, or + 3, none⟩ = _ := dr
  subst er
  obtain ⟨cd0, cd1⟩ := (⟨qd.cell 0, qd.cell 1⟩ : W11.cell? ⟨W6.heap.size, 0, none⟩ = some (.int .i64 (-4)) ∧ W11.cell? ⟨W6.heap.size, 1, none⟩ = some (.int .i64 0))
  have lqd := qd.lt
  have lpn2 : ((pn.length : Int) == 2) = true := by rw [lpn]; rfl
  have HPN := Lib.hid lpn
  simp only [List.append_eq, List.cons_append, List.nil_append]
  refine wp_region_ext_mix 75 ((false, 0) :: (false, 1) :: (false, 2) :: (false, 3) :: (false, 4) :: (false, 5) :: (false, 6) :: (false, 7) :: (false, 8) :: (false, 9) :: (false, 10) :: (true, 11) :: (false, 12) :: (false, 13) :: (false, 14) :: (false, 15) :: (false, 16) :: (false, 17) :: (true, 18) :: (false, 19) :: (false, 20) :: (false, 21) :: (false, 22) :: (false, 23) :: (false, 24) :: (false, 25) :: (false, 26) :: (false, 27) :: (false, 28) :: (false, 29) :: (false, 30) :: (false, 31) :: (false, 32) :: (false, 33) :: (true, 34) :: (false, 35) :: (false, 36) :: (false, 37) :: (false, 38) :: (false, 39) :: (false, 40) :: (false, 41) :: (false, 42) :: (true, 43) :: (false, 44) :: (false, 45) :: (false, 46) :: (false, 47) :: (false, 48) :: (false, 49) :: (false, 50) :: (false, 51) :: (false, 52) :: (true, 53) :: (true, 54) :: (false, 55) :: (false, 56) :: (false, 57) :: (true, 58) :: (true, 59) :: (false, 60) :: (false, 61) :: (false, 62) :: (false, 63) :: (false, 64) :: (false, 65) :: (false, 66) :: (false, 67) :: (false, 68) :: (false, 69) :: (false, 70) :: (false, 72) :: (true, 71) :: (true, 73) :: (false, 74) :: []) (by kernel_rfl) (by kernel_rfl) (by intro d _ _ _ _ h; cases d <;> exact h) ?_
  have D_W11 := (Below.refl W11.heap.size W11).drew
  obtain ⟨Wd, hWd⟩ : ∃ Wd, W11.drew = Wd := ⟨_, rfl⟩
  rw [hWd] at D_W11 ⊢
  clear hWd
  replace slp := (slp.below D_W11).up D_W11.size
  replace sla := (sla.below D_W11).up D_W11.size
  replace hpl := hpl.below D_W11
  have B_Wd := ex_trans B_W11 D_W11
  repeat (refine mix_quiet rfl ?_; go_big_quiet_step (fail); refine wpQuiet_nil ?_)
  refine mix_loud rfl ?_
  go_wp2_with fail
  refine (between_law 1 5 Wd).mono ?_
  rintro e X1 ⟨rfl, hX1⟩
  replace slp := (slp.below hX1).up hX1.size
  replace sla := (sla.below hX1).up hX1.size
  replace hpl := hpl.below hX1
  have B_X1 := ex_trans B_Wd hX1
  have X_X1 := ex_trans D_W11 hX1
  go_wp2_with fail
  refine ⟨inEx X_X1, ?_⟩
  repeat (refine mix_quiet rfl ?_; go_big_quiet_step (fail); refine wpQuiet_nil ?_)
  refine mix_loud rfl ?_
  go_wp2_with fail
  refine (between_law (-3) 5 X1).mono ?_
  rintro e X2 ⟨rfl, hX2⟩
  replace slp := (slp.below hX2).up hX2.size
  replace sla := (sla.below hX2).up hX2.size
  replace hpl := hpl.below hX2
  have B_X2 := ex_trans B_X1 hX2
  have X_X2 := ex_trans X_X1 hX2
  go_wp2_with fail
  refine ⟨inEx X_X2, ?_⟩
  repeat (refine mix_quiet rfl ?_; go_big_quiet_step (fail); refine wpQuiet_nil ?_)
  refine mix_loud rfl ?_
  go_wp2_with fail
  refine (between_law 246 252 X2).mono ?_
  rintro e X3 ⟨rfl, hX3⟩
  replace slp := (slp.below hX3).up hX3.size
  replace sla := (sla.below hX3).up hX3.size
  replace hpl := hpl.below hX3
  have B_X3 := ex_trans B_X2 hX3
  have X_X3 := ex_trans X_X2 hX3
  go_wp2_with fail
  refine ⟨inEx X_X3, ?_⟩
  repeat (refine mix_quiet rfl ?_; go_big_quiet_step (fail); refine wpQuiet_nil ?_)
  refine mix_loud rfl ?_
  go_wp2_with fail
  refine (between_law (-4) 0 X3).mono ?_
  rintro e X4 ⟨rfl, hX4⟩
  replace slp := (slp.below hX4).up hX4.size
  replace sla := (sla.below hX4).up hX4.size
  replace hpl := hpl.below hX4
  have B_X4 := ex_trans B_X3 hX4
  have X_X4 := ex_trans X_X3 hX4
  go_wp2_with fail
  refine ⟨inEx X_X4, ?_⟩
  repeat (refine mix_quiet rfl ?_; go_big_quiet_step (fail); refine wpQuiet_nil ?_)
  refine mix_loud rfl ?_
  go_wp2_with fail
  have N_X5 := ex_alloc (Below.refl X4.heap.size X4) (.cells #[.int .i64 0, .int .i64 0] 120)
  have np : Blk (X4.alloc (.cells #[.int .i64 0, .int .i64 0] 120)) X4.heap.size 120 #[.int .i64 0, .int .i64 0] := Blk.new _ _ _
  replace slp := (slp.below N_X5).up N_X5.size
  replace sla := (sla.below N_X5).up N_X5.size
  replace hpl := hpl.below N_X5
  have B_X5 := ex_trans B_X4 N_X5
  have X_X5 := ex_trans X_X4 N_X5
  clear N_X5
  generalize X4.alloc (.cells #[.int .i64 0, .int .i64 0] 120) = X5 at *
  refine ⟨inEx X_X5, ?_⟩
  have slq : SlAt X5 X5.heap.size 2 (some ⟨X4.heap.size, 0, none⟩) 1 (fPl [(0, 0)]) := fun _ => ⟨X4.heap.size, 0, rfl, np.lt, fun k j hk hj => by
    obtain rfl : k = 0 := by omega
    rw [np.cell]
    match j, hj with
    | 0, _ => rfl
    | 1, _ => rfl⟩
  refine mix_loud rfl ?_
  go_wp2_with fail
  refine (places_any Apl (some ⟨X4.heap.size, 0, none⟩) cpl 1 [(0, 0)] [(0, 0)] X5 (by simp) slp slq (by simp)).mono ?_
  rintro e X6 ⟨rfl, hX6⟩
  replace slp := (slp.below hX6).up hX6.size
  replace sla := (sla.below hX6).up hX6.size
  replace hpl := hpl.below hX6
  replace np := np.below hX6 np.lt
  have B_X6 := ex_trans B_X5 hX6
  have X_X6 := ex_trans X_X5 hX6
  clear slq
  rw [show placesB [(0, 0)] [(0, 0)] = true from by decide]
  go_wp2_with fail
  refine ⟨inEx X_X6, ?_⟩
  repeat (refine mix_quiet rfl ?_; go_big_quiet_step (fail); refine wpQuiet_nil ?_)
  refine mix_loud rfl ?_
  go_wp2_with fail
  have N_X7 := ex_alloc (Below.refl X6.heap.size X6) (.cells #[.int .i64 0, .int .i64 1, .int .i64 2] 3)
  have ni : Blk (X6.alloc (.cells #[.int .i64 0, .int .i64 1, .int .i64 2] 3)) X6.heap.size 3 #[.int .i64 0, .int .i64 1, .int .i64 2] := Blk.new _ _ _
  replace slp := (slp.below N_X7).up N_X7.size
  replace sla := (sla.below N_X7).up N_X7.size
  replace hpl := hpl.below N_X7
  have B_X7 := ex_trans B_X6 N_X7
  have X_X7 := ex_trans X_X6 N_X7
  clear N_X7
  generalize X6.alloc (.cells #[.int .i64 0, .int .i64 1, .int .i64 2] 3) = X7 at *
  refine ⟨inEx X_X7, ?_⟩
  have sli : SlAt X7 X7.heap.size 1 (some ⟨X6.heap.size, 0, none⟩) 3 (fI [0, 1, 2]) := fun _ => ⟨X6.heap.size, 0, rfl, ni.lt, fun k j hk hj => by
    obtain rfl : j = 0 := by omega
    rw [ni.cell]
    match k, hk with
    | 0, _ => rfl
    | 1, _ => rfl
    | 2, _ => rfl⟩
  refine mix_loud rfl ?_
  go_wp2_with fail
  refine (ints_any Aal (some ⟨X6.heap.size, 0, none⟩) cal 3 (natI [0, 1, 2]) [0, 1, 2] X7 (by decide) sla sli (by simp)).mono ?_
  rintro e X8 ⟨rfl, hX8⟩
  replace slp := (slp.below hX8).up hX8.size
  replace sla := (sla.below hX8).up hX8.size
  replace hpl := hpl.below hX8
  replace ni := ni.below hX8 ni.lt
  have B_X8 := ex_trans B_X7 hX8
  have X_X8 := ex_trans X_X7 hX8
  clear sli
  rw [show intsB (natI [0, 1, 2]) [0, 1, 2] = true from by decide]
  go_wp2_with fail
  refine ⟨inEx X_X8, ?_⟩
  repeat (refine mix_quiet rfl ?_; go_big_quiet_step (fail); refine wpQuiet_nil ?_)
  refine mix_loud rfl ?_
  go_wp2_with fail
  refine (yard_law 3 X8).mono ?_
  rintro e X9 ⟨⟨v12, rfl, Az, cz, rfl, hz12⟩, hX9⟩
  replace hpl := hpl.below hX9
  have B_X9 := ex_trans B_X8 hX9
  have X_X9 := ex_trans X_X8 hX9
  go_wp2_with fail
  refine ⟨inEx X_X9, ?_⟩
  refine mix_loud rfl ?_
  go_wp2_with fail
  have hpp := provePlan_any (yardW 3) Az cz pn Apn cpn rAp rcp X9 hz12.sl (by decide) hpl ⟨by omega, fun k hk => by have := (HRP.out.dips k hk).len; have : (yardW 3).room = 3 := rfl; omega⟩ 2
  rw [HPN.out] at hpp
  refine hpp.mono ?_
  rintro e XA ⟨x, rfl, hx, hXA⟩
  replace hpl := hpl.below hXA
  have B_XA := ex_trans B_X9 hXA
  have X_XA := ex_trans X_X9 hXA
  have hxt : x = true := hx.out.2 ⟨yard_ok (by omega), HRP.out, by rw [HPN.out]; decide⟩
  subst hxt
  clear hx hpp
  go_wp2_with fail
  refine ⟨inEx X_XA, ?_⟩
  repeat (refine mix_quiet rfl ?_; go_big_quiet_step (fail); refine wpQuiet_nil ?_)
  refine mix_nil rfl ?_
  go_wp2
  go_ret
  exact ⟨rfl, B_XA⟩
end Go.Proofs.Ytnplefhigbkbbaa
end

section
namespace Go.Proofs.Ytnplefhigbkbbaa
open Go.RowKit
attribute [local go_sem] Ex.cell? Ex.frozen?

theorem In_any (n lo hi : Int) (w : World) :
    Calls Try.prog 28 #[.int .i64 n, .int .i64 lo, .int .i64 hi] w fun e w' => e = .returned (.bool (inB n lo hi)) ∧ w = w' := by
  by_cases h1 : lo ≤ n
  · by_cases h2 : n ≤ hi
    · go_enter Try.func28, Try.ntmps28
      go_wp2
      go_ret
      simp [inB, h1, h2]
    · have h2' : decide (n ≤ hi) = false := by simpa using h2
      go_enter Try.func28, Try.ntmps28
      go_wp2
      go_ret
      simp [inB, h1, h2]
  · have h1' : decide (lo ≤ n) = false := by simpa using h1
    go_enter Try.func28, Try.ntmps28
    go_wp2
    go_ret
    exact ⟨by rw [inB, h1']; rfl, rfl⟩
set_option maxRecDepth 100000 in
theorem span_ref (lo hi low high : Int) (w : World) :
    Calls Try.prog 84 #[.agg #[.int .i64 lo, .int .i64 hi], .int .i64 low, .int .i64 high] w fun e w' => e = .returned (.bool (spanB ⟨lo, hi⟩ low high)) ∧ Below w.heap.size w w' := by
  have hb1 := ex_alloc (Below.refl w.heap.size w) (.cells #[.int .i64 lo, .int .i64 hi] 46)
  cases h1 : inB lo low hi
  · have H1 := Lib.hid h1
    have HR : Hid (spanB ⟨lo, hi⟩ low high = false) := Lib.hid (by
      cases hs : spanB ⟨lo, hi⟩ low high
      · rfl
      · have := spanB_iff.1 hs
        rw [inB_iff.2 ⟨this.1, this.2.1⟩] at h1; cases h1)
    clear h1
    go_enter Try.func84, Try.ntmps84
    go_wp2_with fail
    refine (In_any _ _ _ _).mono ?_
    rintro e w' ⟨rfl, rfl⟩
    rw [H1.out]
    go_wp2
    go_ret
    exact ⟨ret_bool HR.out.symm, hb1⟩
  · have H1 := Lib.hid h1
    have HR : Hid (spanB ⟨lo, hi⟩ low high = decide (hi ≤ high)) := Lib.hid (by
      have h2 := inB_iff.1 h1
      unfold spanB
      simp [h2.1, h2.2])
    clear h1
    go_enter Try.func84, Try.ntmps84
    go_wp2_with fail
    refine (In_any _ _ _ _).mono ?_
    rintro e w' ⟨rfl, rfl⟩
    rw [H1.out]
    go_wp2
    go_ret
    exact ⟨ret_bool HR.out.symm, hb1⟩
set_option maxRecDepth 100000 in
set_option maxHeartbeats 3200000 in
theorem worksFault_any (w0 : Wo) (Ar : Option Addr) (cr : Nat) (w : World) (hr : SlAt w w.heap.size 2 Ar w0.rng.length (fR w0.rng)) (hn : w0.rng.length ≤ 1000000) :
    Calls Try.prog 42 #[.agg #[.slice Ar w0.rng.length cr, .int .i64 w0.room, .int .i64 w0.steps]] w fun e w' => e = .returned (.int .i64 (ckWo w0)) ∧ Below w.heap.size w w' := by
  have hb1 := ex_alloc (Below.refl w.heap.size w) (.cells #[.slice Ar w0.rng.length cr, .int .i64 w0.room, .int .i64 w0.steps] 60)
  have q1 : Blk (w.alloc (.cells #[.slice Ar w0.rng.length cr, .int .i64 w0.room, .int .i64 w0.steps] 60)) w.heap.size 60 #[.slice Ar w0.rng.length cr, .int .i64 w0.room, .int .i64 w0.steps] := Blk.new _ _ _
  by_cases h1 : 6 < w0.rng.length
  · have HR : Hid (ckWo w0 = 3) := Lib.hid (by unfold ckWo; rw [if_pos h1])
    have d1 : decide ((6 : Int) < (w0.rng.length : Int)) = true := decide_eq_true (by omega)
    go_enter Try.func42, Try.ntmps42
    go_wp2
    go_ret
    exact ⟨ret_int HR.out.symm, hb1⟩
  have d1 : decide ((6 : Int) < (w0.rng.length : Int)) = false := decide_eq_false (by omega)
  by_cases h3 : w0.rng.length = 0
  · have HR : Hid (ckWo w0 = 1) := Lib.hid (by unfold ckWo; rw [if_neg h1, if_pos (.inl h3)])
    have c1 : (w0.rng.length == 0) = true := by simp [h3]
    have c2 : ((w0.rng.length : Int) == 0) = true := by simp [h3]
    clear h3
    go_enter Try.func42, Try.ntmps42
    go_wp2
    go_ret
    exact ⟨ret_int HR.out.symm, hb1⟩
  have c1 : (w0.rng.length == 0) = false := by simp [h3]
  have c2 : ((w0.rng.length : Int) == 0) = false := by rw [beq_eq_false_iff_ne]; omega
  have H1 := Lib.hid h1
  have H3 := Lib.hid h3
  cases h5 : inB w0.room 2 6
  · have HR : Hid (ckWo w0 = 1) := Lib.hid (by
      unfold ckWo
      rw [if_neg h1, if_pos (.inr (.inr (.inl (fun k => by rw [inB_iff.2 k] at h5; cases h5))))])
    have H5 := Lib.hid h5
    clear h5
    go_enter Try.func42, Try.ntmps42
    go_wp2_with fail
    refine (In_any _ _ _ _).mono ?_
    rintro e w' ⟨rfl, rfl⟩
    rw [H5.out]
    go_wp2
    go_ret
    exact ⟨ret_int HR.out.symm, hb1⟩
  have H5 := Lib.hid h5
  clear h5
  cases h6 : inB w0.steps 1 4
  · have HR : Hid (ckWo w0 = 1) := Lib.hid (by
      unfold ckWo
      rw [if_neg h1, if_pos (.inr (.inr (.inr (fun k => by rw [inB_iff.2 k] at h6; cases h6))))])
    have H6 := Lib.hid h6
    clear h6
    go_enter Try.func42, Try.ntmps42
    go_wp2_with fail
    refine (In_any _ _ _ _).mono ?_
    rintro e w' ⟨rfl, rfl⟩
    rw [H5.out]
    go_wp2_with fail
    refine (In_any _ _ _ _).mono ?_
    rintro e w' ⟨rfl, rfl⟩
    rw [H6.out]
    go_wp2
    go_ret
    exact ⟨ret_int HR.out.symm, hb1⟩
  have H6 := Lib.hid h6
  clear h6
  go_enter Try.func42, Try.ntmps42
  go_wp2_with fail
  refine (In_any _ _ _ _).mono ?_
  rintro e w' ⟨rfl, rfl⟩
  rw [H5.out]
  go_wp2_with fail
  refine (In_any _ _ _ _).mono ?_
  rintro e w' ⟨rfl, rfl⟩
  rw [H6.out]
  go_wp2_with fail
  generalize w.alloc (.cells #[.slice Ar w0.rng.length cr, .int .i64 w0.room, .int .i64 w0.steps] 60) = V at *
  refine wp_loop (fun a W => Rel (fun a W => ∃ k : Nat, k ≤ w0.rng.length ∧ Below w.heap.size w W ∧ Blk W w.heap.size 60 #[.slice Ar w0.rng.length cr, .int .i64 w0.room, .int .i64 w0.steps] ∧ Hid (∀ j, j < k → spanB (gR w0.rng j) 0 1000 = true) ∧ ∃ u : Nat → Value, a = ⟨List.toArray (u 0 :: .pointer (some ⟨w.heap.size, 0, none⟩) :: u 2 :: .int .i64 (k : Int) :: u 4 :: u 5 :: u 6 :: u 7 :: u 8 :: u 9 :: u 10 :: u 11 :: u 12 :: u 13 :: u 14 :: u 15 :: u 16 :: u 17 :: u 18 :: u 19 :: u 20 :: u 21 :: u 22 :: u 23 :: u 24 :: u 25 :: u 26 :: u 27 :: u 28 :: u 29 :: u 30 :: u 31 :: u 32 :: u 33 :: u 34 :: u 35 :: u 36 :: u 37 :: []), []⟩) a W)
    (fun a _ => w0.rng.length - (intOf (a.tmps.getD 3 undef)).toNat) ⟨⟨0, by omega, hb1, q1, Lib.hid (fun j hj => by omega), exFrame (by kernel_rfl)⟩⟩ ?_
  clear hb1 q1
  rintro a W ⟨⟨k, hk, hbl, q0, HO, u, rfl⟩⟩
  have l0 := q0.lt
  by_cases hlt : k < w0.rng.length
  rotate_left
  · have HR : Hid (ckWo w0 = 0) := Lib.hid (by
      unfold ckWo
      rw [if_neg H1.out, if_neg]
      rintro (h | h | h | h)
      · exact H3.out h
      · have : heatsB w0.rng = true := allTo_iff.2 (fun j hj => HO.out j (by omega))
        rw [this] at h; cases h
      · exact h (inB_iff.1 H5.out)
      · exact h (inB_iff.1 H6.out))
    have a0 : W.cell? ⟨w.heap.size, 0, none⟩ = some (.slice Ar w0.rng.length cr) := q0.cell 0
    obtain rfl : k = w0.rng.length := by omega
    go_wp2
    go_ret
    exact ⟨ret_int HR.out.symm, hbl⟩
  obtain ⟨br, orr, rfl, hbr, r0, r1⟩ := IsRgs.at_ (hr.below hbl) hlt
  have lbr : br < W.heap.size := by have := hbl.size; omega
  have a0 : W.cell? ⟨w.heap.size, 0, none⟩ = some (.slice (some ⟨br, orr, none⟩) w0.rng.length cr) := q0.cell 0
  cases hsp : spanB (gR w0.rng k) 0 1000
  · have HR : Hid (ckWo w0 = 1) := Lib.hid (by
      unfold ckWo
      rw [if_neg H1.out, if_pos (.inr (.inl (allTo_false hlt hsp)))])
    have HS := Lib.hid hsp
    clear hsp
    go_wp2_with fail
    refine (span_ref (gR w0.rng k).lo (gR w0.rng k).hi 0 1000 W).mono ?_
    rintro e W2 ⟨rfl, hX⟩
    rw [HS.out]
    go_wp2
    go_ret
    exact ⟨ret_int HR.out.symm, ex_trans hbl hX⟩
  · have HO2 : Hid (∀ j, j < k + 1 → spanB (gR w0.rng j) 0 1000 = true) := Lib.hid (fun j hj => by
      rcases Nat.lt_succ_iff_lt_or_eq.1 hj with h | h
      · exact HO.out j h
      · rw [h]; exact hsp)
    have HS := Lib.hid hsp
    clear hsp
    go_wp2_with fail
    refine (span_ref (gR w0.rng k).lo (gR w0.rng k).hi 0 1000 W).mono ?_
    rintro e W2 ⟨rfl, hX⟩
    rw [HS.out]
    clear a0 r0 r1
    go_wp2_with fail
    refine ⟨⟨⟨k + 1, by omega, ex_trans hbl hX, q0.below hX l0, HO2, exFrame (by kernel_rfl)⟩⟩, ?_⟩
    show w0.rng.length - (intOf (.int .i64 ((k : Int) + 1))).toNat < w0.rng.length - (intOf (.int .i64 (k : Int))).toNat
    simp [intOf]
    omega
end Go.Proofs.Ytnplefhigbkbbaa
end

section
namespace Go.Proofs.Ytnplefhigbkbbaa
open Go.RowKit
attribute [local go_sem] Ex.cell? Ex.frozen?

set_option maxRecDepth 100000 in
set_option maxHeartbeats 12800000 in
theorem isPlan_any (w0 : Wo) (Ar : Option Addr) (cr : Nat) (p : List Dp) (Ap : Option Addr) (cp : Nat) (rA : Nat → Option Addr) (rc : Nat → Nat) (w : World) (hr : SlAt w w.heap.size 2 Ar w0.rng.length (fR w0.rng)) (hn : w0.rng.length ≤ 1000000) (hp : PlIn w w.heap.size p Ap rA rc) (hsm : SmPl p) :
    Calls Try.prog 43 #[.agg #[.slice Ar w0.rng.length cr, .int .i64 w0.room, .int .i64 w0.steps], .slice Ap p.length cp] w fun e w' => e = .returned (.bool (planB w0 p)) ∧ Below w.heap.size w w' := by
  have hpl := hsm.len
  have hb1 := ex_alloc (Below.refl w.heap.size w) (.cells #[.slice Ar w0.rng.length cr, .int .i64 w0.room, .int .i64 w0.steps] 60)
  have q1 : Blk (w.alloc (.cells #[.slice Ar w0.rng.length cr, .int .i64 w0.room, .int .i64 w0.steps] 60)) w.heap.size 60 #[.slice Ar w0.rng.length cr, .int .i64 w0.room, .int .i64 w0.steps] := Blk.new _ _ _
  go_enter Try.func43, Try.ntmps43
  go_wp2_with fail
  generalize w.alloc (.cells #[.slice Ar w0.rng.length cr, .int .i64 w0.room, .int .i64 w0.steps] 60) = V at *
  refine wp_loop (fun a W => Rel (fun a W => ∃ k : Nat, k ≤ p.length ∧ Below w.heap.size w W ∧ Blk W w.heap.size 60 #[.slice Ar w0.rng.length cr, .int .i64 w0.room, .int .i64 w0.steps] ∧ Hid (∀ j, j < k → dipB w0 (gDp p j) = true) ∧ ∃ u : Nat → Value, a = ⟨List.toArray (u 0 :: .slice Ap p.length cp :: .pointer (some ⟨w.heap.size, 0, none⟩) :: u 3 :: u 4 :: .int .i64 (k : Int) :: u 6 :: u 7 :: u 8 :: u 9 :: u 10 :: u 11 :: u 12 :: u 13 :: u 14 :: u 15 :: u 16 :: u 17 :: u 18 :: u 19 :: u 20 :: u 21 :: u 22 :: u 23 :: u 24 :: u 25 :: u 26 :: u 27 :: u 28 :: u 29 :: u 30 :: u 31 :: u 32 :: u 33 :: u 34 :: u 35 :: u 36 :: u 37 :: u 38 :: u 39 :: u 40 :: u 41 :: u 42 :: u 43 :: u 44 :: u 45 :: u 46 :: u 47 :: u 48 :: u 49 :: u 50 :: u 51 :: u 52 :: u 53 :: u 54 :: u 55 :: u 56 :: u 57 :: u 58 :: u 59 :: u 60 :: u 61 :: u 62 :: u 63 :: u 64 :: u 65 :: u 66 :: u 67 :: u 68 :: u 69 :: u 70 :: u 71 :: u 72 :: u 73 :: u 74 :: u 75 :: u 76 :: []), []⟩) a W)
    (fun a _ => p.length - (intOf (a.tmps.getD 5 undef)).toNat) ⟨⟨0, by omega, hb1, q1, Lib.hid (fun j hj => by omega), exFrame (by kernel_rfl)⟩⟩ ?_
  clear hb1 q1
  rintro a W ⟨⟨k, hk, hbl, q0, HK, u, rfl⟩⟩
  by_cases hlt : k < p.length
  rotate_left
  · have HR : Hid (planB w0 p = true) := Lib.hid (allTo_iff.2 (fun j hj => HK.out j (by omega)))
    obtain rfl : k = p.length := by omega
    go_wp2
    go_ret
    exact ⟨ret_bool HR.out.symm, hbl⟩
  have hpW := hp.below hbl
  obtain ⟨bd, od, rfl, hbd, g0, g1⟩ := hpW.at_ hlt
  have hdW := hpW.ins k hlt
  have hlk := hsm.ins k hlt
  have HPF : Hid (dipB w0 (gDp p k) = false → planB w0 p = false) := Lib.hid (fun h => allTo_false hlt h)
  have HK2 : Hid (dipB w0 (gDp p k) = true → ∀ j, j < k + 1 → dipB w0 (gDp p j) = true) := Lib.hid (fun h j hj => by
    rcases Nat.lt_succ_iff_lt_or_eq.1 hj with h2 | h2
    · exact HK.out j h2
    · rw [h2]; exact h)
  generalize gDp p k = d at *
  obtain ⟨Ad, hAd⟩ : ∃ Ad, rA k = Ad := ⟨_, rfl⟩
  obtain ⟨cd, hcd⟩ : ∃ cd, rc k = cd := ⟨_, rfl⟩
  rw [hAd] at g1 hdW
  rw [hcd] at g1
  clear hAd hcd hpW
  have hX := ex_alloc (Below.refl W.heap.size W) (.cells #[.int .i64 d.heat, .slice Ad d.ins.length cd] 104)
  have d2 : Blk (W.alloc (.cells #[.int .i64 d.heat, .slice Ad d.ins.length cd] 104)) W.heap.size 104 #[.int .i64 d.heat, .slice Ad d.ins.length cd] := Blk.new _ _ _
  have hb2 := ex_trans hbl hX
  have q2 := q0.below hX q0.lt
  have hd2 := (hdW.below hX).up hX.size
  have a1 : W.cell? ⟨w.heap.size, 1, none⟩ = some (.int .i64 w0.room) := q0.cell 1
  have l0 := q0.lt
  cases hln : inB (d.ins.length : Int) 2 w0.room
  · have HLN := Lib.hid hln
    have HF : Hid (planB w0 p = false) := Lib.hid (HPF.out (by unfold dipB; rw [hln]; rfl))
    clear hln
    go_wp2_with fail
    refine (In_any _ _ _ _).mono ?_
    rintro e w' ⟨rfl, rfl⟩
    rw [HLN.out]
    go_wp2
    go_ret
    exact ⟨ret_bool HF.out.symm, hb2⟩
  have HLN := Lib.hid hln
  clear hln
  go_wp2_with fail
  refine (In_any _ _ _ _).mono ?_
  rintro e w' ⟨rfl, rfl⟩
  rw [HLN.out]
  go_wp2_with fail
  generalize W.alloc (.cells #[.int .i64 d.heat, .slice Ad d.ins.length cd] 104) = V2 at *
  obtain ⟨qd, hqd⟩ : ∃ qd, W.heap.size = qd := ⟨_, rfl⟩
  rw [hqd] at d2 ⊢
  clear hqd hX hbl q0 a1 l0 g0 g1 hdW
  refine wp_loop (fun a W => Rel (fun a W => ∃ i : Nat, i ≤ d.ins.length ∧ Below V2.heap.size V2 W ∧ Blk W w.heap.size 60 #[.slice Ar w0.rng.length cr, .int .i64 w0.room, .int .i64 w0.steps] ∧ Blk W qd 104 #[.int .i64 d.heat, .slice Ad d.ins.length cd] ∧ Hid (∀ j, j < i → inOk w0 d j = true) ∧ ∃ u : Nat → Value, a = ⟨List.toArray (u 0 :: .slice (some ⟨bd, od, none⟩) p.length cp :: .pointer (some ⟨w.heap.size, 0, none⟩) :: u 3 :: u 4 :: .int .i64 (k : Int) :: .pointer (some ⟨qd, 0, none⟩) :: .int .i64 (i : Int) :: u 8 :: u 9 :: u 10 :: u 11 :: u 12 :: u 13 :: u 14 :: u 15 :: u 16 :: u 17 :: u 18 :: u 19 :: u 20 :: u 21 :: u 22 :: u 23 :: u 24 :: u 25 :: u 26 :: u 27 :: u 28 :: u 29 :: u 30 :: u 31 :: u 32 :: u 33 :: u 34 :: u 35 :: u 36 :: u 37 :: u 38 :: u 39 :: u 40 :: u 41 :: u 42 :: u 43 :: u 44 :: u 45 :: u 46 :: u 47 :: u 48 :: u 49 :: u 50 :: u 51 :: u 52 :: u 53 :: u 54 :: u 55 :: u 56 :: u 57 :: u 58 :: u 59 :: u 60 :: u 61 :: u 62 :: u 63 :: u 64 :: u 65 :: u 66 :: u 67 :: u 68 :: u 69 :: u 70 :: u 71 :: u 72 :: u 73 :: u 74 :: u 75 :: u 76 :: []), []⟩) a W)
    (fun a _ => d.ins.length - (intOf (a.tmps.getD 7 undef)).toNat) ⟨⟨0, by omega, Below.refl _ _, q2, d2, Lib.hid (fun j hj => by omega), exFrame (by kernel_rfl)⟩⟩ ?_
  clear q2 d2
  rintro a W ⟨⟨i, hi, hbV, q0, q1, HO, u, rfl⟩⟩
  have hbl := ex_trans hb2 hbV
  have hws := hbl.size
  have l0 := q0.lt
  have l1 := q1.lt
  by_cases hli : i < d.ins.length
  rotate_left
  · have HD : Hid (dipB w0 d = true) := Lib.hid (by unfold dipB; rw [HLN.out, Bool.true_and]; exact allTo_iff.2 (fun j hj => HO.out j (by omega)))
    have HK3 := Lib.hid (HK2.out HD.out)
    have b1 : W.cell? ⟨qd, 1, none⟩ = some (.slice Ad d.ins.length cd) := q1.cell 1
    obtain rfl : i = d.ins.length := by omega
    go_wp2_with fail
    refine ⟨⟨⟨k + 1, by omega, hbl, q0, HK3, exFrame (by kernel_rfl)⟩⟩, ?_⟩
    show p.length - (intOf (.int .i64 ((k : Int) + 1))).toNat < p.length - (intOf (.int .i64 (k : Int))).toNat
    simp [intOf]
    omega
  have hdI := (hd2.below hbV).up hbV.size
  obtain ⟨bi, oi, rfl, hbi, e0⟩ := IsInts.at_ hdI hli
  have a0 : W.cell? ⟨w.heap.size, 0, none⟩ = some (.slice Ar w0.rng.length cr) := q0.cell 0
  have b0 : W.cell? ⟨qd, 0, none⟩ = some (.int .i64 d.heat) := q1.cell 0
  have b1 : W.cell? ⟨qd, 1, none⟩ = some (.slice (some ⟨bi, oi, none⟩) d.ins.length cd) := q1.cell 1
  have HIN : Hid (inOk w0 d i = (inB (gI d.ins i) 0 ((w0.rng.length : Int) - 1) && (!(decide (0 < i) && decide (gI d.ins i ≤ gI d.ins (i - 1))) && inB d.heat (gR w0.rng (gI d.ins i).toNat).lo (gR w0.rng (gI d.ins i).toNat).hi))) := Lib.hid rfl
  have HFF : Hid (inOk w0 d i = false → planB w0 p = false) := Lib.hid (fun h => HPF.out (by unfold dipB; rw [allTo_false hli h, Bool.and_false]))
  have HOK : Hid ((inOk w0 d i = true) → ∀ j, j < i + 1 → inOk w0 d j = true) := Lib.hid (fun h j hj => by
    rcases Nat.lt_succ_iff_lt_or_eq.1 hj with h2 | h2
    · exact HO.out j h2
    · subst h2; exact h)
  have wn : IntKind.i64.wrap ((w0.rng.length : Int) - 1) = (w0.rng.length : Int) - 1 := IntWalk.i64_in _ (by omega)
  obtain ⟨iv, hiv⟩ : ∃ iv, gI d.ins i = iv := ⟨_, rfl⟩
  rw [hiv] at e0 HIN
  clear hiv
  cases h1 : inB iv 0 ((w0.rng.length : Int) - 1)
  · have H1 := Lib.hid h1
    have HF : Hid (planB w0 p = false) := Lib.hid (HFF.out (by rw [HIN.out, h1]; rfl))
    clear h1
    go_wp2_with fail
    refine wp_region_ext_mix 38 [(false, 0), (false, 1), (false, 2), (false, 3), (false, 4), (true, 5), (false, 6), (false, 7), (false, 8), (false, 9), (false, 10), (false, 11), (false, 12), (false, 13), (false, 14), (false, 15), (false, 16), (false, 17), (false, 18), (false, 19), (false, 20), (false, 21), (false, 22), (false, 23), (false, 24), (false, 25), (false, 26), (false, 27), (false, 28), (false, 29), (false, 30), (false, 31), (false, 32), (false, 33), (false, 34), (false, 35), (true, 36), (false, 37)] (by kernel_rfl) (by kernel_rfl) (by intro d _ _ _ _ h; cases d <;> exact h) ?_
    have hX0 := (Below.refl W.heap.size W).drew
    repeat (refine mix_quiet rfl ?_; go_big_quiet_step (fail); refine wpQuiet_nil ?_)
    refine mix_loud rfl ?_
    go_wp2_with fail
    refine (In_any _ _ _ _).mono ?_
    rintro e w' ⟨rfl, rfl⟩
    rw [H1.out]
    go_wp2_with fail
    refine ⟨inEx hX0, ?_⟩
    repeat (refine mix_quiet rfl ?_; go_big_quiet_step (fail); refine wpQuiet_nil ?_)
    refine mix_loud rfl ?_
    go_wp2_with fail
    refine ⟨inEx hX0, ?_⟩
    repeat (refine mix_quiet rfl ?_; go_big_quiet_step (fail); refine wpQuiet_nil ?_)
    refine mix_nil rfl ?_
    go_wp2
    go_ret
    exact ⟨ret_bool HF.out.symm, ex_trans hbl hX0⟩

  have H1 := Lib.hid h1
  obtain ⟨i0', i1'⟩ := inB_iff.1 h1
  obtain ⟨n, rfl⟩ : ∃ n : Nat, iv = (n : Int) := ⟨iv.toNat, by omega⟩
  have hin : n < w0.rng.length := by omega
  rw [Int.toNat_natCast] at HIN
  obtain ⟨br, orr, rfl, hbr, r0, r1⟩ := IsRgs.at_ (hr.below hbl) hin
  have lbr : br < W.heap.size := by omega
  obtain ⟨lo, hlo⟩ : ∃ lo, (gR w0.rng n).lo = lo := ⟨_, rfl⟩
  obtain ⟨hi', hhi⟩ : ∃ hi, (gR w0.rng n).hi = hi := ⟨_, rfl⟩
  rw [hlo] at r0 HIN
  rw [hhi] at r1 HIN
  clear h1 hlo hhi i0' i1'
  rcases Nat.eq_zero_or_pos i with hk0 | hk0
  · have HI2 : Hid (inOk w0 d i = inB d.heat lo hi') := Lib.hid (by rw [HIN.out, H1.out, hk0]; rfl)
    have d0 : decide ((0 : Int) < (i : Int)) = false := decide_eq_false (by omega)
    have d0' : decide (0 < i) = false := decide_eq_false (by omega)
    clear hk0
    cases h3 : inB d.heat lo hi'
    · have H3 := Lib.hid h3
      have HF : Hid (planB w0 p = false) := Lib.hid (HFF.out (by rw [HI2.out, h3]))
      clear h3
      go_wp2_with fail
      refine wp_region_ext_mix 38 [(false, 0), (false, 1), (false, 2), (false, 3), (false, 4), (true, 5), (false, 6), (false, 7), (false, 8), (false, 9), (false, 10), (false, 11), (false, 12), (false, 13), (false, 14), (false, 15), (false, 16), (false, 17), (false, 18), (false, 19), (false, 20), (false, 21), (false, 22), (false, 23), (false, 24), (false, 25), (false, 26), (false, 27), (false, 28), (false, 29), (false, 30), (false, 31), (false, 32), (false, 33), (false, 34), (false, 35), (true, 36), (false, 37)] (by kernel_rfl) (by kernel_rfl) (by intro d _ _ _ _ h; cases d <;> exact h) ?_
      have hX0 := (Below.refl W.heap.size W).drew
      repeat (refine mix_quiet rfl ?_; go_big_quiet_step (fail); refine wpQuiet_nil ?_)
      refine mix_loud rfl ?_
      go_wp2_with fail
      refine (In_any _ _ _ _).mono ?_
      rintro e w' ⟨rfl, rfl⟩
      rw [H1.out]
      go_wp2_with fail
      refine ⟨inEx hX0, ?_⟩
      repeat (refine mix_quiet rfl ?_; go_big_quiet_step (fail); refine wpQuiet_nil ?_)
      refine mix_loud rfl ?_
      go_wp2_with fail
      refine (In_any _ _ _ _).mono ?_
      rintro e w' ⟨rfl, rfl⟩
      rw [H3.out]
      go_wp2_with fail
      refine ⟨inEx hX0, ?_⟩
      repeat (refine mix_quiet rfl ?_; go_big_quiet_step (fail); refine wpQuiet_nil ?_)
      refine mix_nil rfl ?_
      go_wp2
      go_ret
      exact ⟨ret_bool HF.out.symm, ex_trans hbl hX0⟩

    · have H3 := Lib.hid h3
      have HO2 := Lib.hid (HOK.out (by rw [HI2.out, h3]))
      clear h3
      go_wp2_with fail
      refine wp_region_ext_mix 38 [(false, 0), (false, 1), (false, 2), (false, 3), (false, 4), (true, 5), (false, 6), (false, 7), (false, 8), (false, 9), (false, 10), (false, 11), (false, 12), (false, 13), (false, 14), (false, 15), (false, 16), (false, 17), (false, 18), (false, 19), (false, 20), (false, 21), (false, 22), (false, 23), (false, 24), (false, 25), (false, 26), (false, 27), (false, 28), (false, 29), (false, 30), (false, 31), (false, 32), (false, 33), (false, 34), (false, 35), (true, 36), (false, 37)] (by kernel_rfl) (by kernel_rfl) (by intro d _ _ _ _ h; cases d <;> exact h) ?_
      have hX0 := (Below.refl W.heap.size W).drew
      repeat (refine mix_quiet rfl ?_; go_big_quiet_step (fail); refine wpQuiet_nil ?_)
      refine mix_loud rfl ?_
      go_wp2_with fail
      refine (In_any _ _ _ _).mono ?_
      rintro e w' ⟨rfl, rfl⟩
      rw [H1.out]
      go_wp2_with fail
      refine ⟨inEx hX0, ?_⟩
      repeat (refine mix_quiet rfl ?_; go_big_quiet_step (fail); refine wpQuiet_nil ?_)
      refine mix_loud rfl ?_
      go_wp2_with fail
      refine (In_any _ _ _ _).mono ?_
      rintro e w' ⟨rfl, rfl⟩
      rw [H3.out]
      go_wp2_with fail
      refine ⟨inEx hX0, ?_⟩
      repeat (refine mix_quiet rfl ?_; go_big_quiet_step (fail); refine wpQuiet_nil ?_)
      refine mix_nil rfl ?_
      go_wp2_with fail
      refine ⟨⟨⟨i + 1, by omega, ex_trans hbV hX0, q0.below hX0 l0, q1.below hX0 l1, HO2, exFrame (by kernel_rfl)⟩⟩, ?_⟩
      show d.ins.length - (intOf (.int .i64 ((i : Int) + 1))).toNat < d.ins.length - (intOf (.int .i64 (i : Int))).toNat
      simp [intOf]
      omega

  · obtain ⟨j, hjk⟩ : ∃ j, j = i - 1 := ⟨_, rfl⟩
    have hjn : j < d.ins.length := by omega
    have wj : IntKind.i64.wrap ((i : Int) - 1) = (j : Int) := by rw [IntWalk.i64_in _ (by omega)]; omega
    obtain ⟨bd', od', hAd', _, gj⟩ := IsInts.at_ hdI hjn
    injection hAd' with hAd'
    injection hAd' with hA1 hA2
    subst hA1 hA2
    have d0 : decide ((0 : Int) < (i : Int)) = true := decide_eq_true (by omega)
    have d0' : decide (0 < i) = true := decide_eq_true hk0
    rw [d0', ← hjk, Bool.true_and] at HIN
    obtain ⟨pv, hpv⟩ : ∃ pv, gI d.ins j = pv := ⟨_, rfl⟩
    rw [hpv] at gj HIN
    clear hpv hjk hk0
    by_cases h2 : (n : Int) ≤ pv
    · have HF : Hid (planB w0 p = false) := Lib.hid (HFF.out (by rw [HIN.out, H1.out, decide_eq_true h2]; rfl))
      have e2 : decide ((n : Int) ≤ pv) = true := decide_eq_true h2
      clear h2
      go_wp2_with fail
      refine wp_region_ext_mix 38 [(false, 0), (false, 1), (false, 2), (false, 3), (false, 4), (true, 5), (false, 6), (false, 7), (false, 8), (false, 9), (false, 10), (false, 11), (false, 12), (false, 13), (false, 14), (false, 15), (false, 16), (false, 17), (false, 18), (false, 19), (false, 20), (false, 21), (false, 22), (false, 23), (false, 24), (false, 25), (false, 26), (false, 27), (false, 28), (false, 29), (false, 30), (false, 31), (false, 32), (false, 33), (false, 34), (false, 35), (true, 36), (false, 37)] (by kernel_rfl) (by kernel_rfl) (by intro d _ _ _ _ h; cases d <;> exact h) ?_
      have hX0 := (Below.refl W.heap.size W).drew
      repeat (refine mix_quiet rfl ?_; go_big_quiet_step (fail); refine wpQuiet_nil ?_)
      refine mix_loud rfl ?_
      go_wp2_with fail
      refine (In_any _ _ _ _).mono ?_
      rintro e w' ⟨rfl, rfl⟩
      rw [H1.out]
      go_wp2_with fail
      refine ⟨inEx hX0, ?_⟩
      repeat (refine mix_quiet rfl ?_; go_big_quiet_step (fail); refine wpQuiet_nil ?_)
      refine mix_loud rfl ?_
      go_wp2_with fail
      refine ⟨inEx hX0, ?_⟩
      repeat (refine mix_quiet rfl ?_; go_big_quiet_step (fail); refine wpQuiet_nil ?_)
      refine mix_nil rfl ?_
      go_wp2
      go_ret
      exact ⟨ret_bool HF.out.symm, ex_trans hbl hX0⟩

    have e2 : decide ((n : Int) ≤ pv) = false := decide_eq_false h2
    have HI2 : Hid (inOk w0 d i = inB d.heat lo hi') := Lib.hid (by rw [HIN.out, H1.out, e2]; rfl)
    clear h2
    cases h3 : inB d.heat lo hi'
    · have H3 := Lib.hid h3
      have HF : Hid (planB w0 p = false) := Lib.hid (HFF.out (by rw [HI2.out, h3]))
      clear h3
      go_wp2_with fail
      refine wp_region_ext_mix 38 [(false, 0), (false, 1), (false, 2), (false, 3), (false, 4), (true, 5), (false, 6), (false, 7), (false, 8), (false, 9), (false, 10), (false, 11), (false, 12), (false, 13), (false, 14), (false, 15), (false, 16), (false, 17), (false, 18), (false, 19), (false, 20), (false, 21), (false, 22), (false, 23), (false, 24), (false, 25), (false, 26), (false, 27), (false, 28), (false, 29), (false, 30), (false, 31), (false, 32), (false, 33), (false, 34), (false, 35), (true, 36), (false, 37)] (by kernel_rfl) (by kernel_rfl) (by intro d _ _ _ _ h; cases d <;> exact h) ?_
      have hX0 := (Below.refl W.heap.size W).drew
      repeat (refine mix_quiet rfl ?_; go_big_quiet_step (fail); refine wpQuiet_nil ?_)
      refine mix_loud rfl ?_
      go_wp2_with fail
      refine (In_any _ _ _ _).mono ?_
      rintro e w' ⟨rfl, rfl⟩
      rw [H1.out]
      go_wp2_with fail
      refine ⟨inEx hX0, ?_⟩
      repeat (refine mix_quiet rfl ?_; go_big_quiet_step (fail); refine wpQuiet_nil ?_)
      refine mix_loud rfl ?_
      go_wp2_with fail
      refine (In_any _ _ _ _).mono ?_
      rintro e w' ⟨rfl, rfl⟩
      rw [H3.out]
      go_wp2_with fail
      refine ⟨inEx hX0, ?_⟩
      repeat (refine mix_quiet rfl ?_; go_big_quiet_step (fail); refine wpQuiet_nil ?_)
      refine mix_nil rfl ?_
      go_wp2
      go_ret
      exact ⟨ret_bool HF.out.symm, ex_trans hbl hX0⟩

    · have H3 := Lib.hid h3
      have HO2 := Lib.hid (HOK.out (by rw [HI2.out, h3]))
      clear h3
      go_wp2_with fail
      refine wp_region_ext_mix 38 [(false, 0), (false, 1), (false, 2), (false, 3), (false, 4), (true, 5), (false, 6), (false, 7), (false, 8), (false, 9), (false, 10), (false, 11), (false, 12), (false, 13), (false, 14), (false, 15), (false, 16), (false, 17), (false, 18), (false, 19), (false, 20), (false, 21), (false, 22), (false, 23), (false, 24), (false, 25), (false, 26), (false, 27), (false, 28), (false, 29), (false, 30), (false, 31), (false, 32), (false, 33), (false, 34), (false, 35), (true, 36), (false, 37)] (by kernel_rfl) (by kernel_rfl) (by intro d _ _ _ _ h; cases d <;> exact h) ?_
      have hX0 := (Below.refl W.heap.size W).drew
      repeat (refine mix_quiet rfl ?_; go_big_quiet_step (fail); refine wpQuiet_nil ?_)
      refine mix_loud rfl ?_
      go_wp2_with fail
      refine (In_any _ _ _ _).mono ?_
      rintro e w' ⟨rfl, rfl⟩
      rw [H1.out]
      go_wp2_with fail
      refine ⟨inEx hX0, ?_⟩
      repeat (refine mix_quiet rfl ?_; go_big_quiet_step (fail); refine wpQuiet_nil ?_)
      refine mix_loud rfl ?_
      go_wp2_with fail
      refine (In_any _ _ _ _).mono ?_
      rintro e w' ⟨rfl, rfl⟩
      rw [H3.out]
      go_wp2_with fail
      refine ⟨inEx hX0, ?_⟩
      repeat (refine mix_quiet rfl ?_; go_big_quiet_step (fail); refine wpQuiet_nil ?_)
      refine mix_nil rfl ?_
      go_wp2_with fail
      refine ⟨⟨⟨i + 1, by omega, ex_trans hbV hX0, q0.below hX0 l0, q1.below hX0 l1, HO2, exFrame (by kernel_rfl)⟩⟩, ?_⟩
      show d.ins.length - (intOf (.int .i64 ((i : Int) + 1))).toNat < d.ins.length - (intOf (.int .i64 (i : Int))).toNat
      simp [intOf]
      omega

end Go.Proofs.Ytnplefhigbkbbaa
end

section
namespace Go.Proofs.Ytnplefhigbkbbaa
open Go.RowKit
attribute [local go_sem] Ex.cell? Ex.frozen?

def amongB (d : List Int) (n : Int) : Bool := decide (n ∈ d)
theorem amongB_at {d : List Int} {n : Int} {k : Nat} (hk : k < d.length) (h : gI d k = n) : amongB d n = true := decide_eq_true (by rw [← h]; exact gI_mem hk)
theorem amongB_not {d : List Int} {n : Int} (h : ∀ k, k < d.length → gI d k ≠ n) : amongB d n = false := decide_eq_false (fun hm => by
  obtain ⟨k, hk, he⟩ := gI_of hm
  exact h k hk he)

set_option maxRecDepth 100000 in
set_option maxHeartbeats 3200000 in
theorem among_any (h0 : Int) (d : List Int) (Ad : Option Addr) (cd : Nat) (n : Int) (w : World) (hd : SlAt w w.heap.size 1 Ad d.length (fI d)) (hl : d.length ≤ 1000000) :
    Calls Try.prog 97 #[.agg #[.int .i64 h0, .slice Ad d.length cd], .int .i64 n] w fun e w' => e = .returned (.bool (amongB d n)) ∧ Below w.heap.size w w' := by
  have hb1 := ex_alloc (Below.refl w.heap.size w) (.cells #[.int .i64 h0, .slice Ad d.length cd] 104)
  have q1 : Blk (w.alloc (.cells #[.int .i64 h0, .slice Ad d.length cd] 104)) w.heap.size 104 #[.int .i64 h0, .slice Ad d.length cd] := Blk.new _ _ _
  go_enter Try.func97, Try.ntmps97
  go_wp2_with fail
  generalize w.alloc (.cells #[.int .i64 h0, .slice Ad d.length cd] 104) = V at *
  refine wp_loop (fun a W => Rel (fun a W => ∃ k : Nat, k ≤ d.length ∧ Below w.heap.size w W ∧ Blk W w.heap.size 104 #[.int .i64 h0, .slice Ad d.length cd] ∧ Hid (∀ j, j < k → gI d j ≠ n) ∧ ∃ u : Nat → Value, a = ⟨List.toArray (u 0 :: .int .i64 n :: .pointer (some ⟨w.heap.size, 0, none⟩) :: u 3 :: u 4 :: .int .i64 (k : Int) :: u 6 :: u 7 :: u 8 :: u 9 :: u 10 :: u 11 :: u 12 :: u 13 :: u 14 :: u 15 :: u 16 :: u 17 :: u 18 :: u 19 :: []), []⟩) a W)
    (fun a _ => d.length - (intOf (a.tmps.getD 5 undef)).toNat) ⟨⟨0, by omega, hb1, q1, Lib.hid (fun j hj => by omega), exFrame (by kernel_rfl)⟩⟩ ?_
  clear hb1 q1
  rintro a W ⟨⟨k, hk, hbl, q0, HO, u, rfl⟩⟩
  have l0 := q0.lt
  have hws := hbl.size
  have a1 : W.cell? ⟨w.heap.size, 1, none⟩ = some (.slice Ad d.length cd) := q0.cell 1
  by_cases hlt : k < d.length
  rotate_left
  · obtain rfl : k = d.length := by omega
    have HR : Hid (amongB d n = false) := Lib.hid (amongB_not (fun j hj => HO.out j hj))
    go_wp2
    go_ret
    exact ⟨ret_bool HR.out.symm, hbl⟩
  obtain ⟨bi, oi, rfl, hbi, e0⟩ := IsInts.at_ (hd.below hbl) hlt
  have lbi : bi < W.heap.size := by omega
  have HY : Hid (gI d k = n → amongB d n = true) := Lib.hid (amongB_at hlt)
  have HO2 : Hid (gI d k ≠ n → ∀ j, j < k + 1 → gI d j ≠ n) := Lib.hid (fun h j hj => by
    rcases Nat.lt_succ_iff_lt_or_eq.1 hj with h2 | h2
    · exact HO.out j h2
    · rw [h2]; exact h)
  obtain ⟨x, hx⟩ : ∃ x, gI d k = x := ⟨_, rfl⟩
  rw [hx] at e0 HY HO2
  clear hx
  by_cases hxn : x = n
  · have HR := Lib.hid (HY.out hxn)
    have e1 : (x == n) = true := by simp [hxn]
    clear hxn
    go_wp2
    go_ret
    exact ⟨ret_bool HR.out.symm, hbl⟩
  · have HO3 := Lib.hid (HO2.out hxn)
    have e1 : (x == n) = false := by simp [hxn]
    clear hxn HO2
    go_wp2_with fail
    refine ⟨⟨⟨k + 1, by omega, hbl, q0, HO3, exFrame (by kernel_rfl)⟩⟩, ?_⟩
    show d.length - (intOf (.int .i64 ((k : Int) + 1))).toNat < d.length - (intOf (.int .i64 (k : Int))).toNat
    simp [intOf]
    omega
end Go.Proofs.Ytnplefhigbkbbaa
end

section
namespace Go.Proofs.Ytnplefhigbkbbaa

/-- is someone in a dip who is known by v steps? -/
def metB (K : S6) (d : List Int) (v : Int) (n : Nat) : Bool := decide (∃ i, i < n ∧ K.get i = v ∧ (i : Int) ∈ d)
/-- has one of the first so many dips, of which one is known by v steps, this instrument? -/
def hitB (K : S6) (p : List Dp) (v : Int) (n i : Nat) : Nat → Bool
  | 0 => false
  | k + 1 => hitB K p v n i k || (metB K (gDp p k).ins v n && decide ((i : Int) ∈ (gDp p k).ins))
/-- what is written down within step v + 1, when so many dips have been gone through. -/
def outK (K : S6) (p : List Dp) (v : Int) (n k i : Nat) : Int := if 0 ≤ K.get i ∧ K.get i ≤ v then K.get i else if K.get i = v + 1 ∧ hitB K p v n i k = true then v + 1 else -1
/-- what is written down when v steps have been taken. -/
def outV (K : S6) (v : Int) (i : Nat) : Int := if 0 ≤ K.get i ∧ K.get i ≤ v then K.get i else -1
theorem hitB_of {K : S6} {p : List Dp} {v : Int} {n i : Nat} : ∀ {k j : Nat}, j < k → metB K (gDp p j).ins v n = true → (i : Int) ∈ (gDp p j).ins → hitB K p v n i k = true
  | k + 1, j, hj, h1, h2 => by
    rw [hitB]
    rcases Nat.lt_succ_iff_lt_or_eq.1 hj with h | h
    · rw [hitB_of h h1 h2]; rfl
    · subst h
      rw [h1, decide_eq_true h2]; simp
section
variable {K : S6} {p : List Dp} {v : Int} {n k i : Nat}
theorem outK_zero (hv : 0 ≤ v) : outK K p v n 0 i = outV K v i := by
  unfold outK outV hitB
  by_cases h : 0 ≤ K.get i ∧ K.get i ≤ v
  · rw [if_pos h, if_pos h]
  · rw [if_neg h, if_neg h, if_neg (fun h2 => by cases h2.2)]
/-- who is told as known by v steps is so. -/
theorem outK_v (hv : 0 ≤ v) (hlo : -1 ≤ K.get i) : outK K p v n k i = v ↔ K.get i = v := by
  unfold outK
  by_cases h : 0 ≤ K.get i ∧ K.get i ≤ v
  · rw [if_pos h]
  · rw [if_neg h]
    split <;> omega
theorem outK_step : outK K p v n (k + 1) i = if outK K p v n k i < 0 ∧ K.get i = v + 1 ∧ metB K (gDp p k).ins v n = true ∧ (i : Int) ∈ (gDp p k).ins then v + 1 else outK K p v n k i := by
  unfold outK
  by_cases h : 0 ≤ K.get i ∧ K.get i ≤ v
  · rw [if_pos h, if_pos h, if_neg (by omega)]
  · rw [if_neg h, if_neg h]
    rw [hitB]
    by_cases hk : K.get i = v + 1
    · cases hh : hitB K p v n i k
      · rw [if_neg (c := K.get i = v + 1 ∧ false = true) (fun h2 => by cases h2.2)]
        by_cases hm : metB K (gDp p k).ins v n = true ∧ (i : Int) ∈ (gDp p k).ins
        · rw [if_pos ⟨hk, by rw [hm.1, decide_eq_true hm.2]; rfl⟩, if_pos ⟨by omega, hk, hm⟩]
        · rw [if_neg, if_neg (fun h2 => hm h2.2.2)]
          rintro ⟨_, h2⟩
          simp only [Bool.false_or, Bool.and_eq_true, decide_eq_true_eq] at h2
          exact hm h2
      · rw [if_pos ⟨hk, by simp⟩, if_pos (c := K.get i = v + 1 ∧ true = true) ⟨hk, rfl⟩]
        split <;> rfl
    · simp only [hk, false_and, and_false, if_false]
end
section
variable {K : S6} {p : List Dp} {n : Nat}
/-- who is in a dip with one known by v steps is known by one more at most. -/
theorem met_le (hK : KnownIs p K) (hp : In6P p) {k i : Nat} {v : Int} (hv : 0 ≤ v) (hk : k < p.length) (hi : (i : Int) ∈ (gDp p k).ins) (hm : metB K (gDp p k).ins v n = true) : 0 ≤ K.get i ∧ K.get i ≤ v + 1 := by
  obtain ⟨m, _, h2, h3⟩ := of_decide_eq_true hm
  obtain ⟨a, ha, ea⟩ := gI_of h3
  obtain ⟨b, hb, eb⟩ := gI_of hi
  have hm6 : m < 6 := by have := hp k hk a ha; omega
  have hi6 : i < 6 := by have := hp k hk b hb; omega
  rcases hK m hm6 with ⟨e, _⟩ | ⟨_, h4, _⟩
  · omega
  · have h5 := Dst.step h4 hk ha hb (by rw [ea]; exact Int.toNat_natCast m)
    rw [eb, Int.toNat_natCast] at h5
    rcases hK i hi6 with ⟨_, h6⟩ | ⟨h6, _, h7⟩
    · exact absurd h5 (h6 _)
    · have := h7 _ h5
      omega
/-- a step's end. -/
theorem outK_all (hK : KnownIs p K) (hp : In6P p) (hn : ∀ k, k < p.length → ∀ x ∈ (gDp p k).ins, x < (n : Int)) {v : Int} (hv : 0 ≤ v) {i : Nat} (hi : i < 6) : outK K p v n p.length i = outV K (v + 1) i := by
  unfold outK outV
  by_cases h : 0 ≤ K.get i ∧ K.get i ≤ v
  · rw [if_pos h, if_pos (by omega)]
  · rw [if_neg h]
    by_cases hk : K.get i = v + 1
    · obtain ⟨u, hu⟩ : ∃ u : Nat, v = (u : Int) := ⟨v.toNat, by omega⟩
      subst hu
      obtain ⟨k, a, b, h1, h2, h3, h4, h5, _⟩ := hK.prev hp hi hk
      have ha := hp k h1 a h2
      have hb := hp k h1 b h3
      rw [if_pos ⟨hk, hitB_of h1 (decide_eq_true ⟨(gI (gDp p k).ins a).toNat, by have := hn k h1 _ (gI_mem h2); omega, h5, by rw [Int.toNat_of_nonneg ha.1]; exact gI_mem h2⟩) (by
        have : ((i : Nat) : Int) = gI (gDp p k).ins b := by omega
        rw [this]; exact gI_mem h3)⟩, if_pos (by omega), hk]
    · rw [if_neg (fun h2 => hk h2.1), if_neg (by omega)]
theorem outV_zero (hK : KnownIs p K) {i : Nat} (hi : i < 6) (hc : Cnt K) : outV K 0 i = if i = 0 then 0 else -1 := by
  unfold outV
  by_cases h : i = 0
  · subst h
    rw [if_pos rfl, hc.std, if_pos (by omega)]
  · rw [if_neg h, if_neg]
    rintro ⟨h1, h2⟩
    rcases hK i hi with ⟨e, _⟩ | ⟨_, h3, _⟩
    · omega
    · rw [show (K.get i).toNat = 0 by omega] at h3
      have : i = 0 := by cases h3; rfl
      exact h this
theorem Dst.ltn (hp : In6P p) (hn : ∀ k, k < p.length → ∀ x ∈ (gDp p k).ins, x < (n : Int)) (h0 : 0 < n) {i v : Nat} (h : Dst p i v) : i < n := by
  cases h with
  | std => exact h0
  | step _ hk _ hb _ =>
    have h4 := hn _ hk _ (gI_mem hb)
    have h5 := hp _ hk _ hb
    omega
theorem known_lt (hK : KnownIs p K) (hp : In6P p) (hn : ∀ k, k < p.length → ∀ x ∈ (gDp p k).ins, x < (n : Int)) (hn6 : 0 < n ∧ n ≤ 6) {i : Nat} (hi : i < 6) : K.get i ≤ (n : Int) - 1 := by
  have hc := hK.cnt hp
  rcases Int.lt_or_le (K.get i) 0 with h0 | h0
  · omega
  have h1 := hc.cnt (K.get i) h0 ⟨i, hi, Int.le_refl _⟩
  generalize K.get i = v at *
  have hz : ∀ j, j < 6 → n ≤ j → c1 (K.get j) v = 0 := fun j hj hnj => by
    rcases hK j hj with ⟨e, _⟩ | ⟨_, h3, _⟩
    · rw [e]; unfold c1; rw [if_neg (by omega)]
    · have := Dst.ltn hp hn hn6.1 h3
      omega
  have b0 := c1_bd (x := K.a) (v := v)
  have b1 := c1_bd (x := K.b) (v := v)
  have b2 := c1_bd (x := K.c) (v := v)
  have b3 := c1_bd (x := K.d) (v := v)
  have b4 := c1_bd (x := K.e) (v := v)
  have b5 := c1_bd (x := K.f) (v := v)
  have z1 : n ≤ 1 → c1 K.b v = 0 := hz 1 (by omega)
  have z2 : n ≤ 2 → c1 K.c v = 0 := hz 2 (by omega)
  have z3 : n ≤ 3 → c1 K.d v = 0 := hz 3 (by omega)
  have z4 : n ≤ 4 → c1 K.e v = 0 := hz 4 (by omega)
  have z5 : n ≤ 5 → c1 K.f v = 0 := hz 5 (by omega)
  unfold cnt at h1
  omega
end
end Go.Proofs.Ytnplefhigbkbbaa
end

section
namespace Go.Proofs.Ytnplefhigbkbbaa
open Go.RowKit
attribute [local go_sem] Ex.cell? Ex.frozen?

/-- a list told by a function. -/
def rowF (f : Nat → Int) (n : Nat) : List Int := (List.range n).map f
theorem rowF_len {f : Nat → Int} {n : Nat} : (rowF f n).length = n := by simp [rowF]
theorem rowF_at {f : Nat → Int} {n i : Nat} (h : i < n) : gI (rowF f n) i = f i := by simp [rowF, gI, h]
theorem rowF_succ {f : Nat → Int} {n : Nat} : rowF f (n + 1) = rowF f n ++ [f n] := by simp [rowF, List.range_succ]
theorem rowF_ext {f g : Nat → Int} {n : Nat} (h : ∀ i, i < n → f i = g i) : rowF f n = rowF g n := List.map_congr_left (fun i hi => h i (List.mem_range.1 hi))
theorem rowF_set {f : Nat → Int} {n k : Nat} {x : Int} : (rowF f n).set k x = rowF (fun j => if j = k then x else f j) n := by
  refine List.ext_getElem (by simp [rowF]) (fun i h1 h2 => ?_)
  simp only [rowF, List.getElem_set, List.getElem_map, List.getElem_range]
  by_cases h : k = i
  · rw [if_pos h, if_pos h.symm]
  · rw [if_neg h, if_neg (fun e => h e.symm)]
/-- is one of the first so many, who is in a dip, known by v steps? -/
def metT (L : List Int) (d : List Int) (v : Int) (i : Nat) : Bool := decide (∃ j, j < i ∧ gI L j = v ∧ (j : Int) ∈ d)
theorem metT_zero {L d : List Int} {v : Int} : metT L d v 0 = false := decide_eq_false (by rintro ⟨j, hj, _⟩; omega)
theorem metT_succ {L d : List Int} {v : Int} {i : Nat} : metT L d v (i + 1) = (metT L d v i || (decide (gI L i = v) && decide ((i : Int) ∈ d))) := by
  unfold metT
  rw [Bool.eq_iff_iff]
  simp only [Bool.or_eq_true, Bool.and_eq_true, decide_eq_true_eq]
  constructor
  · rintro ⟨j, hj, h⟩
    rcases Nat.lt_succ_iff_lt_or_eq.1 hj with h2 | h2
    · exact .inl ⟨j, h2, h⟩
    · subst h2; exact .inr h
  · rintro (⟨j, hj, h⟩ | h)
    · exact ⟨j, by omega, h⟩
    · exact ⟨i, by omega, h⟩
theorem metT_K {K : S6} {p : List Dp} {n k : Nat} {d : List Int} {st : Nat} (hc : Cnt K) (h6 : n ≤ 6) : metT (rowF (outK K p st n k) n) d st n = metB K d st n := by
  unfold metT metB
  rw [Bool.eq_iff_iff]
  simp only [decide_eq_true_eq]
  constructor
  · rintro ⟨j, hj, h1, h2⟩
    rw [rowF_at hj, outK_v (by omega) (hc.lo j (by omega))] at h1
    exact ⟨j, hj, h1, h2⟩
  · rintro ⟨j, hj, h1, h2⟩
    exact ⟨j, hj, by rw [rowF_at hj, outK_v (by omega) (hc.lo j (by omega))]; exact h1, h2⟩
theorem row_own {w : World} {B : Nat} {v : Value} {L M : List Int} (h : w.ownsRow B 3 1 v L.length (L.map (Value.int .i64))) (e : L = M) : w.ownsRow B 3 1 v M.length (M.map (Value.int .i64)) := e ▸ h

set_option maxRecDepth 100000 in
set_option maxHeartbeats 12800000 in
theorem known_ref (w0 : Wo) (Ar : Option Addr) (cr : Nat) (p : List Dp) (Ap : Option Addr) (cp : Nat) (rA : Nat → Option Addr) (rc : Nat → Nat) (K : S6) (w : World) (hr : SlAt w w.heap.size 2 Ar w0.rng.length (fR w0.rng)) (hp : PlIn w w.heap.size p Ap rA rc) (hsm : SmPl p) (hw : WoOk w0) (hd : ∀ k, k < p.length → DipOk w0 (gDp p k)) (hK : KnownIs p K) :
    Calls Try.prog 60 #[.agg #[.slice Ar w0.rng.length cr, .int .i64 w0.room, .int .i64 w0.steps], .slice Ap p.length cp] w fun e w' => (∃ A c, e = .returned (.slice A w0.rng.length c) ∧ SlAt w' w'.heap.size 1 A w0.rng.length (fI (rowF K.get w0.rng.length))) ∧ Below w.heap.size w w' := by
  obtain ⟨i0, hi0, hz0, hz1, hz2⟩ := info_parts int_info
  have HI := Lib.hid hi0
  clear hi0
  have h6p : In6P p := fun k hk => (hd k hk).in6 hw
  have hc := hK.cnt h6p
  have hnn := hw.n
  have hpl := hsm.len
  have hlt6 : ∀ k, k < p.length → ∀ x ∈ (gDp p k).ins, x < (w0.rng.length : Int) := fun k hk x hx => by
    obtain ⟨j, hj, e⟩ := gI_of hx
    have := (hd k hk).ins j hj
    omega
  have HC := Lib.hid hc
  have HK := Lib.hid hK
  have H6 := Lib.hid h6p
  have HL := Lib.hid hlt6
  clear hc hK h6p hlt6
  have hb1 := ex_alloc (Below.refl w.heap.size w) (.cells #[.slice Ar w0.rng.length cr, .int .i64 w0.room, .int .i64 w0.steps] 60)
  have q1 : Blk (w.alloc (.cells #[.slice Ar w0.rng.length cr, .int .i64 w0.room, .int .i64 w0.steps] 60)) w.heap.size 60 #[.slice Ar w0.rng.length cr, .int .i64 w0.room, .int .i64 w0.steps] := Blk.new _ _ _
  go_enter Try.func60, Try.ntmps60
  go_wp2_with fail
  generalize hV : w.alloc (.cells #[.slice Ar w0.rng.length cr, .int .i64 w0.room, .int .i64 w0.steps] 60) = V at *
  have hVs : w.heap.size + 1 ≤ V.heap.size := by rw [← hV]; simp
  clear hV
  refine wp_loop (fun a W => Rel (fun a W => ∃ k : Nat, k ≤ w0.rng.length ∧ w.heap.size + 1 ≤ W.heap.size ∧ Below w.heap.size w W ∧ Blk W w.heap.size 60 #[.slice Ar w0.rng.length cr, .int .i64 w0.room, .int .i64 w0.steps] ∧ ∃ v, W.ownsRow (w.heap.size + 1) 3 1 v (rowF (fun _ => -1) k).length ((rowF (fun _ => -1) k).map (Value.int .i64)) ∧ ∃ u : Nat → Value, a = ⟨List.toArray (u 0 :: .slice Ap p.length cp :: .pointer (some ⟨w.heap.size, 0, none⟩) :: u 3 :: u 4 :: v :: .int .i64 (k : Int) :: u 7 :: u 8 :: u 9 :: u 10 :: u 11 :: u 12 :: u 13 :: u 14 :: u 15 :: u 16 :: u 17 :: u 18 :: u 19 :: u 20 :: u 21 :: u 22 :: u 23 :: u 24 :: u 25 :: u 26 :: u 27 :: u 28 :: u 29 :: u 30 :: u 31 :: u 32 :: u 33 :: u 34 :: u 35 :: u 36 :: u 37 :: u 38 :: u 39 :: u 40 :: u 41 :: u 42 :: u 43 :: u 44 :: u 45 :: u 46 :: u 47 :: u 48 :: u 49 :: u 50 :: u 51 :: u 52 :: u 53 :: u 54 :: u 55 :: u 56 :: u 57 :: u 58 :: u 59 :: u 60 :: u 61 :: u 62 :: u 63 :: u 64 :: u 65 :: u 66 :: u 67 :: u 68 :: u 69 :: u 70 :: u 71 :: u 72 :: u 73 :: u 74 :: u 75 :: u 76 :: u 77 :: u 78 :: u 79 :: u 80 :: u 81 :: u 82 :: u 83 :: u 84 :: u 85 :: u 86 :: []), []⟩) a W)
    (fun a _ => w0.rng.length - (intOf (a.tmps.getD 6 undef)).toNat) ⟨⟨0, by omega, hVs, hb1, q1, .slice none 0 0, ⟨rfl, .inl ⟨rfl, rfl⟩⟩, exFrame (by kernel_rfl)⟩⟩ ?_
  clear hb1 q1 hVs V
  rintro a W ⟨⟨k, hk, hsz, hbl, q0, v, hown, u, rfl⟩⟩
  have l0 := q0.lt
  have a0 : W.cell? ⟨w.heap.size, 0, none⟩ = some (.slice Ar w0.rng.length cr) := q0.cell 0
  by_cases hlt : k < w0.rng.length
  · have c63 : (rowF (fun _ => -1) k).length + 1 ≤ maxLen := by rw [rowF_len]; unfold maxLen; omega
    have cby : ((rowF (fun _ => -1) k).length + 1) * 8 ≤ 140737488355328 := by rw [rowF_len]; omega
    have y4 := hown.alloc (.cells #[.int .i64 (-1)] 3)
    have hX6 := ex_alloc (Below.refl W.heap.size W) (.cells #[.int .i64 (-1)] 3)
    have B4 := ex_trans hbl hX6
    have q6 := q0.below hX6 l0
    have hbase : w.heap.size + 1 ≤ (W.alloc (.cells #[.int .i64 (-1)] 3)).heap.size := by simp; omega
    have hge := fun (j : Nat) (hj : v.ownBlock = some j) => own_ge hown hj
    go_wp2_with (at_builtin; refine wpList_append_lies _ rfl _ _ _ rfl (w.heap.size + 1) 3 i0 _ 1 8 Try.underlying52 HI.out hz0 hz1 hz2 rfl (by omega) v _ _ rfl y4 ⟨W.heap.size, 0, none⟩ 1 1 [.int .i64 (-1)] rfl rfl (World.news_of_block (heap_alloc_new W _)) (by simp [Value.oneCell']) (by omega) c63 cby hbase (W.heap.size + 1) (by simp) ?_; intro gg cap w1 hown' hgrow hat hlt')
    have B5 := B4.grown hgrow (by simp; omega) (fun j hj => by have := hge j hj; omega)
    have q7 := q6.grown hgrow (fun e => by have := hge _ e.symm; omega)
    have hs7 := hgrow.size
    have own7 : w1.ownsRow (w.heap.size + 1) 3 1 (.slice (some ⟨gg, 0, none⟩) ((rowF (fun _ => -1) k).length + 1) cap) (rowF (fun _ => -1) (k + 1)).length ((rowF (fun _ => -1) (k + 1)).map (Value.int .i64)) := by
      rw [rowF_succ, List.map_append, List.length_append]
      exact hown'
    refine ⟨⟨⟨k + 1, by omega, by omega, B5, q7, _, own7, exFrame (by kernel_rfl)⟩⟩, ?_⟩
    show w0.rng.length - (intOf (.int .i64 ((k : Int) + 1))).toNat < w0.rng.length - (intOf (.int .i64 (k : Int))).toNat
    simp [intOf]
    omega
  obtain rfl : k = w0.rng.length := by omega
  obtain ⟨g, cap, hv, hg, hgl, hc0, hfz⟩ := ints_cell hown (k := 0) (by rw [rowF_len]; omega)
  rw [rowF_len] at hv
  subst hv
  have hset := ints_set hown (show (Value.slice (some ⟨g, 0, none⟩) w0.rng.length cap).ownBlock = some g from rfl) (k := 0) (by rw [rowF_len]; omega) 0
  have B2 := ex_set hbl (p := ⟨g, 0, none⟩) (by show w.heap.size ≤ g; omega) (.int .i64 0)
  have own2 : (W.setCell ⟨g, 0, none⟩ (.int .i64 0)).ownsRow (w.heap.size + 1) 3 1 (.slice (some ⟨g, 0, none⟩) w0.rng.length cap) (rowF (outV K 0) w0.rng.length).length ((rowF (outV K 0) w0.rng.length).map (Value.int .i64)) := row_own hset (by
    rw [rowF_set]
    exact rowF_ext (fun i hi => by rw [outV_zero HK.out (by omega) HC.out]))
  go_wp2_with fail
  generalize W.setCell ⟨g, 0, none⟩ (.int .i64 0) = W2 at *
  have hgl2 : Hid True := Lib.hid trivial
  clear hset hfz hc0 hgl hbl hsz q0 l0 a0 hlt hk hown hgl2 W
  refine wp_loop (fun a W => Rel (fun a W => ∃ st : Nat, st + 1 ≤ w0.rng.length ∧ Below w.heap.size w W ∧ W.ownsRow (w.heap.size + 1) 3 1 (.slice (some ⟨g, 0, none⟩) w0.rng.length cap) (rowF (outV K st) w0.rng.length).length ((rowF (outV K st) w0.rng.length).map (Value.int .i64)) ∧ ∃ u : Nat → Value, a = ⟨List.toArray (u 0 :: .slice Ap p.length cp :: u 2 :: u 3 :: u 4 :: .slice (some ⟨g, 0, none⟩) w0.rng.length cap :: u 6 :: .int .i64 ((st : Int) + 1) :: u 8 :: u 9 :: u 10 :: u 11 :: u 12 :: u 13 :: u 14 :: u 15 :: u 16 :: u 17 :: u 18 :: u 19 :: u 20 :: u 21 :: u 22 :: u 23 :: u 24 :: u 25 :: u 26 :: u 27 :: u 28 :: u 29 :: u 30 :: u 31 :: u 32 :: u 33 :: u 34 :: u 35 :: u 36 :: u 37 :: u 38 :: u 39 :: u 40 :: u 41 :: u 42 :: u 43 :: u 44 :: u 45 :: u 46 :: u 47 :: u 48 :: u 49 :: u 50 :: u 51 :: u 52 :: u 53 :: u 54 :: u 55 :: u 56 :: u 57 :: u 58 :: u 59 :: u 60 :: u 61 :: u 62 :: u 63 :: u 64 :: u 65 :: u 66 :: u 67 :: u 68 :: u 69 :: u 70 :: u 71 :: u 72 :: u 73 :: u 74 :: u 75 :: u 76 :: u 77 :: u 78 :: u 79 :: u 80 :: u 81 :: u 82 :: u 83 :: u 84 :: u 85 :: u 86 :: []), []⟩) a W)
    (fun a _ => w0.rng.length - (intOf (a.tmps.getD 7 undef)).toNat) ⟨⟨0, by omega, B2, own2, exFrame (by kernel_rfl)⟩⟩ ?_
  clear B2 own2 W2
  rintro a W ⟨⟨st, hst, hbl, hown, u, rfl⟩⟩
  by_cases hlt : st + 1 < w0.rng.length
  rotate_left
  · have hfin : rowF (outV K st) w0.rng.length = rowF K.get w0.rng.length := rowF_ext (fun i hi => by
      have h1 := known_lt (n := w0.rng.length) HK.out H6.out HL.out hnn (i := i) (by omega)
      have h2 := HC.out.lo i (by omega)
      unfold outV
      by_cases h3 : 0 ≤ K.get i
      · rw [if_pos (by omega)]
      · rw [if_neg (by omega)]; omega)
    rw [hfin] at hown
    clear hfin
    obtain ⟨A', c', hv, _, hsl⟩ := own_sl hown
    rw [rowF_len] at hv hsl
    injection hv with hv1 _ hv2
    subst hv1 hv2
    go_wp2
    go_ret
    exact ⟨⟨_, ⟨_, rfl⟩, hsl⟩, hbl⟩
  go_wp2_with fail
  have own3 := row_own hown (M := rowF (outK K p st w0.rng.length 0) w0.rng.length) (rowF_ext (fun i hi => (outK_zero (by omega)).symm))
  clear hown
  refine wp_loop (fun a W => Rel (fun a W => ∃ k : Nat, k ≤ p.length ∧ Below w.heap.size w W ∧ W.ownsRow (w.heap.size + 1) 3 1 (.slice (some ⟨g, 0, none⟩) w0.rng.length cap) (rowF (outK K p st w0.rng.length k) w0.rng.length).length ((rowF (outK K p st w0.rng.length k) w0.rng.length).map (Value.int .i64)) ∧ ∃ u : Nat → Value, a = ⟨List.toArray (u 0 :: .slice Ap p.length cp :: u 2 :: u 3 :: u 4 :: .slice (some ⟨g, 0, none⟩) w0.rng.length cap :: u 6 :: .int .i64 ((st : Int) + 1) :: .int .i64 (k : Int) :: u 9 :: u 10 :: u 11 :: u 12 :: u 13 :: u 14 :: u 15 :: u 16 :: u 17 :: u 18 :: u 19 :: u 20 :: u 21 :: u 22 :: u 23 :: u 24 :: u 25 :: u 26 :: u 27 :: u 28 :: u 29 :: u 30 :: u 31 :: u 32 :: u 33 :: u 34 :: u 35 :: u 36 :: u 37 :: u 38 :: u 39 :: u 40 :: u 41 :: u 42 :: u 43 :: u 44 :: u 45 :: u 46 :: u 47 :: u 48 :: u 49 :: u 50 :: u 51 :: u 52 :: u 53 :: u 54 :: u 55 :: u 56 :: u 57 :: u 58 :: u 59 :: u 60 :: u 61 :: u 62 :: u 63 :: u 64 :: u 65 :: u 66 :: u 67 :: u 68 :: u 69 :: u 70 :: u 71 :: u 72 :: u 73 :: u 74 :: u 75 :: u 76 :: u 77 :: u 78 :: u 79 :: u 80 :: u 81 :: u 82 :: u 83 :: u 84 :: u 85 :: u 86 :: []), []⟩) a W)
    (fun a _ => p.length - (intOf (a.tmps.getD 8 undef)).toNat) ⟨⟨0, by omega, hbl, own3, exFrame (by kernel_rfl)⟩⟩ ?_
  clear hbl own3 W
  rintro a W ⟨⟨k, hk, hbl, hown, u, rfl⟩⟩
  by_cases hkp : k < p.length
  rotate_left
  · obtain rfl : k = p.length := by omega
    have own4 := row_own hown (M := rowF (outV K ((st + 1 : Nat) : Int)) w0.rng.length) (rowF_ext (fun i hi => by
      rw [outK_all HK.out H6.out HL.out (by omega) (by omega)]
      rfl))
    clear hown
    go_wp2_with fail
    refine ⟨⟨⟨st + 1, by omega, hbl, own4, exFrame (by kernel_rfl)⟩⟩, ?_⟩
    show w0.rng.length - (intOf (.int .i64 ((st : Int) + 1 + 1))).toNat < w0.rng.length - (intOf (.int .i64 ((st : Int) + 1))).toNat
    simp [intOf]
    omega
  go_wp2_with fail
  refine wp_loop (fun a W => Rel (fun a W => ∃ i : Nat, i ≤ w0.rng.length ∧ Below w.heap.size w W ∧ W.ownsRow (w.heap.size + 1) 3 1 (.slice (some ⟨g, 0, none⟩) w0.rng.length cap) (rowF (outK K p st w0.rng.length k) w0.rng.length).length ((rowF (outK K p st w0.rng.length k) w0.rng.length).map (Value.int .i64)) ∧ ∃ u : Nat → Value, a = ⟨List.toArray (u 0 :: .slice Ap p.length cp :: u 2 :: u 3 :: u 4 :: .slice (some ⟨g, 0, none⟩) w0.rng.length cap :: u 6 :: .int .i64 ((st : Int) + 1) :: .int .i64 (k : Int) :: .bool (metT (rowF (outK K p st w0.rng.length k) w0.rng.length) (gDp p k).ins st i) :: .int .i64 (i : Int) :: u 11 :: u 12 :: u 13 :: u 14 :: u 15 :: u 16 :: u 17 :: u 18 :: u 19 :: u 20 :: u 21 :: u 22 :: u 23 :: u 24 :: u 25 :: u 26 :: u 27 :: u 28 :: u 29 :: u 30 :: u 31 :: u 32 :: u 33 :: u 34 :: u 35 :: u 36 :: u 37 :: u 38 :: u 39 :: u 40 :: u 41 :: u 42 :: u 43 :: u 44 :: u 45 :: u 46 :: u 47 :: u 48 :: u 49 :: u 50 :: u 51 :: u 52 :: u 53 :: u 54 :: u 55 :: u 56 :: u 57 :: u 58 :: u 59 :: u 60 :: u 61 :: u 62 :: u 63 :: u 64 :: u 65 :: u 66 :: u 67 :: u 68 :: u 69 :: u 70 :: u 71 :: u 72 :: u 73 :: u 74 :: u 75 :: u 76 :: u 77 :: u 78 :: u 79 :: u 80 :: u 81 :: u 82 :: u 83 :: u 84 :: u 85 :: u 86 :: []), []⟩) a W)
    (fun a _ => w0.rng.length - (intOf (a.tmps.getD 10 undef)).toNat) ⟨⟨0, by omega, hbl, hown, by rw [metT_zero]; exact exFrame (by kernel_rfl)⟩⟩ ?_
  clear hbl hown W
  rintro a W ⟨⟨i, hi, hbl, hown, u, rfl⟩⟩
  have hil := hsm.ins k hkp
  by_cases hin : i < w0.rng.length
  · have hcell := ints_cell hown (k := i) (by rw [rowF_len]; exact hin)
    rw [rowF_at hin, rowF_len] at hcell
    obtain ⟨g', cap', hv, hg', hgl, hc0, hfz⟩ := hcell
    injection hv with hv1 _ hv2
    injection hv1 with hv1
    injection hv1 with hv1
    subst hv1 hv2
    have hpW := hp.below hbl
    obtain ⟨bd, od, rfl, hbd, g0, g1⟩ := hpW.at_ hkp
    have hdW := hpW.ins k hkp
    have HS := Lib.hid (metT_succ (L := rowF (outK K p st w0.rng.length k) w0.rng.length) (d := (gDp p k).ins) (v := st) (i := i))
    rw [rowF_at hin] at HS
    generalize hmt : metT (rowF (outK K p st w0.rng.length k) w0.rng.length) (gDp p k).ins st i = mt at HS ⊢
    clear hmt
    have HX : Hid (∀ b, (mt || (decide (outK K p st w0.rng.length k i = st) && decide ((i : Int) ∈ (gDp p k).ins))) = b → metT (rowF (outK K p st w0.rng.length k) w0.rng.length) (gDp p k).ins st (i + 1) = b) := Lib.hid (fun b h => HS.out.trans h)
    clear HS
    obtain ⟨x, hx⟩ : ∃ x, outK K p st w0.rng.length k i = x := ⟨_, rfl⟩
    rw [hx] at hc0 HX
    clear hx
    cases mt
    rotate_left
    · have HT := HX.out true rfl
      have HTT := Lib.hid HT
      clear HT HX
      go_wp2_with fail
      refine ⟨⟨⟨i + 1, by omega, hbl, hown, by rw [HTT.out]; exact exFrame (by kernel_rfl)⟩⟩, ?_⟩
      show w0.rng.length - (intOf (.int .i64 ((i : Int) + 1))).toNat < w0.rng.length - (intOf (.int .i64 (i : Int))).toNat
      simp [intOf]
      omega
    by_cases hxs : x = (st : Int)
    rotate_left
    · have HTT := Lib.hid (HX.out false (by rw [decide_eq_false hxs]; rfl))
      have e1 : (x == (st : Int)) = false := by simp [hxs]
      clear HX hxs
      go_wp2_with fail
      refine ⟨⟨⟨i + 1, by omega, hbl, hown, by rw [HTT.out]; exact exFrame (by kernel_rfl)⟩⟩, ?_⟩
      show w0.rng.length - (intOf (.int .i64 ((i : Int) + 1))).toNat < w0.rng.length - (intOf (.int .i64 (i : Int))).toNat
      simp [intOf]
      omega
    have HTT := Lib.hid (HX.out (amongB (gDp p k).ins i) (by rw [decide_eq_true hxs]; rfl))
    have e1 : (x == (st : Int)) = true := by simp [hxs]
    clear HX hxs
    go_wp2_with fail
    refine (among_any (gDp p k).heat (gDp p k).ins (rA k) (rc k) (i : Int) _ hdW hil).mono ?_
    rintro e W3 ⟨rfl, hX⟩
    have B3 := ex_trans hbl hX
    have own5 := own_below hown hX
    generalize amongB (gDp p k).ins (i : Int) = ab at *
    cases ab
    · go_wp2_with fail
      refine ⟨⟨⟨i + 1, by omega, B3, own5, by rw [HTT.out]; exact exFrame (by kernel_rfl)⟩⟩, ?_⟩
      show w0.rng.length - (intOf (.int .i64 ((i : Int) + 1))).toNat < w0.rng.length - (intOf (.int .i64 (i : Int))).toNat
      simp [intOf]
      omega
    · go_wp2_with fail
      refine ⟨⟨⟨i + 1, by omega, B3, own5, by rw [HTT.out]; exact exFrame (by kernel_rfl)⟩⟩, ?_⟩
      show w0.rng.length - (intOf (.int .i64 ((i : Int) + 1))).toNat < w0.rng.length - (intOf (.int .i64 (i : Int))).toNat
      simp [intOf]
      omega
  obtain rfl : i = w0.rng.length := by omega
  rw [metT_K HC.out hnn.2]
  obtain ⟨met, hmet⟩ : ∃ met, metB K (gDp p k).ins st w0.rng.length = met := ⟨_, rfl⟩
  rw [hmet]
  have HMET := Lib.hid hmet
  clear hmet
  go_wp2_with fail
  have own5 := row_own hown (M := rowF (fun j => if j < 0 then outK K p st w0.rng.length (k + 1) j else outK K p st w0.rng.length k j) w0.rng.length) (rowF_ext (fun i hi => by rw [if_neg (by omega)]))
  clear hown
  refine wp_loop (fun a W => Rel (fun a W => ∃ i : Nat, i ≤ w0.rng.length ∧ Below w.heap.size w W ∧ W.ownsRow (w.heap.size + 1) 3 1 (.slice (some ⟨g, 0, none⟩) w0.rng.length cap) (rowF (fun j => if j < i then outK K p st w0.rng.length (k + 1) j else outK K p st w0.rng.length k j) w0.rng.length).length ((rowF (fun j => if j < i then outK K p st w0.rng.length (k + 1) j else outK K p st w0.rng.length k j) w0.rng.length).map (Value.int .i64)) ∧ ∃ u : Nat → Value, a = ⟨List.toArray (u 0 :: .slice Ap p.length cp :: u 2 :: u 3 :: u 4 :: .slice (some ⟨g, 0, none⟩) w0.rng.length cap :: u 6 :: .int .i64 ((st : Int) + 1) :: .int .i64 (k : Int) :: .bool met :: u 10 :: .int .i64 (i : Int) :: u 12 :: u 13 :: u 14 :: u 15 :: u 16 :: u 17 :: u 18 :: u 19 :: u 20 :: u 21 :: u 22 :: u 23 :: u 24 :: u 25 :: u 26 :: u 27 :: u 28 :: u 29 :: u 30 :: u 31 :: u 32 :: u 33 :: u 34 :: u 35 :: u 36 :: u 37 :: u 38 :: u 39 :: u 40 :: u 41 :: u 42 :: u 43 :: u 44 :: u 45 :: u 46 :: u 47 :: u 48 :: u 49 :: u 50 :: u 51 :: u 52 :: u 53 :: u 54 :: u 55 :: u 56 :: u 57 :: u 58 :: u 59 :: u 60 :: u 61 :: u 62 :: u 63 :: u 64 :: u 65 :: u 66 :: u 67 :: u 68 :: u 69 :: u 70 :: u 71 :: u 72 :: u 73 :: u 74 :: u 75 :: u 76 :: u 77 :: u 78 :: u 79 :: u 80 :: u 81 :: u 82 :: u 83 :: u 84 :: u 85 :: u 86 :: []), []⟩) a W)
    (fun a _ => w0.rng.length - (intOf (a.tmps.getD 11 undef)).toNat) ⟨⟨0, by omega, hbl, own5, exFrame (by kernel_rfl)⟩⟩ ?_
  clear hbl own5 hin hi W
  rintro a W ⟨⟨i, hi, hbl, hown, u, rfl⟩⟩
  have HSTEP : Hid (met = false → rowF (fun j => if j < i then outK K p st w0.rng.length (k + 1) j else outK K p st w0.rng.length k j) w0.rng.length = rowF (outK K p st w0.rng.length (k + 1)) w0.rng.length) := Lib.hid (fun hm => rowF_ext (fun j hj => by
    split
    · rfl
    · rw [outK_step, if_neg]
      rintro ⟨_, _, h, _⟩
      rw [HMET.out, hm] at h
      cases h))
  cases met
  · have own6 := row_own hown (HSTEP.out rfl)
    clear hown HSTEP
    by_cases hin : i < w0.rng.length
    · go_wp2_with fail
      refine ⟨⟨⟨k + 1, by omega, hbl, own6, exFrame (by kernel_rfl)⟩⟩, ?_⟩
      show p.length - (intOf (.int .i64 ((k : Int) + 1))).toNat < p.length - (intOf (.int .i64 (k : Int))).toNat
      simp [intOf]
      omega
    · go_wp2_with fail
      refine ⟨⟨⟨k + 1, by omega, hbl, own6, exFrame (by kernel_rfl)⟩⟩, ?_⟩
      show p.length - (intOf (.int .i64 ((k : Int) + 1))).toNat < p.length - (intOf (.int .i64 (k : Int))).toNat
      simp [intOf]
      omega
  clear HSTEP
  by_cases hin : i < w0.rng.length
  rotate_left
  · have own6 := row_own hown (M := rowF (outK K p st w0.rng.length (k + 1)) w0.rng.length) (rowF_ext (fun j hj => by rw [if_pos (by omega)]))
    clear hown
    go_wp2_with fail
    refine ⟨⟨⟨k + 1, by omega, hbl, own6, exFrame (by kernel_rfl)⟩⟩, ?_⟩
    show p.length - (intOf (.int .i64 ((k : Int) + 1))).toNat < p.length - (intOf (.int .i64 (k : Int))).toNat
    simp [intOf]
    omega
  have hcell := ints_cell hown (k := i) (by rw [rowF_len]; exact hin)
  rw [rowF_at hin, rowF_len, if_neg (Nat.lt_irrefl i)] at hcell
  obtain ⟨g', cap', hv, hg', hgl, hc0, hfz⟩ := hcell
  injection hv with hv1 _ hv2
  injection hv1 with hv1
  injection hv1 with hv1
  subst hv1 hv2
  have hpW := hp.below hbl
  obtain ⟨bd, od, rfl, hbd, g0, g1⟩ := hpW.at_ hkp
  have hdW := hpW.ins k hkp
  -- what the next row is
  have HNO : Hid (¬ (outK K p st w0.rng.length k i < 0 ∧ (i : Int) ∈ (gDp p k).ins) → rowF (fun j => if j < i then outK K p st w0.rng.length (k + 1) j else outK K p st w0.rng.length k j) w0.rng.length = rowF (fun j => if j < i + 1 then outK K p st w0.rng.length (k + 1) j else outK K p st w0.rng.length k j) w0.rng.length) := Lib.hid (fun h => rowF_ext (fun j hj => by
    by_cases h1 : j < i
    · rw [if_pos h1, if_pos (by omega)]
    · rw [if_neg h1]
      by_cases h2 : j < i + 1
      · obtain rfl : j = i := by omega
        rw [if_pos h2, outK_step, if_neg]
        rintro ⟨h3, _, _, h4⟩
        exact h ⟨h3, h4⟩
      · rw [if_neg h2]))
  have HYES : Hid (outK K p st w0.rng.length k i < 0 → (i : Int) ∈ (gDp p k).ins → (rowF (fun j => if j < i then outK K p st w0.rng.length (k + 1) j else outK K p st w0.rng.length k j) w0.rng.length).set i ((st : Int) + 1) = rowF (fun j => if j < i + 1 then outK K p st w0.rng.length (k + 1) j else outK K p st w0.rng.length k j) w0.rng.length) := Lib.hid (fun h3 h4 => by
    rw [rowF_set]
    refine rowF_ext (fun j hj => ?_)
    by_cases h1 : j = i
    · subst h1
      rw [if_pos rfl, if_pos (by omega), outK_step, if_pos]
      have h5 := met_le HK.out H6.out (v := (st : Int)) (by omega) hkp h4 HMET.out
      refine ⟨h3, ?_, HMET.out, h4⟩
      unfold outK at h3
      split at h3
      · omega
      · omega
    · rw [if_neg h1]
      by_cases h2 : j < i
      · rw [if_pos h2, if_pos (by omega)]
      · rw [if_neg h2, if_neg (by omega)])
  obtain ⟨x, hx⟩ : ∃ x, outK K p st w0.rng.length k i = x := ⟨_, rfl⟩
  rw [hx] at hc0
  have HXX := Lib.hid hx
  clear hx
  by_cases hx0 : x < 0
  rotate_left
  · have own6 := row_own hown (HNO.out (by rw [HXX.out]; exact fun h => hx0 h.1))
    have e1 : decide (x < 0) = false := decide_eq_false hx0
    clear HNO HYES hown
    go_wp2_with fail
    refine ⟨⟨⟨i + 1, by omega, hbl, own6, exFrame (by kernel_rfl)⟩⟩, ?_⟩
    show w0.rng.length - (intOf (.int .i64 ((i : Int) + 1))).toNat < w0.rng.length - (intOf (.int .i64 (i : Int))).toNat
    simp [intOf]
    omega
  have e1 : decide (x < 0) = true := decide_eq_true hx0
  have HX0 := Lib.hid hx0
  clear hx0
  go_wp2_with fail
  refine (among_any (gDp p k).heat (gDp p k).ins (rA k) (rc k) (i : Int) _ hdW hil).mono ?_
  rintro e W3 ⟨rfl, hX⟩
  have B3 := ex_trans hbl hX
  have own5 := own_below hown hX
  have hAB : (amongB (gDp p k).ins (i : Int) = false → ¬ (i : Int) ∈ (gDp p k).ins) ∧ (amongB (gDp p k).ins (i : Int) = true → (i : Int) ∈ (gDp p k).ins) := ⟨of_decide_eq_false, of_decide_eq_true⟩
  have HAB := Lib.hid hAB
  clear hAB
  generalize amongB (gDp p k).ins (i : Int) = ab at *
  cases ab
  · have own6 := row_own own5 (HNO.out (fun h => HAB.out.1 rfl h.2))
    clear HNO HYES hown own5
    go_wp2_with fail
    refine ⟨⟨⟨i + 1, by omega, B3, own6, exFrame (by kernel_rfl)⟩⟩, ?_⟩
    show w0.rng.length - (intOf (.int .i64 ((i : Int) + 1))).toNat < w0.rng.length - (intOf (.int .i64 (i : Int))).toNat
    simp [intOf]
    omega
  have hset := ints_set own5 (show (Value.slice (some ⟨g, 0, none⟩) w0.rng.length cap).ownBlock = some g from rfl) (k := i) (by rw [rowF_len]; exact hin) ((st : Int) + 1)
  have own6 := row_own hset (HYES.out (by rw [HXX.out]; exact HX0.out) (HAB.out.2 rfl))
  have B4 := ex_set B3 (p := ⟨g, i, none⟩) (by show w.heap.size ≤ g; omega) (.int .i64 ((st : Int) + 1))
  have hgl3 : g < W3.heap.size := by have := hX.size; omega
  have hc3 : W3.cell? ⟨g, i, none⟩ = some (.int .i64 x) := hX.cell (p := ⟨g, i, none⟩) hgl |>.trans hc0
  have hfz3 : ∀ j, W3.frozen? ⟨g, j, none⟩ = false := fun j => (hX.frozen (p := ⟨g, j, none⟩) hgl).trans (hfz j)
  clear HNO HYES hown own5 hset
  go_wp2_with fail
  refine ⟨⟨⟨i + 1, by omega, B4, own6, exFrame (by kernel_rfl)⟩⟩, ?_⟩
  show w0.rng.length - (intOf (.int .i64 ((i : Int) + 1))).toNat < w0.rng.length - (intOf (.int .i64 (i : Int))).toNat
  simp [intOf]
  omega
end Go.Proofs.Ytnplefhigbkbbaa
end

section
namespace Go.Proofs.Ytnplefhigbkbbaa
open Go.RowKit
attribute [local go_sem] Ex.cell? Ex.frozen? Gx.cell?

theorem own_push {α : Type} {f : α → List Value} {w : World} {base : Nat} {e : TypeId} {sz n : Nat} {v : Value} {l : List α} {x : α} (hn : n = l.length + 1) (h : w.ownsRow base e sz v n (l.flatMap f ++ f x)) : w.ownsRow base e sz v (l ++ [x]).length ((l ++ [x]).flatMap f) := by
  subst hn
  rw [List.flatMap_append, List.length_append]
  simpa using h
theorem take_push {α : Type} {l L : List α} {k : Nat} (hk : k < l.length) (h : L = l.take k) {x : α} (hx : l[k] = x) : L ++ [x] = l.take (k + 1) := by
  rw [List.take_succ_eq_append_getElem hk, h, hx]

set_option maxRecDepth 100000 in
set_option maxHeartbeats 1600000 in
theorem list_any (A : Option Addr) (c : Nat) (l : List Int) (w : World) (hl : l.length ≤ 1000000) (hA : SlAt w w.heap.size 1 A l.length (fI l)) :
    Calls Try.prog 63 #[.slice A l.length c] w fun e w' => (∃ A' c', e = .returned (.slice A' l.length c') ∧ w'.ownsRow w.heap.size 3 1 (.slice A' l.length c') l.length (l.map (Value.int .i64))) ∧ Below w.heap.size w w' := by
  obtain ⟨i0, hi0, hz0, hz1, hz2⟩ := info_parts int_info
  have HI := Lib.hid hi0
  clear hi0
  have hb1 := ex_alloc (Below.refl w.heap.size w) (.cells #[] 3)
  have hA2 := (hA.below hb1).up hb1.size
  go_enter Try.func63, Try.ntmps63
  go_wp2_with (refine pause_at 5 rfl ?_)
  refine Paused.mk ?_
  refine wpList_append_list (α := Int) (f := fun n => [.int .i64 n]) (F := fI) (sz := 1) (fun _ => rfl) (fun l k hk j hj => by have hj0 : j = 0 := (by omega); subst hj0; simp [fI, gI, hk]) (fun a u hu => by simp at hu; subst hu; rfl) rfl _ _ _ rfl w.heap.size 3 i0 _ 8 Try.underlying52 HI.out hz0 hz1 hz2 rfl (by omega) (some ⟨w.heap.size, 0, none⟩) 0 [] rfl (own_empty (Blk.new _ _ _) (Nat.le_refl _)) A c l rfl hA2 (by simp; unfold maxLen; omega) (by simp; omega) (by simp) (w.heap.size + 1) (by simp) ?_
  intro L1 B1' k1' v1 HL1 o1 g1 n1
  have hL : L1 = l := HL1.out
  clear HL1
  subst hL
  go_wp2
  go_ret
  refine ⟨⟨_, _, rfl, ?_⟩, hb1.grown g1 hb1.size (fun j hj => by have : w.heap.size = j := (by simpa [Value.ownBlock] using hj); omega)⟩
  rw [show L1.map (Value.int .i64) = L1.flatMap (fun n => [.int .i64 n]) by rw [List.map_eq_flatMap]]
  exact o1

set_option maxRecDepth 100000 in
set_option maxHeartbeats 6400000 in
theorem Works_law (w0 : Wo) (Ar : Option Addr) (cr : Nat) (w : World) (hr : SlAt w w.heap.size 2 Ar w0.rng.length (fR w0.rng)) (hn : w0.rng.length ≤ 1000) :
    Calls Try.prog 40 #[.agg #[.slice Ar w0.rng.length cr, .int .i64 w0.room, .int .i64 w0.steps]] w fun e w' => (∃ A c, e = .returned (.agg #[.slice A w0.rng.length c, .int .i64 w0.room, .int .i64 w0.steps]) ∧ SlAt w' w'.heap.size 2 A w0.rng.length (fR w0.rng)) ∧ Below w.heap.size w w' := by
  obtain ⟨i0, hi0, hz0, hz1, hz2⟩ := info_parts range_info
  have HI := Lib.hid hi0
  clear hi0
  have hb1 := ex_alloc (ex_alloc (ex_alloc (Below.refl w.heap.size w) (.cells #[.slice Ar w0.rng.length cr, .int .i64 w0.room, .int .i64 w0.steps] 60)) (.cells #[.slice none 0 0, .int .i64 0, .int .i64 0] 65)) (.cells #[.slice none 0 0, .int .i64 w0.room, .int .i64 w0.steps] 65)
  have q0 : Blk (((w.alloc (.cells #[.slice Ar w0.rng.length cr, .int .i64 w0.room, .int .i64 w0.steps] 60)).alloc (.cells #[.slice none 0 0, .int .i64 0, .int .i64 0] 65)).alloc (.cells #[.slice none 0 0, .int .i64 w0.room, .int .i64 w0.steps] 65)) w.heap.size 60 #[.slice Ar w0.rng.length cr, .int .i64 w0.room, .int .i64 w0.steps] := ((Blk.new _ _ _).alloc _).alloc _
  have q1 : Blk (((w.alloc (.cells #[.slice Ar w0.rng.length cr, .int .i64 w0.room, .int .i64 w0.steps] 60)).alloc (.cells #[.slice none 0 0, .int .i64 0, .int .i64 0] 65)).alloc (.cells #[.slice none 0 0, .int .i64 w0.room, .int .i64 w0.steps] 65)) (w.heap.size + 1) 65 #[.slice none 0 0, .int .i64 0, .int .i64 0] := (Blk.new' _ _ _ (by simp)).alloc _
  have q2 : Blk (((w.alloc (.cells #[.slice Ar w0.rng.length cr, .int .i64 w0.room, .int .i64 w0.steps] 60)).alloc (.cells #[.slice none 0 0, .int .i64 0, .int .i64 0] 65)).alloc (.cells #[.slice none 0 0, .int .i64 w0.room, .int .i64 w0.steps] 65)) (w.heap.size + 1 + 1) 65 #[.slice none 0 0, .int .i64 w0.room, .int .i64 w0.steps] := Blk.new' _ _ _ (by simp)
  go_enter Try.func40, Try.ntmps40
  go_wp2_with fail
  have hVs : w.heap.size + 1 + 1 + 1 ≤ (((w.alloc (.cells #[.slice Ar w0.rng.length cr, .int .i64 w0.room, .int .i64 w0.steps] 60)).alloc (.cells #[.slice none 0 0, .int .i64 0, .int .i64 0] 65)).alloc (.cells #[.slice none 0 0, .int .i64 w0.room, .int .i64 w0.steps] 65)).heap.size := by simp
  generalize ((w.alloc (.cells #[.slice Ar w0.rng.length cr, .int .i64 w0.room, .int .i64 w0.steps] 60)).alloc (.cells #[.slice none 0 0, .int .i64 0, .int .i64 0] 65)).alloc (.cells #[.slice none 0 0, .int .i64 w0.room, .int .i64 w0.steps] 65) = V at *
  refine wp_loop (fun a W => Rel (fun a W => ∃ k : Nat, k ≤ w0.rng.length ∧ Below w.heap.size w W ∧ w.heap.size + 1 + 1 + 1 ≤ W.heap.size ∧ Blk W w.heap.size 60 #[.slice Ar w0.rng.length cr, .int .i64 w0.room, .int .i64 w0.steps] ∧ Blk W (w.heap.size + 1) 65 #[.slice none 0 0, .int .i64 0, .int .i64 0] ∧ ∃ v, ∃ L : List Rg, Hid (L = w0.rng.take k) ∧ Blk W (w.heap.size + 1 + 1) 65 #[v, .int .i64 w0.room, .int .i64 w0.steps] ∧ W.ownsRow (w.heap.size + 1 + 1 + 1) 41 2 v L.length (L.flatMap cR) ∧ ∃ u : Nat → Value, a = ⟨List.toArray (u 0 :: .pointer (some ⟨w.heap.size, 0, none⟩) :: .pointer (some ⟨w.heap.size + 1, 0, none⟩) :: .pointer (some ⟨w.heap.size + 1 + 1, 0, none⟩) :: .int .i64 (k : Int) :: u 5 :: u 6 :: u 7 :: u 8 :: u 9 :: u 10 :: u 11 :: u 12 :: u 13 :: u 14 :: u 15 :: u 16 :: u 17 :: u 18 :: u 19 :: u 20 :: u 21 :: u 22 :: u 23 :: u 24 :: u 25 :: u 26 :: u 27 :: u 28 :: []), []⟩) a W)
    (fun a _ => w0.rng.length - (intOf (a.tmps.getD 4 undef)).toNat) ⟨⟨0, by omega, hb1, hVs, q0, q1, .slice none 0 0, [], Lib.hid rfl, q2, ⟨rfl, .inl ⟨rfl, rfl⟩⟩, exFrame (by kernel_rfl)⟩⟩ ?_
  clear hb1 hVs q0 q1 q2 V
  rintro a W ⟨⟨k, hk, hbl, hsz, q0, q1, v, L, HL, q2, hown, u, rfl⟩⟩
  have l0 := q0.lt
  have l1 := q1.lt
  have l2 := q2.lt
  have a0 : W.cell? ⟨w.heap.size, 0, none⟩ = some (.slice Ar w0.rng.length cr) := q0.cell 0
  by_cases hlt : k < w0.rng.length
  · obtain ⟨br, orr, rfl, hbr, r0, r1⟩ := IsRgs.at_ (hr.below hbl) hlt
    have lbr : br < W.heap.size := by omega
    have hlen : L.length = k := by rw [HL.out, List.length_take]; omega
    have hat : (w0.rng[k] : Rg) = gR w0.rng k := (gR_at hlt).symm
    obtain ⟨lo, hlo⟩ : ∃ lo, (gR w0.rng k).lo = lo := ⟨_, rfl⟩
    obtain ⟨hi, hhi⟩ : ∃ hi, (gR w0.rng k).hi = hi := ⟨_, rfl⟩
    rw [hlo] at r0
    rw [hhi] at r1
    have HN : Hid (L ++ [⟨lo, hi⟩] = w0.rng.take (k + 1)) := Lib.hid (take_push hlt HL.out (by rw [hat, ← hlo, ← hhi]))
    have HLEN := Lib.hid hlen
    clear hlo hhi hat hlen
    obtain ⟨row, hrow⟩ : ∃ row, v.ownBlock = row := ⟨_, rfl⟩
    have hge := fun (j : Nat) (hj : v.ownBlock = some j) => own_ge hown hj
    have hn0 : ¬ some w.heap.size = row := fun e => by have := hge _ (hrow.trans e.symm); omega
    have hn1 : ¬ some (w.heap.size + 1) = row := fun e => by have := hge _ (hrow.trans e.symm); omega
    have hn2 : ¬ some (w.heap.size + 1 + 1) = row := fun e => by have := hge _ (hrow.trans e.symm); omega
    have hnr : ¬ some br = row := fun e => by have := hge _ (hrow.trans e.symm); omega
    have hrw : ∀ j, row = some j → w.heap.size ≤ j := fun j hj => by have := hge _ (hrow.trans hj); omega
    have e2 : W.cell? ⟨w.heap.size + 1 + 1, 0, none⟩ = some v := q2.cell 0
    have HROW := Lib.hid hrow
    have hlk : L.length ≤ 1000 := by rw [HLEN.out]; omega
    clear hrow hge
    go_wp2_with fail
    refine wp_region_gx_mix row 11 [(false, 0), (false, 1), (false, 2), (false, 3), (false, 4), (false, 5), (false, 6), (true, 7), (true, 8), (true, 9), (false, 10)] (by kernel_rfl) (by kernel_rfl) (by intro d _ _ _ _ h; cases d <;> exact h) ?_
    repeat (refine mix_quiet rfl ?_; go_big_quiet_step (fail); refine wpQuiet_nil ?_)
    have hX0 := (Below.refl W.heap.size W).drew
    refine mix_loud rfl ?_
    go_wp2_with fail
    refine (to_law lo hi W.drew).mono ?_
    rintro e x1 ⟨rfl, hx1⟩
    have hX_x1 := ex_trans hX0 hx1
    go_wp2_with fail
    refine ⟨inGx (grown_row hX_x1), ?_⟩
    repeat (refine mix_quiet rfl ?_; go_big_quiet_step (fail); refine wpQuiet_nil ?_)
    refine mix_loud rfl ?_
    go_wp2_with fail
    have hX2 := ex_alloc hX_x1 (.cells #[.int .i64 lo, .int .i64 hi] 41)
    refine ⟨inGx (grown_row hX2), ?_⟩
    repeat (refine mix_quiet rfl ?_; go_big_quiet_step (fail); refine wpQuiet_nil ?_)
    have y4 := own_below hown hX2
    have c63 : L.length + 1 ≤ maxLen := by unfold maxLen; omega
    have cby : (L.length + 1) * 16 ≤ 140737488355328 := by omega
    have hbase : w.heap.size + 1 + 1 + 1 ≤ (x1.alloc (.cells #[.int .i64 lo, .int .i64 hi] 41)).heap.size := by have := hX2.size; omega
    refine mix_loud rfl ?_
    go_wp2_with (at_builtin; refine wpList_append_lies _ rfl _ _ _ rfl (w.heap.size + 1 + 1 + 1) 41 i0 _ 2 16 Try.underlying28 HI.out hz0 hz1 hz2 rfl (by omega) v _ _ rfl y4 ⟨x1.heap.size, 0, none⟩ 1 1 [.int .i64 lo, .int .i64 hi] rfl rfl (World.news_of_block (heap_alloc_new x1 _)) (by simp [Value.oneCell']) (by omega) c63 cby hbase (x1.heap.size + 1) (by simp) ?_; intro gg cap w1 hown' hgrow hat hlt')
    rw [HROW.out] at hgrow
    have hgB := (grown_row (r := row) hX2).andThen hgrow (fun j hj => .inr hj)
    refine ⟨inGx hgB, ?_⟩
    repeat (refine mix_quiet rfl ?_; go_big_quiet_step (fail); refine wpQuiet_nil ?_)
    refine mix_nil rfl ?_
    have B5 := hbl.grown hgB hbl.size hrw
    have p0 := q0.grown hgB hn0
    have p1 := q1.grown hgB hn1
    have p2 := q2.grown hgB hn2
    have f0 : w1.cell? ⟨w.heap.size + 1 + 1, 0, none⟩ = some v := p2.cell 0
    have ff := p2.frozen0
    have lp0 := p0.lt
    have lp1 := p1.lt
    have lp2 := p2.lt
    have hs7 : w.heap.size + 1 + 1 + 1 ≤ w1.heap.size := by have := hgB.size; omega
    have own7 := own_push (f := cR) (x := ⟨lo, hi⟩) rfl hown'
    have own8 := own_far own7 (p := ⟨w.heap.size + 1 + 1, 0, none⟩) (by show w.heap.size + 1 + 1 < w.heap.size + 1 + 1 + 1; omega) (.slice (some ⟨gg, 0, none⟩) (L.length + 1) cap)
    have B8 := ex_set B5 (p := ⟨w.heap.size + 1 + 1, 0, none⟩) (by show w.heap.size ≤ w.heap.size + 1 + 1; omega) (.slice (some ⟨gg, 0, none⟩) (L.length + 1) cap)
    have p08 := p0.far (p := ⟨w.heap.size + 1 + 1, 0, none⟩) (by show w.heap.size ≠ w.heap.size + 1 + 1; omega) (.slice (some ⟨gg, 0, none⟩) (L.length + 1) cap)
    have p18 := p1.far (p := ⟨w.heap.size + 1 + 1, 0, none⟩) (by show w.heap.size + 1 ≠ w.heap.size + 1 + 1; omega) (.slice (some ⟨gg, 0, none⟩) (L.length + 1) cap)
    have p28 := p2.set_ 0 (.slice (some ⟨gg, 0, none⟩) (L.length + 1) cap)
    simp only [List.setIfInBounds_toArray, List.set_cons_zero] at p28
    clear hown' own7 hgB hgrow y4 hX2 hX_x1 hX0 hx1 e2 a0 q0 q1 q2 p0 p1 hown hnr hn0 hn1 hn2 r0 r1
    go_wp2_with fail
    refine ⟨⟨⟨k + 1, by omega, B8, by simp; omega, p08, p18, _, _, HN, p28, own8, exFrame (by kernel_rfl)⟩⟩, ?_⟩
    show w0.rng.length - (intOf (.int .i64 ((k : Int) + 1))).toNat < w0.rng.length - (intOf (.int .i64 (k : Int))).toNat
    simp [intOf]
    omega
  obtain rfl : k = w0.rng.length := by omega
  have hLL : L = w0.rng := HL.out.trans List.take_length
  clear HL
  subst hLL
  obtain ⟨A', c', rfl, _, _, hsl'⟩ := own_R hown
  have b0 : W.cell? ⟨w.heap.size + 1 + 1, 0, none⟩ = some (.slice A' w0.rng.length c') := q2.cell 0
  have b1 : W.cell? ⟨w.heap.size + 1 + 1, 1, none⟩ = some (.int .i64 w0.room) := q2.cell 1
  have b2 : W.cell? ⟨w.heap.size + 1 + 1, 2, none⟩ = some (.int .i64 w0.steps) := q2.cell 2
  have ff := q1.frozen0
  have q9 := q1
  have B9 := ex_set (ex_set (ex_set hbl (p := ⟨w.heap.size + 1, 0, none⟩) (by show w.heap.size ≤ w.heap.size + 1; omega) (.slice A' w0.rng.length c')) (p := ⟨w.heap.size + 1, 1, none⟩) (by show w.heap.size ≤ w.heap.size + 1; omega) (.int .i64 w0.room)) (p := ⟨w.heap.size + 1, 2, none⟩) (by show w.heap.size ≤ w.heap.size + 1; omega) (.int .i64 w0.steps)
  have q8 := ((q1.set_ 0 (.slice A' w0.rng.length c')).set_ 1 (.int .i64 w0.room)).set_ 2 (.int .i64 w0.steps)
  simp only [List.setIfInBounds_toArray, List.set_cons_zero, List.set_cons_succ] at q8
  have z0 : W.cell? ⟨w.heap.size + 1, 0, none⟩ = some (.slice none 0 0) := q1.cell 0
  have z1 : W.cell? ⟨w.heap.size + 1, 1, none⟩ = some (.int .i64 0) := q1.cell 1
  have z2 : W.cell? ⟨w.heap.size + 1, 2, none⟩ = some (.int .i64 0) := q1.cell 2
  have hlt1 : w.heap.size + 1 < w.heap.size + 1 + 1 + 1 := by omega
  have own9 := own_far (own_far (own_far hown (p := ⟨w.heap.size + 1, 0, none⟩) hlt1 (.slice A' w0.rng.length c')) (p := ⟨w.heap.size + 1, 1, none⟩) hlt1 (.int .i64 w0.room)) (p := ⟨w.heap.size + 1, 2, none⟩) hlt1 (.int .i64 w0.steps)
  obtain ⟨A2, c2, hv, _, _, S9⟩ := own_R own9
  injection hv with hv _ hv2
  subst hv hv2
  clear own9 hown hsl'
  go_wp2
  refine bodyPost_ret (results_cell_row rfl _ _ (w.heap.size + 1) 65 #[.slice A' w0.rng.length c', .int .i64 w0.room, .int .i64 w0.steps] (0, 0) _ rfl q8 rfl rfl rfl) rfl ?_
  exact ⟨⟨A', ⟨c', rfl⟩, S9⟩, B9⟩
end Go.Proofs.Ytnplefhigbkbbaa
end

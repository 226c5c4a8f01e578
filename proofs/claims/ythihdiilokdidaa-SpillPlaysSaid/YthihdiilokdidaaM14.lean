/- Spill's laws: SpillPlays (walk). -/
import Derived.Test.YthihdiilokdidaaM13
set_option linter.unusedVariables false
set_option linter.unusedSimpArgs false
set_option linter.unusedSectionVars false
section
namespace Go.Proofs.Ythihdiilokdidaa
open Go.RowKit
attribute [local go_sem] Ex.cell? Ex.frozen?

theorem shortB_iff {L : List (List Int)} : shortB L = true ↔ L.length ≤ 9 ∧ ∀ k, k < L.length → (gL L k).length ≤ 9 := by
  unfold shortB
  rw [Bool.and_eq_true, decide_eq_true_eq, allTo_iff]
  constructor
  · rintro ⟨a, b⟩; exact ⟨a, fun k hk => of_decide_eq_true (b k hk)⟩
  · rintro ⟨a, b⟩; exact ⟨a, fun k hk => decide_eq_true (b k hk)⟩
structure Thn (s : Ws) (t : Tt) : Prop where
  nr : s.rooms.length ≤ 6
  nm : s.moves.length ≤ 15
  nw : s.wgs.length ≤ 11
  nf : t.fs.length ≤ 9
  ng : t.gs.length ≤ 18
  nv : t.vs.length ≤ 9
  row : ∀ k, k < t.vs.length → (gL t.vs k).length ≤ 9
theorem thinB_iff {s : Ws} {t : Tt} : thinB s t = true ↔ Thn s t := by
  unfold thinB
  simp only [Bool.and_eq_true, decide_eq_true_eq, shortB_iff]
  constructor
  · rintro ⟨a, b, c, d, e, f, g⟩; exact ⟨a, b, c, d, e, f, g⟩
  · intro h; exact ⟨h.nr, h.nm, h.nw, h.nf, h.ng, h.nv, h.row⟩
theorem sameB_self (n : Nat) (N : Nat → Nat) (L : Nat → Nat → Int) : sameB n n N N L L = true := by
  unfold sameB
  rw [decide_eq_true (rfl : n = n), allTo_iff.2 (fun k hk => ?_)]
  · rfl
  · unfold rowS
    rw [decide_eq_true (rfl : N k = N k), allTo_iff.2 (fun i _ => decide_eq_true rfl)]
    rfl
theorem agrL_nil (s : Ws) (S : Nat → Nat → Int) : agrL s S [] = allTo (fun k => agrB S (gWg s.wgs k)) s.wgs.length := rfl
set_option maxRecDepth 100000 in
set_option maxHeartbeats 12800000 in
theorem PlaysLaw_any (s : Ws) (Ar Am Aw : Option Addr) (cr cm cw : Nat) (w : World) (hs : WsIn w w.heap.size s Ar Am Aw) (t : Tt) (Af Av Ag : Option Addr) (cf cv cg : Nat) (rV : Nat → Option Addr) (rcV : Nat → Nat) (ht : TtIn w w.heap.size t Af Av Ag rV rcV) :
    Calls Try.prog 13 #[.agg #[.slice Ar s.rooms.length cr, .int .i64 s.days, .slice Am s.moves.length cm, .slice Aw s.wgs.length cw], .agg #[.slice Af t.fs.length cf, .slice Av t.vs.length cv, .slice Ag t.gs.length cg]] w fun e w' => e = .returned (.bool true) ∧ Below w.heap.size w w' := by
  have hb1 := ex_alloc (ex_alloc (Below.refl w.heap.size w) (.cells #[.slice Ar s.rooms.length cr, .int .i64 s.days, .slice Am s.moves.length cm, .slice Aw s.wgs.length cw] 26)) (.cells #[.slice Af t.fs.length cf, .slice Av t.vs.length cv, .slice Ag t.gs.length cg] 31)
  have q0 : Blk ((w.alloc (.cells #[.slice Ar s.rooms.length cr, .int .i64 s.days, .slice Am s.moves.length cm, .slice Aw s.wgs.length cw] 26)).alloc (.cells #[.slice Af t.fs.length cf, .slice Av t.vs.length cv, .slice Ag t.gs.length cg] 31)) w.heap.size 26 #[.slice Ar s.rooms.length cr, .int .i64 s.days, .slice Am s.moves.length cm, .slice Aw s.wgs.length cw] := (Blk.new _ _ _).alloc _
  have q1 : Blk ((w.alloc (.cells #[.slice Ar s.rooms.length cr, .int .i64 s.days, .slice Am s.moves.length cm, .slice Aw s.wgs.length cw] 26)).alloc (.cells #[.slice Af t.fs.length cf, .slice Av t.vs.length cv, .slice Ag t.gs.length cg] 31)) (w.heap.size + 1) 31 #[.slice Af t.fs.length cf, .slice Av t.vs.length cv, .slice Ag t.gs.length cg] := Blk.new' _ _ _ (by simp)
  replace hs := hs.go hb1
  replace ht := ht.go hb1
  go_enter Try.func13, Try.ntmps13
  go_upto_region 1 with fail
  show Code.wp _ _ _ _ ((w.alloc (.cells #[.slice Ar s.rooms.length cr, .int .i64 s.days, .slice Am s.moves.length cm, .slice Aw s.wgs.length cw] 26)).alloc (.cells #[.slice Af t.fs.length cf, .slice Av t.vs.length cv, .slice Ag t.gs.length cg] 31))
  generalize (w.alloc (.cells #[.slice Ar s.rooms.length cr, .int .i64 s.days, .slice Am s.moves.length cm, .slice Aw s.wgs.length cw] 26)).alloc (.cells #[.slice Af t.fs.length cf, .slice Av t.vs.length cv, .slice Ag t.gs.length cg] 31) = V at *
  have a0 : V.cell? ⟨w.heap.size, 0, none⟩ = some (.slice Ar s.rooms.length cr) := q0.cell 0
  have a1 : V.cell? ⟨w.heap.size, 1, none⟩ = some (.int .i64 s.days) := q0.cell 1
  have a2 : V.cell? ⟨w.heap.size, 2, none⟩ = some (.slice Am s.moves.length cm) := q0.cell 2
  have a3 : V.cell? ⟨w.heap.size, 3, none⟩ = some (.slice Aw s.wgs.length cw) := q0.cell 3
  have b0 : V.cell? ⟨w.heap.size + 1, 0, none⟩ = some (.slice Af t.fs.length cf) := q1.cell 0
  have b1 : V.cell? ⟨w.heap.size + 1, 1, none⟩ = some (.slice Av t.vs.length cv) := q1.cell 1
  have b2 : V.cell? ⟨w.heap.size + 1, 2, none⟩ = some (.slice Ag t.gs.length cg) := q1.cell 2
  have l0 := q0.lt
  have l1 := q1.lt
  go_wp2_with fail
  refine (Thin_any s Ar Am Aw cr cm cw V hs t Af Av Ag cf cv cg rV rcV ht).mono ?_
  rintro e V1 ⟨rfl, hV1⟩
  replace q0 := q0.below hV1 q0.lt
  replace q1 := q1.below hV1 q1.lt
  replace hs := hs.go hV1
  replace ht := ht.go hV1
  have B_V1 := ex_trans hb1 hV1
  clear a0 a1 a2 a3 b0 b1 b2 l0 l1
  have a0 : V1.cell? ⟨w.heap.size, 0, none⟩ = some (.slice Ar s.rooms.length cr) := q0.cell 0
  have a1 : V1.cell? ⟨w.heap.size, 1, none⟩ = some (.int .i64 s.days) := q0.cell 1
  have a2 : V1.cell? ⟨w.heap.size, 2, none⟩ = some (.slice Am s.moves.length cm) := q0.cell 2
  have a3 : V1.cell? ⟨w.heap.size, 3, none⟩ = some (.slice Aw s.wgs.length cw) := q0.cell 3
  have b0 : V1.cell? ⟨w.heap.size + 1, 0, none⟩ = some (.slice Af t.fs.length cf) := q1.cell 0
  have b1 : V1.cell? ⟨w.heap.size + 1, 1, none⟩ = some (.slice Av t.vs.length cv) := q1.cell 1
  have b2 : V1.cell? ⟨w.heap.size + 1, 2, none⟩ = some (.slice Ag t.gs.length cg) := q1.cell 2
  have l0 := q0.lt
  have l1 := q1.lt
  cases hth : thinB s t
  · clear hth
    go_wp2_with fail
    refine (awake_any V1).mono ?_
    rintro e X1 ⟨rfl, hX1⟩
    replace q0 := q0.below hX1 q0.lt
    replace q1 := q1.below hX1 q1.lt
    replace hs := hs.go hX1
    replace ht := ht.go hX1
    have B_X1 := ex_trans B_V1 hX1
    go_wp2
    go_ret
    exact ⟨rfl, B_X1⟩
  have HT := Lib.hid (thinB_iff.1 hth)
  clear hth
  have hsw : s.rooms.length ≤ 1000 ∧ s.moves.length ≤ 1000 ∧ s.wgs.length ≤ 1000 := ⟨by have := HT.out.nr; omega, by have := HT.out.nm; omega, by have := HT.out.nw; omega⟩
  have HSM : Hid (SmT t) := Lib.hid ⟨by have := HT.out.nf; omega, by have := HT.out.nv; omega, by have := HT.out.ng; omega, fun k hk => by have := HT.out.row k hk; omega⟩
  have HST : Hid (t.fs.length ≤ 1000 ∧ t.vs.length ≤ 1000 ∧ t.gs.length ≤ 1000) := Lib.hid ⟨by have := HT.out.nf; omega, by have := HT.out.nv; omega, by have := HT.out.ng; omega⟩
  have HSV : Hid (∀ k, k < t.vs.length → (gL t.vs k).length ≤ 1000) := Lib.hid (fun k hk => by have := HT.out.row k hk; omega)
  have HSW := Lib.hid hsw
  clear hsw
  go_wp2_with fail
  refine (Works_any s Ar Am Aw cr cm cw V1 hs HSW.out).mono ?_
  rintro e V2 ⟨⟨⟨Ar1, Am1, Aw1, cr1, cm1, cw1, rfl, hw1⟩⟩, hV2⟩
  replace q0 := q0.below hV2 q0.lt
  replace q1 := q1.below hV2 q1.lt
  replace hs := hs.go hV2
  replace ht := ht.go hV2
  have B_V2 := ex_trans B_V1 hV2
  go_wp2_with fail
  refine (check_any s Ar1 Am1 Aw1 cr1 cm1 cw1 V2 hw1).mono ?_
  rintro e V3 ⟨rfl, hV3⟩
  replace q0 := q0.below hV3 q0.lt
  replace q1 := q1.below hV3 q1.lt
  replace hs := hs.go hV3
  replace ht := ht.go hV3
  replace hw1 := hw1.go hV3
  have B_V3 := ex_trans B_V2 hV3
  clear hw1
  clear a0 a1 a2 a3 b0 b1 b2 l0 l1
  have a0 : V3.cell? ⟨w.heap.size, 0, none⟩ = some (.slice Ar s.rooms.length cr) := q0.cell 0
  have a1 : V3.cell? ⟨w.heap.size, 1, none⟩ = some (.int .i64 s.days) := q0.cell 1
  have a2 : V3.cell? ⟨w.heap.size, 2, none⟩ = some (.slice Am s.moves.length cm) := q0.cell 2
  have a3 : V3.cell? ⟨w.heap.size, 3, none⟩ = some (.slice Aw s.wgs.length cw) := q0.cell 3
  have b0 : V3.cell? ⟨w.heap.size + 1, 0, none⟩ = some (.slice Af t.fs.length cf) := q1.cell 0
  have b1 : V3.cell? ⟨w.heap.size + 1, 1, none⟩ = some (.slice Av t.vs.length cv) := q1.cell 1
  have b2 : V3.cell? ⟨w.heap.size + 1, 2, none⟩ = some (.slice Ag t.gs.length cg) := q1.cell 2
  have l0 := q0.lt
  have l1 := q1.lt
  go_upto_region 4 with fail
  have D4 := (Below.refl V3.heap.size V3).drew
  refine wp_region_ext_mix 11 [(false, 0), (false, 2), (true, 1), (true, 3), (true, 4), (false, 5), (false, 6), (false, 7), (false, 8), (false, 9), (false, 10)] (by kernel_rfl) (by kernel_rfl) (by intro d _ _ _ _ h; cases d <;> exact h) ?_
  repeat (refine mix_quiet rfl ?_; go_big_quiet_step (fail); refine wpQuiet_nil ?_)
  obtain ⟨Y4, hY⟩ : ∃ Y, V3.drew = Y := ⟨_, rfl⟩
  rw [hY] at D4 ⊢
  clear hY
  replace q0 := q0.below D4 q0.lt
  replace q1 := q1.below D4 q1.lt
  replace hs := hs.go D4
  replace ht := ht.go D4
  have B_Y4 := ex_trans B_V3 D4
  refine mix_loud rfl ?_
  go_wp2_with fail
  refine (Works_any s Ar Am Aw cr cm cw Y4 hs HSW.out).mono ?_
  rintro e V4 ⟨⟨⟨Ar2, Am2, Aw2, cr2, cm2, cw2, rfl, hw2⟩⟩, hV4⟩
  replace q0 := q0.below hV4 q0.lt
  replace q1 := q1.below hV4 q1.lt
  replace hs := hs.go hV4
  replace ht := ht.go hV4
  have B_V4 := ex_trans B_Y4 hV4
  have X_V4 := ex_trans D4 hV4
  go_wp2_with fail
  refine ⟨inEx X_V4, ?_⟩
  repeat (refine mix_quiet rfl ?_; go_big_quiet_step (fail); refine wpQuiet_nil ?_)
  refine mix_loud rfl ?_
  go_wp2_with fail
  refine (Truth_any t Af Av Ag cf cv cg rV rcV V4 HST.out HSV.out ht).mono ?_
  rintro e V5 ⟨⟨⟨Af2, Av2, Ag2, cf2, cv2, cg2, rV2, rcV2, rfl, hq2⟩⟩, hV5⟩
  replace q0 := q0.below hV5 q0.lt
  replace q1 := q1.below hV5 q1.lt
  replace hs := hs.go hV5
  replace ht := ht.go hV5
  replace hw2 := hw2.go hV5
  have B_V5 := ex_trans B_V4 hV5
  have X_V5 := ex_trans X_V4 hV5
  go_wp2_with fail
  refine ⟨inEx X_V5, ?_⟩
  repeat (refine mix_quiet rfl ?_; go_big_quiet_step (fail); refine wpQuiet_nil ?_)
  refine mix_loud rfl ?_
  go_wp2_with fail
  refine (play_any s Ar2 Am2 Aw2 cr2 cm2 cw2 V5 hw2 t Af2 Av2 Ag2 cf2 cv2 cg2 rV2 rcV2 hq2 HSM.out ⟨HSW.out.1, HSW.out.2.1⟩).mono ?_
  rintro e V6 ⟨⟨np, Ap, cp, rAp, rcp, rfl, hpv⟩, hV6⟩
  replace q0 := q0.below hV6 q0.lt
  replace q1 := q1.below hV6 q1.lt
  replace hs := hs.go hV6
  replace ht := ht.go hV6
  replace hw2 := hw2.go hV6
  replace hq2 := hq2.go hV6
  have B_V6 := ex_trans B_V5 hV6
  have X_V6 := ex_trans X_V5 hV6
  clear hw2 hq2
  have hmat := hpv.yes
  have hno := hpv.no
  clear hpv
  obtain ⟨ec, hec⟩ : ∃ x, ckWs s = x := ⟨_, rfl⟩
  by_cases hp0 : playE s t = 0
  · obtain ⟨hn, hmt⟩ := hmat hp0
    have hck0 : ckWs s = 0 := by by_cases h : ckWs s = 0; exact h; unfold playE at hp0; rw [if_neg h] at hp0; exact absurd hp0 h
    have htru : truT s t = true := by cases h : truT s t; (unfold playE at hp0; rw [if_pos hck0, h] at hp0; exact absurd hp0 (by decide)); rfl
    obtain ⟨hwo, hdd⟩ := ckWs_iff.1 hck0
    subst hn
    have HWO := Lib.hid hwo
    have HDD := Lib.hid hdd
    have HTR := Lib.hid htru
    have HCK := Lib.hid hck0
    have HPB : Hid (playB s t = canT s t) := Lib.hid (by unfold playB; rw [hp0]; simp)
    have HPT : Hid (proveT s t = (canT s t && agrL s (stk s.wo t.F t.V t.G) [])) := Lib.hid (by unfold proveT; rw [HPB.out, agrL_nil])
    rw [hp0, HPB.out]
    clear hno hmat hp0 hck0 htru hwo hdd hec
    go_wp2_with fail
    refine ⟨inEx X_V6, ?_⟩
    repeat (refine mix_quiet rfl ?_; go_big_quiet_step (fail); refine wpQuiet_nil ?_)
    refine mix_nil (r := [_]) rfl ?_
    clear a0 a1 a2 a3 b0 b1 b2 l0 l1
    have a0 : V6.cell? ⟨w.heap.size, 0, none⟩ = some (.slice Ar s.rooms.length cr) := q0.cell 0
    have a1 : V6.cell? ⟨w.heap.size, 1, none⟩ = some (.int .i64 s.days) := q0.cell 1
    have a2 : V6.cell? ⟨w.heap.size, 2, none⟩ = some (.slice Am s.moves.length cm) := q0.cell 2
    have a3 : V6.cell? ⟨w.heap.size, 3, none⟩ = some (.slice Aw s.wgs.length cw) := q0.cell 3
    have b0 : V6.cell? ⟨w.heap.size + 1, 0, none⟩ = some (.slice Af t.fs.length cf) := q1.cell 0
    have b1 : V6.cell? ⟨w.heap.size + 1, 1, none⟩ = some (.slice Av t.vs.length cv) := q1.cell 1
    have b2 : V6.cell? ⟨w.heap.size + 1, 2, none⟩ = some (.slice Ag t.gs.length cg) := q1.cell 2
    have l0 := q0.lt
    have l1 := q1.lt
    go_upto_region 5 with fail
    have D5 := (Below.refl V6.heap.size V6).drew
    refine wp_region_ext_mix 5 [(false, 0), (false, 2), (true, 1), (true, 3), (true, 4)] (by kernel_rfl) (by kernel_rfl) (by intro d _ _ _ _ h; cases d <;> exact h) ?_
    repeat (refine mix_quiet rfl ?_; go_big_quiet_step (fail); refine wpQuiet_nil ?_)
    obtain ⟨Y5, hY⟩ : ∃ Y, V6.drew = Y := ⟨_, rfl⟩
    rw [hY] at D5 ⊢
    clear hY
    replace q0 := q0.below D5 q0.lt
    replace q1 := q1.below D5 q1.lt
    replace hs := hs.go D5
    replace ht := ht.go D5
    replace hmt := hmt.go D5
    have B_Y5 := ex_trans B_V6 D5
    refine mix_loud rfl ?_
    go_wp2_with fail
    refine (Works_any s Ar Am Aw cr cm cw Y5 hs HSW.out).mono ?_
    rintro e V7 ⟨⟨⟨Ar3, Am3, Aw3, cr3, cm3, cw3, rfl, hw3⟩⟩, hV7⟩
    replace q0 := q0.below hV7 q0.lt
    replace q1 := q1.below hV7 q1.lt
    replace hs := hs.go hV7
    replace ht := ht.go hV7
    replace hmt := hmt.go hV7
    have B_V7 := ex_trans B_Y5 hV7
    have X_V7 := ex_trans D5 hV7
    go_wp2_with fail
    refine ⟨inEx X_V7, ?_⟩
    repeat (refine mix_quiet rfl ?_; go_big_quiet_step (fail); refine wpQuiet_nil ?_)
    refine mix_loud rfl ?_
    go_wp2_with fail
    refine (Truth_any t Af Av Ag cf cv cg rV rcV V7 HST.out HSV.out ht).mono ?_
    rintro e V8 ⟨⟨⟨Af3, Av3, Ag3, cf3, cv3, cg3, rV3, rcV3, rfl, hq3⟩⟩, hV8⟩
    replace q0 := q0.below hV8 q0.lt
    replace q1 := q1.below hV8 q1.lt
    replace hs := hs.go hV8
    replace ht := ht.go hV8
    replace hmt := hmt.go hV8
    replace hw3 := hw3.go hV8
    have B_V8 := ex_trans B_V7 hV8
    have X_V8 := ex_trans X_V7 hV8
    go_wp2_with fail
    refine ⟨inEx X_V8, ?_⟩
    repeat (refine mix_quiet rfl ?_; go_big_quiet_step (fail); refine wpQuiet_nil ?_)
    refine mix_loud rfl ?_
    go_wp2_with fail
    refine (proveT_any s Ar3 Am3 Aw3 cr3 cm3 cw3 V8 hw3 t Af3 Av3 Ag3 cf3 cv3 cg3 rV3 rcV3 hq3 HSM.out ⟨HSW.out.1, HSW.out.2.1⟩).mono ?_
    rintro e V9 ⟨rfl, hV9⟩
    replace q0 := q0.below hV9 q0.lt
    replace q1 := q1.below hV9 q1.lt
    replace hs := hs.go hV9
    replace ht := ht.go hV9
    replace hmt := hmt.go hV9
    replace hw3 := hw3.go hV9
    replace hq3 := hq3.go hV9
    have B_V9 := ex_trans B_V8 hV9
    have X_V9 := ex_trans X_V8 hV9
    clear hw3 hq3
    rw [HPT.out]
    go_wp2_with fail
    refine ⟨inEx X_V9, ?_⟩
    repeat (refine mix_quiet rfl ?_; go_big_quiet_step (fail); refine wpQuiet_nil ?_)
    refine mix_nil (r := [_]) rfl ?_
    clear a0 a1 a2 a3 b0 b1 b2 l0 l1
    have a0 : V9.cell? ⟨w.heap.size, 0, none⟩ = some (.slice Ar s.rooms.length cr) := q0.cell 0
    have a1 : V9.cell? ⟨w.heap.size, 1, none⟩ = some (.int .i64 s.days) := q0.cell 1
    have a2 : V9.cell? ⟨w.heap.size, 2, none⟩ = some (.slice Am s.moves.length cm) := q0.cell 2
    have a3 : V9.cell? ⟨w.heap.size, 3, none⟩ = some (.slice Aw s.wgs.length cw) := q0.cell 3
    have b0 : V9.cell? ⟨w.heap.size + 1, 0, none⟩ = some (.slice Af t.fs.length cf) := q1.cell 0
    have b1 : V9.cell? ⟨w.heap.size + 1, 1, none⟩ = some (.slice Av t.vs.length cv) := q1.cell 1
    have b2 : V9.cell? ⟨w.heap.size + 1, 2, none⟩ = some (.slice Ag t.gs.length cg) := q1.cell 2
    have l0 := q0.lt
    have l1 := q1.lt
    go_wp2_with fail
    refine (fault_any s Ar Am Aw cr cm cw V9 hs).mono ?_
    rintro e V10 ⟨rfl, hV10⟩
    replace q0 := q0.below hV10 q0.lt
    replace q1 := q1.below hV10 q1.lt
    replace hs := hs.go hV10
    replace ht := ht.go hV10
    replace hmt := hmt.go hV10
    have B_V10 := ex_trans B_V9 hV10
    clear a0 a1 a2 a3 b0 b1 b2 l0 l1
    have a0 : V10.cell? ⟨w.heap.size, 0, none⟩ = some (.slice Ar s.rooms.length cr) := q0.cell 0
    have a1 : V10.cell? ⟨w.heap.size, 1, none⟩ = some (.int .i64 s.days) := q0.cell 1
    have a2 : V10.cell? ⟨w.heap.size, 2, none⟩ = some (.slice Am s.moves.length cm) := q0.cell 2
    have a3 : V10.cell? ⟨w.heap.size, 3, none⟩ = some (.slice Aw s.wgs.length cw) := q0.cell 3
    have b0 : V10.cell? ⟨w.heap.size + 1, 0, none⟩ = some (.slice Af t.fs.length cf) := q1.cell 0
    have b1 : V10.cell? ⟨w.heap.size + 1, 1, none⟩ = some (.slice Av t.vs.length cv) := q1.cell 1
    have b2 : V10.cell? ⟨w.heap.size + 1, 2, none⟩ = some (.slice Ag t.gs.length cg) := q1.cell 2
    have l0 := q0.lt
    have l1 := q1.lt
    rw [HCK.out]
    go_wp2_with fail
    refine (IsTruth_ref s Ar Am Aw cr cm cw V10 hs HWO.out HDD.out t Af Av Ag cf cv cg rV rcV ht).mono ?_
    rintro e V11 ⟨rfl, hV11⟩
    replace q0 := q0.below hV11 q0.lt
    replace q1 := q1.below hV11 q1.lt
    replace hs := hs.go hV11
    replace ht := ht.go hV11
    replace hmt := hmt.go hV11
    have B_V11 := ex_trans B_V10 hV11
    clear a0 a1 a2 a3 b0 b1 b2 l0 l1
    have a0 : V11.cell? ⟨w.heap.size, 0, none⟩ = some (.slice Ar s.rooms.length cr) := q0.cell 0
    have a1 : V11.cell? ⟨w.heap.size, 1, none⟩ = some (.int .i64 s.days) := q0.cell 1
    have a2 : V11.cell? ⟨w.heap.size, 2, none⟩ = some (.slice Am s.moves.length cm) := q0.cell 2
    have a3 : V11.cell? ⟨w.heap.size, 3, none⟩ = some (.slice Aw s.wgs.length cw) := q0.cell 3
    have b0 : V11.cell? ⟨w.heap.size + 1, 0, none⟩ = some (.slice Af t.fs.length cf) := q1.cell 0
    have b1 : V11.cell? ⟨w.heap.size + 1, 1, none⟩ = some (.slice Av t.vs.length cv) := q1.cell 1
    have b2 : V11.cell? ⟨w.heap.size + 1, 2, none⟩ = some (.slice Ag t.gs.length cg) := q1.cell 2
    have l0 := q0.lt
    have l1 := q1.lt
    rw [HTR.out]
    go_wp2_with fail
    refine (Play_ref s Ar Am Aw cr cm cw V11 hs HWO.out HDD.out t Af Av Ag cf cv cg rV rcV ht HTR.out).mono ?_
    rintro e V12 ⟨⟨Ax, cx, rAx, rcx, rfl, hmx⟩, hV12⟩
    replace q0 := q0.below hV12 q0.lt
    replace q1 := q1.below hV12 q1.lt
    replace hs := hs.go hV12
    replace ht := ht.go hV12
    replace hmt := hmt.go hV12
    have B_V12 := ex_trans B_V11 hV12
    clear a0 a1 a2 a3 b0 b1 b2 l0 l1
    have a0 : V12.cell? ⟨w.heap.size, 0, none⟩ = some (.slice Ar s.rooms.length cr) := q0.cell 0
    have a1 : V12.cell? ⟨w.heap.size, 1, none⟩ = some (.int .i64 s.days) := q0.cell 1
    have a2 : V12.cell? ⟨w.heap.size, 2, none⟩ = some (.slice Am s.moves.length cm) := q0.cell 2
    have a3 : V12.cell? ⟨w.heap.size, 3, none⟩ = some (.slice Aw s.wgs.length cw) := q0.cell 3
    have b0 : V12.cell? ⟨w.heap.size + 1, 0, none⟩ = some (.slice Af t.fs.length cf) := q1.cell 0
    have b1 : V12.cell? ⟨w.heap.size + 1, 1, none⟩ = some (.slice Av t.vs.length cv) := q1.cell 1
    have b2 : V12.cell? ⟨w.heap.size + 1, 2, none⟩ = some (.slice Ag t.gs.length cg) := q1.cell 2
    have l0 := q0.lt
    have l1 := q1.lt
    have hr3 : s.rooms.length ≤ 3 := HWO.out.len.2.1
    have hd6 : s.wo.days ≤ 6 := HWO.out.days.2
    go_wp2_with fail
    refine (same_any Ap Ax cp cx s.rooms.length s.rooms.length (fun _ => s.wo.days) (fun _ => s.wo.days) rAp rAx rcp rcx (stk s.wo t.F t.V t.G) (stk s.wo t.F t.V t.G) V12 hmt.out hmx.out hmt.row hmx.row (fun _ _ => by omega) (fun _ _ => by omega) (by omega) (by omega)).mono ?_
    rintro e V13 ⟨rfl, hV13⟩
    replace q0 := q0.below hV13 q0.lt
    replace q1 := q1.below hV13 q1.lt
    replace hs := hs.go hV13
    replace ht := ht.go hV13
    replace hmt := hmt.go hV13
    replace hmx := hmx.go hV13
    have B_V13 := ex_trans B_V12 hV13
    clear a0 a1 a2 a3 b0 b1 b2 l0 l1
    have a0 : V13.cell? ⟨w.heap.size, 0, none⟩ = some (.slice Ar s.rooms.length cr) := q0.cell 0
    have a1 : V13.cell? ⟨w.heap.size, 1, none⟩ = some (.int .i64 s.days) := q0.cell 1
    have a2 : V13.cell? ⟨w.heap.size, 2, none⟩ = some (.slice Am s.moves.length cm) := q0.cell 2
    have a3 : V13.cell? ⟨w.heap.size, 3, none⟩ = some (.slice Aw s.wgs.length cw) := q0.cell 3
    have b0 : V13.cell? ⟨w.heap.size + 1, 0, none⟩ = some (.slice Af t.fs.length cf) := q1.cell 0
    have b1 : V13.cell? ⟨w.heap.size + 1, 1, none⟩ = some (.slice Av t.vs.length cv) := q1.cell 1
    have b2 : V13.cell? ⟨w.heap.size + 1, 2, none⟩ = some (.slice Ag t.gs.length cg) := q1.cell 2
    have l0 := q0.lt
    have l1 := q1.lt
    rw [sameB_self]
    clear hmt
    cases hcn : canT s t
    · clear hcn
      go_wp2_with fail
      refine (awake_any V13).mono ?_
      rintro e X2 ⟨rfl, hX2⟩
      replace q0 := q0.below hX2 q0.lt
      replace q1 := q1.below hX2 q1.lt
      replace hs := hs.go hX2
      replace ht := ht.go hX2
      replace hmx := hmx.go hX2
      have B_X2 := ex_trans B_V13 hX2
      go_wp2
      go_ret
      exact ⟨rfl, B_X2⟩
    rw [Bool.true_and]
    go_wp2_with fail
    refine (Agrees_ref s Ar Am Aw cr cm cw V13 hs HWO.out (stk s.wo t.F t.V t.G) Ax cx rAx rcx hmx [] none 0 (fun h => absurd h (by simp)) (by simp)).mono ?_
    rintro e V14 ⟨rfl, hV14⟩
    replace q0 := q0.below hV14 q0.lt
    replace q1 := q1.below hV14 q1.lt
    replace hs := hs.go hV14
    replace ht := ht.go hV14
    replace hmx := hmx.go hV14
    have B_V14 := ex_trans B_V13 hV14
    clear a0 a1 a2 a3 b0 b1 b2 l0 l1
    have a0 : V14.cell? ⟨w.heap.size, 0, none⟩ = some (.slice Ar s.rooms.length cr) := q0.cell 0
    have a1 : V14.cell? ⟨w.heap.size, 1, none⟩ = some (.int .i64 s.days) := q0.cell 1
    have a2 : V14.cell? ⟨w.heap.size, 2, none⟩ = some (.slice Am s.moves.length cm) := q0.cell 2
    have a3 : V14.cell? ⟨w.heap.size, 3, none⟩ = some (.slice Aw s.wgs.length cw) := q0.cell 3
    have b0 : V14.cell? ⟨w.heap.size + 1, 0, none⟩ = some (.slice Af t.fs.length cf) := q1.cell 0
    have b1 : V14.cell? ⟨w.heap.size + 1, 1, none⟩ = some (.slice Av t.vs.length cv) := q1.cell 1
    have b2 : V14.cell? ⟨w.heap.size + 1, 2, none⟩ = some (.slice Ag t.gs.length cg) := q1.cell 2
    have l0 := q0.lt
    have l1 := q1.lt
    obtain ⟨ag, hag⟩ : ∃ x, agrL s (stk s.wo t.F t.V t.G) [] = x := ⟨_, rfl⟩
    rw [hag]
    clear hag hcn
    cases ag
    · go_wp2_with fail
      refine (awake_any V14).mono ?_
      rintro e X3 ⟨rfl, hX3⟩
      replace q0 := q0.below hX3 q0.lt
      replace q1 := q1.below hX3 q1.lt
      replace hs := hs.go hX3
      replace ht := ht.go hX3
      replace hmx := hmx.go hX3
      have B_X3 := ex_trans B_V14 hX3
      go_wp2
      go_ret
      exact ⟨rfl, B_X3⟩
    · go_wp2_with fail
      refine (awake_any V14).mono ?_
      rintro e X4 ⟨rfl, hX4⟩
      replace q0 := q0.below hX4 q0.lt
      replace q1 := q1.below hX4 q1.lt
      replace hs := hs.go hX4
      replace ht := ht.go hX4
      replace hmx := hmx.go hX4
      have B_X4 := ex_trans B_V14 hX4
      go_wp2
      go_ret
      exact ⟨rfl, B_X4⟩
  · obtain ⟨rfl, rfl, rfl⟩ := hno hp0
    have HPB : Hid (playB s t = false) := Lib.hid (by unfold playB; rw [decide_eq_false hp0]; rfl)
    have HPT : Hid (proveT s t = false) := Lib.hid (by unfold proveT; rw [HPB.out]; rfl)
    have HP0 := Lib.hid hp0
    rw [HPB.out]
    obtain ⟨pe, hpe⟩ : ∃ x, playE s t = x := ⟨_, rfl⟩
    rw [hpe]
    have HPE := Lib.hid hpe
    clear hno hmat hp0 hpe hec
    go_wp2_with fail
    refine ⟨inEx X_V6, ?_⟩
    repeat (refine mix_quiet rfl ?_; go_big_quiet_step (fail); refine wpQuiet_nil ?_)
    refine mix_nil (r := [_]) rfl ?_
    clear a0 a1 a2 a3 b0 b1 b2 l0 l1
    have a0 : V6.cell? ⟨w.heap.size, 0, none⟩ = some (.slice Ar s.rooms.length cr) := q0.cell 0
    have a1 : V6.cell? ⟨w.heap.size, 1, none⟩ = some (.int .i64 s.days) := q0.cell 1
    have a2 : V6.cell? ⟨w.heap.size, 2, none⟩ = some (.slice Am s.moves.length cm) := q0.cell 2
    have a3 : V6.cell? ⟨w.heap.size, 3, none⟩ = some (.slice Aw s.wgs.length cw) := q0.cell 3
    have b0 : V6.cell? ⟨w.heap.size + 1, 0, none⟩ = some (.slice Af t.fs.length cf) := q1.cell 0
    have b1 : V6.cell? ⟨w.heap.size + 1, 1, none⟩ = some (.slice Av t.vs.length cv) := q1.cell 1
    have b2 : V6.cell? ⟨w.heap.size + 1, 2, none⟩ = some (.slice Ag t.gs.length cg) := q1.cell 2
    have l0 := q0.lt
    have l1 := q1.lt
    go_upto_region 5 with fail
    have D5 := (Below.refl V6.heap.size V6).drew
    refine wp_region_ext_mix 5 [(false, 0), (false, 2), (true, 1), (true, 3), (true, 4)] (by kernel_rfl) (by kernel_rfl) (by intro d _ _ _ _ h; cases d <;> exact h) ?_
    repeat (refine mix_quiet rfl ?_; go_big_quiet_step (fail); refine wpQuiet_nil ?_)
    obtain ⟨Y5, hY⟩ : ∃ Y, V6.drew = Y := ⟨_, rfl⟩
    rw [hY] at D5 ⊢
    clear hY
    replace q0 := q0.below D5 q0.lt
    replace q1 := q1.below D5 q1.lt
    replace hs := hs.go D5
    replace ht := ht.go D5
    have B_Y5 := ex_trans B_V6 D5
    refine mix_loud rfl ?_
    go_wp2_with fail
    refine (Works_any s Ar Am Aw cr cm cw Y5 hs HSW.out).mono ?_
    rintro e V15 ⟨⟨⟨Ar3, Am3, Aw3, cr3, cm3, cw3, rfl, hw3⟩⟩, hV15⟩
    replace q0 := q0.below hV15 q0.lt
    replace q1 := q1.below hV15 q1.lt
    replace hs := hs.go hV15
    replace ht := ht.go hV15
    have B_V15 := ex_trans B_Y5 hV15
    have X_V15 := ex_trans D5 hV15
    go_wp2_with fail
    refine ⟨inEx X_V15, ?_⟩
    repeat (refine mix_quiet rfl ?_; go_big_quiet_step (fail); refine wpQuiet_nil ?_)
    refine mix_loud rfl ?_
    go_wp2_with fail
    refine (Truth_any t Af Av Ag cf cv cg rV rcV V15 HST.out HSV.out ht).mono ?_
    rintro e V16 ⟨⟨⟨Af3, Av3, Ag3, cf3, cv3, cg3, rV3, rcV3, rfl, hq3⟩⟩, hV16⟩
    replace q0 := q0.below hV16 q0.lt
    replace q1 := q1.below hV16 q1.lt
    replace hs := hs.go hV16
    replace ht := ht.go hV16
    replace hw3 := hw3.go hV16
    have B_V16 := ex_trans B_V15 hV16
    have X_V16 := ex_trans X_V15 hV16
    go_wp2_with fail
    refine ⟨inEx X_V16, ?_⟩
    repeat (refine mix_quiet rfl ?_; go_big_quiet_step (fail); refine wpQuiet_nil ?_)
    refine mix_loud rfl ?_
    go_wp2_with fail
    refine (proveT_any s Ar3 Am3 Aw3 cr3 cm3 cw3 V16 hw3 t Af3 Av3 Ag3 cf3 cv3 cg3 rV3 rcV3 hq3 HSM.out ⟨HSW.out.1, HSW.out.2.1⟩).mono ?_
    rintro e V17 ⟨rfl, hV17⟩
    replace q0 := q0.below hV17 q0.lt
    replace q1 := q1.below hV17 q1.lt
    replace hs := hs.go hV17
    replace ht := ht.go hV17
    replace hw3 := hw3.go hV17
    replace hq3 := hq3.go hV17
    have B_V17 := ex_trans B_V16 hV17
    have X_V17 := ex_trans X_V16 hV17
    clear hw3 hq3
    rw [HPT.out]
    go_wp2_with fail
    refine ⟨inEx X_V17, ?_⟩
    repeat (refine mix_quiet rfl ?_; go_big_quiet_step (fail); refine wpQuiet_nil ?_)
    refine mix_nil (r := [_]) rfl ?_
    clear a0 a1 a2 a3 b0 b1 b2 l0 l1
    have a0 : V17.cell? ⟨w.heap.size, 0, none⟩ = some (.slice Ar s.rooms.length cr) := q0.cell 0
    have a1 : V17.cell? ⟨w.heap.size, 1, none⟩ = some (.int .i64 s.days) := q0.cell 1
    have a2 : V17.cell? ⟨w.heap.size, 2, none⟩ = some (.slice Am s.moves.length cm) := q0.cell 2
    have a3 : V17.cell? ⟨w.heap.size, 3, none⟩ = some (.slice Aw s.wgs.length cw) := q0.cell 3
    have b0 : V17.cell? ⟨w.heap.size + 1, 0, none⟩ = some (.slice Af t.fs.length cf) := q1.cell 0
    have b1 : V17.cell? ⟨w.heap.size + 1, 1, none⟩ = some (.slice Av t.vs.length cv) := q1.cell 1
    have b2 : V17.cell? ⟨w.heap.size + 1, 2, none⟩ = some (.slice Ag t.gs.length cg) := q1.cell 2
    have l0 := q0.lt
    have l1 := q1.lt
    go_wp2_with fail
    refine (fault_any s Ar Am Aw cr cm cw V17 hs).mono ?_
    rintro e V18 ⟨rfl, hV18⟩
    replace q0 := q0.below hV18 q0.lt
    replace q1 := q1.below hV18 q1.lt
    replace hs := hs.go hV18
    replace ht := ht.go hV18
    have B_V18 := ex_trans B_V17 hV18
    clear a0 a1 a2 a3 b0 b1 b2 l0 l1
    have a0 : V18.cell? ⟨w.heap.size, 0, none⟩ = some (.slice Ar s.rooms.length cr) := q0.cell 0
    have a1 : V18.cell? ⟨w.heap.size, 1, none⟩ = some (.int .i64 s.days) := q0.cell 1
    have a2 : V18.cell? ⟨w.heap.size, 2, none⟩ = some (.slice Am s.moves.length cm) := q0.cell 2
    have a3 : V18.cell? ⟨w.heap.size, 3, none⟩ = some (.slice Aw s.wgs.length cw) := q0.cell 3
    have b0 : V18.cell? ⟨w.heap.size + 1, 0, none⟩ = some (.slice Af t.fs.length cf) := q1.cell 0
    have b1 : V18.cell? ⟨w.heap.size + 1, 1, none⟩ = some (.slice Av t.vs.length cv) := q1.cell 1
    have b2 : V18.cell? ⟨w.heap.size + 1, 2, none⟩ = some (.slice Ag t.gs.length cg) := q1.cell 2
    have l0 := q0.lt
    have l1 := q1.lt
    by_cases hc0 : ckWs s = 0
    · have htf : truT s t = false := by
        cases h : truT s t
        · rfl
        · exact absurd (by unfold playE; rw [if_pos hc0, h]; rfl) HP0.out
      have hpe2 : pe = 2 := by rw [← HPE.out]; unfold playE; rw [if_pos hc0, htf]; rfl
      subst hpe2
      obtain ⟨hwo, hdd⟩ := ckWs_iff.1 hc0
      have HWO := Lib.hid hwo
      have HDD := Lib.hid hdd
      have HTF := Lib.hid htf
      rw [hc0]
      clear hwo hdd htf hc0
      go_wp2_with fail
      refine (IsTruth_ref s Ar Am Aw cr cm cw V18 hs HWO.out HDD.out t Af Av Ag cf cv cg rV rcV ht).mono ?_
      rintro e V19 ⟨rfl, hV19⟩
      replace q0 := q0.below hV19 q0.lt
      replace q1 := q1.below hV19 q1.lt
      replace hs := hs.go hV19
      replace ht := ht.go hV19
      have B_V19 := ex_trans B_V18 hV19
      clear a0 a1 a2 a3 b0 b1 b2 l0 l1
      have a0 : V19.cell? ⟨w.heap.size, 0, none⟩ = some (.slice Ar s.rooms.length cr) := q0.cell 0
      have a1 : V19.cell? ⟨w.heap.size, 1, none⟩ = some (.int .i64 s.days) := q0.cell 1
      have a2 : V19.cell? ⟨w.heap.size, 2, none⟩ = some (.slice Am s.moves.length cm) := q0.cell 2
      have a3 : V19.cell? ⟨w.heap.size, 3, none⟩ = some (.slice Aw s.wgs.length cw) := q0.cell 3
      have b0 : V19.cell? ⟨w.heap.size + 1, 0, none⟩ = some (.slice Af t.fs.length cf) := q1.cell 0
      have b1 : V19.cell? ⟨w.heap.size + 1, 1, none⟩ = some (.slice Av t.vs.length cv) := q1.cell 1
      have b2 : V19.cell? ⟨w.heap.size + 1, 2, none⟩ = some (.slice Ag t.gs.length cg) := q1.cell 2
      have l0 := q0.lt
      have l1 := q1.lt
      rw [HTF.out]
      go_wp2_with fail
      refine (awake_any V19).mono ?_
      rintro e X5 ⟨rfl, hX5⟩
      replace q0 := q0.below hX5 q0.lt
      replace q1 := q1.below hX5 q1.lt
      replace hs := hs.go hX5
      replace ht := ht.go hX5
      have B_X5 := ex_trans B_V19 hX5
      go_wp2
      go_ret
      exact ⟨rfl, B_X5⟩
    · have hpe2 : pe = ckWs s := by rw [← HPE.out]; unfold playE; rw [if_neg hc0]
      obtain ⟨cc, hcc⟩ : ∃ x, ckWs s = x := ⟨_, rfl⟩
      rw [hcc] at hpe2 hc0 ⊢
      subst hpe2
      have e1 : (pe == 0) = false := by simp [hc0]
      have e2 : (pe != 0) = true := by simp [hc0]
      clear hcc hc0
      go_wp2_with fail
      refine (awake_any V18).mono ?_
      rintro e X6 ⟨rfl, hX6⟩
      replace q0 := q0.below hX6 q0.lt
      replace q1 := q1.below hX6 q1.lt
      replace hs := hs.go hX6
      replace ht := ht.go hX6
      have B_X6 := ex_trans B_V18 hX6
      go_wp2
      go_ret
      exact ⟨rfl, B_X6⟩
end Go.Proofs.Ythihdiilokdidaa
end

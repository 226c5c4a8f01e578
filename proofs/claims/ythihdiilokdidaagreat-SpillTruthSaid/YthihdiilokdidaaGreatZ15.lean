/- Spill's laws: SpillTruth (walk). -/
import Derived.Test.YthihdiilokdidaaGreatZ14
import Derived.Test.YthihdiilokdidaaGreatZ12
import Derived.Test.YthihdiilokdidaaGreatZ11
set_option linter.unusedVariables false
set_option linter.unusedSimpArgs false
set_option linter.unusedSectionVars false
section
namespace Go.Proofs.YthihdiilokdidaaGreat
open Go.RowKit
attribute [local go_sem] Ex.cell? Ex.frozen? Gx.cell?

set_option maxRecDepth 100000 in
set_option maxHeartbeats 12800000 in
theorem TruthLaw_any (s : Ws) (Ar Am Aw : Option Addr) (cr cm cw : Nat) (w : World) (hs : WsIn w w.heap.size s Ar Am Aw) (AW : Option Addr) (cW : Nat) (ws : List Int) (hwd : SlAt w w.heap.size 1 AW ws.length (fU ws)) (hwb : ∀ k, k < ws.length → 0 ≤ gI ws k ∧ gI ws k ≤ 65535) (hwl : ws.length ≤ maxLen) (AO : Option Addr) (cO : Nat) (os : List Int) (hod : SlAt w w.heap.size 1 AO os.length (fU os)) (hob : ∀ k, k < os.length → 0 ≤ gI os k ∧ gI os k ≤ 65535) (hol : os.length ≤ maxLen) :
    Calls Tryz.prog 3 #[.agg #[.slice Ar s.rooms.length cr, .int .i64 s.days, .slice Am s.moves.length cm, .slice Aw s.wgs.length cw], .slice AW ws.length cW, .slice AO os.length cO] w fun e w' => e = .returned (.bool true) ∧ Below w.heap.size w w' := by
  obtain ⟨i0, hi0, hz0, hz1, hz2⟩ := info_parts int_info
  have HI := Lib.hid hi0
  clear hi0
  have hb1 := ex_alloc (Below.refl w.heap.size w) (.cells #[.slice Ar s.rooms.length cr, .int .i64 s.days, .slice Am s.moves.length cm, .slice Aw s.wgs.length cw] 26)
  have q0 : Blk (w.alloc (.cells #[.slice Ar s.rooms.length cr, .int .i64 s.days, .slice Am s.moves.length cm, .slice Aw s.wgs.length cw] 26)) (w.heap.size) 26 #[.slice Ar s.rooms.length cr, .int .i64 s.days, .slice Am s.moves.length cm, .slice Aw s.wgs.length cw] := Blk.new _ _ _
  replace hs := hs.go hb1
  replace hwd := (hwd.below hb1).up hb1.size
  have HWB := Lib.hid hwb
  clear hwb
  go_enter Tryz.func3, Tryz.ntmps3
  go_upto_region 1 with fail
  show Code.wp _ _ _ _ (w.alloc (.cells #[.slice Ar s.rooms.length cr, .int .i64 s.days, .slice Am s.moves.length cm, .slice Aw s.wgs.length cw] 26))
  obtain ⟨pq0, hpq0⟩ : ∃ p, w.heap.size = p := ⟨_, rfl⟩
  rw [hpq0] at q0 ⊢
  clear hpq0
  generalize w.alloc (.cells #[.slice Ar s.rooms.length cr, .int .i64 s.days, .slice Am s.moves.length cm, .slice Aw s.wgs.length cw] 26) = V at *
  replace hod := (hod.below hb1).up hb1.size
  have HOB := Lib.hid hob
  clear hob
  have a0 : V.cell? ⟨pq0, 0, none⟩ = some (.slice Ar s.rooms.length cr) := q0.cell 0
  have a1 : V.cell? ⟨pq0, 1, none⟩ = some (.int .i64 s.days) := q0.cell 1
  have a2 : V.cell? ⟨pq0, 2, none⟩ = some (.slice Am s.moves.length cm) := q0.cell 2
  have a3 : V.cell? ⟨pq0, 3, none⟩ = some (.slice Aw s.wgs.length cw) := q0.cell 3
  have la := q0.lt
  go_wp2_with fail
  refine (lives_any s Ar Am Aw cr cm cw V hs AW cW ws hwd HWB.out hwl 0 (by omega)).mono ?_
  rintro e V1 ⟨⟨hlv⟩, hV1⟩
  replace hs := hs.go hV1
  replace hwd := (hwd.below hV1).up hV1.size
  replace q0 := q0.below hV1 q0.lt
  replace hod := (hod.below hV1).up hV1.size
  have B_V1 := ex_trans hb1 hV1
  rcases hlv with ⟨A1, A2, A3, A4, A5, A6, A7, c1, c2, c3, c4, c5, c6, c7, n1, n2, n3, n4, n5, n6, n7, d, rfl⟩ | ⟨t, L, A3, A4, A5, A6, A7, c3, c4, c5, c6, c7, rV, rcV, rA, rc, rfl, hlx, hx, ht, hM⟩
  · clear a0 a1 a2 a3 la
    have a0 : V1.cell? ⟨pq0, 0, none⟩ = some (.slice Ar s.rooms.length cr) := q0.cell 0
    have a1 : V1.cell? ⟨pq0, 1, none⟩ = some (.int .i64 s.days) := q0.cell 1
    have a2 : V1.cell? ⟨pq0, 2, none⟩ = some (.slice Am s.moves.length cm) := q0.cell 2
    have a3 : V1.cell? ⟨pq0, 3, none⟩ = some (.slice Aw s.wgs.length cw) := q0.cell 3
    have la := q0.lt
    go_wp2_with fail
    refine (awake_any _).mono ?_
    rintro e Wz ⟨rfl, hz⟩
    go_wp2
    go_ret
    exact ⟨rfl, ex_trans (ex_alloc (ex_alloc B_V1 _) _) hz⟩
  have HLX := Lib.hid hlx
  clear hlx
  replace hx : WsIn V1 V1.heap.size (s.wg L) Ar Am A3 := ⟨hs.rooms, hs.moves, hx⟩
  clear a0 a1 a2 a3 la
  have a0 : V1.cell? ⟨pq0, 0, none⟩ = some (.slice Ar s.rooms.length cr) := q0.cell 0
  have a1 : V1.cell? ⟨pq0, 1, none⟩ = some (.int .i64 s.days) := q0.cell 1
  have a2 : V1.cell? ⟨pq0, 2, none⟩ = some (.slice Am s.moves.length cm) := q0.cell 2
  have a3 : V1.cell? ⟨pq0, 3, none⟩ = some (.slice Aw s.wgs.length cw) := q0.cell 3
  have la := q0.lt
  have N2 := ex_alloc (ex_alloc (Below.refl V1.heap.size V1) (.cells #[.slice Ar s.rooms.length cr, .int .i64 s.days, .slice Am s.moves.length cm, .slice A3 L.length c3] 26)) (.cells #[.slice A4 t.fs.length c4, .slice A5 t.vs.length c5, .slice A6 t.gs.length c6] 31)
  have qx : Blk ((V1.alloc (.cells #[.slice Ar s.rooms.length cr, .int .i64 s.days, .slice Am s.moves.length cm, .slice A3 L.length c3] 26)).alloc (.cells #[.slice A4 t.fs.length c4, .slice A5 t.vs.length c5, .slice A6 t.gs.length c6] 31)) V1.heap.size 26 #[.slice Ar s.rooms.length cr, .int .i64 s.days, .slice Am s.moves.length cm, .slice A3 L.length c3] := (Blk.new _ _ _).alloc _
  have qt : Blk ((V1.alloc (.cells #[.slice Ar s.rooms.length cr, .int .i64 s.days, .slice Am s.moves.length cm, .slice A3 L.length c3] 26)).alloc (.cells #[.slice A4 t.fs.length c4, .slice A5 t.vs.length c5, .slice A6 t.gs.length c6] 31)) (V1.heap.size + 1) 31 #[.slice A4 t.fs.length c4, .slice A5 t.vs.length c5, .slice A6 t.gs.length c6] := Blk.new' _ _ _ (by simp)
  go_upto_region 2 with fail
  clear a0 a1 a2 a3 la
  replace hs := hs.go N2
  replace hwd := (hwd.below N2).up N2.size
  replace q0 := q0.below N2 q0.lt
  replace hod := (hod.below N2).up N2.size
  replace hx := hx.go N2
  replace ht := ht.go N2
  replace hM := hM.go N2
  have B_V2 := ex_trans B_V1 N2
  obtain ⟨pqx, hpqx⟩ : ∃ p, V1.heap.size = p := ⟨_, rfl⟩
  rw [hpqx] at qx qt ⊢
  clear N2
  generalize (V1.alloc (.cells #[.slice Ar s.rooms.length cr, .int .i64 s.days, .slice Am s.moves.length cm, .slice A3 L.length c3] 26)).alloc (.cells #[.slice A4 t.fs.length c4, .slice A5 t.vs.length c5, .slice A6 t.gs.length c6] 31) = V2 at *
  clear hpqx
  have HSX : Hid ((s.wg L).rooms.length ≤ 1000 ∧ (s.wg L).moves.length ≤ 1000 ∧ (s.wg L).wgs.length ≤ 1000) := Lib.hid HLX.out.sm
  have HWO := Lib.hid HLX.out.wo.1
  have HDD := Lib.hid HLX.out.wo.2
  have HWX := Lib.hid HLX.out.wox.1
  have HDX := Lib.hid HLX.out.wox.2
  have hr3 : 1 ≤ s.rooms.length ∧ s.rooms.length ≤ 3 := HWO.out.len.elim (fun a b => ⟨a, b.1⟩)
  have hm12 : s.moves.length ≤ 12 := HWO.out.len.2.2.1
  have hl8 : L.length ≤ 8 := HWX.out.len.2.2.2
  have hwl8 : s.wgs.length ≤ 8 := HWO.out.len.2.2.2
  have a0 : V2.cell? ⟨pq0, 0, none⟩ = some (.slice Ar s.rooms.length cr) := q0.cell 0
  have a1 : V2.cell? ⟨pq0, 1, none⟩ = some (.int .i64 s.days) := q0.cell 1
  have a2 : V2.cell? ⟨pq0, 2, none⟩ = some (.slice Am s.moves.length cm) := q0.cell 2
  have a3 : V2.cell? ⟨pq0, 3, none⟩ = some (.slice Aw s.wgs.length cw) := q0.cell 3
  have la := q0.lt
  have x0 : V2.cell? ⟨pqx, 0, none⟩ = some (.slice Ar s.rooms.length cr) := qx.cell 0
  have x1 : V2.cell? ⟨pqx, 1, none⟩ = some (.int .i64 s.days) := qx.cell 1
  have x2 : V2.cell? ⟨pqx, 2, none⟩ = some (.slice Am s.moves.length cm) := qx.cell 2
  have x3 : V2.cell? ⟨pqx, 3, none⟩ = some (.slice A3 L.length c3) := qx.cell 3
  have lx := qx.lt
  have t0 : V2.cell? ⟨pqx + 1, 0, none⟩ = some (.slice A4 t.fs.length c4) := qt.cell 0
  have t1 : V2.cell? ⟨pqx + 1, 1, none⟩ = some (.slice A5 t.vs.length c5) := qt.cell 1
  have t2 : V2.cell? ⟨pqx + 1, 2, none⟩ = some (.slice A6 t.gs.length c6) := qt.cell 2
  have lt := qt.lt
  have HLI := Lib.hid (liv_is HLX.out)
  have HBD := Lib.hid (liv_bd HLX.out)
  have htl := (truT_iff HDD.out).1 HLX.out.tru
  have HTL := Lib.hid htl
  clear htl
  have HST : Hid (t.fs.length ≤ 1000 ∧ t.vs.length ≤ 1000 ∧ t.gs.length ≤ 1000) := Lib.hid (by have := HTL.out.1; omega)
  have HSV : Hid (∀ k, k < t.vs.length → (gL t.vs k).length ≤ 1000) := Lib.hid (fun k hk => by have := HTL.out.2.1 k (by have := HTL.out.1; omega); have := HWO.out.days; omega)
  have HSM : Hid (SmT t) := Lib.hid ⟨HST.out.1, HST.out.2.1, HST.out.2.2, HSV.out⟩
  go_upto_region 4 with fail
  have D4 := (Below.refl V2.heap.size V2).drew
  refine wp_region_ext_mix 11 [(false, 0), (false, 2), (true, 1), (true, 3), (true, 4), (false, 5), (false, 6), (false, 7), (false, 8), (false, 9), (false, 10)] (by kernel_rfl) (by kernel_rfl) (by intro d _ _ _ _ h; cases d <;> exact h) ?_
  repeat (refine mix_quiet rfl ?_; go_big_quiet_step (fail); refine wpQuiet_nil ?_)
  obtain ⟨Y4, hY⟩ : ∃ Y, V2.drew = Y := ⟨_, rfl⟩
  rw [hY] at D4 ⊢
  clear hY
  clear a0 a1 a2 a3 la
  clear x0 x1 x2 x3 lx
  clear t0 t1 t2 lt
  replace hs := hs.go D4
  replace hwd := (hwd.below D4).up D4.size
  replace q0 := q0.below D4 q0.lt
  replace hod := (hod.below D4).up D4.size
  replace hx := hx.go D4
  replace ht := ht.go D4
  replace hM := hM.go D4
  replace qx := qx.below D4 qx.lt
  replace qt := qt.below D4 qt.lt
  have B_Y4 := ex_trans B_V2 D4
  refine mix_loud rfl ?_
  go_wp2_with fail
  refine (Works_any (s.wg L) Ar Am A3 cr cm c3 Y4 hx HSX.out).mono ?_
  rintro e V4 ⟨⟨⟨Ar1, Am1, Aw1, cr1, cm1, cw1, rfl, hw1⟩⟩, hV4⟩
  replace hs := hs.go hV4
  replace hwd := (hwd.below hV4).up hV4.size
  replace q0 := q0.below hV4 q0.lt
  replace hod := (hod.below hV4).up hV4.size
  replace hx := hx.go hV4
  replace ht := ht.go hV4
  replace hM := hM.go hV4
  replace qx := qx.below hV4 qx.lt
  replace qt := qt.below hV4 qt.lt
  have B_V4 := ex_trans B_Y4 hV4
  have X_V4 := ex_trans D4 hV4
  go_wp2_with fail
  refine ⟨inEx X_V4, ?_⟩
  repeat (refine mix_quiet rfl ?_; go_big_quiet_step (fail); refine wpQuiet_nil ?_)
  refine mix_loud rfl ?_
  go_wp2_with fail
  refine (Truth_any t A4 A5 A6 c4 c5 c6 rV rcV V4 HST.out HSV.out ht).mono ?_
  rintro e V5 ⟨⟨⟨Af1, Av1, Ag1, cf1, cv1, cg1, rV1, rcV1, rfl, hq1⟩⟩, hV5⟩
  replace hs := hs.go hV5
  replace hwd := (hwd.below hV5).up hV5.size
  replace q0 := q0.below hV5 q0.lt
  replace hod := (hod.below hV5).up hV5.size
  replace hx := hx.go hV5
  replace ht := ht.go hV5
  replace hM := hM.go hV5
  replace qx := qx.below hV5 qx.lt
  replace qt := qt.below hV5 qt.lt
  replace hw1 := hw1.go hV5
  have B_V5 := ex_trans B_V4 hV5
  have X_V5 := ex_trans X_V4 hV5
  go_wp2_with fail
  refine ⟨inEx X_V5, ?_⟩
  repeat (refine mix_quiet rfl ?_; go_big_quiet_step (fail); refine wpQuiet_nil ?_)
  refine mix_loud rfl ?_
  go_wp2_with fail
  refine (play_any (s.wg L) Ar1 Am1 Aw1 cr1 cm1 cw1 V5 hw1 t Af1 Av1 Ag1 cf1 cv1 cg1 rV1 rcV1 hq1 HSM.out ⟨HSX.out.1, HSX.out.2.1⟩).mono ?_
  rintro e V6 ⟨⟨np, AP, cp, rP, rcP, rfl, hpv⟩, hV6⟩
  replace hs := hs.go hV6
  replace hwd := (hwd.below hV6).up hV6.size
  replace q0 := q0.below hV6 q0.lt
  replace hod := (hod.below hV6).up hV6.size
  replace hx := hx.go hV6
  replace ht := ht.go hV6
  replace hM := hM.go hV6
  replace qx := qx.below hV6 qx.lt
  replace qt := qt.below hV6 qt.lt
  replace hw1 := hw1.go hV6
  replace hq1 := hq1.go hV6
  have B_V6 := ex_trans B_V5 hV6
  have X_V6 := ex_trans X_V5 hV6
  clear hw1 hq1
  obtain ⟨rfl, hP⟩ := hpv.yes HLI.out.e
  rw [HLI.out.b, HLI.out.e]
  clear hpv
  rw [show stk (s.wg L).wo t.F t.V t.G = stk s.wo t.F t.V t.G from funext fun r => funext fun d => stk_wgL _ _ _ _ _ _ _, show (s.wg L).wo.days = s.wo.days from rfl, show (s.wg L).rooms.length = s.rooms.length from rfl] at hP
  rw [show (s.wg L).rooms.length = s.rooms.length from rfl]
  go_wp2_with fail
  refine ⟨inEx X_V6, ?_⟩
  repeat (refine mix_quiet rfl ?_; go_big_quiet_step (fail); refine wpQuiet_nil ?_)
  refine mix_nil (r := [_]) rfl ?_
  have a0 : V6.cell? ⟨pq0, 0, none⟩ = some (.slice Ar s.rooms.length cr) := q0.cell 0
  have a1 : V6.cell? ⟨pq0, 1, none⟩ = some (.int .i64 s.days) := q0.cell 1
  have a2 : V6.cell? ⟨pq0, 2, none⟩ = some (.slice Am s.moves.length cm) := q0.cell 2
  have a3 : V6.cell? ⟨pq0, 3, none⟩ = some (.slice Aw s.wgs.length cw) := q0.cell 3
  have la := q0.lt
  have x0 : V6.cell? ⟨pqx, 0, none⟩ = some (.slice Ar s.rooms.length cr) := qx.cell 0
  have x1 : V6.cell? ⟨pqx, 1, none⟩ = some (.int .i64 s.days) := qx.cell 1
  have x2 : V6.cell? ⟨pqx, 2, none⟩ = some (.slice Am s.moves.length cm) := qx.cell 2
  have x3 : V6.cell? ⟨pqx, 3, none⟩ = some (.slice A3 L.length c3) := qx.cell 3
  have lx := qx.lt
  have t0 : V6.cell? ⟨pqx + 1, 0, none⟩ = some (.slice A4 t.fs.length c4) := qt.cell 0
  have t1 : V6.cell? ⟨pqx + 1, 1, none⟩ = some (.slice A5 t.vs.length c5) := qt.cell 1
  have t2 : V6.cell? ⟨pqx + 1, 2, none⟩ = some (.slice A6 t.gs.length c6) := qt.cell 2
  have lt := qt.lt
  go_wp2_with fail
  refine (Works_any (s.wg L) Ar Am A3 cr cm c3 V6 hx HSX.out).mono ?_
  rintro e V7 ⟨⟨⟨Ar2, Am2, Aw2, cr2, cm2, cw2, rfl, hw2⟩⟩, hV7⟩
  replace hs := hs.go hV7
  replace hwd := (hwd.below hV7).up hV7.size
  replace q0 := q0.below hV7 q0.lt
  replace hod := (hod.below hV7).up hV7.size
  replace hx := hx.go hV7
  replace ht := ht.go hV7
  replace hM := hM.go hV7
  replace qx := qx.below hV7 qx.lt
  replace qt := qt.below hV7 qt.lt
  replace hP := hP.go hV7
  have B_V7 := ex_trans B_V6 hV7
  clear a0 a1 a2 a3 la
  have a0 : V7.cell? ⟨pq0, 0, none⟩ = some (.slice Ar s.rooms.length cr) := q0.cell 0
  have a1 : V7.cell? ⟨pq0, 1, none⟩ = some (.int .i64 s.days) := q0.cell 1
  have a2 : V7.cell? ⟨pq0, 2, none⟩ = some (.slice Am s.moves.length cm) := q0.cell 2
  have a3 : V7.cell? ⟨pq0, 3, none⟩ = some (.slice Aw s.wgs.length cw) := q0.cell 3
  have la := q0.lt
  clear x0 x1 x2 x3 lx
  have x0 : V7.cell? ⟨pqx, 0, none⟩ = some (.slice Ar s.rooms.length cr) := qx.cell 0
  have x1 : V7.cell? ⟨pqx, 1, none⟩ = some (.int .i64 s.days) := qx.cell 1
  have x2 : V7.cell? ⟨pqx, 2, none⟩ = some (.slice Am s.moves.length cm) := qx.cell 2
  have x3 : V7.cell? ⟨pqx, 3, none⟩ = some (.slice A3 L.length c3) := qx.cell 3
  have lx := qx.lt
  clear t0 t1 t2 lt
  have t0 : V7.cell? ⟨pqx + 1, 0, none⟩ = some (.slice A4 t.fs.length c4) := qt.cell 0
  have t1 : V7.cell? ⟨pqx + 1, 1, none⟩ = some (.slice A5 t.vs.length c5) := qt.cell 1
  have t2 : V7.cell? ⟨pqx + 1, 2, none⟩ = some (.slice A6 t.gs.length c6) := qt.cell 2
  have lt := qt.lt
  go_wp2_with fail
  refine (Stocks_any (s.wg L) Ar2 Am2 Aw2 cr2 cm2 cw2 V7 hw2).mono ?_
  rintro e V8 ⟨⟨nS, AS, cS, rS, rcS, rfl, hsv⟩, hV8⟩
  replace hs := hs.go hV8
  replace hwd := (hwd.below hV8).up hV8.size
  replace q0 := q0.below hV8 q0.lt
  replace hod := (hod.below hV8).up hV8.size
  replace hx := hx.go hV8
  replace ht := ht.go hV8
  replace hM := hM.go hV8
  replace qx := qx.below hV8 qx.lt
  replace qt := qt.below hV8 qt.lt
  replace hP := hP.go hV8
  replace hw2 := hw2.go hV8
  have B_V8 := ex_trans B_V7 hV8
  clear hw2
  obtain ⟨rfl, hR⟩ := hsv.yes HLX.out.stE0
  clear hsv
  rw [HLX.out.stE0]
  rw [show (s.wg L).wo.days = s.wo.days from rfl, show (s.wg L).rooms.length = s.rooms.length from rfl] at hR
  rw [show (s.wg L).rooms.length = s.rooms.length from rfl]
  clear a0 a1 a2 a3 la
  have a0 : V8.cell? ⟨pq0, 0, none⟩ = some (.slice Ar s.rooms.length cr) := q0.cell 0
  have a1 : V8.cell? ⟨pq0, 1, none⟩ = some (.int .i64 s.days) := q0.cell 1
  have a2 : V8.cell? ⟨pq0, 2, none⟩ = some (.slice Am s.moves.length cm) := q0.cell 2
  have a3 : V8.cell? ⟨pq0, 3, none⟩ = some (.slice Aw s.wgs.length cw) := q0.cell 3
  have la := q0.lt
  clear x0 x1 x2 x3 lx
  have x0 : V8.cell? ⟨pqx, 0, none⟩ = some (.slice Ar s.rooms.length cr) := qx.cell 0
  have x1 : V8.cell? ⟨pqx, 1, none⟩ = some (.int .i64 s.days) := qx.cell 1
  have x2 : V8.cell? ⟨pqx, 2, none⟩ = some (.slice Am s.moves.length cm) := qx.cell 2
  have x3 : V8.cell? ⟨pqx, 3, none⟩ = some (.slice A3 L.length c3) := qx.cell 3
  have lx := qx.lt
  clear t0 t1 t2 lt
  have t0 : V8.cell? ⟨pqx + 1, 0, none⟩ = some (.slice A4 t.fs.length c4) := qt.cell 0
  have t1 : V8.cell? ⟨pqx + 1, 1, none⟩ = some (.slice A5 t.vs.length c5) := qt.cell 1
  have t2 : V8.cell? ⟨pqx + 1, 2, none⟩ = some (.slice A6 t.gs.length c6) := qt.cell 2
  have lt := qt.lt
  go_wp2_with fail
  refine (Works_any (s.wg L) Ar Am A3 cr cm c3 V8 hx HSX.out).mono ?_
  rintro e V9 ⟨⟨⟨Ar3, Am3, Aw3, cr3, cm3, cw3, rfl, hw3⟩⟩, hV9⟩
  replace hs := hs.go hV9
  replace hwd := (hwd.below hV9).up hV9.size
  replace q0 := q0.below hV9 q0.lt
  replace hod := (hod.below hV9).up hV9.size
  replace hx := hx.go hV9
  replace ht := ht.go hV9
  replace hM := hM.go hV9
  replace qx := qx.below hV9 qx.lt
  replace qt := qt.below hV9 qt.lt
  replace hP := hP.go hV9
  replace hR := hR.go hV9
  have B_V9 := ex_trans B_V8 hV9
  clear a0 a1 a2 a3 la
  have a0 : V9.cell? ⟨pq0, 0, none⟩ = some (.slice Ar s.rooms.length cr) := q0.cell 0
  have a1 : V9.cell? ⟨pq0, 1, none⟩ = some (.int .i64 s.days) := q0.cell 1
  have a2 : V9.cell? ⟨pq0, 2, none⟩ = some (.slice Am s.moves.length cm) := q0.cell 2
  have a3 : V9.cell? ⟨pq0, 3, none⟩ = some (.slice Aw s.wgs.length cw) := q0.cell 3
  have la := q0.lt
  clear x0 x1 x2 x3 lx
  have x0 : V9.cell? ⟨pqx, 0, none⟩ = some (.slice Ar s.rooms.length cr) := qx.cell 0
  have x1 : V9.cell? ⟨pqx, 1, none⟩ = some (.int .i64 s.days) := qx.cell 1
  have x2 : V9.cell? ⟨pqx, 2, none⟩ = some (.slice Am s.moves.length cm) := qx.cell 2
  have x3 : V9.cell? ⟨pqx, 3, none⟩ = some (.slice A3 L.length c3) := qx.cell 3
  have lx := qx.lt
  clear t0 t1 t2 lt
  have t0 : V9.cell? ⟨pqx + 1, 0, none⟩ = some (.slice A4 t.fs.length c4) := qt.cell 0
  have t1 : V9.cell? ⟨pqx + 1, 1, none⟩ = some (.slice A5 t.vs.length c5) := qt.cell 1
  have t2 : V9.cell? ⟨pqx + 1, 2, none⟩ = some (.slice A6 t.gs.length c6) := qt.cell 2
  have lt := qt.lt
  go_wp2_with fail
  refine (Fewest_any (s.wg L) Ar3 Am3 Aw3 cr3 cm3 cw3 V9 hw3).mono ?_
  rintro e V10 ⟨⟨⟨AF, cF, rfl, hfl⟩⟩, hV10⟩
  replace hs := hs.go hV10
  replace hwd := (hwd.below hV10).up hV10.size
  replace q0 := q0.below hV10 q0.lt
  replace hod := (hod.below hV10).up hV10.size
  replace hx := hx.go hV10
  replace ht := ht.go hV10
  replace hM := hM.go hV10
  replace qx := qx.below hV10 qx.lt
  replace qt := qt.below hV10 qt.lt
  replace hP := hP.go hV10
  replace hR := hR.go hV10
  replace hw3 := hw3.go hV10
  have B_V10 := ex_trans B_V9 hV10
  clear hw3
  clear hfl
  rw [HLI.out.f, HLI.out.l]
  clear a0 a1 a2 a3 la
  have a0 : V10.cell? ⟨pq0, 0, none⟩ = some (.slice Ar s.rooms.length cr) := q0.cell 0
  have a1 : V10.cell? ⟨pq0, 1, none⟩ = some (.int .i64 s.days) := q0.cell 1
  have a2 : V10.cell? ⟨pq0, 2, none⟩ = some (.slice Am s.moves.length cm) := q0.cell 2
  have a3 : V10.cell? ⟨pq0, 3, none⟩ = some (.slice Aw s.wgs.length cw) := q0.cell 3
  have la := q0.lt
  clear x0 x1 x2 x3 lx
  have x0 : V10.cell? ⟨pqx, 0, none⟩ = some (.slice Ar s.rooms.length cr) := qx.cell 0
  have x1 : V10.cell? ⟨pqx, 1, none⟩ = some (.int .i64 s.days) := qx.cell 1
  have x2 : V10.cell? ⟨pqx, 2, none⟩ = some (.slice Am s.moves.length cm) := qx.cell 2
  have x3 : V10.cell? ⟨pqx, 3, none⟩ = some (.slice A3 L.length c3) := qx.cell 3
  have lx := qx.lt
  clear t0 t1 t2 lt
  have t0 : V10.cell? ⟨pqx + 1, 0, none⟩ = some (.slice A4 t.fs.length c4) := qt.cell 0
  have t1 : V10.cell? ⟨pqx + 1, 1, none⟩ = some (.slice A5 t.vs.length c5) := qt.cell 1
  have t2 : V10.cell? ⟨pqx + 1, 2, none⟩ = some (.slice A6 t.gs.length c6) := qt.cell 2
  have lt := qt.lt
  obtain ⟨D, hD⟩ : ∃ D, s.wo.days = D := ⟨_, rfl⟩
  have hD6 : 1 ≤ D ∧ D ≤ 6 := by have := HWO.out.days; omega
  have HD := Lib.hid hD
  have HSD : Hid (s.days = (D : Int)) := Lib.hid (by rw [HDD.out, hD])
  rw [hD] at hM hP hR
  clear hD
  obtain ⟨S, hS⟩ : ∃ S, stk s.wo t.F t.V t.G = S := ⟨_, rfl⟩
  rw [hS] at hM hP
  have HS := Lib.hid hS
  clear hS
  go_upto_region 7 with fail
  have D7 := (Below.refl V10.heap.size V10).drew
  refine wp_region_ext_mix 40 [(false, 0), (false, 1), (false, 2), (false, 3), (false, 4), (false, 5), (false, 6), (false, 7), (false, 8), (true, 9), (false, 10), (false, 11), (false, 12), (false, 13), (false, 14), (false, 15), (false, 16), (false, 17), (false, 18), (false, 19), (false, 20), (false, 21), (false, 22), (false, 23), (false, 24), (false, 25), (false, 26), (false, 27), (false, 28), (false, 29), (false, 30), (false, 31), (false, 32), (false, 33), (false, 34), (false, 36), (true, 35), (true, 37), (true, 38), (false, 39)] (by kernel_rfl) (by kernel_rfl) (by intro d _ _ _ _ h; cases d <;> exact h) ?_
  repeat (refine mix_quiet rfl ?_; go_big_quiet_step (fail); refine wpQuiet_nil ?_)
  obtain ⟨Y7, hY⟩ : ∃ Y, V10.drew = Y := ⟨_, rfl⟩
  rw [hY] at D7 ⊢
  clear hY
  replace hs := hs.go D7
  replace hwd := (hwd.below D7).up D7.size
  replace q0 := q0.below D7 q0.lt
  replace hod := (hod.below D7).up D7.size
  replace hx := hx.go D7
  replace ht := ht.go D7
  replace hM := hM.go D7
  replace qx := qx.below D7 qx.lt
  replace qt := qt.below D7 qt.lt
  replace hP := hP.go D7
  replace hR := hR.go D7
  have B_Y7 := ex_trans B_V10 D7
  refine mix_loud rfl ?_
  go_wp2_with fail
  refine (same_any AP A7 cp c7 s.rooms.length s.rooms.length (fun _ => D) (fun _ => D) rP rA rcP rc S S Y7 hP.out hM.out hP.row hM.row (fun _ _ => by omega) (fun _ _ => by omega) (by omega) (by omega)).mono ?_
  rintro e V11 ⟨rfl, hV11⟩
  replace hs := hs.go hV11
  replace hwd := (hwd.below hV11).up hV11.size
  replace q0 := q0.below hV11 q0.lt
  replace hod := (hod.below hV11).up hV11.size
  replace hx := hx.go hV11
  replace ht := ht.go hV11
  replace hM := hM.go hV11
  replace qx := qx.below hV11 qx.lt
  replace qt := qt.below hV11 qt.lt
  replace hP := hP.go hV11
  replace hR := hR.go hV11
  have B_V11 := ex_trans B_Y7 hV11
  have X_V11 := ex_trans D7 hV11
  rw [sameB_self]
  go_wp2_with fail
  refine ⟨inEx X_V11, ?_⟩
  repeat (refine mix_quiet rfl ?_; go_big_quiet_step (fail); refine wpQuiet_nil ?_)
  refine mix_loud rfl ?_
  go_wp2_with fail
  refine (Works_any (s.wg L) Ar Am A3 cr cm c3 V11 hx HSX.out).mono ?_
  rintro e V12 ⟨⟨⟨Ar4, Am4, Aw4, cr4, cm4, cw4, rfl, hw4⟩⟩, hV12⟩
  replace hs := hs.go hV12
  replace hwd := (hwd.below hV12).up hV12.size
  replace q0 := q0.below hV12 q0.lt
  replace hod := (hod.below hV12).up hV12.size
  replace hx := hx.go hV12
  replace ht := ht.go hV12
  replace hM := hM.go hV12
  replace qx := qx.below hV12 qx.lt
  replace qt := qt.below hV12 qt.lt
  replace hP := hP.go hV12
  replace hR := hR.go hV12
  have B_V12 := ex_trans B_V11 hV12
  have X_V12 := ex_trans X_V11 hV12
  go_wp2_with fail
  refine ⟨inEx X_V12, ?_⟩
  repeat (refine mix_quiet rfl ?_; go_big_quiet_step (fail); refine wpQuiet_nil ?_)
  refine mix_loud rfl ?_
  go_wp2_with fail
  refine (Truth_any t A4 A5 A6 c4 c5 c6 rV rcV V12 HST.out HSV.out ht).mono ?_
  rintro e V13 ⟨⟨⟨Af4, Av4, Ag4, cf4, cv4, cg4, rV4, rcV4, rfl, hq4⟩⟩, hV13⟩
  replace hs := hs.go hV13
  replace hwd := (hwd.below hV13).up hV13.size
  replace q0 := q0.below hV13 q0.lt
  replace hod := (hod.below hV13).up hV13.size
  replace hx := hx.go hV13
  replace ht := ht.go hV13
  replace hM := hM.go hV13
  replace qx := qx.below hV13 qx.lt
  replace qt := qt.below hV13 qt.lt
  replace hP := hP.go hV13
  replace hR := hR.go hV13
  replace hw4 := hw4.go hV13
  have B_V13 := ex_trans B_V12 hV13
  have X_V13 := ex_trans X_V12 hV13
  go_wp2_with fail
  refine ⟨inEx X_V13, ?_⟩
  repeat (refine mix_quiet rfl ?_; go_big_quiet_step (fail); refine wpQuiet_nil ?_)
  refine mix_loud rfl ?_
  go_wp2_with fail
  refine (proveT_any (s.wg L) Ar4 Am4 Aw4 cr4 cm4 cw4 V13 hw4 t Af4 Av4 Ag4 cf4 cv4 cg4 rV4 rcV4 hq4 HSM.out ⟨HSX.out.1, HSX.out.2.1⟩).mono ?_
  rintro e V14 ⟨rfl, hV14⟩
  replace hs := hs.go hV14
  replace hwd := (hwd.below hV14).up hV14.size
  replace q0 := q0.below hV14 q0.lt
  replace hod := (hod.below hV14).up hV14.size
  replace hx := hx.go hV14
  replace ht := ht.go hV14
  replace hM := hM.go hV14
  replace qx := qx.below hV14 qx.lt
  replace qt := qt.below hV14 qt.lt
  replace hP := hP.go hV14
  replace hR := hR.go hV14
  replace hw4 := hw4.go hV14
  replace hq4 := hq4.go hV14
  have B_V14 := ex_trans B_V13 hV14
  have X_V14 := ex_trans X_V13 hV14
  clear hw4 hq4
  rw [HLI.out.p]
  go_wp2_with fail
  refine ⟨inEx X_V14, ?_⟩
  repeat (refine mix_quiet rfl ?_; go_big_quiet_step (fail); refine wpQuiet_nil ?_)
  refine mix_nil (r := [_]) rfl ?_
  clear a0 a1 a2 a3 la
  clear x0 x1 x2 x3 lx
  clear t0 t1 t2 lt
  clear hM
  clear hwd
  have Z_hs := Lib.hid hs
  have Z_q0 := Lib.hid q0
  have Z_hod := Lib.hid hod
  have Z_hx := Lib.hid hx
  have Z_ht := Lib.hid ht
  have Z_qx := Lib.hid qx
  have Z_qt := Lib.hid qt
  have Z_hP := Lib.hid hP
  have Z_hR := Lib.hid hR
  have NB := ex_alloc (Below.refl V14.heap.size V14) (.cells #[.slice none 0 0, .slice none 0 0] 54)
  have qb : Blk (V14.alloc (.cells #[.slice none 0 0, .slice none 0 0] 54)) V14.heap.size 54 #[.slice none 0 0, .slice none 0 0] := Blk.new _ _ _
  have a0 : V14.cell? ⟨pq0, 0, none⟩ = some (.slice Ar s.rooms.length cr) := q0.cell 0
  have a1 : V14.cell? ⟨pq0, 1, none⟩ = some (.int .i64 s.days) := q0.cell 1
  have a2 : V14.cell? ⟨pq0, 2, none⟩ = some (.slice Am s.moves.length cm) := q0.cell 2
  have a3 : V14.cell? ⟨pq0, 3, none⟩ = some (.slice Aw s.wgs.length cw) := q0.cell 3
  have la := q0.lt
  have x0 : V14.cell? ⟨pqx, 0, none⟩ = some (.slice Ar s.rooms.length cr) := qx.cell 0
  have x1 : V14.cell? ⟨pqx, 1, none⟩ = some (.int .i64 s.days) := qx.cell 1
  have x2 : V14.cell? ⟨pqx, 2, none⟩ = some (.slice Am s.moves.length cm) := qx.cell 2
  have x3 : V14.cell? ⟨pqx, 3, none⟩ = some (.slice A3 L.length c3) := qx.cell 3
  have lx := qx.lt
  have t0 : V14.cell? ⟨pqx + 1, 0, none⟩ = some (.slice A4 t.fs.length c4) := qt.cell 0
  have t1 : V14.cell? ⟨pqx + 1, 1, none⟩ = some (.slice A5 t.vs.length c5) := qt.cell 1
  have t2 : V14.cell? ⟨pqx + 1, 2, none⟩ = some (.slice A6 t.gs.length c6) := qt.cell 2
  have lt := qt.lt
  go_upto_region 10 with fail
  clear a0 a1 a2 a3 la
  clear x0 x1 x2 x3 lx
  clear t0 t1 t2 lt
  obtain ⟨pb, hpb⟩ : ∃ p, V14.heap.size = p := ⟨_, rfl⟩
  rw [hpb] at qb ⊢
  have hpb0 : V14.heap.size ≤ pb := by omega
  have hpq : pq0 < pb := by have := q0.lt; omega
  have hpx : pqx + 1 < pb := by have := qt.lt; omega
  clear hpb
  generalize V14.alloc (.cells #[.slice none 0 0, .slice none 0 0] 54) = Vb at *
  obtain ⟨B0, hB0⟩ : ∃ b, Vb.heap.size = b := ⟨_, rfl⟩
  have hpB : pb < B0 := by have := qb.lt; omega
  have hzB : B0 ≤ Vb.heap.size := by omega
  have hVB : V14.heap.size ≤ B0 := by omega
  clear hB0
  have F0 : Hid (fstS t 0 = 0 ∧ lstS s t 0 = 0 ∧ srcS s t 0 = 0 ∧ dstS s t 0 = 0) := Lib.hid ⟨rfl, rfl, rfl, rfl⟩
  go_wp2_with fail
  refine wp_loop (fun a W => Rel (fun a W => ∃ i : Nat, i ≤ s.rooms.length ∧ Below V14.heap.size V14 W ∧ B0 ≤ W.heap.size ∧ ∃ fa ls : Int, Hid (fa = fstS t i ∧ ls = lstS s t i) ∧ ∃ v, ∃ l : List Int, Blk W pb 54 #[v, .slice none 0 0] ∧ W.ownsRow B0 3 1 v l.length (l.flatMap cI1) ∧ Hid (l.length = i ∧ ∀ j, j < i → 0 ≤ gI l j ∧ gI l j ≤ 2000) ∧ ∃ u : Nat → Value, a = ⟨List.toArray (u 0 :: u 1 :: .slice AO os.length cO :: .pointer (some ⟨pq0, 0, none⟩) :: u 4 :: u 5 :: u 6 :: .pointer (some ⟨pqx, 0, none⟩) :: .pointer (some ⟨pqx + 1, 0, none⟩) :: u 9 :: u 10 :: .slice AP s.rooms.length cp :: u 12 :: u 13 :: .slice AS s.rooms.length cS :: u 15 :: u 16 :: u 17 :: .pointer (some ⟨pb, 0, none⟩) :: .int .i64 fa :: .int .i64 ls :: .int .i64 (i : Int) :: u 22 :: u 23 :: u 24 :: u 25 :: u 26 :: u 27 :: u 28 :: u 29 :: u 30 :: u 31 :: u 32 :: u 33 :: u 34 :: u 35 :: u 36 :: u 37 :: u 38 :: u 39 :: u 40 :: u 41 :: u 42 :: u 43 :: u 44 :: u 45 :: u 46 :: u 47 :: u 48 :: u 49 :: u 50 :: u 51 :: u 52 :: u 53 :: u 54 :: u 55 :: u 56 :: u 57 :: u 58 :: u 59 :: u 60 :: u 61 :: u 62 :: u 63 :: u 64 :: u 65 :: u 66 :: u 67 :: u 68 :: u 69 :: u 70 :: u 71 :: u 72 :: u 73 :: u 74 :: u 75 :: u 76 :: u 77 :: u 78 :: u 79 :: u 80 :: u 81 :: u 82 :: u 83 :: u 84 :: u 85 :: u 86 :: u 87 :: u 88 :: u 89 :: u 90 :: u 91 :: u 92 :: u 93 :: u 94 :: u 95 :: u 96 :: u 97 :: u 98 :: u 99 :: u 100 :: u 101 :: u 102 :: u 103 :: u 104 :: u 105 :: u 106 :: u 107 :: u 108 :: u 109 :: u 110 :: u 111 :: u 112 :: u 113 :: u 114 :: u 115 :: u 116 :: u 117 :: u 118 :: u 119 :: u 120 :: u 121 :: u 122 :: u 123 :: u 124 :: u 125 :: u 126 :: u 127 :: u 128 :: u 129 :: u 130 :: u 131 :: u 132 :: u 133 :: u 134 :: u 135 :: u 136 :: u 137 :: u 138 :: u 139 :: u 140 :: u 141 :: u 142 :: u 143 :: u 144 :: u 145 :: u 146 :: u 147 :: u 148 :: u 149 :: u 150 :: u 151 :: u 152 :: u 153 :: u 154 :: u 155 :: u 156 :: u 157 :: u 158 :: u 159 :: u 160 :: u 161 :: u 162 :: u 163 :: u 164 :: u 165 :: u 166 :: u 167 :: u 168 :: u 169 :: u 170 :: u 171 :: u 172 :: u 173 :: u 174 :: u 175 :: u 176 :: u 177 :: u 178 :: u 179 :: u 180 :: u 181 :: u 182 :: u 183 :: u 184 :: u 185 :: u 186 :: u 187 :: u 188 :: u 189 :: u 190 :: u 191 :: u 192 :: u 193 :: u 194 :: u 195 :: u 196 :: u 197 :: u 198 :: u 199 :: u 200 :: u 201 :: u 202 :: u 203 :: u 204 :: u 205 :: u 206 :: u 207 :: u 208 :: u 209 :: u 210 :: u 211 :: u 212 :: u 213 :: u 214 :: u 215 :: u 216 :: u 217 :: u 218 :: u 219 :: u 220 :: u 221 :: u 222 :: u 223 :: u 224 :: u 225 :: u 226 :: u 227 :: u 228 :: u 229 :: u 230 :: u 231 :: u 232 :: u 233 :: u 234 :: u 235 :: u 236 :: u 237 :: u 238 :: u 239 :: u 240 :: u 241 :: u 242 :: u 243 :: u 244 :: u 245 :: u 246 :: u 247 :: u 248 :: u 249 :: u 250 :: u 251 :: u 252 :: u 253 :: u 254 :: u 255 :: u 256 :: u 257 :: u 258 :: u 259 :: u 260 :: u 261 :: u 262 :: u 263 :: u 264 :: u 265 :: u 266 :: u 267 :: u 268 :: u 269 :: u 270 :: u 271 :: u 272 :: u 273 :: u 274 :: u 275 :: u 276 :: u 277 :: u 278 :: u 279 :: u 280 :: u 281 :: u 282 :: u 283 :: u 284 :: u 285 :: u 286 :: u 287 :: u 288 :: u 289 :: u 290 :: u 291 :: u 292 :: u 293 :: u 294 :: u 295 :: u 296 :: u 297 :: u 298 :: u 299 :: u 300 :: u 301 :: u 302 :: u 303 :: u 304 :: u 305 :: u 306 :: u 307 :: u 308 :: u 309 :: u 310 :: u 311 :: u 312 :: u 313 :: u 314 :: u 315 :: u 316 :: u 317 :: u 318 :: u 319 :: u 320 :: u 321 :: u 322 :: u 323 :: u 324 :: u 325 :: u 326 :: u 327 :: u 328 :: u 329 :: u 330 :: u 331 :: u 332 :: []), []⟩) a W) (fun a _ => s.rooms.length - (intOf (a.tmps.getD 21 undef)).toNat) ⟨⟨0, by omega, NB, hzB, 0, 0, Lib.hid ⟨F0.out.1.symm, F0.out.2.1.symm⟩, _, [], qb, ⟨rfl, .inl ⟨rfl, rfl⟩⟩, Lib.hid ⟨rfl, fun j hj => by omega⟩, exFrame (by kernel_rfl)⟩⟩ ?_
  clear hs q0 hod hx ht qx qt hP hR
  clear NB qb hzB Vb
  rintro a W ⟨⟨i, hi, hbw, hzW, fa, ls, HFL, v, l, qb, hown, HL, u, rfl⟩⟩
  have hs := Z_hs.out.go hbw
  have q0 := Z_q0.out.below hbw Z_q0.out.lt
  have hod := (Z_hod.out.below hbw).up hbw.size
  have hx := Z_hx.out.go hbw
  have ht := Z_ht.out.go hbw
  have qx := Z_qx.out.below hbw Z_qx.out.lt
  have qt := Z_qt.out.below hbw Z_qt.out.lt
  have hP := Z_hP.out.go hbw
  have hR := Z_hR.out.go hbw
  have BB1 := ex_trans B_V14 hbw
  have a0 : W.cell? ⟨pq0, 0, none⟩ = some (.slice Ar s.rooms.length cr) := q0.cell 0
  have a1 : W.cell? ⟨pq0, 1, none⟩ = some (.int .i64 s.days) := q0.cell 1
  have a2 : W.cell? ⟨pq0, 2, none⟩ = some (.slice Am s.moves.length cm) := q0.cell 2
  have a3 : W.cell? ⟨pq0, 3, none⟩ = some (.slice Aw s.wgs.length cw) := q0.cell 3
  have la := q0.lt
  have x0 : W.cell? ⟨pqx, 0, none⟩ = some (.slice Ar s.rooms.length cr) := qx.cell 0
  have x1 : W.cell? ⟨pqx, 1, none⟩ = some (.int .i64 s.days) := qx.cell 1
  have x2 : W.cell? ⟨pqx, 2, none⟩ = some (.slice Am s.moves.length cm) := qx.cell 2
  have x3 : W.cell? ⟨pqx, 3, none⟩ = some (.slice A3 L.length c3) := qx.cell 3
  have lx := qx.lt
  have t0 : W.cell? ⟨pqx + 1, 0, none⟩ = some (.slice A4 t.fs.length c4) := qt.cell 0
  have t1 : W.cell? ⟨pqx + 1, 1, none⟩ = some (.slice A5 t.vs.length c5) := qt.cell 1
  have t2 : W.cell? ⟨pqx + 1, 2, none⟩ = some (.slice A6 t.gs.length c6) := qt.cell 2
  have lt := qt.lt
  rw [HSD.out] at a1
  by_cases hlt : i < s.rooms.length
  · have hin : (i : Int) < (s.rooms.length : Int) := by omega
    have hft : i < t.fs.length := by have := HTL.out.1.1; omega
    obtain ⟨bf, of, hAf, hbf, f0'⟩ := IsInts.at_ Z_ht.out.fs hft
    have f0 := (hbw.cell (p := ⟨bf, of + i, none⟩) hbf).trans f0'
    clear f0'
    have lbf : bf < W.heap.size := Nat.lt_of_lt_of_le hbf hbw.size
    have hfb := HBD.out.F i hlt
    obtain ⟨fv, hfv⟩ : ∃ x, gI t.fs i = x := ⟨_, rfl⟩
    have HFV : Hid (t.F i = fv) := Lib.hid hfv
    rw [show t.F i = fv from hfv] at hfb
    rw [hfv] at f0
    clear hfv
    rw [hAf] at t0
    have HAF := Lib.hid hAf
    clear hAf
    have hft' : (i : Int) < (t.fs.length : Int) := by omega
    have hfs := fstS_bd HBD.out (k := i) hi
    rw [← HFL.out.1] at hfs
    have hls := lstS_bd HBD.out (by rw [HD.out]; exact hD6) (k := i) hi
    rw [← HFL.out.2] at hls
    have hsd := HBD.out.S i (D - 1) hlt (by rw [HD.out]; omega)
    rw [HS.out] at hsd
    obtain ⟨sv, hsv⟩ : ∃ x, S i (D - 1) = x := ⟨_, rfl⟩
    rw [hsv] at hsd
    have HSV9 := Lib.hid hsv
    clear hsv
    have hge := fun (j : Nat) (hj : v.ownBlock = some j) => own_ge hown hj
    obtain ⟨row, hrow⟩ : ∃ row, v.ownBlock = row := ⟨_, rfl⟩
    have hnb : ¬ some pb = row := fun e => by have := hge _ (hrow.trans e.symm); omega
    have hnq : ¬ some (pqx + 1) = row := fun e => by have := hge _ (hrow.trans e.symm); omega
    have hnf : ¬ some bf = row := fun e => by have h1 := hge _ (hrow.trans e.symm); omega
    have HROW := Lib.hid hrow
    have hrw : ∀ j, row = some j → B0 ≤ j := fun j hj => hge _ (hrow.trans hj)
    clear hrow hge
    have b0 : W.cell? ⟨pb, 0, none⟩ = some v := qb.cell 0
    have lb := qb.lt
    have HLL : Hid (l.length = i) := Lib.hid HL.out.1
    have hl3 : l.length ≤ 3 := by rw [HLL.out]; omega
    go_upto_region 14 with fail
    refine wp_region_gx_mix row 16 [(false, 0), (false, 1), (false, 2), (false, 3), (false, 4), (false, 5), (false, 6), (false, 7), (false, 8), (true, 9), (false, 10), (false, 11), (true, 12), (true, 13), (true, 14), (false, 15)] (by kernel_rfl) (by kernel_rfl) (by intro d _ _ _ _ h; cases d <;> exact h) ?_
    repeat (refine mix_quiet rfl ?_; go_big_quiet_step (fail); refine wpQuiet_nil ?_)
    have hX0 := (Below.refl W.heap.size W).drew
    refine mix_loud rfl ?_
    go_wp2_with fail
    refine (word_any AO cO os (i : Int) W.drew ((hod.below (Below.refl W.heap.size W).drew).up (Below.refl W.heap.size W).drew.size) HOB.out (by omega) (by omega) hol).mono ?_
    rintro e z9 ⟨⟨wv, rfl, hw0, hw1⟩, hz9⟩
    have hX_z9 := ex_trans hX0 hz9
    go_wp2_with fail
    refine ⟨inGx (grown_row hX_z9), ?_⟩
    repeat (refine mix_quiet rfl ?_; go_big_quiet_step (fail); refine wpQuiet_nil ?_)
    have wv4 : 0 ≤ wv % 4 ∧ wv % 4 < 4 := ⟨Int.emod_nonneg _ (by omega), Int.emod_lt_of_pos _ (by omega)⟩
    have kw : IntKind.i64.wrap (fv + wv % 4) = fv + wv % 4 := IntWalk.i64_in _ (by omega)
    refine mix_loud rfl ?_
    go_wp2_with fail
    refine ⟨inGx (grown_row hX_z9), ?_⟩
    repeat (refine mix_quiet rfl ?_; go_big_quiet_step (fail); refine wpQuiet_nil ?_)
    obtain ⟨y, hy⟩ : ∃ y, (min 2000 (fv + wv % 4)) = y := ⟨_, rfl⟩
    have hyb : 0 ≤ y ∧ y ≤ 2000 := by omega
    rw [hy]
    have HY := Lib.hid hy
    clear hy kw wv4
    refine mix_loud rfl ?_
    go_wp2_with fail
    have hX3 := ex_alloc hX_z9 (.cells #[.int .i64 y] 3)
    refine ⟨inGx (grown_row hX3), ?_⟩
    repeat (refine mix_quiet rfl ?_; go_big_quiet_step (fail); refine wpQuiet_nil ?_)
    have y4 := own_below hown hX3
    have c63 : l.length + 1 ≤ maxLen := by unfold maxLen; omega
    have cby : (l.length + 1) * 8 ≤ 140737488355328 := by omega
    have hbase : B0 ≤ (z9.alloc (.cells #[.int .i64 y] 3)).heap.size := by have := hX3.size; omega
    refine mix_loud rfl ?_
    go_wp2_with (at_builtin; refine wpList_append_lies _ rfl _ _ _ rfl (B0) 3 i0 _ 1 8 Tryz.underlying28 HI.out hz0 hz1 hz2 rfl (by omega) v _ _ rfl y4 ⟨z9.heap.size, 0, none⟩ 1 1 [.int .i64 y] rfl rfl (World.news_of_block (heap_alloc_new z9 _)) (by simp [Value.oneCell']) (by omega) c63 cby hbase (z9.heap.size + 1) (by simp) ?_; intro gg cap w1 hown' hgrow hat hlt')
    rw [HROW.out] at hgrow
    have hgB := (grown_row (r := row) hX3).andThen hgrow (fun j hj => .inr hj)
    refine ⟨inGx hgB, ?_⟩
    repeat (refine mix_quiet rfl ?_; go_big_quiet_step (fail); refine wpQuiet_nil ?_)
    refine mix_nil rfl ?_
    have hb5 := hbw.grown hgB hbw.size (fun j hj => by have := hrw j hj; omega)
    have p2 := qb.grown hgB hnb
    have f9 : w1.cell? ⟨pb, 0, none⟩ = some v := p2.cell 0
    have ff := p2.frozen0
    have lp2 := p2.lt
    have hs7 : B0 ≤ w1.heap.size := by have := hgB.size; omega
    have own7 := own_push (f := cI1) (x := y) rfl hown'
    have own8 := own_far own7 (p := ⟨pb, 0, none⟩) (by show pb < B0; omega) (.slice (some ⟨gg, 0, none⟩) (l.length + 1) cap)
    have hb8 := ex_set hb5 (p := ⟨pb, 0, none⟩) (by show V14.heap.size ≤ pb; omega) (.slice (some ⟨gg, 0, none⟩) (l.length + 1) cap)
    have p28 := p2.set_ 0 (.slice (some ⟨gg, 0, none⟩) (l.length + 1) cap)
    simp only [List.setIfInBounds_toArray, List.set_cons_zero, List.set_cons_succ] at p28
    have hz8 : B0 ≤ (w1.setCell ⟨pb, 0, none⟩ (.slice (some ⟨gg, 0, none⟩) (l.length + 1) cap)).heap.size := by simpa using hs7
    have HL2 : Hid ((l ++ [y]).length = i + 1 ∧ ∀ j, j < i + 1 → 0 ≤ gI (l ++ [y]) j ∧ gI (l ++ [y]) j ≤ 2000) := Lib.hid ⟨by simp [HLL.out], gI_snoc' (P := fun n _ => 0 ≤ n ∧ n ≤ 2000) HLL.out HL.out.2 hyb⟩
    clear a0 a1 a2 a3 la
    clear x0 x1 x2 x3 lx
    clear t0 t1 t2 lt
    clear hs q0 hod hx ht qx qt hP hR
    clear hown' own7 hgB hgrow y4 hX3 hX_z9 hX0 hz9 qb hown hnb hnq hnf b0 f0 lbf lb hat hlt' hs7 hb5 c63 cby hbase
    go_upto_region 15 with fail
    generalize w1.setCell ⟨pb, 0, none⟩ (.slice (some ⟨gg, 0, none⟩) (l.length + 1) cap) = Wa at *
    generalize Value.slice (some ⟨gg, 0, none⟩) (l.length + 1) cap = va at *
    clear f9 ff lp2 p2
    have hs := Z_hs.out.go hb8
    have q0 := Z_q0.out.below hb8 Z_q0.out.lt
    have hod := (Z_hod.out.below hb8).up hb8.size
    have hx := Z_hx.out.go hb8
    have ht := Z_ht.out.go hb8
    have qx := Z_qx.out.below hb8 Z_qx.out.lt
    have qt := Z_qt.out.below hb8 Z_qt.out.lt
    have hP := Z_hP.out.go hb8
    have hR := Z_hR.out.go hb8
    have BB2 := ex_trans B_V14 hb8
    have a0 : Wa.cell? ⟨pq0, 0, none⟩ = some (.slice Ar s.rooms.length cr) := q0.cell 0
    have a1 : Wa.cell? ⟨pq0, 1, none⟩ = some (.int .i64 s.days) := q0.cell 1
    have a2 : Wa.cell? ⟨pq0, 2, none⟩ = some (.slice Am s.moves.length cm) := q0.cell 2
    have a3 : Wa.cell? ⟨pq0, 3, none⟩ = some (.slice Aw s.wgs.length cw) := q0.cell 3
    have la := q0.lt
    have x0 : Wa.cell? ⟨pqx, 0, none⟩ = some (.slice Ar s.rooms.length cr) := qx.cell 0
    have x1 : Wa.cell? ⟨pqx, 1, none⟩ = some (.int .i64 s.days) := qx.cell 1
    have x2 : Wa.cell? ⟨pqx, 2, none⟩ = some (.slice Am s.moves.length cm) := qx.cell 2
    have x3 : Wa.cell? ⟨pqx, 3, none⟩ = some (.slice A3 L.length c3) := qx.cell 3
    have lx := qx.lt
    have t0 : Wa.cell? ⟨pqx + 1, 0, none⟩ = some (.slice A4 t.fs.length c4) := qt.cell 0
    have t1 : Wa.cell? ⟨pqx + 1, 1, none⟩ = some (.slice A5 t.vs.length c5) := qt.cell 1
    have t2 : Wa.cell? ⟨pqx + 1, 2, none⟩ = some (.slice A6 t.gs.length c6) := qt.cell 2
    have lt := qt.lt
    rw [HSD.out] at a1
    rw [HAF.out] at t0
    have f0 : Wa.cell? ⟨bf, of + i, none⟩ = some (.int .i64 fv) := by
      obtain ⟨bf', of', hAf', hbf', f0'⟩ := IsInts.at_ Z_ht.out.fs hft
      rw [HAF.out] at hAf'
      injection hAf' with e1
      injection e1 with e1 e2
      subst e1 e2
      rw [(hb8.cell (p := ⟨bf, of + i, none⟩) hbf').trans f0']
      exact congrArg (fun x => some (Value.int .i64 x)) HFV.out
    have lbf : bf < Wa.heap.size := Nat.lt_of_lt_of_le hbf hb8.size
    have k1 : IntKind.i64.wrap (fa + fv) = fa + fv := IntWalk.i64_in _ (by omega)
    have k2 : IntKind.i64.wrap (ls + sv) = ls + sv := IntWalk.i64_in _ (by omega)
    have k3 : IntKind.i64.wrap ((D : Int) - 1) = ((D - 1 : Nat) : Int) := by rw [IntWalk.i64_in _ (by omega)]; omega
    obtain ⟨bS, oS, b2, o2, rfl, hbS, s0, hb2, g0⟩ := hP.at_ hlt (show D - 1 < D by omega)
    rw [HSV9.out] at g0
    have hdd : ((D - 1 : Nat) : Int) < (D : Int) := by omega
    go_upto_region 16 with fail
    have D16 := (Below.refl Wa.heap.size Wa).drew
    refine wp_region_ext_mix 11 [(false, 0), (false, 1), (false, 2), (false, 3), (false, 4), (false, 5), (false, 6), (false, 7), (false, 8), (false, 9), (false, 10)] (by kernel_rfl) (by kernel_rfl) (by intro d _ _ _ _ h; cases d <;> exact h) ?_
    repeat (refine mix_quiet rfl ?_; go_big_quiet_step (fail); refine wpQuiet_nil ?_)
    refine mix_nil (r := [_]) rfl ?_
    have HF2 : Hid (fa + fv = fstS t (i + 1)) := Lib.hid (by rw [fstS_succ, HFL.out.1, HFV.out])
    have HL3 : Hid (ls + sv = lstS s t i + (sv + vapS t i 0)) := Lib.hid (by rw [HFL.out.2]; show _ = lstS s t i + (sv + 0); omega)
    obtain ⟨f2, hf2⟩ : ∃ x, fa + fv = x := ⟨_, rfl⟩
    obtain ⟨l0, hl0⟩ : ∃ x, ls + sv = x := ⟨_, rfl⟩
    have own9 : Wa.drew.ownsRow B0 3 1 va (l ++ [y]).length ((l ++ [y]).flatMap cI1) := own_below own8 D16
    have p3 := p28.below D16 p28.lt
    have hb9 := ex_trans hb8 D16
    have hz9 : B0 ≤ Wa.drew.heap.size := by have := D16.size; omega
    clear hl3 own8 p28 hb8 hz8 s0 g0 f0 lbf hdd k1 k3
    clear a0 a1 a2 a3 la
    clear x0 x1 x2 x3 lx
    clear t0 t1 t2 lt
    clear hs q0 hod hx ht qx qt hP hR
    obtain ⟨Y, hY⟩ : ∃ Y, Wa.drew = Y := ⟨_, rfl⟩
    rw [hY] at own9 p3 hb9 hz9
    go_upto_region 17 with fail
    rw [hf2] at HF2
    rw [hl0] at HL3
    rw [hY]
    clear hY D16
    go_wp2_with fail
    try rw [hf2]
    try rw [hl0]
    clear hf2 hl0 k2
    refine wp_loop (fun a W => Rel (fun a W => ∃ d : Nat, d ≤ D ∧ Y = W ∧ ∃ lc : Int, Hid (lc = lstS s t i + (sv + vapS t i d)) ∧ ∃ u : Nat → Value, a = ⟨List.toArray (u 0 :: u 1 :: .slice AO os.length cO :: .pointer (some ⟨pq0, 0, none⟩) :: u 4 :: u 5 :: u 6 :: .pointer (some ⟨pqx, 0, none⟩) :: .pointer (some ⟨pqx + 1, 0, none⟩) :: u 9 :: u 10 :: .slice (some ⟨bS, oS, none⟩) s.rooms.length cp :: u 12 :: u 13 :: .slice AS s.rooms.length cS :: u 15 :: u 16 :: u 17 :: .pointer (some ⟨pb, 0, none⟩) :: .int .i64 f2 :: .int .i64 lc :: .int .i64 (i : Int) :: .int .i64 (d : Int) :: u 23 :: u 24 :: u 25 :: u 26 :: u 27 :: u 28 :: u 29 :: u 30 :: u 31 :: u 32 :: u 33 :: u 34 :: u 35 :: u 36 :: u 37 :: u 38 :: u 39 :: u 40 :: u 41 :: u 42 :: u 43 :: u 44 :: u 45 :: u 46 :: u 47 :: u 48 :: u 49 :: u 50 :: u 51 :: u 52 :: u 53 :: u 54 :: u 55 :: u 56 :: u 57 :: u 58 :: u 59 :: u 60 :: u 61 :: u 62 :: u 63 :: u 64 :: u 65 :: u 66 :: u 67 :: u 68 :: u 69 :: u 70 :: u 71 :: u 72 :: u 73 :: u 74 :: u 75 :: u 76 :: u 77 :: u 78 :: u 79 :: u 80 :: u 81 :: u 82 :: u 83 :: u 84 :: u 85 :: u 86 :: u 87 :: u 88 :: u 89 :: u 90 :: u 91 :: u 92 :: u 93 :: u 94 :: u 95 :: u 96 :: u 97 :: u 98 :: u 99 :: u 100 :: u 101 :: u 102 :: u 103 :: u 104 :: u 105 :: u 106 :: u 107 :: u 108 :: u 109 :: u 110 :: u 111 :: u 112 :: u 113 :: u 114 :: u 115 :: u 116 :: u 117 :: u 118 :: u 119 :: u 120 :: u 121 :: u 122 :: u 123 :: u 124 :: u 125 :: u 126 :: u 127 :: u 128 :: u 129 :: u 130 :: u 131 :: u 132 :: u 133 :: u 134 :: u 135 :: u 136 :: u 137 :: u 138 :: u 139 :: u 140 :: u 141 :: u 142 :: u 143 :: u 144 :: u 145 :: u 146 :: u 147 :: u 148 :: u 149 :: u 150 :: u 151 :: u 152 :: u 153 :: u 154 :: u 155 :: u 156 :: u 157 :: u 158 :: u 159 :: u 160 :: u 161 :: u 162 :: u 163 :: u 164 :: u 165 :: u 166 :: u 167 :: u 168 :: u 169 :: u 170 :: u 171 :: u 172 :: u 173 :: u 174 :: u 175 :: u 176 :: u 177 :: u 178 :: u 179 :: u 180 :: u 181 :: u 182 :: u 183 :: u 184 :: u 185 :: u 186 :: u 187 :: u 188 :: u 189 :: u 190 :: u 191 :: u 192 :: u 193 :: u 194 :: u 195 :: u 196 :: u 197 :: u 198 :: u 199 :: u 200 :: u 201 :: u 202 :: u 203 :: u 204 :: u 205 :: u 206 :: u 207 :: u 208 :: u 209 :: u 210 :: u 211 :: u 212 :: u 213 :: u 214 :: u 215 :: u 216 :: u 217 :: u 218 :: u 219 :: u 220 :: u 221 :: u 222 :: u 223 :: u 224 :: u 225 :: u 226 :: u 227 :: u 228 :: u 229 :: u 230 :: u 231 :: u 232 :: u 233 :: u 234 :: u 235 :: u 236 :: u 237 :: u 238 :: u 239 :: u 240 :: u 241 :: u 242 :: u 243 :: u 244 :: u 245 :: u 246 :: u 247 :: u 248 :: u 249 :: u 250 :: u 251 :: u 252 :: u 253 :: u 254 :: u 255 :: u 256 :: u 257 :: u 258 :: u 259 :: u 260 :: u 261 :: u 262 :: u 263 :: u 264 :: u 265 :: u 266 :: u 267 :: u 268 :: u 269 :: u 270 :: u 271 :: u 272 :: u 273 :: u 274 :: u 275 :: u 276 :: u 277 :: u 278 :: u 279 :: u 280 :: u 281 :: u 282 :: u 283 :: u 284 :: u 285 :: u 286 :: u 287 :: u 288 :: u 289 :: u 290 :: u 291 :: u 292 :: u 293 :: u 294 :: u 295 :: u 296 :: u 297 :: u 298 :: u 299 :: u 300 :: u 301 :: u 302 :: u 303 :: u 304 :: u 305 :: u 306 :: u 307 :: u 308 :: u 309 :: u 310 :: u 311 :: u 312 :: u 313 :: u 314 :: u 315 :: u 316 :: u 317 :: u 318 :: u 319 :: u 320 :: u 321 :: u 322 :: u 323 :: u 324 :: u 325 :: u 326 :: u 327 :: u 328 :: u 329 :: u 330 :: u 331 :: u 332 :: []), []⟩) a W) (fun a _ => D - (intOf (a.tmps.getD 22 undef)).toNat) ⟨⟨0, by omega, rfl, l0, HL3, exFrame (by kernel_rfl)⟩⟩ ?_
    clear HL3
    rintro a W ⟨⟨d, hd, hYW, lc, HLC, u2, rfl⟩⟩
    subst hYW
    have hs := Z_hs.out.go hb9
    have q0 := Z_q0.out.below hb9 Z_q0.out.lt
    have hod := (Z_hod.out.below hb9).up hb9.size
    have hx := Z_hx.out.go hb9
    have ht := Z_ht.out.go hb9
    have qx := Z_qx.out.below hb9 Z_qx.out.lt
    have qt := Z_qt.out.below hb9 Z_qt.out.lt
    have hP := Z_hP.out.go hb9
    have hR := Z_hR.out.go hb9
    have BB3 := ex_trans B_V14 hb9
    have a0 : Y.cell? ⟨pq0, 0, none⟩ = some (.slice Ar s.rooms.length cr) := q0.cell 0
    have a1 : Y.cell? ⟨pq0, 1, none⟩ = some (.int .i64 s.days) := q0.cell 1
    have a2 : Y.cell? ⟨pq0, 2, none⟩ = some (.slice Am s.moves.length cm) := q0.cell 2
    have a3 : Y.cell? ⟨pq0, 3, none⟩ = some (.slice Aw s.wgs.length cw) := q0.cell 3
    have la := q0.lt
    have x0 : Y.cell? ⟨pqx, 0, none⟩ = some (.slice Ar s.rooms.length cr) := qx.cell 0
    have x1 : Y.cell? ⟨pqx, 1, none⟩ = some (.int .i64 s.days) := qx.cell 1
    have x2 : Y.cell? ⟨pqx, 2, none⟩ = some (.slice Am s.moves.length cm) := qx.cell 2
    have x3 : Y.cell? ⟨pqx, 3, none⟩ = some (.slice A3 L.length c3) := qx.cell 3
    have lx := qx.lt
    have t0 : Y.cell? ⟨pqx + 1, 0, none⟩ = some (.slice A4 t.fs.length c4) := qt.cell 0
    have t1 : Y.cell? ⟨pqx + 1, 1, none⟩ = some (.slice A5 t.vs.length c5) := qt.cell 1
    have t2 : Y.cell? ⟨pqx + 1, 2, none⟩ = some (.slice A6 t.gs.length c6) := qt.cell 2
    have lt := qt.lt
    rw [HSD.out] at a1
    by_cases hld : d < D
    · have hnv : i < t.vs.length := by have := HTL.out.1.2.1; omega
      have hVL : (gL t.vs i).length = D := by rw [HTL.out.2.1 i hlt, HD.out]
      obtain ⟨bv, ov, rfl, hbv, z0⟩ := ht.vs (show 0 < t.vs.length by omega)
      have z1 : Y.cell? ⟨bv, ov + i, none⟩ = some (.slice (rV i) (gL t.vs i).length (rcV i)) := by have := z0 i 0 hnv (by omega); rw [show ov + (i * 1 + 0) = ov + i by omega] at this; exact this
      have hro := ht.row i hnv
      rw [hVL] at z1 hro
      obtain ⟨bl, ol, hrv, hbl, v0⟩ := IsInts.at_ hro hld
      rw [hrv] at z1
      have hnv' : (i : Int) < (t.vs.length : Int) := by omega
      have hld' : (d : Int) < (D : Int) := by omega
      have hvb := HBD.out.V i d hlt (by rw [HD.out]; exact hld)
      have hvp := vapS_bd HBD.out hlt (k := d) (by rw [HD.out]; omega)
      obtain ⟨vv, hvv⟩ : ∃ x, gI (gL t.vs i) d = x := ⟨_, rfl⟩
      have HVV : Hid (t.V i d = vv) := Lib.hid hvv
      rw [HVV.out] at hvb
      rw [hvv] at v0
      have hls := lstS_bd HBD.out (by rw [HD.out]; exact hD6) (k := i) hi
      have hlb : 0 ≤ lc ∧ lc ≤ 10000000 := by rw [HLC.out]; omega
      have k4 : IntKind.i64.wrap (lc + vv) = lc + vv := IntWalk.i64_in _ (by omega)
      have HLC2 : Hid (lc + vv = lstS s t i + (sv + vapS t i (d + 1))) := Lib.hid (by rw [vapS_succ, HLC.out, HVV.out]; omega)
      obtain ⟨rcx, hrcx⟩ : ∃ x, rcV i = x := ⟨_, rfl⟩
      rw [hrcx] at z1
      clear hrcx hvv hrv hro z0 hVL hvp hls
      go_wp2_with fail
      refine ⟨⟨⟨d + 1, by omega, rfl, lc + vv, HLC2, exFrame (by kernel_rfl)⟩⟩, ?_⟩
      show D - (intOf (.int .i64 ((d : Int) + 1))).toNat < D - (intOf (.int .i64 (d : Int))).toNat
      simp [intOf]
      omega
    · obtain rfl : d = D := by omega
      have HLC2 : Hid (lc = lstS s t (i + 1)) := Lib.hid (by rw [HLC.out, lstS_succ, HD.out, HS.out, HSV9.out])
      go_wp2_with fail
      refine ⟨⟨⟨i + 1, by omega, hb9, hz9, f2, lc, Lib.hid ⟨HF2.out, HLC2.out⟩, va, l ++ [y], p3, own9, HL2, exFrame (by kernel_rfl)⟩⟩, ?_⟩
      show s.rooms.length - (intOf (.int .i64 ((i : Int) + 1))).toNat < s.rooms.length - (intOf (.int .i64 (i : Int))).toNat
      simp [intOf]
      omega
  · obtain rfl : i = s.rooms.length := by omega
    obtain ⟨Af, kf, rfl, hk1, hk2, hra⟩ := lay_ints hown
    clear hk1 hk2 hown
    obtain ⟨B1, hB1⟩ : ∃ b, W.heap.size = b := ⟨_, rfl⟩
    have HAL : Hid (∀ g, Af = some ⟨g, 0, none⟩ → l.length ≠ 0 → g < B1) := Lib.hid (fun g e hn => by
      rcases hra with h0 | ⟨g', cur, e', hg, hbk, hx⟩
      · exact absurd h0 hn
      · have hlt := hbk.lt
        rw [e'] at e
        cases e
        omega)
    have hzB1 : B1 ≤ W.heap.size := by omega
    have hpB1 : pb < B1 := by have := qb.lt; omega
    have hVB1 : V14.heap.size ≤ B1 := by have := hbw.size; omega
    clear hB1
    go_wp2_with fail
    refine wp_loop (fun a W => Rel (fun a W => ∃ j : Nat, j ≤ s.moves.length ∧ Below V14.heap.size V14 W ∧ B1 ≤ W.heap.size ∧ RowAt W B0 3 1 Af l.length (fI l) ∧ ∃ f2 l9 : Int, Hid (f2 = fa + srcS s t j ∧ l9 = ls + dstS s t j) ∧ ∃ v, Blk W pb 54 #[.slice Af l.length kf, v] ∧ ∃ l2 : List Int, W.ownsRow B1 3 1 v l2.length (l2.flatMap cI1) ∧ Hid (l2.length = j ∧ ∀ k, k < j → 0 ≤ gI l2 k ∧ gI l2 k ≤ 2000) ∧ ∃ u : Nat → Value, a = ⟨List.toArray (u 0 :: u 1 :: .slice AO os.length cO :: .pointer (some ⟨pq0, 0, none⟩) :: u 4 :: u 5 :: u 6 :: .pointer (some ⟨pqx, 0, none⟩) :: .pointer (some ⟨pqx + 1, 0, none⟩) :: u 9 :: u 10 :: .slice AP s.rooms.length cp :: u 12 :: u 13 :: .slice AS s.rooms.length cS :: u 15 :: u 16 :: u 17 :: .pointer (some ⟨pb, 0, none⟩) :: .int .i64 f2 :: .int .i64 l9 :: u 21 :: u 22 :: .int .i64 (j : Int) :: u 24 :: u 25 :: u 26 :: u 27 :: u 28 :: u 29 :: u 30 :: u 31 :: u 32 :: u 33 :: u 34 :: u 35 :: u 36 :: u 37 :: u 38 :: u 39 :: u 40 :: u 41 :: u 42 :: u 43 :: u 44 :: u 45 :: u 46 :: u 47 :: u 48 :: u 49 :: u 50 :: u 51 :: u 52 :: u 53 :: u 54 :: u 55 :: u 56 :: u 57 :: u 58 :: u 59 :: u 60 :: u 61 :: u 62 :: u 63 :: u 64 :: u 65 :: u 66 :: u 67 :: u 68 :: u 69 :: u 70 :: u 71 :: u 72 :: u 73 :: u 74 :: u 75 :: u 76 :: u 77 :: u 78 :: u 79 :: u 80 :: u 81 :: u 82 :: u 83 :: u 84 :: u 85 :: u 86 :: u 87 :: u 88 :: u 89 :: u 90 :: u 91 :: u 92 :: u 93 :: u 94 :: u 95 :: u 96 :: u 97 :: u 98 :: u 99 :: u 100 :: u 101 :: u 102 :: u 103 :: u 104 :: u 105 :: u 106 :: u 107 :: u 108 :: u 109 :: u 110 :: u 111 :: u 112 :: u 113 :: u 114 :: u 115 :: u 116 :: u 117 :: u 118 :: u 119 :: u 120 :: u 121 :: u 122 :: u 123 :: u 124 :: u 125 :: u 126 :: u 127 :: u 128 :: u 129 :: u 130 :: u 131 :: u 132 :: u 133 :: u 134 :: u 135 :: u 136 :: u 137 :: u 138 :: u 139 :: u 140 :: u 141 :: u 142 :: u 143 :: u 144 :: u 145 :: u 146 :: u 147 :: u 148 :: u 149 :: u 150 :: u 151 :: u 152 :: u 153 :: u 154 :: u 155 :: u 156 :: u 157 :: u 158 :: u 159 :: u 160 :: u 161 :: u 162 :: u 163 :: u 164 :: u 165 :: u 166 :: u 167 :: u 168 :: u 169 :: u 170 :: u 171 :: u 172 :: u 173 :: u 174 :: u 175 :: u 176 :: u 177 :: u 178 :: u 179 :: u 180 :: u 181 :: u 182 :: u 183 :: u 184 :: u 185 :: u 186 :: u 187 :: u 188 :: u 189 :: u 190 :: u 191 :: u 192 :: u 193 :: u 194 :: u 195 :: u 196 :: u 197 :: u 198 :: u 199 :: u 200 :: u 201 :: u 202 :: u 203 :: u 204 :: u 205 :: u 206 :: u 207 :: u 208 :: u 209 :: u 210 :: u 211 :: u 212 :: u 213 :: u 214 :: u 215 :: u 216 :: u 217 :: u 218 :: u 219 :: u 220 :: u 221 :: u 222 :: u 223 :: u 224 :: u 225 :: u 226 :: u 227 :: u 228 :: u 229 :: u 230 :: u 231 :: u 232 :: u 233 :: u 234 :: u 235 :: u 236 :: u 237 :: u 238 :: u 239 :: u 240 :: u 241 :: u 242 :: u 243 :: u 244 :: u 245 :: u 246 :: u 247 :: u 248 :: u 249 :: u 250 :: u 251 :: u 252 :: u 253 :: u 254 :: u 255 :: u 256 :: u 257 :: u 258 :: u 259 :: u 260 :: u 261 :: u 262 :: u 263 :: u 264 :: u 265 :: u 266 :: u 267 :: u 268 :: u 269 :: u 270 :: u 271 :: u 272 :: u 273 :: u 274 :: u 275 :: u 276 :: u 277 :: u 278 :: u 279 :: u 280 :: u 281 :: u 282 :: u 283 :: u 284 :: u 285 :: u 286 :: u 287 :: u 288 :: u 289 :: u 290 :: u 291 :: u 292 :: u 293 :: u 294 :: u 295 :: u 296 :: u 297 :: u 298 :: u 299 :: u 300 :: u 301 :: u 302 :: u 303 :: u 304 :: u 305 :: u 306 :: u 307 :: u 308 :: u 309 :: u 310 :: u 311 :: u 312 :: u 313 :: u 314 :: u 315 :: u 316 :: u 317 :: u 318 :: u 319 :: u 320 :: u 321 :: u 322 :: u 323 :: u 324 :: u 325 :: u 326 :: u 327 :: u 328 :: u 329 :: u 330 :: u 331 :: u 332 :: []), []⟩) a W) (fun a _ => s.moves.length - (intOf (a.tmps.getD 23 undef)).toNat) ⟨⟨0, by omega, hbw, hzB1, hra, fa, ls, Lib.hid ⟨by rw [F0.out.2.2.1]; omega, by rw [F0.out.2.2.2]; omega⟩, _, qb, [], ⟨rfl, .inl ⟨rfl, rfl⟩⟩, Lib.hid ⟨rfl, fun j hj => by omega⟩, exFrame (by kernel_rfl)⟩⟩ ?_
    clear a0 a1 a2 a3 la
    clear x0 x1 x2 x3 lx
    clear t0 t1 t2 lt
    clear hs q0 hod hx ht qx qt hP hR
    clear qb hra hbw hzW hzB1 hlt hi
    rintro a W2 ⟨⟨j, hj, hbw, hzW, hra, f2, l9, HF2, v, qb, l2, hown, HG, u2, rfl⟩⟩
    have hs := Z_hs.out.go hbw
    have q0 := Z_q0.out.below hbw Z_q0.out.lt
    have hod := (Z_hod.out.below hbw).up hbw.size
    have hx := Z_hx.out.go hbw
    have ht := Z_ht.out.go hbw
    have qx := Z_qx.out.below hbw Z_qx.out.lt
    have qt := Z_qt.out.below hbw Z_qt.out.lt
    have hP := Z_hP.out.go hbw
    have hR := Z_hR.out.go hbw
    have BB4 := ex_trans B_V14 hbw
    have a0 : W2.cell? ⟨pq0, 0, none⟩ = some (.slice Ar s.rooms.length cr) := q0.cell 0
    have a1 : W2.cell? ⟨pq0, 1, none⟩ = some (.int .i64 s.days) := q0.cell 1
    have a2 : W2.cell? ⟨pq0, 2, none⟩ = some (.slice Am s.moves.length cm) := q0.cell 2
    have a3 : W2.cell? ⟨pq0, 3, none⟩ = some (.slice Aw s.wgs.length cw) := q0.cell 3
    have la := q0.lt
    have x0 : W2.cell? ⟨pqx, 0, none⟩ = some (.slice Ar s.rooms.length cr) := qx.cell 0
    have x1 : W2.cell? ⟨pqx, 1, none⟩ = some (.int .i64 s.days) := qx.cell 1
    have x2 : W2.cell? ⟨pqx, 2, none⟩ = some (.slice Am s.moves.length cm) := qx.cell 2
    have x3 : W2.cell? ⟨pqx, 3, none⟩ = some (.slice A3 L.length c3) := qx.cell 3
    have lx := qx.lt
    have t0 : W2.cell? ⟨pqx + 1, 0, none⟩ = some (.slice A4 t.fs.length c4) := qt.cell 0
    have t1 : W2.cell? ⟨pqx + 1, 1, none⟩ = some (.slice A5 t.vs.length c5) := qt.cell 1
    have t2 : W2.cell? ⟨pqx + 1, 2, none⟩ = some (.slice A6 t.gs.length c6) := qt.cell 2
    have lt := qt.lt
    rw [HSD.out] at a1
    by_cases hlt : j < s.moves.length
    · have hgt : j < t.gs.length := by have := HTL.out.1.2.2; omega
      obtain ⟨bg, og, hAg, hbg, g0'⟩ := IsInts.at_ Z_ht.out.gs hgt
      have g0 := (hbw.cell (p := ⟨bg, og + j, none⟩) hbg).trans g0'
      clear g0'
      have lbg : bg < W2.heap.size := Nat.lt_of_lt_of_le hbg hbw.size
      have hgb := HBD.out.G j hlt
      obtain ⟨gv, hgv⟩ : ∃ x, gI t.gs j = x := ⟨_, rfl⟩
      have HGV : Hid (t.G j = gv) := Lib.hid hgv
      rw [show t.G j = gv from hgv] at hgb
      rw [hgv] at g0
      clear hgv
      rw [hAg] at t2
      have HAG := Lib.hid hAg
      clear hAg
      have hgt' : (j : Int) < (t.gs.length : Int) := by omega
      have hfs := fstS_bd HBD.out (k := s.rooms.length) (Nat.le_refl _)
      rw [← HFL.out.1] at hfs
      have hls := lstS_bd HBD.out (by rw [HD.out]; exact hD6) (k := s.rooms.length) (Nat.le_refl _)
      rw [← HFL.out.2] at hls
      have hsr := srcS_bd HBD.out (k := j) hj
      have hds := dstS_bd HBD.out (k := j) hj
      have hf2 : 0 ≤ f2 ∧ f2 ≤ 10000000 := by rw [HF2.out.1]; omega
      have hl9 : 0 ≤ l9 ∧ l9 ≤ 10000000 := by rw [HF2.out.2]; omega
      clear hfs hls hsr hds
      have hge := fun (j : Nat) (hj : v.ownBlock = some j) => own_ge hown hj
      obtain ⟨row, hrow⟩ : ∃ row, v.ownBlock = row := ⟨_, rfl⟩
      have hnb : ¬ some pb = row := fun e => by have := hge _ (hrow.trans e.symm); omega
      have hnq : ¬ some (pqx + 1) = row := fun e => by have := hge _ (hrow.trans e.symm); omega
      have hnf : ¬ some bg = row := fun e => by have h1 := hge _ (hrow.trans e.symm); omega
      have HROW := Lib.hid hrow
      have hrw : ∀ j, row = some j → B1 ≤ j := fun j hj => hge _ (hrow.trans hj)
      clear hrow hge
      have b1 : W2.cell? ⟨pb, 1, none⟩ = some v := qb.cell 1
      have lb := qb.lt
      have HLL : Hid (l2.length = j) := Lib.hid HG.out.1
      have hl12 : l2.length ≤ 12 := by rw [HLL.out]; omega
      have k5 : IntKind.i64.wrap ((j : Int) + 5) = (j : Int) + 5 := IntWalk.i64_in _ (by omega)
      go_upto_region 24 with fail
      refine wp_region_gx_mix row 17 [(false, 0), (false, 1), (false, 2), (false, 3), (false, 4), (false, 5), (false, 6), (false, 7), (false, 8), (false, 9), (true, 10), (false, 11), (false, 12), (true, 13), (true, 14), (true, 15), (false, 16)] (by kernel_rfl) (by kernel_rfl) (by intro d _ _ _ _ h; cases d <;> exact h) ?_
      repeat (refine mix_quiet rfl ?_; go_big_quiet_step (fail); refine wpQuiet_nil ?_)
      have hX0 := (Below.refl W2.heap.size W2).drew
      refine mix_loud rfl ?_
      go_wp2_with fail
      refine (word_any AO cO os ((j : Int) + 5) W2.drew ((hod.below (Below.refl W2.heap.size W2).drew).up (Below.refl W2.heap.size W2).drew.size) HOB.out (by omega) (by omega) hol).mono ?_
      rintro e z9 ⟨⟨wv, rfl, hw0, hw1⟩, hz9⟩
      have hX_z9 := ex_trans hX0 hz9
      go_wp2_with fail
      refine ⟨inGx (grown_row hX_z9), ?_⟩
      repeat (refine mix_quiet rfl ?_; go_big_quiet_step (fail); refine wpQuiet_nil ?_)
      have wv4 : 0 ≤ wv % 3 ∧ wv % 3 < 3 := ⟨Int.emod_nonneg _ (by omega), Int.emod_lt_of_pos _ (by omega)⟩
      have kw : IntKind.i64.wrap (gv + wv % 3) = gv + wv % 3 := IntWalk.i64_in _ (by omega)
      refine mix_loud rfl ?_
      go_wp2_with fail
      refine ⟨inGx (grown_row hX_z9), ?_⟩
      repeat (refine mix_quiet rfl ?_; go_big_quiet_step (fail); refine wpQuiet_nil ?_)
      obtain ⟨y, hy⟩ : ∃ y, (min 2000 (gv + wv % 3)) = y := ⟨_, rfl⟩
      have hyb : 0 ≤ y ∧ y ≤ 2000 := by omega
      rw [hy]
      have HY := Lib.hid hy
      clear hy kw wv4
      refine mix_loud rfl ?_
      go_wp2_with fail
      have hX3 := ex_alloc hX_z9 (.cells #[.int .i64 y] 3)
      refine ⟨inGx (grown_row hX3), ?_⟩
      repeat (refine mix_quiet rfl ?_; go_big_quiet_step (fail); refine wpQuiet_nil ?_)
      have y4 := own_below hown hX3
      have c63 : l2.length + 1 ≤ maxLen := by unfold maxLen; omega
      have cby : (l2.length + 1) * 8 ≤ 140737488355328 := by omega
      have hbase : B1 ≤ (z9.alloc (.cells #[.int .i64 y] 3)).heap.size := by have := hX3.size; omega
      refine mix_loud rfl ?_
      go_wp2_with (at_builtin; refine wpList_append_lies _ rfl _ _ _ rfl (B1) 3 i0 _ 1 8 Tryz.underlying28 HI.out hz0 hz1 hz2 rfl (by omega) v _ _ rfl y4 ⟨z9.heap.size, 0, none⟩ 1 1 [.int .i64 y] rfl rfl (World.news_of_block (heap_alloc_new z9 _)) (by simp [Value.oneCell']) (by omega) c63 cby hbase (z9.heap.size + 1) (by simp) ?_; intro gg cap w1 hown' hgrow hat hlt')
      rw [HROW.out] at hgrow
      have hgB := (grown_row (r := row) hX3).andThen hgrow (fun j hj => .inr hj)
      refine ⟨inGx hgB, ?_⟩
      repeat (refine mix_quiet rfl ?_; go_big_quiet_step (fail); refine wpQuiet_nil ?_)
      refine mix_nil rfl ?_
      have hb5 := hbw.grown hgB hbw.size (fun j hj => by have := hrw j hj; omega)
      have p2 := qb.grown hgB hnb
      have f9 : w1.cell? ⟨pb, 1, none⟩ = some v := p2.cell 1
      have ff := p2.frozen 1
      have lp2 := p2.lt
      have hs7 : B1 ≤ w1.heap.size := by have := hgB.size; omega
      have own7 := own_push (f := cI1) (x := y) rfl hown'
      have own8 := own_far own7 (p := ⟨pb, 1, none⟩) (by show pb < B1; omega) (.slice (some ⟨gg, 0, none⟩) (l2.length + 1) cap)
      have hb8 := ex_set hb5 (p := ⟨pb, 1, none⟩) (by show V14.heap.size ≤ pb; omega) (.slice (some ⟨gg, 0, none⟩) (l2.length + 1) cap)
      have p28 := p2.set_ 1 (.slice (some ⟨gg, 0, none⟩) (l2.length + 1) cap)
      simp only [List.setIfInBounds_toArray, List.set_cons_zero, List.set_cons_succ] at p28
      have hz8 : B1 ≤ (w1.setCell ⟨pb, 1, none⟩ (.slice (some ⟨gg, 0, none⟩) (l2.length + 1) cap)).heap.size := by simpa using hs7
      have hra2 := hra.grownNe hgB (fun g e hn e2 => by have := HAL.out g e hn; have := hrw g e2.symm; omega)
      have hra3 := hra2.set p2 (by decide) 1 (.slice (some ⟨gg, 0, none⟩) (l2.length + 1) cap)
      have HG2 : Hid ((l2 ++ [y]).length = j + 1 ∧ ∀ k, k < j + 1 → 0 ≤ gI (l2 ++ [y]) k ∧ gI (l2 ++ [y]) k ≤ 2000) := Lib.hid ⟨by simp [HLL.out], gI_snoc' (P := fun n _ => 0 ≤ n ∧ n ≤ 2000) HLL.out HG.out.2 hyb⟩
      clear a0 a1 a2 a3 la
      clear x0 x1 x2 x3 lx
      clear t0 t1 t2 lt
      clear hs q0 hod hx ht qx qt hP hR
      clear hown' own7 hgB hgrow y4 hX3 hX_z9 hX0 hz9 qb hown hnb hnq hnf b1 g0 lbg lb hat hlt' hs7 hb5 c63 cby hbase hra hra2 k5 hl12
      go_upto_region 25 with fail
      generalize w1.setCell ⟨pb, 1, none⟩ (.slice (some ⟨gg, 0, none⟩) (l2.length + 1) cap) = Wa at *
      generalize Value.slice (some ⟨gg, 0, none⟩) (l2.length + 1) cap = va at *
      clear f9 ff lp2 p2
      have hs := Z_hs.out.go hb8
      have q0 := Z_q0.out.below hb8 Z_q0.out.lt
      have hod := (Z_hod.out.below hb8).up hb8.size
      have hx := Z_hx.out.go hb8
      have ht := Z_ht.out.go hb8
      have qx := Z_qx.out.below hb8 Z_qx.out.lt
      have qt := Z_qt.out.below hb8 Z_qt.out.lt
      have hP := Z_hP.out.go hb8
      have hR := Z_hR.out.go hb8
      have BB5 := ex_trans B_V14 hb8
      have a0 : Wa.cell? ⟨pq0, 0, none⟩ = some (.slice Ar s.rooms.length cr) := q0.cell 0
      have a1 : Wa.cell? ⟨pq0, 1, none⟩ = some (.int .i64 s.days) := q0.cell 1
      have a2 : Wa.cell? ⟨pq0, 2, none⟩ = some (.slice Am s.moves.length cm) := q0.cell 2
      have a3 : Wa.cell? ⟨pq0, 3, none⟩ = some (.slice Aw s.wgs.length cw) := q0.cell 3
      have la := q0.lt
      have x0 : Wa.cell? ⟨pqx, 0, none⟩ = some (.slice Ar s.rooms.length cr) := qx.cell 0
      have x1 : Wa.cell? ⟨pqx, 1, none⟩ = some (.int .i64 s.days) := qx.cell 1
      have x2 : Wa.cell? ⟨pqx, 2, none⟩ = some (.slice Am s.moves.length cm) := qx.cell 2
      have x3 : Wa.cell? ⟨pqx, 3, none⟩ = some (.slice A3 L.length c3) := qx.cell 3
      have lx := qx.lt
      have t0 : Wa.cell? ⟨pqx + 1, 0, none⟩ = some (.slice A4 t.fs.length c4) := qt.cell 0
      have t1 : Wa.cell? ⟨pqx + 1, 1, none⟩ = some (.slice A5 t.vs.length c5) := qt.cell 1
      have t2 : Wa.cell? ⟨pqx + 1, 2, none⟩ = some (.slice A6 t.gs.length c6) := qt.cell 2
      have lt := qt.lt
      rw [HSD.out] at a1
      rw [HAG.out] at t2
      have g0 : Wa.cell? ⟨bg, og + j, none⟩ = some (.int .i64 gv) := by
        obtain ⟨bf', of', hAf', hbf', f0'⟩ := IsInts.at_ Z_ht.out.gs hgt
        rw [HAG.out] at hAf'
        injection hAf' with e1
        injection e1 with e1 e2
        subst e1 e2
        rw [(hb8.cell (p := ⟨bg, og + j, none⟩) hbf').trans f0']
        exact congrArg (fun x => some (Value.int .i64 x)) HGV.out
      have lbg : bg < Wa.heap.size := Nat.lt_of_lt_of_le hbg hb8.size
      have k1 : IntKind.i64.wrap (f2 + gv) = f2 + gv := IntWalk.i64_in _ (by omega)
      have k2 : IntKind.i64.wrap (l9 + gv) = l9 + gv := IntWalk.i64_in _ (by omega)
      obtain ⟨bm, om, rfl, hbm, m0, m1, m2, m3, m4⟩ := IsMvs.at_ hs.moves hlt
      have hlm : (j : Int) < (s.moves.length : Int) := by omega
      clear m0 m3 m4
      obtain ⟨sr, hsr⟩ : ∃ x, (gMv s.moves j).src = x := ⟨_, rfl⟩
      obtain ⟨ds, hds⟩ : ∃ x, (gMv s.moves j).dst = x := ⟨_, rfl⟩
      have HSR := Lib.hid (And.intro hsr hds)
      rw [hsr] at m1
      rw [hds] at m2
      clear hsr hds
      have own9 : Wa.ownsRow B1 3 1 va (l2 ++ [y]).length ((l2 ++ [y]).flatMap cI1) := own8
      clear own8
      by_cases hs0 : sr < 0 <;> by_cases hd0 : ds < 0
      · have HF3 : Hid (f2 + gv = fa + srcS s t (j + 1) ∧ l9 + gv = ls + dstS s t (j + 1)) := Lib.hid ⟨by rw [srcS_succ, HSR.out.1, if_pos hs0, HGV.out]; have := HF2.out.1; omega, by rw [dstS_succ, HSR.out.2, if_pos hd0, HGV.out]; have := HF2.out.2; omega⟩
        go_wp2_with fail
        refine ⟨⟨⟨j + 1, by omega, hb8, hz8, hra3, f2 + gv, l9 + gv, HF3, va, p28, l2 ++ [y], own9, HG2, exFrame (by kernel_rfl)⟩⟩, ?_⟩
        show s.moves.length - (intOf (.int .i64 ((j : Int) + 1))).toNat < s.moves.length - (intOf (.int .i64 (j : Int))).toNat
        simp [intOf]
        omega
      · have HF3 : Hid (f2 + gv = fa + srcS s t (j + 1) ∧ l9 = ls + dstS s t (j + 1)) := Lib.hid ⟨by rw [srcS_succ, HSR.out.1, if_pos hs0, HGV.out]; have := HF2.out.1; omega, by rw [dstS_succ, HSR.out.2, if_neg hd0]; have := HF2.out.2; omega⟩
        go_wp2_with fail
        refine ⟨⟨⟨j + 1, by omega, hb8, hz8, hra3, f2 + gv, l9, HF3, va, p28, l2 ++ [y], own9, HG2, exFrame (by kernel_rfl)⟩⟩, ?_⟩
        show s.moves.length - (intOf (.int .i64 ((j : Int) + 1))).toNat < s.moves.length - (intOf (.int .i64 (j : Int))).toNat
        simp [intOf]
        omega
      · have HF3 : Hid (f2 = fa + srcS s t (j + 1) ∧ l9 + gv = ls + dstS s t (j + 1)) := Lib.hid ⟨by rw [srcS_succ, HSR.out.1, if_neg hs0]; have := HF2.out.1; omega, by rw [dstS_succ, HSR.out.2, if_pos hd0, HGV.out]; have := HF2.out.2; omega⟩
        go_wp2_with fail
        refine ⟨⟨⟨j + 1, by omega, hb8, hz8, hra3, f2, l9 + gv, HF3, va, p28, l2 ++ [y], own9, HG2, exFrame (by kernel_rfl)⟩⟩, ?_⟩
        show s.moves.length - (intOf (.int .i64 ((j : Int) + 1))).toNat < s.moves.length - (intOf (.int .i64 (j : Int))).toNat
        simp [intOf]
        omega
      · have HF3 : Hid (f2 = fa + srcS s t (j + 1) ∧ l9 = ls + dstS s t (j + 1)) := Lib.hid ⟨by rw [srcS_succ, HSR.out.1, if_neg hs0]; have := HF2.out.1; omega, by rw [dstS_succ, HSR.out.2, if_neg hd0]; have := HF2.out.2; omega⟩
        go_wp2_with fail
        refine ⟨⟨⟨j + 1, by omega, hb8, hz8, hra3, f2, l9, HF3, va, p28, l2 ++ [y], own9, HG2, exFrame (by kernel_rfl)⟩⟩, ?_⟩
        show s.moves.length - (intOf (.int .i64 ((j : Int) + 1))).toNat < s.moves.length - (intOf (.int .i64 (j : Int))).toNat
        simp [intOf]
        omega
    · obtain rfl : j = s.moves.length := by omega
      have hsame : f2 = l9 := by rw [HF2.out.1, HF2.out.2, HFL.out.1, HFL.out.2]; exact all_same HLX.out
      subst hsame
      obtain ⟨Ag, kg, rfl, hk1, hk2, hrg⟩ := lay_ints hown
      have hbf := hra.sl
      have hbg := hrg.sl
      clear hk1 hk2 hown hra hrg
      obtain ⟨b, hbe⟩ : ∃ b : Bk, b.fs = l ∧ b.gs = l2 := ⟨⟨l, l2⟩, rfl, rfl⟩
      rw [← hbe.1] at hbf qb HL
      rw [← hbe.2] at hbg qb HG
      have HBK : Hid (bookB (s.wg L) b = true) := Lib.hid (book_ok HL.out.1 HG.out.1 HL.out.2 HG.out.2)
      have hsb : b.fs.length ≤ 1000 ∧ b.gs.length ≤ 1000 := ⟨by rw [HL.out.1]; omega, by rw [HG.out.1]; omega⟩
      have HBL := Lib.hid (And.intro HL.out.1 HG.out.1)
      clear HF2 HFL HL HG hbe hVB1 HAL
      go_wp2_with fail
      refine wp_loop (fun a W => Rel (fun a W => ∃ i : Nat, i ≤ s.rooms.length ∧ Below W2.heap.size W2 W ∧ ∃ u : Nat → Value, a = ⟨List.toArray (u 0 :: u 1 :: .slice AO os.length cO :: .pointer (some ⟨pq0, 0, none⟩) :: u 4 :: u 5 :: u 6 :: .pointer (some ⟨pqx, 0, none⟩) :: .pointer (some ⟨pqx + 1, 0, none⟩) :: u 9 :: u 10 :: .slice AP s.rooms.length cp :: u 12 :: u 13 :: .slice AS s.rooms.length cS :: u 15 :: u 16 :: u 17 :: .pointer (some ⟨pb, 0, none⟩) :: u 19 :: u 20 :: u 21 :: u 22 :: u 23 :: .int .i64 (i : Int) :: u 25 :: u 26 :: u 27 :: u 28 :: u 29 :: u 30 :: u 31 :: u 32 :: u 33 :: u 34 :: u 35 :: u 36 :: u 37 :: u 38 :: u 39 :: u 40 :: u 41 :: u 42 :: u 43 :: u 44 :: u 45 :: u 46 :: u 47 :: u 48 :: u 49 :: u 50 :: u 51 :: u 52 :: u 53 :: u 54 :: u 55 :: u 56 :: u 57 :: u 58 :: u 59 :: u 60 :: u 61 :: u 62 :: u 63 :: u 64 :: u 65 :: u 66 :: u 67 :: u 68 :: u 69 :: u 70 :: u 71 :: u 72 :: u 73 :: u 74 :: u 75 :: u 76 :: u 77 :: u 78 :: u 79 :: u 80 :: u 81 :: u 82 :: u 83 :: u 84 :: u 85 :: u 86 :: u 87 :: u 88 :: u 89 :: u 90 :: u 91 :: u 92 :: u 93 :: u 94 :: u 95 :: u 96 :: u 97 :: u 98 :: u 99 :: u 100 :: u 101 :: u 102 :: u 103 :: u 104 :: u 105 :: u 106 :: u 107 :: u 108 :: u 109 :: u 110 :: u 111 :: u 112 :: u 113 :: u 114 :: u 115 :: u 116 :: u 117 :: u 118 :: u 119 :: u 120 :: u 121 :: u 122 :: u 123 :: u 124 :: u 125 :: u 126 :: u 127 :: u 128 :: u 129 :: u 130 :: u 131 :: u 132 :: u 133 :: u 134 :: u 135 :: u 136 :: u 137 :: u 138 :: u 139 :: u 140 :: u 141 :: u 142 :: u 143 :: u 144 :: u 145 :: u 146 :: u 147 :: u 148 :: u 149 :: u 150 :: u 151 :: u 152 :: u 153 :: u 154 :: u 155 :: u 156 :: u 157 :: u 158 :: u 159 :: u 160 :: u 161 :: u 162 :: u 163 :: u 164 :: u 165 :: u 166 :: u 167 :: u 168 :: u 169 :: u 170 :: u 171 :: u 172 :: u 173 :: u 174 :: u 175 :: u 176 :: u 177 :: u 178 :: u 179 :: u 180 :: u 181 :: u 182 :: u 183 :: u 184 :: u 185 :: u 186 :: u 187 :: u 188 :: u 189 :: u 190 :: u 191 :: u 192 :: u 193 :: u 194 :: u 195 :: u 196 :: u 197 :: u 198 :: u 199 :: u 200 :: u 201 :: u 202 :: u 203 :: u 204 :: u 205 :: u 206 :: u 207 :: u 208 :: u 209 :: u 210 :: u 211 :: u 212 :: u 213 :: u 214 :: u 215 :: u 216 :: u 217 :: u 218 :: u 219 :: u 220 :: u 221 :: u 222 :: u 223 :: u 224 :: u 225 :: u 226 :: u 227 :: u 228 :: u 229 :: u 230 :: u 231 :: u 232 :: u 233 :: u 234 :: u 235 :: u 236 :: u 237 :: u 238 :: u 239 :: u 240 :: u 241 :: u 242 :: u 243 :: u 244 :: u 245 :: u 246 :: u 247 :: u 248 :: u 249 :: u 250 :: u 251 :: u 252 :: u 253 :: u 254 :: u 255 :: u 256 :: u 257 :: u 258 :: u 259 :: u 260 :: u 261 :: u 262 :: u 263 :: u 264 :: u 265 :: u 266 :: u 267 :: u 268 :: u 269 :: u 270 :: u 271 :: u 272 :: u 273 :: u 274 :: u 275 :: u 276 :: u 277 :: u 278 :: u 279 :: u 280 :: u 281 :: u 282 :: u 283 :: u 284 :: u 285 :: u 286 :: u 287 :: u 288 :: u 289 :: u 290 :: u 291 :: u 292 :: u 293 :: u 294 :: u 295 :: u 296 :: u 297 :: u 298 :: u 299 :: u 300 :: u 301 :: u 302 :: u 303 :: u 304 :: u 305 :: u 306 :: u 307 :: u 308 :: u 309 :: u 310 :: u 311 :: u 312 :: u 313 :: u 314 :: u 315 :: u 316 :: u 317 :: u 318 :: u 319 :: u 320 :: u 321 :: u 322 :: u 323 :: u 324 :: u 325 :: u 326 :: u 327 :: u 328 :: u 329 :: u 330 :: u 331 :: u 332 :: []), []⟩) a W) (fun a _ => s.rooms.length - (intOf (a.tmps.getD 24 undef)).toNat) ⟨⟨0, by omega, Below.refl _ _, exFrame (by kernel_rfl)⟩⟩ ?_
      clear a0 a1 a2 a3 la
      clear x0 x1 x2 x3 lx
      clear t0 t1 t2 lt
      clear hlt hj
      rintro a W3 ⟨⟨i, hi, hb3, u3, rfl⟩⟩
      replace hs := hs.go hb3
      replace q0 := q0.below hb3 q0.lt
      replace hod := (hod.below hb3).up hb3.size
      replace hx := hx.go hb3
      replace ht := ht.go hb3
      replace qx := qx.below hb3 qx.lt
      replace qt := qt.below hb3 qt.lt
      replace hP := hP.go hb3
      replace hR := hR.go hb3
      replace hbf := (hbf.below hb3).up hb3.size
      replace hbg := (hbg.below hb3).up hb3.size
      replace qb := qb.below hb3 qb.lt
      have B_W3 := ex_trans BB4 hb3
      have a0 : W3.cell? ⟨pq0, 0, none⟩ = some (.slice Ar s.rooms.length cr) := q0.cell 0
      have a1 : W3.cell? ⟨pq0, 1, none⟩ = some (.int .i64 s.days) := q0.cell 1
      have a2 : W3.cell? ⟨pq0, 2, none⟩ = some (.slice Am s.moves.length cm) := q0.cell 2
      have a3 : W3.cell? ⟨pq0, 3, none⟩ = some (.slice Aw s.wgs.length cw) := q0.cell 3
      have la := q0.lt
      have x0 : W3.cell? ⟨pqx, 0, none⟩ = some (.slice Ar s.rooms.length cr) := qx.cell 0
      have x1 : W3.cell? ⟨pqx, 1, none⟩ = some (.int .i64 s.days) := qx.cell 1
      have x2 : W3.cell? ⟨pqx, 2, none⟩ = some (.slice Am s.moves.length cm) := qx.cell 2
      have x3 : W3.cell? ⟨pqx, 3, none⟩ = some (.slice A3 L.length c3) := qx.cell 3
      have lx := qx.lt
      have t0 : W3.cell? ⟨pqx + 1, 0, none⟩ = some (.slice A4 t.fs.length c4) := qt.cell 0
      have t1 : W3.cell? ⟨pqx + 1, 1, none⟩ = some (.slice A5 t.vs.length c5) := qt.cell 1
      have t2 : W3.cell? ⟨pqx + 1, 2, none⟩ = some (.slice A6 t.gs.length c6) := qt.cell 2
      have lt := qt.lt
      have b0 : W3.cell? ⟨pb, 0, none⟩ = some (.slice Af b.fs.length kf) := qb.cell 0
      have b1 : W3.cell? ⟨pb, 1, none⟩ = some (.slice Ag b.gs.length kg) := qb.cell 1
      have lb := qb.lt
      rw [HSD.out] at a1
      by_cases hlt : i < s.rooms.length
      · have hlt' : (i : Int) < (s.rooms.length : Int) := by omega
        obtain ⟨bT, oT, b4, o4, rfl, hbT, zT0, hb4, zh0, zh1⟩ := hR.at_ hlt (show 0 < D by omega)
        clear zh0 zh1
        go_upto_region 34 with fail
        have D34 := (Below.refl W3.heap.size W3).drew
        refine wp_region_ext_mix 7 [(false, 0), (false, 1), (false, 2), (false, 3), (false, 4), (false, 5), (false, 6)] (by kernel_rfl) (by kernel_rfl) (by intro d _ _ _ _ h; cases d <;> exact h) ?_
        repeat (refine mix_quiet rfl ?_; go_big_quiet_step (fail); refine wpQuiet_nil ?_)
        obtain ⟨Y34, hY⟩ : ∃ Y, W3.drew = Y := ⟨_, rfl⟩
        rw [hY] at D34 ⊢
        clear hY
        refine mix_nil (r := [_]) rfl ?_
        clear a0 a1 a2 a3 la
        clear x0 x1 x2 x3 lx
        clear t0 t1 t2 lt
        clear b0 b1 lb
        clear zT0 hbT hb4
        replace hs := hs.go D34
        replace q0 := q0.below D34 q0.lt
        replace hod := (hod.below D34).up D34.size
        replace hx := hx.go D34
        replace ht := ht.go D34
        replace qx := qx.below D34 qx.lt
        replace qt := qt.below D34 qt.lt
        replace hP := hP.go D34
        replace hR := hR.go D34
        replace hbf := (hbf.below D34).up D34.size
        replace hbg := (hbg.below D34).up D34.size
        replace qb := qb.below D34 qb.lt
        have B_Y34 := ex_trans B_W3 D34
        have hb34 := ex_trans hb3 D34
        have a0 : Y34.cell? ⟨pq0, 0, none⟩ = some (.slice Ar s.rooms.length cr) := q0.cell 0
        have a1 : Y34.cell? ⟨pq0, 1, none⟩ = some (.int .i64 s.days) := q0.cell 1
        have a2 : Y34.cell? ⟨pq0, 2, none⟩ = some (.slice Am s.moves.length cm) := q0.cell 2
        have a3 : Y34.cell? ⟨pq0, 3, none⟩ = some (.slice Aw s.wgs.length cw) := q0.cell 3
        have la := q0.lt
        have x0 : Y34.cell? ⟨pqx, 0, none⟩ = some (.slice Ar s.rooms.length cr) := qx.cell 0
        have x1 : Y34.cell? ⟨pqx, 1, none⟩ = some (.int .i64 s.days) := qx.cell 1
        have x2 : Y34.cell? ⟨pqx, 2, none⟩ = some (.slice Am s.moves.length cm) := qx.cell 2
        have x3 : Y34.cell? ⟨pqx, 3, none⟩ = some (.slice A3 L.length c3) := qx.cell 3
        have lx := qx.lt
        have t0 : Y34.cell? ⟨pqx + 1, 0, none⟩ = some (.slice A4 t.fs.length c4) := qt.cell 0
        have t1 : Y34.cell? ⟨pqx + 1, 1, none⟩ = some (.slice A5 t.vs.length c5) := qt.cell 1
        have t2 : Y34.cell? ⟨pqx + 1, 2, none⟩ = some (.slice A6 t.gs.length c6) := qt.cell 2
        have lt := qt.lt
        have b0 : Y34.cell? ⟨pb, 0, none⟩ = some (.slice Af b.fs.length kf) := qb.cell 0
        have b1 : Y34.cell? ⟨pb, 1, none⟩ = some (.slice Ag b.gs.length kg) := qb.cell 1
        have lb := qb.lt
        rw [HSD.out] at a1
        go_wp2_with fail
        refine wp_loop (fun a W => Rel (fun a W => ∃ d : Nat, d ≤ D ∧ Below Y34.heap.size Y34 W ∧ ∃ u : Nat → Value, a = ⟨List.toArray (u 0 :: u 1 :: .slice AO os.length cO :: .pointer (some ⟨pq0, 0, none⟩) :: u 4 :: u 5 :: u 6 :: .pointer (some ⟨pqx, 0, none⟩) :: .pointer (some ⟨pqx + 1, 0, none⟩) :: u 9 :: u 10 :: .slice AP s.rooms.length cp :: u 12 :: u 13 :: .slice (some ⟨bT, oT, none⟩) s.rooms.length cS :: u 15 :: u 16 :: u 17 :: .pointer (some ⟨pb, 0, none⟩) :: u 19 :: u 20 :: u 21 :: u 22 :: u 23 :: .int .i64 (i : Int) :: .int .i64 (d : Int) :: u 26 :: u 27 :: u 28 :: u 29 :: u 30 :: u 31 :: u 32 :: u 33 :: u 34 :: u 35 :: u 36 :: u 37 :: u 38 :: u 39 :: u 40 :: u 41 :: u 42 :: u 43 :: u 44 :: u 45 :: u 46 :: u 47 :: u 48 :: u 49 :: u 50 :: u 51 :: u 52 :: u 53 :: u 54 :: u 55 :: u 56 :: u 57 :: u 58 :: u 59 :: u 60 :: u 61 :: u 62 :: u 63 :: u 64 :: u 65 :: u 66 :: u 67 :: u 68 :: u 69 :: u 70 :: u 71 :: u 72 :: u 73 :: u 74 :: u 75 :: u 76 :: u 77 :: u 78 :: u 79 :: u 80 :: u 81 :: u 82 :: u 83 :: u 84 :: u 85 :: u 86 :: u 87 :: u 88 :: u 89 :: u 90 :: u 91 :: u 92 :: u 93 :: u 94 :: u 95 :: u 96 :: u 97 :: u 98 :: u 99 :: u 100 :: u 101 :: u 102 :: u 103 :: u 104 :: u 105 :: u 106 :: u 107 :: u 108 :: u 109 :: u 110 :: u 111 :: u 112 :: u 113 :: u 114 :: u 115 :: u 116 :: u 117 :: u 118 :: u 119 :: u 120 :: u 121 :: u 122 :: u 123 :: u 124 :: u 125 :: u 126 :: u 127 :: u 128 :: u 129 :: u 130 :: u 131 :: u 132 :: u 133 :: u 134 :: u 135 :: u 136 :: u 137 :: u 138 :: u 139 :: u 140 :: u 141 :: u 142 :: u 143 :: u 144 :: u 145 :: u 146 :: u 147 :: u 148 :: u 149 :: u 150 :: u 151 :: u 152 :: u 153 :: u 154 :: u 155 :: u 156 :: u 157 :: u 158 :: u 159 :: u 160 :: u 161 :: u 162 :: u 163 :: u 164 :: u 165 :: u 166 :: u 167 :: u 168 :: u 169 :: u 170 :: u 171 :: u 172 :: u 173 :: u 174 :: u 175 :: u 176 :: u 177 :: u 178 :: u 179 :: u 180 :: u 181 :: u 182 :: u 183 :: u 184 :: u 185 :: u 186 :: u 187 :: u 188 :: u 189 :: u 190 :: u 191 :: u 192 :: u 193 :: u 194 :: u 195 :: u 196 :: u 197 :: u 198 :: u 199 :: u 200 :: u 201 :: u 202 :: u 203 :: u 204 :: u 205 :: u 206 :: u 207 :: u 208 :: u 209 :: u 210 :: u 211 :: u 212 :: u 213 :: u 214 :: u 215 :: u 216 :: u 217 :: u 218 :: u 219 :: u 220 :: u 221 :: u 222 :: u 223 :: u 224 :: u 225 :: u 226 :: u 227 :: u 228 :: u 229 :: u 230 :: u 231 :: u 232 :: u 233 :: u 234 :: u 235 :: u 236 :: u 237 :: u 238 :: u 239 :: u 240 :: u 241 :: u 242 :: u 243 :: u 244 :: u 245 :: u 246 :: u 247 :: u 248 :: u 249 :: u 250 :: u 251 :: u 252 :: u 253 :: u 254 :: u 255 :: u 256 :: u 257 :: u 258 :: u 259 :: u 260 :: u 261 :: u 262 :: u 263 :: u 264 :: u 265 :: u 266 :: u 267 :: u 268 :: u 269 :: u 270 :: u 271 :: u 272 :: u 273 :: u 274 :: u 275 :: u 276 :: u 277 :: u 278 :: u 279 :: u 280 :: u 281 :: u 282 :: u 283 :: u 284 :: u 285 :: u 286 :: u 287 :: u 288 :: u 289 :: u 290 :: u 291 :: u 292 :: u 293 :: u 294 :: u 295 :: u 296 :: u 297 :: u 298 :: u 299 :: u 300 :: u 301 :: u 302 :: u 303 :: u 304 :: u 305 :: u 306 :: u 307 :: u 308 :: u 309 :: u 310 :: u 311 :: u 312 :: u 313 :: u 314 :: u 315 :: u 316 :: u 317 :: u 318 :: u 319 :: u 320 :: u 321 :: u 322 :: u 323 :: u 324 :: u 325 :: u 326 :: u 327 :: u 328 :: u 329 :: u 330 :: u 331 :: u 332 :: []), []⟩) a W) (fun a _ => D - (intOf (a.tmps.getD 25 undef)).toNat) ⟨⟨0, by omega, Below.refl _ _, exFrame (by kernel_rfl)⟩⟩ ?_
        clear a0 a1 a2 a3 la
        clear x0 x1 x2 x3 lx
        clear t0 t1 t2 lt
        clear b0 b1 lb
        rintro a W4 ⟨⟨d, hd, hb4, u4, rfl⟩⟩
        replace hs := hs.go hb4
        replace q0 := q0.below hb4 q0.lt
        replace hod := (hod.below hb4).up hb4.size
        replace hx := hx.go hb4
        replace ht := ht.go hb4
        replace qx := qx.below hb4 qx.lt
        replace qt := qt.below hb4 qt.lt
        replace hP := hP.go hb4
        replace hR := hR.go hb4
        replace hbf := (hbf.below hb4).up hb4.size
        replace hbg := (hbg.below hb4).up hb4.size
        replace qb := qb.below hb4 qb.lt
        have B_W4 := ex_trans B_Y34 hb4
        have a0 : W4.cell? ⟨pq0, 0, none⟩ = some (.slice Ar s.rooms.length cr) := q0.cell 0
        have a1 : W4.cell? ⟨pq0, 1, none⟩ = some (.int .i64 s.days) := q0.cell 1
        have a2 : W4.cell? ⟨pq0, 2, none⟩ = some (.slice Am s.moves.length cm) := q0.cell 2
        have a3 : W4.cell? ⟨pq0, 3, none⟩ = some (.slice Aw s.wgs.length cw) := q0.cell 3
        have la := q0.lt
        have x0 : W4.cell? ⟨pqx, 0, none⟩ = some (.slice Ar s.rooms.length cr) := qx.cell 0
        have x1 : W4.cell? ⟨pqx, 1, none⟩ = some (.int .i64 s.days) := qx.cell 1
        have x2 : W4.cell? ⟨pqx, 2, none⟩ = some (.slice Am s.moves.length cm) := qx.cell 2
        have x3 : W4.cell? ⟨pqx, 3, none⟩ = some (.slice A3 L.length c3) := qx.cell 3
        have lx := qx.lt
        have t0 : W4.cell? ⟨pqx + 1, 0, none⟩ = some (.slice A4 t.fs.length c4) := qt.cell 0
        have t1 : W4.cell? ⟨pqx + 1, 1, none⟩ = some (.slice A5 t.vs.length c5) := qt.cell 1
        have t2 : W4.cell? ⟨pqx + 1, 2, none⟩ = some (.slice A6 t.gs.length c6) := qt.cell 2
        have lt := qt.lt
        have b0 : W4.cell? ⟨pb, 0, none⟩ = some (.slice Af b.fs.length kf) := qb.cell 0
        have b1 : W4.cell? ⟨pb, 1, none⟩ = some (.slice Ag b.gs.length kg) := qb.cell 1
        have lb := qb.lt
        by_cases hld : d < D
        · have hld' : (d : Int) < (D : Int) := by omega
          have hlw : d < s.wo.days := by rw [HD.out]; exact hld
          have hlk := look_is HLX.out HBK.out hlt hlw
          have hbn := saysF_bd s.wo b (bookB_iff.1 HBK.out) HWO.out rfl i d hlt hlw
          have hbs := HBD.out.S i d hlt hlw
          have hbx := stkR_bd HWX.out HLX.out.good0 (r := i) (d := d) hlt hlw
          have hlo := hlk.lo
          have hhi := hlk.hi
          have hm := hlk.m
          rw [HS.out] at hlo hhi hbs
          obtain ⟨nn, hnn⟩ : ∃ x, saysF s.wo b i d = x := ⟨_, rfl⟩
          obtain ⟨xh, hxh⟩ : ∃ x, (stkR (s.wg L).wo off0 i d).hi = x := ⟨_, rfl⟩
          obtain ⟨xl, hxl⟩ : ∃ x, (stkR (s.wg L).wo off0 i d).lo = x := ⟨_, rfl⟩
          obtain ⟨sv, hsv⟩ : ∃ x, S i d = x := ⟨_, rfl⟩
          rw [hnn] at hbn hm
          rw [hxh, hxl] at hbx hm
          rw [hxl, hsv] at hlo
          rw [hxh, hsv] at hhi
          rw [hsv] at hbs
          have HM : Hid (misE (s.wg L) b (i : Int) (d : Int) = 0 ∧ (misR (s.wg L) b (i : Int) (d : Int)).lo = nn - xh ∧ (misR (s.wg L) b (i : Int) (d : Int)).hi = nn - xl) := Lib.hid ⟨hlk.e, by rw [hm], by rw [hm]⟩
          have HNN := Lib.hid hnn
          have HXX := Lib.hid (And.intro hxh hxl)
          have HSV9 := Lib.hid hsv
          clear hlk hm hnn hxh hxl hsv
          rw [HSD.out] at a1
          skip
          go_upto_region 39 with fail
          clear a0 a1 a2 a3 la
          clear x0 x1 x2 x3 lx
          clear t0 t1 t2 lt
          clear b0 b1 lb
          refine wp_cut (fun a W5 => Rel (fun a W5 => ∃ pm, Below W4.heap.size W4 W5 ∧ Blk W5 pm 61 #[.int .i64 (nn - xh), .int .i64 (nn - xl)] ∧ ∃ u : Nat → Value, a = ⟨List.toArray (u 0 :: u 1 :: .slice AO os.length cO :: .pointer (some ⟨pq0, 0, none⟩) :: u 4 :: u 5 :: u 6 :: .pointer (some ⟨pqx, 0, none⟩) :: .pointer (some ⟨pqx + 1, 0, none⟩) :: u 9 :: u 10 :: .slice AP s.rooms.length cp :: u 12 :: u 13 :: .slice (some ⟨bT, oT, none⟩) s.rooms.length cS :: u 15 :: u 16 :: u 17 :: .pointer (some ⟨pb, 0, none⟩) :: u 19 :: u 20 :: u 21 :: u 22 :: u 23 :: .int .i64 (i : Int) :: .int .i64 (d : Int) :: .pointer (some ⟨pm, 0, none⟩) :: .int .i64 0 :: u 28 :: u 29 :: u 30 :: u 31 :: u 32 :: u 33 :: u 34 :: u 35 :: u 36 :: u 37 :: u 38 :: u 39 :: u 40 :: u 41 :: u 42 :: u 43 :: u 44 :: u 45 :: u 46 :: u 47 :: u 48 :: u 49 :: u 50 :: u 51 :: u 52 :: u 53 :: u 54 :: u 55 :: u 56 :: u 57 :: u 58 :: u 59 :: u 60 :: u 61 :: u 62 :: u 63 :: u 64 :: u 65 :: u 66 :: u 67 :: u 68 :: u 69 :: u 70 :: u 71 :: u 72 :: u 73 :: u 74 :: u 75 :: u 76 :: u 77 :: u 78 :: u 79 :: u 80 :: u 81 :: u 82 :: u 83 :: u 84 :: u 85 :: u 86 :: u 87 :: u 88 :: u 89 :: u 90 :: u 91 :: u 92 :: u 93 :: u 94 :: u 95 :: u 96 :: u 97 :: u 98 :: u 99 :: u 100 :: u 101 :: u 102 :: u 103 :: u 104 :: u 105 :: u 106 :: u 107 :: u 108 :: u 109 :: u 110 :: u 111 :: u 112 :: u 113 :: u 114 :: u 115 :: u 116 :: u 117 :: u 118 :: u 119 :: u 120 :: u 121 :: u 122 :: u 123 :: u 124 :: u 125 :: u 126 :: u 127 :: u 128 :: u 129 :: u 130 :: u 131 :: u 132 :: u 133 :: u 134 :: u 135 :: u 136 :: u 137 :: u 138 :: u 139 :: u 140 :: u 141 :: u 142 :: u 143 :: u 144 :: u 145 :: u 146 :: u 147 :: u 148 :: u 149 :: u 150 :: u 151 :: u 152 :: u 153 :: u 154 :: u 155 :: u 156 :: u 157 :: u 158 :: u 159 :: u 160 :: u 161 :: u 162 :: u 163 :: u 164 :: u 165 :: u 166 :: u 167 :: u 168 :: u 169 :: u 170 :: u 171 :: u 172 :: u 173 :: u 174 :: u 175 :: u 176 :: u 177 :: u 178 :: u 179 :: u 180 :: u 181 :: u 182 :: u 183 :: u 184 :: u 185 :: u 186 :: u 187 :: u 188 :: u 189 :: u 190 :: u 191 :: u 192 :: u 193 :: u 194 :: u 195 :: u 196 :: u 197 :: u 198 :: u 199 :: u 200 :: u 201 :: u 202 :: u 203 :: u 204 :: u 205 :: u 206 :: u 207 :: u 208 :: u 209 :: u 210 :: u 211 :: u 212 :: u 213 :: u 214 :: u 215 :: u 216 :: u 217 :: u 218 :: u 219 :: u 220 :: u 221 :: u 222 :: u 223 :: u 224 :: u 225 :: u 226 :: u 227 :: u 228 :: u 229 :: u 230 :: u 231 :: u 232 :: u 233 :: u 234 :: u 235 :: u 236 :: u 237 :: u 238 :: u 239 :: u 240 :: u 241 :: u 242 :: u 243 :: u 244 :: u 245 :: u 246 :: u 247 :: u 248 :: u 249 :: u 250 :: u 251 :: u 252 :: u 253 :: u 254 :: u 255 :: u 256 :: u 257 :: u 258 :: u 259 :: u 260 :: u 261 :: u 262 :: u 263 :: u 264 :: u 265 :: u 266 :: u 267 :: u 268 :: u 269 :: u 270 :: u 271 :: u 272 :: u 273 :: u 274 :: u 275 :: u 276 :: u 277 :: u 278 :: u 279 :: u 280 :: u 281 :: u 282 :: u 283 :: u 284 :: u 285 :: u 286 :: u 287 :: u 288 :: u 289 :: u 290 :: u 291 :: u 292 :: u 293 :: u 294 :: u 295 :: u 296 :: u 297 :: u 298 :: u 299 :: u 300 :: u 301 :: u 302 :: u 303 :: u 304 :: u 305 :: u 306 :: u 307 :: u 308 :: u 309 :: u 310 :: u 311 :: u 312 :: u 313 :: u 314 :: u 315 :: u 316 :: u 317 :: u 318 :: u 319 :: u 320 :: u 321 :: u 322 :: u 323 :: u 324 :: u 325 :: u 326 :: u 327 :: u 328 :: u 329 :: u 330 :: u 331 :: u 332 :: []), []⟩) a W5) ?_ ?_
          rotate_left
          · intro J K' hJ hK
            have a0 : W4.cell? ⟨pq0, 0, none⟩ = some (.slice Ar s.rooms.length cr) := q0.cell 0
            have a1 : W4.cell? ⟨pq0, 1, none⟩ = some (.int .i64 s.days) := q0.cell 1
            have a2 : W4.cell? ⟨pq0, 2, none⟩ = some (.slice Am s.moves.length cm) := q0.cell 2
            have a3 : W4.cell? ⟨pq0, 3, none⟩ = some (.slice Aw s.wgs.length cw) := q0.cell 3
            have la := q0.lt
            have x0 : W4.cell? ⟨pqx, 0, none⟩ = some (.slice Ar s.rooms.length cr) := qx.cell 0
            have x1 : W4.cell? ⟨pqx, 1, none⟩ = some (.int .i64 s.days) := qx.cell 1
            have x2 : W4.cell? ⟨pqx, 2, none⟩ = some (.slice Am s.moves.length cm) := qx.cell 2
            have x3 : W4.cell? ⟨pqx, 3, none⟩ = some (.slice A3 L.length c3) := qx.cell 3
            have lx := qx.lt
            have t0 : W4.cell? ⟨pqx + 1, 0, none⟩ = some (.slice A4 t.fs.length c4) := qt.cell 0
            have t1 : W4.cell? ⟨pqx + 1, 1, none⟩ = some (.slice A5 t.vs.length c5) := qt.cell 1
            have t2 : W4.cell? ⟨pqx + 1, 2, none⟩ = some (.slice A6 t.gs.length c6) := qt.cell 2
            have lt := qt.lt
            have b0 : W4.cell? ⟨pb, 0, none⟩ = some (.slice Af b.fs.length kf) := qb.cell 0
            have b1 : W4.cell? ⟨pb, 1, none⟩ = some (.slice Ag b.gs.length kg) := qb.cell 1
            have lb := qb.lt
            go_wp2_with fail
            have D3 := (Below.refl W4.heap.size W4).drew
            refine wp_region_ext_tqF 12 (.quiet 0 (.quiet 2 (.quiet 4 (.quiet 5 (.fork 1 (.fork 3 (.fork 6 (.quiet 7 (.quiet 8 (.quiet 9 (.loud 10 (.loud 11 .done))))) 10 (.loud 6 (.quiet 7 (.quiet 8 (.quiet 9 (.loud 11 .done)))))) 10 (.loud 3 (.loud 6 (.quiet 7 (.quiet 8 (.quiet 9 (.loud 11 .done))))))) 10 (.loud 1 (.loud 3 (.loud 6 (.quiet 7 (.quiet 8 (.quiet 9 (.loud 11 .done)))))))))))) (by kernel_rfl) (by kernel_rfl) (by intro d _ _ _ _ h; cases d <;> exact h) ?_
            repeat (refine tq_quiet rfl ?_; go_big_quiet_step (fail); refine wpQuiet_nil ?_)
            obtain ⟨Y3, hY⟩ : ∃ Y, W4.drew = Y := ⟨_, rfl⟩
            rw [hY] at D3 ⊢
            clear hY
            clear a0 a1 a2 a3 la
            clear x0 x1 x2 x3 lx
            clear t0 t1 t2 lt
            clear b0 b1 lb
            replace hs := hs.go D3
            replace q0 := q0.below D3 q0.lt
            replace hod := (hod.below D3).up D3.size
            replace hx := hx.go D3
            replace ht := ht.go D3
            replace qx := qx.below D3 qx.lt
            replace qt := qt.below D3 qt.lt
            replace hP := hP.go D3
            replace hR := hR.go D3
            replace hbf := (hbf.below D3).up D3.size
            replace hbg := (hbg.below D3).up D3.size
            replace qb := qb.below D3 qb.lt
            have B_Y3 := ex_trans B_W4 D3
            refine tq_fork rfl rfl ?_ ?_
            · go_wp2_with fail
              refine (Works_any (s.wg L) Ar Am A3 cr cm c3 Y3 hx HSX.out).mono ?_
              rintro e V15 ⟨⟨⟨Ar8, Am8, Aw8, cr8, cm8, cw8, rfl, hw8⟩⟩, hV15⟩
              replace hs := hs.go hV15
              replace q0 := q0.below hV15 q0.lt
              replace hod := (hod.below hV15).up hV15.size
              replace hx := hx.go hV15
              replace ht := ht.go hV15
              replace qx := qx.below hV15 qx.lt
              replace qt := qt.below hV15 qt.lt
              replace hP := hP.go hV15
              replace hR := hR.go hV15
              replace hbf := (hbf.below hV15).up hV15.size
              replace hbg := (hbg.below hV15).up hV15.size
              replace qb := qb.below hV15 qb.lt
              have B_V15 := ex_trans B_Y3 hV15
              have X_V15 := ex_trans D3 hV15
              go_wp2_with fail
              refine ⟨inEx X_V15, ?_⟩
              repeat (refine tq_quiet rfl ?_; go_big_quiet_step (fail); refine wpQuiet_nil ?_)
              refine tq_fork rfl rfl ?_ ?_
              · go_wp2_with fail
                refine (Book_any b Af Ag kf kg V15 hsb ⟨hbf, hbg⟩).mono ?_
                rintro e V16 ⟨⟨D1, D2, d1, d2, rfl, f1, f2⟩, hV16⟩
                replace hs := hs.go hV16
                replace q0 := q0.below hV16 q0.lt
                replace hod := (hod.below hV16).up hV16.size
                replace hx := hx.go hV16
                replace ht := ht.go hV16
                replace qx := qx.below hV16 qx.lt
                replace qt := qt.below hV16 qt.lt
                replace hP := hP.go hV16
                replace hR := hR.go hV16
                replace hbf := (hbf.below hV16).up hV16.size
                replace hbg := (hbg.below hV16).up hV16.size
                replace qb := qb.below hV16 qb.lt
                replace hw8 := hw8.go hV16
                have B_V16 := ex_trans B_V15 hV16
                have X_V16 := ex_trans X_V15 hV16
                go_wp2_with fail
                refine ⟨inEx X_V16, ?_⟩
                repeat (refine tq_quiet rfl ?_; go_big_quiet_step (fail); refine wpQuiet_nil ?_)
                refine tq_fork rfl rfl ?_ ?_
                · go_wp2_with fail
                  refine (Missing_any (s.wg L) Ar8 Am8 Aw8 cr8 cm8 cw8 V16 hw8 b D1 D2 d1 d2 f1 f2 ⟨HSX.out.1, HSX.out.2.1⟩ hsb (i : Int) (d : Int)).mono ?_
                  rintro e V17 ⟨rfl, hV17⟩
                  replace hs := hs.go hV17
                  replace q0 := q0.below hV17 q0.lt
                  replace hod := (hod.below hV17).up hV17.size
                  replace hx := hx.go hV17
                  replace ht := ht.go hV17
                  replace qx := qx.below hV17 qx.lt
                  replace qt := qt.below hV17 qt.lt
                  replace hP := hP.go hV17
                  replace hR := hR.go hV17
                  replace hbf := (hbf.below hV17).up hV17.size
                  replace hbg := (hbg.below hV17).up hV17.size
                  replace qb := qb.below hV17 qb.lt
                  replace hw8 := hw8.go hV17
                  replace f1 := (f1.below hV17).up hV17.size
                  replace f2 := (f2.below hV17).up hV17.size
                  have B_V17 := ex_trans B_V16 hV17
                  have X_V17 := ex_trans X_V16 hV17
                  rw [HM.out.1, HM.out.2.1, HM.out.2.2]
                  go_wp2_with fail
                  refine ⟨inEx X_V17, ?_⟩
                  repeat (refine tq_quiet rfl ?_; go_big_quiet_step (fail); refine wpQuiet_nil ?_)
                  refine tq_loud rfl ?_
                  have NA := ex_alloc (Below.refl V17.heap.size V17) (.cells #[.int .i64 0, .int .i64 0] 61)
                  have qm : Blk (V17.alloc (.cells #[.int .i64 0, .int .i64 0] 61)) V17.heap.size 61 #[.int .i64 0, .int .i64 0] := Blk.new _ _ _
                  have hpg : W4.heap.size ≤ V17.heap.size := X_V17.size
                  go_wp2_with fail
                  replace hs := hs.go NA
                  replace q0 := q0.below NA q0.lt
                  replace hod := (hod.below NA).up NA.size
                  replace hx := hx.go NA
                  replace ht := ht.go NA
                  replace qx := qx.below NA qx.lt
                  replace qt := qt.below NA qt.lt
                  replace hP := hP.go NA
                  replace hR := hR.go NA
                  replace hbf := (hbf.below NA).up NA.size
                  replace hbg := (hbg.below NA).up NA.size
                  replace qb := qb.below NA qb.lt
                  replace hw8 := hw8.go NA
                  replace f1 := (f1.below NA).up NA.size
                  replace f2 := (f2.below NA).up NA.size
                  have B_V18 := ex_trans B_V17 NA
                  have X_V18 := ex_trans X_V17 NA
                  obtain ⟨pm, hpm⟩ : ∃ p, V17.heap.size = p := ⟨_, rfl⟩
                  rw [hpm] at qm hpg ⊢
                  clear NA hpm
                  generalize V17.alloc (.cells #[.int .i64 0, .int .i64 0] 61) = V18 at *
                  refine ⟨inEx X_V18, ?_⟩
                  repeat (refine tq_quiet rfl ?_; go_big_quiet_step (fail); refine wpQuiet_nil ?_)
                  have y0 : V18.cell? ⟨pm, 0, none⟩ = some (.int .i64 0) := qm.cell 0
                  have y1 : V18.cell? ⟨pm, 1, none⟩ = some (.int .i64 0) := qm.cell 1
                  have ly := qm.lt
                  have fy := qm.frozen0
                  have qn := (qm.set_ 0 (.int .i64 (nn - xh))).set_ 1 (.int .i64 (nn - xl))
                  simp only [List.setIfInBounds_toArray, List.set_cons_zero, List.set_cons_succ] at qn
                  have Bf := ex_set (ex_set X_V18 (p := ⟨pm, 0, none⟩) (by show W4.heap.size ≤ pm; omega) (.int .i64 (nn - xh))) (p := ⟨pm, 1, none⟩) (by show W4.heap.size ≤ pm; omega) (.int .i64 (nn - xl))
                  refine tq_loud rfl ?_
                  go_wp2_with fail
                  refine ⟨inEx Bf, ?_⟩
                  repeat (refine tq_quiet rfl ?_; go_big_quiet_step (fail); refine wpQuiet_nil ?_)
                  refine tq_done (r := [_]) rfl ?_
                  go_wp2_with fail
                  exact Met.intro (hJ _ _ ⟨⟨pm, Bf, qn, exFrame (by kernel_rfl)⟩⟩)
                · have NA := ex_alloc (Below.refl V16.heap.size V16) (.cells #[.int .i64 0, .int .i64 0] 61)
                  have qm : Blk (V16.alloc (.cells #[.int .i64 0, .int .i64 0] 61)) V16.heap.size 61 #[.int .i64 0, .int .i64 0] := Blk.new _ _ _
                  have hpg : W4.heap.size ≤ V16.heap.size := X_V16.size
                  go_wp2_with fail
                  replace hs := hs.go NA
                  replace q0 := q0.below NA q0.lt
                  replace hod := (hod.below NA).up NA.size
                  replace hx := hx.go NA
                  replace ht := ht.go NA
                  replace qx := qx.below NA qx.lt
                  replace qt := qt.below NA qt.lt
                  replace hP := hP.go NA
                  replace hR := hR.go NA
                  replace hbf := (hbf.below NA).up NA.size
                  replace hbg := (hbg.below NA).up NA.size
                  replace qb := qb.below NA qb.lt
                  replace hw8 := hw8.go NA
                  replace f1 := (f1.below NA).up NA.size
                  replace f2 := (f2.below NA).up NA.size
                  have B_V19 := ex_trans B_V16 NA
                  have X_V19 := ex_trans X_V16 NA
                  obtain ⟨pm, hpm⟩ : ∃ p, V16.heap.size = p := ⟨_, rfl⟩
                  rw [hpm] at qm hpg ⊢
                  clear NA hpm
                  generalize V16.alloc (.cells #[.int .i64 0, .int .i64 0] 61) = V19 at *
                  refine ⟨inEx X_V19, ?_⟩
                  repeat (refine tq_quiet rfl ?_; go_big_quiet_step (fail); refine wpQuiet_nil ?_)
                  refine tq_loud rfl ?_
                  go_wp2_with fail
                  refine (Missing_any (s.wg L) Ar8 Am8 Aw8 cr8 cm8 cw8 V19 hw8 b D1 D2 d1 d2 f1 f2 ⟨HSX.out.1, HSX.out.2.1⟩ hsb (i : Int) (d : Int)).mono ?_
                  rintro e V20 ⟨rfl, hV20⟩
                  replace hs := hs.go hV20
                  replace q0 := q0.below hV20 q0.lt
                  replace hod := (hod.below hV20).up hV20.size
                  replace hx := hx.go hV20
                  replace ht := ht.go hV20
                  replace qx := qx.below hV20 qx.lt
                  replace qt := qt.below hV20 qt.lt
                  replace hP := hP.go hV20
                  replace hR := hR.go hV20
                  replace hbf := (hbf.below hV20).up hV20.size
                  replace hbg := (hbg.below hV20).up hV20.size
                  replace qb := qb.below hV20 qb.lt
                  replace hw8 := hw8.go hV20
                  replace f1 := (f1.below hV20).up hV20.size
                  replace f2 := (f2.below hV20).up hV20.size
                  replace qm := qm.below hV20 qm.lt
                  have B_V20 := ex_trans B_V19 hV20
                  have X_V20 := ex_trans X_V19 hV20
                  rw [HM.out.1, HM.out.2.1, HM.out.2.2]
                  go_wp2_with fail
                  refine ⟨inEx X_V20, ?_⟩
                  repeat (refine tq_quiet rfl ?_; go_big_quiet_step (fail); refine wpQuiet_nil ?_)
                  have y0 : V20.cell? ⟨pm, 0, none⟩ = some (.int .i64 0) := qm.cell 0
                  have y1 : V20.cell? ⟨pm, 1, none⟩ = some (.int .i64 0) := qm.cell 1
                  have ly := qm.lt
                  have fy := qm.frozen0
                  have qn := (qm.set_ 0 (.int .i64 (nn - xh))).set_ 1 (.int .i64 (nn - xl))
                  simp only [List.setIfInBounds_toArray, List.set_cons_zero, List.set_cons_succ] at qn
                  have Bf := ex_set (ex_set X_V20 (p := ⟨pm, 0, none⟩) (by show W4.heap.size ≤ pm; omega) (.int .i64 (nn - xh))) (p := ⟨pm, 1, none⟩) (by show W4.heap.size ≤ pm; omega) (.int .i64 (nn - xl))
                  refine tq_loud rfl ?_
                  go_wp2_with fail
                  refine ⟨inEx Bf, ?_⟩
                  repeat (refine tq_quiet rfl ?_; go_big_quiet_step (fail); refine wpQuiet_nil ?_)
                  refine tq_done (r := [_]) rfl ?_
                  go_wp2_with fail
                  exact Met.intro (hJ _ _ ⟨⟨pm, Bf, qn, exFrame (by kernel_rfl)⟩⟩)
              · have NA := ex_alloc (Below.refl V15.heap.size V15) (.cells #[.int .i64 0, .int .i64 0] 61)
                have qm : Blk (V15.alloc (.cells #[.int .i64 0, .int .i64 0] 61)) V15.heap.size 61 #[.int .i64 0, .int .i64 0] := Blk.new _ _ _
                have hpg : W4.heap.size ≤ V15.heap.size := X_V15.size
                go_wp2_with fail
                replace hs := hs.go NA
                replace q0 := q0.below NA q0.lt
                replace hod := (hod.below NA).up NA.size
                replace hx := hx.go NA
                replace ht := ht.go NA
                replace qx := qx.below NA qx.lt
                replace qt := qt.below NA qt.lt
                replace hP := hP.go NA
                replace hR := hR.go NA
                replace hbf := (hbf.below NA).up NA.size
                replace hbg := (hbg.below NA).up NA.size
                replace qb := qb.below NA qb.lt
                replace hw8 := hw8.go NA
                have B_V21 := ex_trans B_V15 NA
                have X_V21 := ex_trans X_V15 NA
                obtain ⟨pm, hpm⟩ : ∃ p, V15.heap.size = p := ⟨_, rfl⟩
                rw [hpm] at qm hpg ⊢
                clear NA hpm
                generalize V15.alloc (.cells #[.int .i64 0, .int .i64 0] 61) = V21 at *
                refine ⟨inEx X_V21, ?_⟩
                repeat (refine tq_quiet rfl ?_; go_big_quiet_step (fail); refine wpQuiet_nil ?_)
                refine tq_loud rfl ?_
                go_wp2_with fail
                refine (Book_any b Af Ag kf kg V21 hsb ⟨hbf, hbg⟩).mono ?_
                rintro e V22 ⟨⟨D1, D2, d1, d2, rfl, f1, f2⟩, hV22⟩
                replace hs := hs.go hV22
                replace q0 := q0.below hV22 q0.lt
                replace hod := (hod.below hV22).up hV22.size
                replace hx := hx.go hV22
                replace ht := ht.go hV22
                replace qx := qx.below hV22 qx.lt
                replace qt := qt.below hV22 qt.lt
                replace hP := hP.go hV22
                replace hR := hR.go hV22
                replace hbf := (hbf.below hV22).up hV22.size
                replace hbg := (hbg.below hV22).up hV22.size
                replace qb := qb.below hV22 qb.lt
                replace hw8 := hw8.go hV22
                replace qm := qm.below hV22 qm.lt
                have B_V22 := ex_trans B_V21 hV22
                have X_V22 := ex_trans X_V21 hV22
                go_wp2_with fail
                refine ⟨inEx X_V22, ?_⟩
                repeat (refine tq_quiet rfl ?_; go_big_quiet_step (fail); refine wpQuiet_nil ?_)
                refine tq_loud rfl ?_
                go_wp2_with fail
                refine (Missing_any (s.wg L) Ar8 Am8 Aw8 cr8 cm8 cw8 V22 hw8 b D1 D2 d1 d2 f1 f2 ⟨HSX.out.1, HSX.out.2.1⟩ hsb (i : Int) (d : Int)).mono ?_
                rintro e V23 ⟨rfl, hV23⟩
                replace hs := hs.go hV23
                replace q0 := q0.below hV23 q0.lt
                replace hod := (hod.below hV23).up hV23.size
                replace hx := hx.go hV23
                replace ht := ht.go hV23
                replace qx := qx.below hV23 qx.lt
                replace qt := qt.below hV23 qt.lt
                replace hP := hP.go hV23
                replace hR := hR.go hV23
                replace hbf := (hbf.below hV23).up hV23.size
                replace hbg := (hbg.below hV23).up hV23.size
                replace qb := qb.below hV23 qb.lt
                replace hw8 := hw8.go hV23
                replace qm := qm.below hV23 qm.lt
                replace f1 := (f1.below hV23).up hV23.size
                replace f2 := (f2.below hV23).up hV23.size
                have B_V23 := ex_trans B_V22 hV23
                have X_V23 := ex_trans X_V22 hV23
                rw [HM.out.1, HM.out.2.1, HM.out.2.2]
                go_wp2_with fail
                refine ⟨inEx X_V23, ?_⟩
                repeat (refine tq_quiet rfl ?_; go_big_quiet_step (fail); refine wpQuiet_nil ?_)
                have y0 : V23.cell? ⟨pm, 0, none⟩ = some (.int .i64 0) := qm.cell 0
                have y1 : V23.cell? ⟨pm, 1, none⟩ = some (.int .i64 0) := qm.cell 1
                have ly := qm.lt
                have fy := qm.frozen0
                have qn := (qm.set_ 0 (.int .i64 (nn - xh))).set_ 1 (.int .i64 (nn - xl))
                simp only [List.setIfInBounds_toArray, List.set_cons_zero, List.set_cons_succ] at qn
                have Bf := ex_set (ex_set X_V23 (p := ⟨pm, 0, none⟩) (by show W4.heap.size ≤ pm; omega) (.int .i64 (nn - xh))) (p := ⟨pm, 1, none⟩) (by show W4.heap.size ≤ pm; omega) (.int .i64 (nn - xl))
                refine tq_loud rfl ?_
                go_wp2_with fail
                refine ⟨inEx Bf, ?_⟩
                repeat (refine tq_quiet rfl ?_; go_big_quiet_step (fail); refine wpQuiet_nil ?_)
                refine tq_done (r := [_]) rfl ?_
                go_wp2_with fail
                exact Met.intro (hJ _ _ ⟨⟨pm, Bf, qn, exFrame (by kernel_rfl)⟩⟩)
            · have NA := ex_alloc (Below.refl Y3.heap.size Y3) (.cells #[.int .i64 0, .int .i64 0] 61)
              have qm : Blk (Y3.alloc (.cells #[.int .i64 0, .int .i64 0] 61)) Y3.heap.size 61 #[.int .i64 0, .int .i64 0] := Blk.new _ _ _
              have hpg : W4.heap.size ≤ Y3.heap.size := D3.size
              go_wp2_with fail
              replace hs := hs.go NA
              replace q0 := q0.below NA q0.lt
              replace hod := (hod.below NA).up NA.size
              replace hx := hx.go NA
              replace ht := ht.go NA
              replace qx := qx.below NA qx.lt
              replace qt := qt.below NA qt.lt
              replace hP := hP.go NA
              replace hR := hR.go NA
              replace hbf := (hbf.below NA).up NA.size
              replace hbg := (hbg.below NA).up NA.size
              replace qb := qb.below NA qb.lt
              have B_V24 := ex_trans B_Y3 NA
              have X_V24 := ex_trans D3 NA
              obtain ⟨pm, hpm⟩ : ∃ p, Y3.heap.size = p := ⟨_, rfl⟩
              rw [hpm] at qm hpg ⊢
              clear NA hpm
              generalize Y3.alloc (.cells #[.int .i64 0, .int .i64 0] 61) = V24 at *
              refine ⟨inEx X_V24, ?_⟩
              repeat (refine tq_quiet rfl ?_; go_big_quiet_step (fail); refine wpQuiet_nil ?_)
              refine tq_loud rfl ?_
              go_wp2_with fail
              refine (Works_any (s.wg L) Ar Am A3 cr cm c3 V24 hx HSX.out).mono ?_
              rintro e V25 ⟨⟨⟨Ar8, Am8, Aw8, cr8, cm8, cw8, rfl, hw8⟩⟩, hV25⟩
              replace hs := hs.go hV25
              replace q0 := q0.below hV25 q0.lt
              replace hod := (hod.below hV25).up hV25.size
              replace hx := hx.go hV25
              replace ht := ht.go hV25
              replace qx := qx.below hV25 qx.lt
              replace qt := qt.below hV25 qt.lt
              replace hP := hP.go hV25
              replace hR := hR.go hV25
              replace hbf := (hbf.below hV25).up hV25.size
              replace hbg := (hbg.below hV25).up hV25.size
              replace qb := qb.below hV25 qb.lt
              replace qm := qm.below hV25 qm.lt
              have B_V25 := ex_trans B_V24 hV25
              have X_V25 := ex_trans X_V24 hV25
              go_wp2_with fail
              refine ⟨inEx X_V25, ?_⟩
              repeat (refine tq_quiet rfl ?_; go_big_quiet_step (fail); refine wpQuiet_nil ?_)
              refine tq_loud rfl ?_
              go_wp2_with fail
              refine (Book_any b Af Ag kf kg V25 hsb ⟨hbf, hbg⟩).mono ?_
              rintro e V26 ⟨⟨D1, D2, d1, d2, rfl, f1, f2⟩, hV26⟩
              replace hs := hs.go hV26
              replace q0 := q0.below hV26 q0.lt
              replace hod := (hod.below hV26).up hV26.size
              replace hx := hx.go hV26
              replace ht := ht.go hV26
              replace qx := qx.below hV26 qx.lt
              replace qt := qt.below hV26 qt.lt
              replace hP := hP.go hV26
              replace hR := hR.go hV26
              replace hbf := (hbf.below hV26).up hV26.size
              replace hbg := (hbg.below hV26).up hV26.size
              replace qb := qb.below hV26 qb.lt
              replace qm := qm.below hV26 qm.lt
              replace hw8 := hw8.go hV26
              have B_V26 := ex_trans B_V25 hV26
              have X_V26 := ex_trans X_V25 hV26
              go_wp2_with fail
              refine ⟨inEx X_V26, ?_⟩
              repeat (refine tq_quiet rfl ?_; go_big_quiet_step (fail); refine wpQuiet_nil ?_)
              refine tq_loud rfl ?_
              go_wp2_with fail
              refine (Missing_any (s.wg L) Ar8 Am8 Aw8 cr8 cm8 cw8 V26 hw8 b D1 D2 d1 d2 f1 f2 ⟨HSX.out.1, HSX.out.2.1⟩ hsb (i : Int) (d : Int)).mono ?_
              rintro e V27 ⟨rfl, hV27⟩
              replace hs := hs.go hV27
              replace q0 := q0.below hV27 q0.lt
              replace hod := (hod.below hV27).up hV27.size
              replace hx := hx.go hV27
              replace ht := ht.go hV27
              replace qx := qx.below hV27 qx.lt
              replace qt := qt.below hV27 qt.lt
              replace hP := hP.go hV27
              replace hR := hR.go hV27
              replace hbf := (hbf.below hV27).up hV27.size
              replace hbg := (hbg.below hV27).up hV27.size
              replace qb := qb.below hV27 qb.lt
              replace qm := qm.below hV27 qm.lt
              replace hw8 := hw8.go hV27
              replace f1 := (f1.below hV27).up hV27.size
              replace f2 := (f2.below hV27).up hV27.size
              have B_V27 := ex_trans B_V26 hV27
              have X_V27 := ex_trans X_V26 hV27
              rw [HM.out.1, HM.out.2.1, HM.out.2.2]
              go_wp2_with fail
              refine ⟨inEx X_V27, ?_⟩
              repeat (refine tq_quiet rfl ?_; go_big_quiet_step (fail); refine wpQuiet_nil ?_)
              have y0 : V27.cell? ⟨pm, 0, none⟩ = some (.int .i64 0) := qm.cell 0
              have y1 : V27.cell? ⟨pm, 1, none⟩ = some (.int .i64 0) := qm.cell 1
              have ly := qm.lt
              have fy := qm.frozen0
              have qn := (qm.set_ 0 (.int .i64 (nn - xh))).set_ 1 (.int .i64 (nn - xl))
              simp only [List.setIfInBounds_toArray, List.set_cons_zero, List.set_cons_succ] at qn
              have Bf := ex_set (ex_set X_V27 (p := ⟨pm, 0, none⟩) (by show W4.heap.size ≤ pm; omega) (.int .i64 (nn - xh))) (p := ⟨pm, 1, none⟩) (by show W4.heap.size ≤ pm; omega) (.int .i64 (nn - xl))
              refine tq_loud rfl ?_
              go_wp2_with fail
              refine ⟨inEx Bf, ?_⟩
              repeat (refine tq_quiet rfl ?_; go_big_quiet_step (fail); refine wpQuiet_nil ?_)
              refine tq_done (r := [_]) rfl ?_
              go_wp2_with fail
              exact Met.intro (hJ _ _ ⟨⟨pm, Bf, qn, exFrame (by kernel_rfl)⟩⟩)
          · rintro a W5 ⟨⟨pm, hb5, qm, u5, rfl⟩⟩
            replace hs := hs.go hb5
            replace q0 := q0.below hb5 q0.lt
            replace hod := (hod.below hb5).up hb5.size
            replace hx := hx.go hb5
            replace ht := ht.go hb5
            replace qx := qx.below hb5 qx.lt
            replace qt := qt.below hb5 qt.lt
            replace hP := hP.go hb5
            replace hR := hR.go hb5
            replace hbf := (hbf.below hb5).up hb5.size
            replace hbg := (hbg.below hb5).up hb5.size
            replace qb := qb.below hb5 qb.lt
            have B_W5 := ex_trans B_W4 hb5
            have a0 : W5.cell? ⟨pq0, 0, none⟩ = some (.slice Ar s.rooms.length cr) := q0.cell 0
            have a1 : W5.cell? ⟨pq0, 1, none⟩ = some (.int .i64 s.days) := q0.cell 1
            have a2 : W5.cell? ⟨pq0, 2, none⟩ = some (.slice Am s.moves.length cm) := q0.cell 2
            have a3 : W5.cell? ⟨pq0, 3, none⟩ = some (.slice Aw s.wgs.length cw) := q0.cell 3
            have la := q0.lt
            have x0 : W5.cell? ⟨pqx, 0, none⟩ = some (.slice Ar s.rooms.length cr) := qx.cell 0
            have x1 : W5.cell? ⟨pqx, 1, none⟩ = some (.int .i64 s.days) := qx.cell 1
            have x2 : W5.cell? ⟨pqx, 2, none⟩ = some (.slice Am s.moves.length cm) := qx.cell 2
            have x3 : W5.cell? ⟨pqx, 3, none⟩ = some (.slice A3 L.length c3) := qx.cell 3
            have lx := qx.lt
            have t0 : W5.cell? ⟨pqx + 1, 0, none⟩ = some (.slice A4 t.fs.length c4) := qt.cell 0
            have t1 : W5.cell? ⟨pqx + 1, 1, none⟩ = some (.slice A5 t.vs.length c5) := qt.cell 1
            have t2 : W5.cell? ⟨pqx + 1, 2, none⟩ = some (.slice A6 t.gs.length c6) := qt.cell 2
            have lt := qt.lt
            have b0 : W5.cell? ⟨pb, 0, none⟩ = some (.slice Af b.fs.length kf) := qb.cell 0
            have b1 : W5.cell? ⟨pb, 1, none⟩ = some (.slice Ag b.gs.length kg) := qb.cell 1
            have lb := qb.lt
            obtain ⟨bS, oS, b2, o2, rfl, hbS, s0, hb2, g0⟩ := hP.at_ hlt hld
            rw [HSV9.out] at g0
            have kn : IntKind.i64.wrap (nn - sv) = nn - sv := IntWalk.i64_in _ (by omega)
            go_upto_region 40 with fail
            have D40 := (Below.refl W5.heap.size W5).drew
            refine wp_region_ext_mix 13 [(false, 0), (false, 1), (false, 2), (false, 3), (false, 5), (false, 6), (false, 7), (false, 8), (false, 9), (false, 10), (false, 11), (true, 4), (false, 12)] (by kernel_rfl) (by kernel_rfl) (by intro d _ _ _ _ h; cases d <;> exact h) ?_
            repeat (refine mix_quiet rfl ?_; go_big_quiet_step (fail); refine wpQuiet_nil ?_)
            refine mix_loud rfl ?_
            go_wp2_with fail
            refine (Says_ref s Ar Am Aw cr cm cw W5.drew (hs.go D40) HWO.out b Af Ag kf kg ((hbf.below D40).up D40.size) ((hbg.below D40).up D40.size) (bookB_iff.1 HBK.out) i d hlt hlw).mono ?_
            rintro e W6 ⟨rfl, h40⟩
            rw [HNN.out]
            have X40 := ex_trans D40 h40
            go_wp2_with fail
            refine ⟨inEx X40, ?_⟩
            repeat (refine mix_quiet rfl ?_; go_big_quiet_step (fail); refine wpQuiet_nil ?_)
            refine mix_nil (r := [_]) rfl ?_
            clear a0 a1 a2 a3 la
            clear x0 x1 x2 x3 lx
            clear t0 t1 t2 lt
            clear b0 b1 lb
            clear s0 g0 hbS hb2
            replace hs := hs.go X40
            replace q0 := q0.below X40 q0.lt
            replace hod := (hod.below X40).up X40.size
            replace hx := hx.go X40
            replace ht := ht.go X40
            replace qx := qx.below X40 qx.lt
            replace qt := qt.below X40 qt.lt
            replace hP := hP.go X40
            replace hR := hR.go X40
            replace hbf := (hbf.below X40).up X40.size
            replace hbg := (hbg.below X40).up X40.size
            replace qb := qb.below X40 qb.lt
            replace qm := qm.below X40 qm.lt
            have B_W6 := ex_trans B_W5 X40
            obtain ⟨bS', oS', b2, o2, eS, hbS, s0, hb2, g0⟩ := hP.at_ hlt hld
            injection eS with eS
            injection eS with e1 e2
            subst e1 e2
            rw [HSV9.out] at g0
            obtain ⟨bT', oT', b6, o6, eT, hbT, zT0, hb6, zh0, zh1⟩ := hR.at_ hlt hld
            injection eT with eT
            injection eT with e1 e2
            subst e1 e2
            rw [HXX.out.1] at zh1
            rw [HXX.out.2] at zh0
            have y0 : W6.cell? ⟨pm, 0, none⟩ = some (.int .i64 (nn - xh)) := qm.cell 0
            have y1 : W6.cell? ⟨pm, 1, none⟩ = some (.int .i64 (nn - xl)) := qm.cell 1
            have ly := qm.lt
            have n1 : ¬ sv < xl := by omega
            have n2 : ¬ xh < sv := by omega
            have n3 : ¬ nn - sv < nn - xh := by omega
            have n4 : ¬ nn - xl < nn - sv := by omega
            have q1 : IntKind.i64.wrap (nn - xl - (nn - xh)) = xh - xl := by rw [IntWalk.i64_in _ (by omega)]; omega
            have q2 : IntKind.i64.wrap (xh - xl) = xh - xl := IntWalk.i64_in _ (by omega)
            clear hbn hbs hbx hlo hhi kn
            have a0 : W6.cell? ⟨pq0, 0, none⟩ = some (.slice Ar s.rooms.length cr) := q0.cell 0
            have a1 : W6.cell? ⟨pq0, 1, none⟩ = some (.int .i64 s.days) := q0.cell 1
            have a2 : W6.cell? ⟨pq0, 2, none⟩ = some (.slice Am s.moves.length cm) := q0.cell 2
            have a3 : W6.cell? ⟨pq0, 3, none⟩ = some (.slice Aw s.wgs.length cw) := q0.cell 3
            have la := q0.lt
            have x0 : W6.cell? ⟨pqx, 0, none⟩ = some (.slice Ar s.rooms.length cr) := qx.cell 0
            have x1 : W6.cell? ⟨pqx, 1, none⟩ = some (.int .i64 s.days) := qx.cell 1
            have x2 : W6.cell? ⟨pqx, 2, none⟩ = some (.slice Am s.moves.length cm) := qx.cell 2
            have x3 : W6.cell? ⟨pqx, 3, none⟩ = some (.slice A3 L.length c3) := qx.cell 3
            have lx := qx.lt
            have t0 : W6.cell? ⟨pqx + 1, 0, none⟩ = some (.slice A4 t.fs.length c4) := qt.cell 0
            have t1 : W6.cell? ⟨pqx + 1, 1, none⟩ = some (.slice A5 t.vs.length c5) := qt.cell 1
            have t2 : W6.cell? ⟨pqx + 1, 2, none⟩ = some (.slice A6 t.gs.length c6) := qt.cell 2
            have lt := qt.lt
            have b0 : W6.cell? ⟨pb, 0, none⟩ = some (.slice Af b.fs.length kf) := qb.cell 0
            have b1 : W6.cell? ⟨pb, 1, none⟩ = some (.slice Ag b.gs.length kg) := qb.cell 1
            have lb := qb.lt
            have hb6' := ex_trans (ex_trans hb4 hb5) X40
            go_upto_region 41 with fail
            simp only [List.append_eq, List.cons_append, List.nil_append]
            have D41 := (Below.refl W6.heap.size W6).drew
            refine wp_region_ext_tqF 74 (.quiet 0 (.quiet 1 (.quiet 2 (.quiet 3 (.quiet 4 (.quiet 5 (.quiet 6 (.quiet 7 (.quiet 8 (.quiet 9 (.quiet 10 (.quiet 11 (.quiet 12 (.quiet 13 (.quiet 14 (.quiet 15 (.quiet 16 (.quiet 17 (.quiet 18 (.quiet 19 (.quiet 20 (.quiet 21 (.quiet 22 (.quiet 23 (.quiet 24 (.quiet 25 (.quiet 26 (.quiet 27 (.quiet 28 (.quiet 29 (.quiet 30 (.quiet 31 (.quiet 32 (.quiet 33 (.quiet 34 (.quiet 35 (.quiet 36 (.quiet 37 (.quiet 38 (.quiet 39 (.quiet 40 (.quiet 41 (.quiet 42 (.quiet 43 (.quiet 44 (.quiet 45 (.quiet 46 (.quiet 47 (.quiet 48 (.quiet 49 (.quiet 50 (.quiet 51 (.quiet 52 (.quiet 53 (.quiet 54 (.quiet 55 (.quiet 56 (.quiet 57 (.quiet 58 (.quiet 59 (.quiet 60 (.quiet 61 (.quiet 62 (.quiet 63 (.quiet 64 (.quiet 65 (.quiet 66 (.quiet 67 (.quiet 68 (.quiet 69 (.quiet 70 (.quiet 71 (.quiet 72 (.quiet 73 .done)))))))))))))))))))))))))))))))))))))))))))))))))))))))))))))))))))))))))) (by kernel_rfl) (by kernel_rfl) (by intro d _ _ _ _ h; cases d <;> exact h) ?_
            repeat (refine tq_quiet rfl ?_; go_big_quiet_step (fail); refine wpQuiet_nil ?_)
            refine tq_done (r := [_]) rfl ?_
            have hb7 := ex_trans hb6' D41
            go_wp2_with fail
            refine ⟨⟨⟨d + 1, by omega, hb7, exFrame (by kernel_rfl)⟩⟩, ?_⟩
            show D - (intOf (.int .i64 ((d : Int) + 1))).toNat < D - (intOf (.int .i64 (d : Int))).toNat
            simp [intOf]
            omega
        · obtain rfl : d = D := by omega
          have hb5 := ex_trans hb34 hb4
          rw [HSD.out] at a1
          go_wp2_with fail
          refine ⟨⟨⟨i + 1, by omega, hb5, exFrame (by kernel_rfl)⟩⟩, ?_⟩
          show s.rooms.length - (intOf (.int .i64 ((i : Int) + 1))).toNat < s.rooms.length - (intOf (.int .i64 (i : Int))).toNat
          simp [intOf]
          omega
      · obtain rfl : i = s.rooms.length := by omega
        go_wp2_with fail
        refine (awake_any W3).mono ?_
        rintro e Wz ⟨rfl, hz⟩
        go_wp2
        go_ret
        exact ⟨rfl, ex_trans B_W3 hz⟩
end Go.Proofs.YthihdiilokdidaaGreat
end

/- Spill's laws: SpillEnds (walk). · The row SpillEnds: with one weighing more that says just an end of a stock's range, the weighings agree; of one beyond it they do not. -/
import Derived.WalkKit
import Derived.ProofKit
import Derived.OpenShut
import Derived.Test.YthihdiilokdidaaQ13
import Derived.Test.YthihdiilokdidaaRows
import Derived.Test.YthihdiilokdidaaQ12
set_option linter.unusedVariables false
set_option linter.unusedSimpArgs false
set_option linter.unusedSectionVars false
section
namespace Go.Proofs.Ythihdiilokdidaa
open Go.RowKit
attribute [local go_sem] Ex.cell? Ex.frozen?

theorem cWg_at (l : List Wg) (k : Nat) (hk : k < l.length) (j : Nat) (hj : j < 4) : (cWg l[k])[j]? = some (fWg l k j) := by
  have hg := gWg_at hk
  match j, hj with
  | 0, _ => simp [cWg, fWg, hg]
  | 1, _ => simp [cWg, fWg, hg]
  | 2, _ => simp [cWg, fWg, hg]
  | 3, _ => simp [cWg, fWg, hg]
theorem cWg_one (a : Wg) (u : Value) (hu : u ∈ cWg a) : u.oneCell' = true := by
  simp only [cWg, List.mem_cons, List.not_mem_nil, or_false] at hu
  rcases hu with rfl | rfl | rfl | rfl <;> rfl
set_option maxRecDepth 100000 in
set_option maxHeartbeats 6400000 in
theorem EndsLaw_any (s : Ws) (Ar Am Aw : Option Addr) (cr cm cw : Nat) (w : World) (hs : WsIn w w.heap.size s Ar Am Aw) (AW : Option Addr) (cW : Nat) (ws : List Int) (hwd : SlAt w w.heap.size 1 AW ws.length (fU ws)) (hwb : ∀ k, k < ws.length → 0 ≤ gI ws k ∧ gI ws k ≤ 65535) (hwl : ws.length ≤ maxLen) (m2 m3 : Int) (h2 : 0 ≤ m2 ∧ m2 ≤ 255) (h3 : 0 ≤ m3 ∧ m3 ≤ 255) :
    Calls Try.prog 5 #[.agg #[.slice Ar s.rooms.length cr, .int .i64 s.days, .slice Am s.moves.length cm, .slice Aw s.wgs.length cw], .slice AW ws.length cW, .int .u8 m2, .int .u8 m3] w fun e w' => e = .returned (.bool true) ∧ Below w.heap.size w w' := by
  obtain ⟨i2, hi2, hz0, hz1, hz2⟩ := info_parts wgR_info
  have HI := Lib.hid hi2
  clear hi2
  have hb1 := ex_alloc (Below.refl w.heap.size w) (.cells #[.slice Ar s.rooms.length cr, .int .i64 s.days, .slice Am s.moves.length cm, .slice Aw s.wgs.length cw] 26)
  have q0 : Blk (w.alloc (.cells #[.slice Ar s.rooms.length cr, .int .i64 s.days, .slice Am s.moves.length cm, .slice Aw s.wgs.length cw] 26)) (w.heap.size) 26 #[.slice Ar s.rooms.length cr, .int .i64 s.days, .slice Am s.moves.length cm, .slice Aw s.wgs.length cw] := Blk.new _ _ _
  replace hs := hs.go hb1
  replace hwd := (hwd.below hb1).up hb1.size
  have HWB := Lib.hid hwb
  clear hwb
  go_enter Try.func5, Try.ntmps5
  go_upto_region 1 with fail
  show Code.wp _ _ _ _ (w.alloc (.cells #[.slice Ar s.rooms.length cr, .int .i64 s.days, .slice Am s.moves.length cm, .slice Aw s.wgs.length cw] 26))
  obtain ⟨pq0, hpq0⟩ : ∃ p, w.heap.size = p := ⟨_, rfl⟩
  rw [hpq0] at q0 ⊢
  clear hpq0
  generalize w.alloc (.cells #[.slice Ar s.rooms.length cr, .int .i64 s.days, .slice Am s.moves.length cm, .slice Aw s.wgs.length cw] 26) = V at *
  have a0 : V.cell? ⟨pq0, 0, none⟩ = some (.slice Ar s.rooms.length cr) := q0.cell 0
  have a1 : V.cell? ⟨pq0, 1, none⟩ = some (.int .i64 s.days) := q0.cell 1
  have a2 : V.cell? ⟨pq0, 2, none⟩ = some (.slice Am s.moves.length cm) := q0.cell 2
  have a3 : V.cell? ⟨pq0, 3, none⟩ = some (.slice Aw s.wgs.length cw) := q0.cell 3
  have la := q0.lt
  go_wp2_with fail
  refine (lives_any s Ar Am Aw cr cm cw V hs AW cW ws hwd HWB.out hwl 0 (by omega)).mono ?_
  rintro e V1 ⟨⟨hlv⟩, hV1⟩
  replace hs := hs.go hV1
  replace hwd := (hwd.below hV1).up hV1.size
  replace q0 := q0.below hV1 q0.lt
  have B_V1 := ex_trans hb1 hV1
  rcases hlv with ⟨A1, A2, A3, A4, A5, A6, A7, c1, c2, c3, c4, c5, c6, c7, n1, n2, n3, n4, n5, n6, n7, d, rfl⟩ | ⟨t, L, A3, A4, A5, A6, A7, c3, c4, c5, c6, c7, rV, rcV, rA, rc, rfl, hlx, hx, ht, hM⟩
  · clear a0 a1 a2 a3 la
    have a0 : V1.cell? ⟨pq0, 0, none⟩ = some (.slice Ar s.rooms.length cr) := q0.cell 0
    have a1 : V1.cell? ⟨pq0, 1, none⟩ = some (.int .i64 s.days) := q0.cell 1
    have a2 : V1.cell? ⟨pq0, 2, none⟩ = some (.slice Am s.moves.length cm) := q0.cell 2
    have a3 : V1.cell? ⟨pq0, 3, none⟩ = some (.slice Aw s.wgs.length cw) := q0.cell 3
    have la := q0.lt
    go_wp2_with fail
    refine (awake_any _).mono ?_
    rintro e Wz ⟨rfl, hz⟩
    go_wp2
    go_ret
    exact ⟨rfl, ex_trans (ex_alloc (ex_alloc B_V1 _) _) hz⟩
  have HLX := Lib.hid hlx
  clear hlx
  replace hx : WsIn V1 V1.heap.size (s.wg L) Ar Am A3 := ⟨hs.rooms, hs.moves, hx⟩
  clear a0 a1 a2 a3 la
  have a0 : V1.cell? ⟨pq0, 0, none⟩ = some (.slice Ar s.rooms.length cr) := q0.cell 0
  have a1 : V1.cell? ⟨pq0, 1, none⟩ = some (.int .i64 s.days) := q0.cell 1
  have a2 : V1.cell? ⟨pq0, 2, none⟩ = some (.slice Am s.moves.length cm) := q0.cell 2
  have a3 : V1.cell? ⟨pq0, 3, none⟩ = some (.slice Aw s.wgs.length cw) := q0.cell 3
  have la := q0.lt
  have N2 := ex_alloc (ex_alloc (Below.refl V1.heap.size V1) (.cells #[.slice Ar s.rooms.length cr, .int .i64 s.days, .slice Am s.moves.length cm, .slice A3 L.length c3] 26)) (.cells #[.slice A4 t.fs.length c4, .slice A5 t.vs.length c5, .slice A6 t.gs.length c6] 31)
  have qx : Blk ((V1.alloc (.cells #[.slice Ar s.rooms.length cr, .int .i64 s.days, .slice Am s.moves.length cm, .slice A3 L.length c3] 26)).alloc (.cells #[.slice A4 t.fs.length c4, .slice A5 t.vs.length c5, .slice A6 t.gs.length c6] 31)) V1.heap.size 26 #[.slice Ar s.rooms.length cr, .int .i64 s.days, .slice Am s.moves.length cm, .slice A3 L.length c3] := (Blk.new _ _ _).alloc _
  have qt : Blk ((V1.alloc (.cells #[.slice Ar s.rooms.length cr, .int .i64 s.days, .slice Am s.moves.length cm, .slice A3 L.length c3] 26)).alloc (.cells #[.slice A4 t.fs.length c4, .slice A5 t.vs.length c5, .slice A6 t.gs.length c6] 31)) (V1.heap.size + 1) 31 #[.slice A4 t.fs.length c4, .slice A5 t.vs.length c5, .slice A6 t.gs.length c6] := Blk.new' _ _ _ (by simp)
  go_upto_region 2 with fail
  clear a0 a1 a2 a3 la
  replace hs := hs.go N2
  replace hwd := (hwd.below N2).up N2.size
  replace q0 := q0.below N2 q0.lt
  replace hx := hx.go N2
  replace ht := ht.go N2
  replace hM := hM.go N2
  have B_V2 := ex_trans B_V1 N2
  obtain ⟨pqx, hpqx⟩ : ∃ p, V1.heap.size = p := ⟨_, rfl⟩
  rw [hpqx] at qx qt ⊢
  clear N2
  generalize (V1.alloc (.cells #[.slice Ar s.rooms.length cr, .int .i64 s.days, .slice Am s.moves.length cm, .slice A3 L.length c3] 26)).alloc (.cells #[.slice A4 t.fs.length c4, .slice A5 t.vs.length c5, .slice A6 t.gs.length c6] 31) = V2 at *
  clear hpqx
  have HSX : Hid ((s.wg L).rooms.length ≤ 1000 ∧ (s.wg L).moves.length ≤ 1000 ∧ (s.wg L).wgs.length ≤ 1000) := Lib.hid HLX.out.sm
  have HWO := Lib.hid HLX.out.wo.1
  have HDD := Lib.hid HLX.out.wo.2
  have HWX := Lib.hid HLX.out.wox.1
  have HDX := Lib.hid HLX.out.wox.2
  have hr3 : 1 ≤ s.rooms.length ∧ s.rooms.length ≤ 3 := HWO.out.len.elim (fun a b => ⟨a, b.1⟩)
  have hm12 : s.moves.length ≤ 12 := HWO.out.len.2.2.1
  have hl8 : L.length ≤ 8 := HWX.out.len.2.2.2
  have hwl8 : s.wgs.length ≤ 8 := HWO.out.len.2.2.2
  have a0 : V2.cell? ⟨pq0, 0, none⟩ = some (.slice Ar s.rooms.length cr) := q0.cell 0
  have a1 : V2.cell? ⟨pq0, 1, none⟩ = some (.int .i64 s.days) := q0.cell 1
  have a2 : V2.cell? ⟨pq0, 2, none⟩ = some (.slice Am s.moves.length cm) := q0.cell 2
  have a3 : V2.cell? ⟨pq0, 3, none⟩ = some (.slice Aw s.wgs.length cw) := q0.cell 3
  have la := q0.lt
  have x0 : V2.cell? ⟨pqx, 0, none⟩ = some (.slice Ar s.rooms.length cr) := qx.cell 0
  have x1 : V2.cell? ⟨pqx, 1, none⟩ = some (.int .i64 s.days) := qx.cell 1
  have x2 : V2.cell? ⟨pqx, 2, none⟩ = some (.slice Am s.moves.length cm) := qx.cell 2
  have x3 : V2.cell? ⟨pqx, 3, none⟩ = some (.slice A3 L.length c3) := qx.cell 3
  have lx := qx.lt
  have t0 : V2.cell? ⟨pqx + 1, 0, none⟩ = some (.slice A4 t.fs.length c4) := qt.cell 0
  have t1 : V2.cell? ⟨pqx + 1, 1, none⟩ = some (.slice A5 t.vs.length c5) := qt.cell 1
  have t2 : V2.cell? ⟨pqx + 1, 2, none⟩ = some (.slice A6 t.gs.length c6) := qt.cell 2
  have lt := qt.lt
  by_cases hw7 : 7 < s.wgs.length
  · have hw7' : (7 : Int) < (s.wgs.length : Int) := by omega
    go_wp2_with fail
    refine (awake_any V2).mono ?_
    rintro e Wz ⟨rfl, hz⟩
    go_wp2
    go_ret
    exact ⟨rfl, ex_trans B_V2 hz⟩
  have hw7' : ¬ (7 : Int) < (s.wgs.length : Int) := by omega
  go_wp2_with fail
  refine (Works_any (s.wg L) Ar Am A3 cr cm c3 V2 hx HSX.out).mono ?_
  rintro e V4 ⟨⟨⟨Ar1, Am1, Aw1, cr1, cm1, cw1, rfl, hw1⟩⟩, hV4⟩
  replace hs := hs.go hV4
  replace hwd := (hwd.below hV4).up hV4.size
  replace q0 := q0.below hV4 q0.lt
  replace hx := hx.go hV4
  replace ht := ht.go hV4
  replace hM := hM.go hV4
  replace qx := qx.below hV4 qx.lt
  replace qt := qt.below hV4 qt.lt
  have B_V4 := ex_trans B_V2 hV4
  clear a0 a1 a2 a3 la
  have a0 : V4.cell? ⟨pq0, 0, none⟩ = some (.slice Ar s.rooms.length cr) := q0.cell 0
  have a1 : V4.cell? ⟨pq0, 1, none⟩ = some (.int .i64 s.days) := q0.cell 1
  have a2 : V4.cell? ⟨pq0, 2, none⟩ = some (.slice Am s.moves.length cm) := q0.cell 2
  have a3 : V4.cell? ⟨pq0, 3, none⟩ = some (.slice Aw s.wgs.length cw) := q0.cell 3
  have la := q0.lt
  clear x0 x1 x2 x3 lx
  have x0 : V4.cell? ⟨pqx, 0, none⟩ = some (.slice Ar s.rooms.length cr) := qx.cell 0
  have x1 : V4.cell? ⟨pqx, 1, none⟩ = some (.int .i64 s.days) := qx.cell 1
  have x2 : V4.cell? ⟨pqx, 2, none⟩ = some (.slice Am s.moves.length cm) := qx.cell 2
  have x3 : V4.cell? ⟨pqx, 3, none⟩ = some (.slice A3 L.length c3) := qx.cell 3
  have lx := qx.lt
  clear t0 t1 t2 lt
  have t0 : V4.cell? ⟨pqx + 1, 0, none⟩ = some (.slice A4 t.fs.length c4) := qt.cell 0
  have t1 : V4.cell? ⟨pqx + 1, 1, none⟩ = some (.slice A5 t.vs.length c5) := qt.cell 1
  have t2 : V4.cell? ⟨pqx + 1, 2, none⟩ = some (.slice A6 t.gs.length c6) := qt.cell 2
  have lt := qt.lt
  go_wp2_with fail
  refine (Stocks_any (s.wg L) Ar1 Am1 Aw1 cr1 cm1 cw1 V4 hw1).mono ?_
  rintro e V5 ⟨⟨nS, AS, cS, rS, rcS, rfl, hsv⟩, hV5⟩
  replace hs := hs.go hV5
  replace hwd := (hwd.below hV5).up hV5.size
  replace q0 := q0.below hV5 q0.lt
  replace hx := hx.go hV5
  replace ht := ht.go hV5
  replace hM := hM.go hV5
  replace qx := qx.below hV5 qx.lt
  replace qt := qt.below hV5 qt.lt
  replace hw1 := hw1.go hV5
  have B_V5 := ex_trans B_V4 hV5
  clear hw1
  obtain ⟨rfl, hR⟩ := hsv.yes HLX.out.stE0
  clear hsv
  rw [HLX.out.stE0]
  obtain ⟨D, hD⟩ : ∃ D, s.wo.days = D := ⟨_, rfl⟩
  have hD6 : 1 ≤ D ∧ D ≤ 6 := by have := HWO.out.days; omega
  have HD := Lib.hid hD
  have HSD : Hid (s.days = (D : Int)) := Lib.hid (by rw [HDD.out, hD])
  rw [show (s.wg L).wo.days = D from hD] at hR
  rw [show (s.wg L).rooms.length = s.rooms.length from rfl] at hR
  clear hD
  obtain ⟨R, hRR⟩ : ∃ R, stkR (s.wg L).wo off0 = R := ⟨_, rfl⟩
  rw [hRR] at hR
  have HR := Lib.hid hRR
  clear hRR
  clear a0 a1 a2 a3 la
  have a0 : V5.cell? ⟨pq0, 0, none⟩ = some (.slice Ar s.rooms.length cr) := q0.cell 0
  have a1 : V5.cell? ⟨pq0, 1, none⟩ = some (.int .i64 s.days) := q0.cell 1
  have a2 : V5.cell? ⟨pq0, 2, none⟩ = some (.slice Am s.moves.length cm) := q0.cell 2
  have a3 : V5.cell? ⟨pq0, 3, none⟩ = some (.slice Aw s.wgs.length cw) := q0.cell 3
  have la := q0.lt
  clear x0 x1 x2 x3 lx
  have x0 : V5.cell? ⟨pqx, 0, none⟩ = some (.slice Ar s.rooms.length cr) := qx.cell 0
  have x1 : V5.cell? ⟨pqx, 1, none⟩ = some (.int .i64 s.days) := qx.cell 1
  have x2 : V5.cell? ⟨pqx, 2, none⟩ = some (.slice Am s.moves.length cm) := qx.cell 2
  have x3 : V5.cell? ⟨pqx, 3, none⟩ = some (.slice A3 L.length c3) := qx.cell 3
  have lx := qx.lt
  clear t0 t1 t2 lt
  have t0 : V5.cell? ⟨pqx + 1, 0, none⟩ = some (.slice A4 t.fs.length c4) := qt.cell 0
  have t1 : V5.cell? ⟨pqx + 1, 1, none⟩ = some (.slice A5 t.vs.length c5) := qt.cell 1
  have t2 : V5.cell? ⟨pqx + 1, 2, none⟩ = some (.slice A6 t.gs.length c6) := qt.cell 2
  have lt := qt.lt
  rw [HSD.out] at a1
  have i_0 : 0 ≤ (m2 : Int) % (s.rooms.length : Int) := Int.emod_nonneg _ (by omega)
  have i_1 : (m2 : Int) % (s.rooms.length : Int) < (s.rooms.length : Int) := Int.emod_lt_of_pos _ (by omega)
  obtain ⟨i, eq_i⟩ : ∃ x : Nat, (m2 : Int) % (s.rooms.length : Int) = (x : Int) := ⟨((m2 : Int) % (s.rooms.length : Int)).toNat, by omega⟩
  rw [eq_i] at i_0 i_1
  have li : i < s.rooms.length := by omega
  clear i_0
  have d_0 : 0 ≤ (m3 : Int) % (D : Int) := Int.emod_nonneg _ (by omega)
  have d_1 : (m3 : Int) % (D : Int) < (D : Int) := Int.emod_lt_of_pos _ (by omega)
  obtain ⟨d, eq_d⟩ : ∃ x : Nat, (m3 : Int) % (D : Int) = (x : Int) := ⟨((m3 : Int) % (D : Int)).toNat, by omega⟩
  rw [eq_d] at d_0 d_1
  have ld : d < D := by omega
  clear d_0
  have hn0 : ¬ (s.rooms.length : Int) = 0 := by omega
  have hn1 : ¬ (D : Int) = 0 := by omega
  have hn0' : ((s.rooms.length : Int) == 0) = false := by rw [beq_eq_false_iff_ne]; exact hn0
  have hn1' : ((D : Int) == 0) = false := by rw [beq_eq_false_iff_ne]; exact hn1
  go_upto_region 7 with fail
  have D7 := (Below.refl V5.heap.size V5).drew
  refine wp_region_ext_mix 12 [(false, 0), (false, 1), (false, 2), (false, 3), (false, 4), (false, 5), (false, 6), (false, 7), (false, 8), (false, 9), (false, 10), (false, 11)] (by kernel_rfl) (by kernel_rfl) (by intro d _ _ _ _ h; cases d <;> exact h) ?_
  repeat (refine mix_quiet rfl ?_; go_big_quiet_step (fail); refine wpQuiet_nil ?_)
  obtain ⟨Y7, hY⟩ : ∃ Y, V5.drew = Y := ⟨_, rfl⟩
  rw [hY] at D7 ⊢
  clear hY
  replace hs := hs.go D7
  replace hwd := (hwd.below D7).up D7.size
  replace q0 := q0.below D7 q0.lt
  replace hx := hx.go D7
  replace ht := ht.go D7
  replace hM := hM.go D7
  replace qx := qx.below D7 qx.lt
  replace qt := qt.below D7 qt.lt
  replace hR := hR.go D7
  have B_Y7 := ex_trans B_V5 D7
  clear a0 a1 a2 a3 la
  have a0 : Y7.cell? ⟨pq0, 0, none⟩ = some (.slice Ar s.rooms.length cr) := q0.cell 0
  have a1 : Y7.cell? ⟨pq0, 1, none⟩ = some (.int .i64 s.days) := q0.cell 1
  have a2 : Y7.cell? ⟨pq0, 2, none⟩ = some (.slice Am s.moves.length cm) := q0.cell 2
  have a3 : Y7.cell? ⟨pq0, 3, none⟩ = some (.slice Aw s.wgs.length cw) := q0.cell 3
  have la := q0.lt
  clear x0 x1 x2 x3 lx
  have x0 : Y7.cell? ⟨pqx, 0, none⟩ = some (.slice Ar s.rooms.length cr) := qx.cell 0
  have x1 : Y7.cell? ⟨pqx, 1, none⟩ = some (.int .i64 s.days) := qx.cell 1
  have x2 : Y7.cell? ⟨pqx, 2, none⟩ = some (.slice Am s.moves.length cm) := qx.cell 2
  have x3 : Y7.cell? ⟨pqx, 3, none⟩ = some (.slice A3 L.length c3) := qx.cell 3
  have lx := qx.lt
  clear t0 t1 t2 lt
  have t0 : Y7.cell? ⟨pqx + 1, 0, none⟩ = some (.slice A4 t.fs.length c4) := qt.cell 0
  have t1 : Y7.cell? ⟨pqx + 1, 1, none⟩ = some (.slice A5 t.vs.length c5) := qt.cell 1
  have t2 : Y7.cell? ⟨pqx + 1, 2, none⟩ = some (.slice A6 t.gs.length c6) := qt.cell 2
  have lt := qt.lt
  rw [HSD.out] at a1
  refine mix_nil (r := [_]) rfl ?_
  rw [eq_i, eq_d]
  clear eq_i eq_d
  have li' : (i : Int) < (s.rooms.length : Int) := by omega
  have ld' : (d : Int) < (D : Int) := by omega
  have hbd0 := stkR_bd HWX.out HLX.out.good0 (r := i) (d := d) li (by show d < s.wo.days; rw [HD.out]; exact ld)
  have hEE := good_ends HWX.out HLX.out.good0 (r := i) (d := d) li (by show d < s.wo.days; rw [HD.out]; exact ld)
  rw [HR.out] at hbd0 hEE
  obtain ⟨bS, oS, b2, o2, rfl, hbS, s0, hb2, g0, g1⟩ := hR.at_ li ld
  obtain ⟨lo, hlo⟩ : ∃ lo, (R i d).lo = lo := ⟨_, rfl⟩
  obtain ⟨hi, hhi⟩ : ∃ hi, (R i d).hi = hi := ⟨_, rfl⟩
  rw [hlo] at g0 hbd0 hEE
  rw [hhi] at g1 hbd0 hEE
  have HEE := Lib.hid hEE
  clear hlo hhi hEE
  obtain ⟨rck, hrck⟩ : ∃ x, rcS i = x := ⟨_, rfl⟩
  rw [hrck] at s0
  clear hrck
  clear hR
  go_upto_region 8 with fail
  have D8 := (Below.refl Y7.heap.size Y7).drew
  refine wp_region_ext_mix 7 [(false, 0), (false, 1), (false, 2), (false, 3), (false, 4), (false, 5), (false, 6)] (by kernel_rfl) (by kernel_rfl) (by intro d _ _ _ _ h; cases d <;> exact h) ?_
  repeat (refine mix_quiet rfl ?_; go_big_quiet_step (fail); refine wpQuiet_nil ?_)
  obtain ⟨Y8, hY⟩ : ∃ Y, Y7.drew = Y := ⟨_, rfl⟩
  rw [hY] at D8 ⊢
  clear hY
  replace s0 := (D8.cell (p := ⟨bS, oS + i, none⟩) hbS).trans s0
  replace g0 := (D8.cell (p := ⟨b2, o2 + d * 2, none⟩) hb2).trans g0
  replace g1 := (D8.cell (p := ⟨b2, o2 + d * 2 + 1, none⟩) hb2).trans g1
  replace hbS := Nat.lt_of_lt_of_le hbS D8.size
  replace hb2 := Nat.lt_of_lt_of_le hb2 D8.size
  replace hs := hs.go D8
  replace hwd := (hwd.below D8).up D8.size
  replace q0 := q0.below D8 q0.lt
  replace hx := hx.go D8
  replace ht := ht.go D8
  replace hM := hM.go D8
  replace qx := qx.below D8 qx.lt
  replace qt := qt.below D8 qt.lt
  have B_Y8 := ex_trans B_Y7 D8
  refine mix_nil (r := [_]) rfl ?_
  clear a0 a1 a2 a3 la
  clear x0 x1 x2 x3 lx
  clear t0 t1 t2 lt
  go_wp2_with fail
  refine wp_loop (fun a W => Rel (fun a W => ∃ k : Nat, k ≤ 4 ∧ Below Y8.heap.size Y8 W ∧ ∃ u : Nat → Value, a = ⟨List.toArray (u 0 :: u 1 :: u 2 :: u 3 :: u 4 :: u 5 :: u 6 :: u 7 :: u 8 :: .pointer (some ⟨pqx, 0, none⟩) :: u 10 :: u 11 :: u 12 :: .slice (some ⟨bS, oS, none⟩) s.rooms.length cS :: u 14 :: .int .i64 (i : Int) :: .int .i64 (d : Int) :: .int .i64 (k : Int) :: u 18 :: u 19 :: u 20 :: u 21 :: u 22 :: u 23 :: u 24 :: u 25 :: u 26 :: u 27 :: u 28 :: u 29 :: u 30 :: u 31 :: u 32 :: u 33 :: u 34 :: u 35 :: u 36 :: u 37 :: u 38 :: u 39 :: u 40 :: u 41 :: u 42 :: u 43 :: u 44 :: u 45 :: u 46 :: u 47 :: u 48 :: u 49 :: u 50 :: u 51 :: u 52 :: u 53 :: u 54 :: u 55 :: u 56 :: u 57 :: u 58 :: u 59 :: u 60 :: u 61 :: u 62 :: u 63 :: u 64 :: u 65 :: u 66 :: u 67 :: u 68 :: u 69 :: u 70 :: u 71 :: u 72 :: u 73 :: u 74 :: u 75 :: u 76 :: u 77 :: u 78 :: u 79 :: u 80 :: u 81 :: u 82 :: u 83 :: u 84 :: u 85 :: u 86 :: u 87 :: u 88 :: u 89 :: u 90 :: u 91 :: u 92 :: u 93 :: u 94 :: u 95 :: u 96 :: u 97 :: u 98 :: u 99 :: u 100 :: u 101 :: u 102 :: u 103 :: u 104 :: u 105 :: u 106 :: u 107 :: u 108 :: u 109 :: u 110 :: u 111 :: u 112 :: u 113 :: u 114 :: u 115 :: u 116 :: u 117 :: u 118 :: u 119 :: u 120 :: u 121 :: u 122 :: u 123 :: u 124 :: u 125 :: u 126 :: u 127 :: u 128 :: u 129 :: u 130 :: u 131 :: u 132 :: u 133 :: u 134 :: u 135 :: u 136 :: u 137 :: u 138 :: u 139 :: u 140 :: u 141 :: u 142 :: u 143 :: u 144 :: u 145 :: u 146 :: u 147 :: u 148 :: u 149 :: u 150 :: u 151 :: u 152 :: u 153 :: []), []⟩) a W) (fun a _ => 4 - (intOf (a.tmps.getD 17 undef)).toNat) ⟨⟨0, by omega, Below.refl _ _, exFrame (by kernel_rfl)⟩⟩ ?_
  rintro a W ⟨⟨k, hk, hbw, u, rfl⟩⟩
  replace s0 := (hbw.cell (p := ⟨bS, oS + i, none⟩) hbS).trans s0
  replace g0 := (hbw.cell (p := ⟨b2, o2 + d * 2, none⟩) hb2).trans g0
  replace g1 := (hbw.cell (p := ⟨b2, o2 + d * 2 + 1, none⟩) hb2).trans g1
  replace hbS := Nat.lt_of_lt_of_le hbS hbw.size
  replace hb2 := Nat.lt_of_lt_of_le hb2 hbw.size
  replace hs := hs.go hbw
  replace hwd := (hwd.below hbw).up hbw.size
  replace q0 := q0.below hbw q0.lt
  replace hx := hx.go hbw
  replace ht := ht.go hbw
  replace hM := hM.go hbw
  replace qx := qx.below hbw qx.lt
  replace qt := qt.below hbw qt.lt
  have B_W := ex_trans B_Y8 hbw
  by_cases hlt : k < 4
  · have hlt' : (k : Int) < 4 := by omega
    have hev := endV_bd (a := 0) (b := 1000000) (lo := lo) (hi := hi) ⟨by omega, by omega, by omega, by omega⟩ hlt
    have HIT := Lib.hid (ends_hit HEE.out hlt)
    have k1 : IntKind.i64.wrap (lo - 1) = lo - 1 := IntWalk.i64_in _ (by omega)
    have k2 : IntKind.i64.wrap (hi + 1) = hi + 1 := IntWalk.i64_in _ (by omega)
    go_upto_region 13 with fail
    have D9 := (Below.refl W.heap.size W).drew
    refine wp_region_ext_mix 38 [(false, 0), (false, 1), (false, 2), (false, 3), (false, 4), (false, 5), (false, 6), (false, 7), (false, 8), (false, 9), (false, 10), (false, 11), (false, 12), (false, 13), (false, 14), (false, 15), (false, 16), (false, 17), (false, 18), (false, 19), (false, 20), (false, 21), (false, 22), (false, 23), (false, 24), (false, 25), (false, 26), (false, 27), (false, 28), (false, 29), (false, 30), (false, 31), (false, 32), (false, 33), (false, 35), (true, 34), (true, 36), (true, 37)] (by kernel_rfl) (by kernel_rfl) (by intro d _ _ _ _ h; cases d <;> exact h) ?_
    repeat (refine mix_quiet rfl ?_; go_big_quiet_step (fail); refine wpQuiet_nil ?_)
    obtain ⟨Y9, hY⟩ : ∃ Y, W.drew = Y := ⟨_, rfl⟩
    rw [hY] at D9 ⊢
    clear hY
    replace s0 := (D9.cell (p := ⟨bS, oS + i, none⟩) hbS).trans s0
    replace g0 := (D9.cell (p := ⟨b2, o2 + d * 2, none⟩) hb2).trans g0
    replace g1 := (D9.cell (p := ⟨b2, o2 + d * 2 + 1, none⟩) hb2).trans g1
    replace hbS := Nat.lt_of_lt_of_le hbS D9.size
    replace hb2 := Nat.lt_of_lt_of_le hb2 D9.size
    replace hs := hs.go D9
    replace hwd := (hwd.below D9).up D9.size
    replace q0 := q0.below D9 q0.lt
    replace hx := hx.go D9
    replace ht := ht.go D9
    replace hM := hM.go D9
    replace qx := qx.below D9 qx.lt
    replace qt := qt.below D9 qt.lt
    have B_Y9 := ex_trans B_W D9
    have X_Y9 := ex_trans hbw D9
    refine mix_loud rfl ?_
    go_wp2_with fail
    have NZ := ex_alloc (Below.refl Y9.heap.size Y9) (.cells #[.int .i64 lo, .int .i64 hi, .int .i64 (lo - 1), .int .i64 (hi + 1)] 3)
    have XZ := ex_trans D9 NZ
    have qz : Blk (Y9.alloc (.cells #[.int .i64 lo, .int .i64 hi, .int .i64 (lo - 1), .int .i64 (hi + 1)] 3)) Y9.heap.size 3 #[.int .i64 lo, .int .i64 hi, .int .i64 (lo - 1), .int .i64 (hi + 1)] := Blk.new _ _ _
    refine ⟨inEx XZ, ?_⟩
    have hz4 := (qz.cell k).trans (endV_cell hlt)
    have lz := qz.lt
    replace s0 := (NZ.cell (p := ⟨bS, oS + i, none⟩) hbS).trans s0
    replace g0 := (NZ.cell (p := ⟨b2, o2 + d * 2, none⟩) hb2).trans g0
    replace g1 := (NZ.cell (p := ⟨b2, o2 + d * 2 + 1, none⟩) hb2).trans g1
    replace hbS := Nat.lt_of_lt_of_le hbS NZ.size
    replace hb2 := Nat.lt_of_lt_of_le hb2 NZ.size
    replace hs := hs.go NZ
    replace hwd := (hwd.below NZ).up NZ.size
    replace q0 := q0.below NZ q0.lt
    replace hx := hx.go NZ
    replace ht := ht.go NZ
    replace hM := hM.go NZ
    replace qx := qx.below NZ qx.lt
    replace qt := qt.below NZ qt.lt
    have B_Y10 := ex_trans B_Y9 NZ
    have X_Y10 := ex_trans X_Y9 NZ
    obtain ⟨pz, hpz⟩ : ∃ pz, Y9.heap.size = pz := ⟨_, rfl⟩
    rw [hpz] at hz4 lz ⊢
    clear qz hpz NZ
    generalize Y9.alloc (.cells #[.int .i64 lo, .int .i64 hi, .int .i64 (lo - 1), .int .i64 (hi + 1)] 3) = Y10 at *
    repeat (refine mix_quiet rfl ?_; go_big_quiet_step (fail); refine wpQuiet_nil ?_)
    refine mix_loud rfl ?_
    go_wp2_with fail
    refine ⟨inEx XZ, ?_⟩
    repeat (refine mix_quiet rfl ?_; go_big_quiet_step (fail); refine wpQuiet_nil ?_)
    refine mix_loud rfl ?_
    go_wp2_with fail
    refine ⟨inEx XZ, ?_⟩
    repeat (refine mix_quiet rfl ?_; go_big_quiet_step (fail); refine wpQuiet_nil ?_)
    refine mix_nil (r := [_]) rfl ?_
    obtain ⟨n, hn⟩ : ∃ n, endV lo hi k = n := ⟨_, rfl⟩
    rw [hn] at hev hz4 HIT ⊢
    clear hn
    have x0 : Y10.cell? ⟨pqx, 0, none⟩ = some (.slice Ar s.rooms.length cr) := qx.cell 0
    have x1 : Y10.cell? ⟨pqx, 1, none⟩ = some (.int .i64 s.days) := qx.cell 1
    have x2 : Y10.cell? ⟨pqx, 2, none⟩ = some (.slice Am s.moves.length cm) := qx.cell 2
    have x3 : Y10.cell? ⟨pqx, 3, none⟩ = some (.slice A3 L.length c3) := qx.cell 3
    have lx := qx.lt
    have hpw : w.heap.size ≤ Y10.heap.size := B_Y10.size
    have NY := ex_alloc (Below.refl Y10.heap.size Y10) (.cells #[.slice Ar s.rooms.length cr, .int .i64 s.days, .slice Am s.moves.length cm, .slice A3 L.length c3] 26)
    have qy : Blk (Y10.alloc (.cells #[.slice Ar s.rooms.length cr, .int .i64 s.days, .slice Am s.moves.length cm, .slice A3 L.length c3] 26)) Y10.heap.size 26 #[.slice Ar s.rooms.length cr, .int .i64 s.days, .slice Am s.moves.length cm, .slice A3 L.length c3] := Blk.new _ _ _
    go_upto_region 15 with fail
    clear hz4 lz
    clear x0 x1 x2 x3 lx
    obtain ⟨py, hpy⟩ : ∃ pz, Y10.heap.size = pz := ⟨_, rfl⟩
    rw [hpy] at qy ⊢
    have hpy0 : Y10.heap.size ≤ py := by omega
    clear hpy
    generalize Y10.alloc (.cells #[.slice Ar s.rooms.length cr, .int .i64 s.days, .slice Am s.moves.length cm, .slice A3 L.length c3] 26) = Y11 at *
    have hxw := (hx.wgs.below NY).up NY.size
    have qx11 := qx.below NY qx.lt
    have x3 : Y11.cell? ⟨pqx, 3, none⟩ = some (.slice A3 L.length c3) := qx11.cell 3
    have lx := qx11.lt
    have NE := ex_alloc (Below.refl Y11.heap.size Y11) (.cells #[] 72)
    have qe : Blk (Y11.alloc (.cells #[] 72)) Y11.heap.size 72 #[] := Blk.new _ _ _
    have hLE := ((hxw.below NE).up NE.size)
    go_wp2_with (refine pause_at 120 rfl ?_)
    refine Paused.mk ?_
    refine wpList_append_list (α := Wg) (f := cWg) (F := fWg) (sz := 4) (fun _ => rfl) cWg_at cWg_one rfl _ _ _ rfl Y11.heap.size 72 i2 _ 32 Try.underlying24 HI.out hz0 hz1 hz2 rfl (by omega) (some ⟨Y11.heap.size, 0, none⟩) 0 [] rfl (own_empty qe (Nat.le_refl _)) A3 c3 L rfl hLE (by simp; unfold maxLen; omega) (by simp; omega) NE.size (Y11.heap.size + 1) (by simp) ?_
    intro L1 B1' k1' v1 HL1 o1 g1 n1
    obtain rfl : L = L1 := HL1.out.symm
    clear HL1 hLE
    have E1 : Below Y11.heap.size Y11 v1 := NE.grown g1 NE.size (fun j hj => by have : Y11.heap.size = j := (by simpa [Value.ownBlock] using hj); omega)
    have E2 := ex_alloc E1 (.cells #[.int .i64 (i : Int), .int .i64 (d : Int), .int .i64 n, .int .i64 n] 72)
    have y4 := own_below o1 (ex_alloc (Below.refl v1.heap.size v1) (.cells #[.int .i64 (i : Int), .int .i64 (d : Int), .int .i64 n, .int .i64 n] 72))
    have c63 : L.length + 1 ≤ maxLen := by unfold maxLen; omega
    have cby : (L.length + 1) * 32 ≤ 140737488355328 := by omega
    have hbase : Y11.heap.size ≤ (v1.alloc (.cells #[.int .i64 (i : Int), .int .i64 (d : Int), .int .i64 n, .int .i64 n] 72)).heap.size := E2.size
    go_wp2_with (refine pause_at 128 rfl ?_)
    refine Paused.mk ?_
    refine wpList_append_lies _ rfl _ _ _ rfl Y11.heap.size 72 i2 _ 4 32 Try.underlying24 HI.out hz0 hz1 hz2 rfl (by omega) (.slice B1' L.length k1') _ _ rfl y4 ⟨v1.heap.size, 0, none⟩ 1 1 [.int .i64 (i : Int), .int .i64 (d : Int), .int .i64 n, .int .i64 n] rfl rfl (World.news_of_block (heap_alloc_new v1 _)) (by simp [Value.oneCell']) (by omega) c63 cby hbase (v1.heap.size + 1) (by simp) ?_
    intro gg cap w2 hown' hgrow hat hlt2
    have E3 := E2.grown hgrow E2.size (fun b hb => by have := own_ge y4 hb; omega)
    have qy2 := qy.below E3 qy.lt
    have ly2 := qy2.lt
    have fy2 := qy2.frozen0
    have y3 : w2.cell? ⟨py, 3, none⟩ = some (.slice A3 L.length c3) := qy2.cell 3
    have own7 := own_push (f := cWg) (x := (⟨(i : Int), (d : Int), ⟨n, n⟩⟩ : Wg)) rfl hown'
    have hlen : L.length + 1 = (L ++ [(⟨(i : Int), (d : Int), ⟨n, n⟩⟩ : Wg)]).length := by simp
    rw [hlen]
    obtain ⟨L2, hL2⟩ : ∃ L2, L ++ [(⟨(i : Int), (d : Int), ⟨n, n⟩⟩ : Wg)] = L2 := ⟨_, rfl⟩
    rw [hlen, hL2] at own7
    rw [hL2]
    have HL2 := Lib.hid hL2
    have hl9 : L2.length ≤ 9 := by rw [← hL2]; simp; omega
    clear hlen hL2 hown' hgrow hat hlt2 y4 c63 cby hbase o1 g1 n1 NE qe E1 E2
    have qy3 := qy2.set_ 3 (.slice (some ⟨gg, 0, none⟩) L2.length cap)
    simp only [List.setIfInBounds_toArray, List.set_cons_zero, List.set_cons_succ] at qy3
    have own8 := own_far own7 (p := ⟨py, 3, none⟩) (by show py < Y11.heap.size; have := qy.lt; omega) (.slice (some ⟨gg, 0, none⟩) L2.length cap)
    have hN : Below Y10.heap.size Y10 (w2.setCell ⟨py, 3, none⟩ (.slice (some ⟨gg, 0, none⟩) L2.length cap)) := ex_set (ex_trans NY E3) (by show Y10.heap.size ≤ py; omega) (.slice (some ⟨gg, 0, none⟩) L2.length cap)
    obtain ⟨A5, c5, e5, _, _, ro5⟩ := lay_Wg 72 own8
    rw [e5] at qy3 ro5 hN
    have HE5 := Lib.hid e5
    clear e5
    go_upto_region 16 with fail
    rw [HE5.out]
    generalize w2.setCell ⟨py, 3, none⟩ (.slice A5 L2.length c5) = Y13 at *
    clear HE5 qy qy2 own7 own8 E3 x3 lx qx11 hxw fy2 y3 ly2 NY
    replace s0 := (hN.cell (p := ⟨bS, oS + i, none⟩) hbS).trans s0
    replace g0 := (hN.cell (p := ⟨b2, o2 + d * 2, none⟩) hb2).trans g0
    replace g1 := (hN.cell (p := ⟨b2, o2 + d * 2 + 1, none⟩) hb2).trans g1
    replace hbS := Nat.lt_of_lt_of_le hbS hN.size
    replace hb2 := Nat.lt_of_lt_of_le hb2 hN.size
    replace hs := hs.go hN
    replace hwd := (hwd.below hN).up hN.size
    replace q0 := q0.below hN q0.lt
    replace hx := hx.go hN
    replace ht := ht.go hN
    replace hM := hM.go hN
    replace qx := qx.below hN qx.lt
    replace qt := qt.below hN qt.lt
    have B_Y13 := ex_trans B_Y10 hN
    have X_Y13 := ex_trans X_Y10 hN
    have hy : WsIn Y13 Y13.heap.size (s.wg L2) Ar Am A5 := ⟨hs.rooms, hs.moves, ro5.sl⟩
    clear ro5
    have y0 : Y13.cell? ⟨py, 0, none⟩ = some (.slice Ar s.rooms.length cr) := qy3.cell 0
    have y1 : Y13.cell? ⟨py, 1, none⟩ = some (.int .i64 s.days) := qy3.cell 1
    have y2 : Y13.cell? ⟨py, 2, none⟩ = some (.slice Am s.moves.length cm) := qy3.cell 2
    have y3 : Y13.cell? ⟨py, 3, none⟩ = some (.slice A5 L2.length c5) := qy3.cell 3
    have ly := qy3.lt
    go_wp2_with fail
    refine (fault_any (s.wg L2) Ar Am A5 cr cm c5 Y13 hy).mono ?_
    rintro e V6 ⟨rfl, hV6⟩
    replace s0 := (hV6.cell (p := ⟨bS, oS + i, none⟩) hbS).trans s0
    replace g0 := (hV6.cell (p := ⟨b2, o2 + d * 2, none⟩) hb2).trans g0
    replace g1 := (hV6.cell (p := ⟨b2, o2 + d * 2 + 1, none⟩) hb2).trans g1
    replace hbS := Nat.lt_of_lt_of_le hbS hV6.size
    replace hb2 := Nat.lt_of_lt_of_le hb2 hV6.size
    replace hs := hs.go hV6
    replace hwd := (hwd.below hV6).up hV6.size
    replace q0 := q0.below hV6 q0.lt
    replace hx := hx.go hV6
    replace ht := ht.go hV6
    replace hM := hM.go hV6
    replace qx := qx.below hV6 qx.lt
    replace qt := qt.below hV6 qt.lt
    replace qy3 := qy3.below hV6 qy3.lt
    replace hy := hy.go hV6
    have B_V6 := ex_trans B_Y13 hV6
    have X_V6 := ex_trans X_Y13 hV6
    by_cases hck : ckWs (s.wg L2) = 0
    · have HE : Hid (stE (s.wg L2) = if truB (StkZ (s.wg L).wo off0 i d n) = true then 0 else 9) := Lib.hid (by rw [← HL2.out] at hck ⊢; exact end_ck hck)
      have HSY : Hid ((s.wg L2).rooms.length ≤ 1000 ∧ (s.wg L2).moves.length ≤ 1000 ∧ (s.wg L2).wgs.length ≤ 1000) := Lib.hid ⟨HSX.out.1, HSX.out.2.1, by show L2.length ≤ 1000; omega⟩
      rw [hck]
      clear hck
      clear y0 y1 y2 y3 ly
      have y0 : V6.cell? ⟨py, 0, none⟩ = some (.slice Ar s.rooms.length cr) := qy3.cell 0
      have y1 : V6.cell? ⟨py, 1, none⟩ = some (.int .i64 s.days) := qy3.cell 1
      have y2 : V6.cell? ⟨py, 2, none⟩ = some (.slice Am s.moves.length cm) := qy3.cell 2
      have y3 : V6.cell? ⟨py, 3, none⟩ = some (.slice A5 L2.length c5) := qy3.cell 3
      have ly := qy3.lt
      go_wp2_with fail
      refine (Works_any (s.wg L2) Ar Am A5 cr cm c5 V6 hy HSY.out).mono ?_
      rintro e V7 ⟨⟨⟨Ar2, Am2, Aw2, cr2, cm2, cw2, rfl, hw2⟩⟩, hV7⟩
      replace s0 := (hV7.cell (p := ⟨bS, oS + i, none⟩) hbS).trans s0
      replace g0 := (hV7.cell (p := ⟨b2, o2 + d * 2, none⟩) hb2).trans g0
      replace g1 := (hV7.cell (p := ⟨b2, o2 + d * 2 + 1, none⟩) hb2).trans g1
      replace hbS := Nat.lt_of_lt_of_le hbS hV7.size
      replace hb2 := Nat.lt_of_lt_of_le hb2 hV7.size
      replace hs := hs.go hV7
      replace hwd := (hwd.below hV7).up hV7.size
      replace q0 := q0.below hV7 q0.lt
      replace hx := hx.go hV7
      replace ht := ht.go hV7
      replace hM := hM.go hV7
      replace qx := qx.below hV7 qx.lt
      replace qt := qt.below hV7 qt.lt
      replace qy3 := qy3.below hV7 qy3.lt
      replace hy := hy.go hV7
      have B_V7 := ex_trans B_V6 hV7
      have X_V7 := ex_trans X_V6 hV7
      go_wp2_with fail
      refine (Stocks_any (s.wg L2) Ar2 Am2 Aw2 cr2 cm2 cw2 V7 hw2).mono ?_
      rintro e V8 ⟨⟨nT, AT, cT, rT, rcT, rfl, hsv2⟩, hV8⟩
      replace s0 := (hV8.cell (p := ⟨bS, oS + i, none⟩) hbS).trans s0
      replace g0 := (hV8.cell (p := ⟨b2, o2 + d * 2, none⟩) hb2).trans g0
      replace g1 := (hV8.cell (p := ⟨b2, o2 + d * 2 + 1, none⟩) hb2).trans g1
      replace hbS := Nat.lt_of_lt_of_le hbS hV8.size
      replace hb2 := Nat.lt_of_lt_of_le hb2 hV8.size
      replace hs := hs.go hV8
      replace hwd := (hwd.below hV8).up hV8.size
      replace q0 := q0.below hV8 q0.lt
      replace hx := hx.go hV8
      replace ht := ht.go hV8
      replace hM := hM.go hV8
      replace qx := qx.below hV8 qx.lt
      replace qt := qt.below hV8 qt.lt
      replace qy3 := qy3.below hV8 qy3.lt
      replace hy := hy.go hV8
      replace hw2 := hw2.go hV8
      have B_V8 := ex_trans B_V7 hV8
      have X_V8 := ex_trans X_V7 hV8
      clear hsv2
      clear hw2
      rw [HE.out]
      by_cases hk2 : k < 2
      · have hk2' : (k : Int) < 2 := by omega
        have hk3 : ¬ (2 : Int) ≤ (k : Int) := by omega
        rw [truB_iff.2 (HIT.out.2 hk2), if_pos rfl]
        go_wp2_with fail
        refine ⟨⟨⟨k + 1, by omega, X_V8, exFrame (by kernel_rfl)⟩⟩, ?_⟩
        show 4 - (intOf (.int .i64 ((k : Int) + 1))).toNat < 4 - (intOf (.int .i64 (k : Int))).toNat
        simp [intOf]
        omega
      · have hk2' : ¬ (k : Int) < 2 := by omega
        have hk3 : (2 : Int) ≤ (k : Int) := by omega
        rw [truB_false (fun h => hk2 (HIT.out.1 h)), if_neg (by decide)]
        go_wp2_with fail
        refine ⟨⟨⟨k + 1, by omega, X_V8, exFrame (by kernel_rfl)⟩⟩, ?_⟩
        show 4 - (intOf (.int .i64 ((k : Int) + 1))).toNat < 4 - (intOf (.int .i64 (k : Int))).toNat
        simp [intOf]
        omega
    · have e1 : (ckWs (s.wg L2) != 0) = true := by simp [hck]
      have e2 : (ckWs (s.wg L2) == 0) = false := by simp [hck]
      generalize ckWs (s.wg L2) = cy at *
      clear hck
      go_wp2_with fail
      refine ⟨⟨⟨k + 1, by omega, X_V6, exFrame (by kernel_rfl)⟩⟩, ?_⟩
      show 4 - (intOf (.int .i64 ((k : Int) + 1))).toNat < 4 - (intOf (.int .i64 (k : Int))).toNat
      simp [intOf]
      omega
  · obtain rfl : k = 4 := by omega
    have hlt4 : ¬ ((4 : Nat) : Int) < 4 := by omega
    go_wp2_with fail
    refine (awake_any W).mono ?_
    rintro e Wz ⟨rfl, hz⟩
    go_wp2
    go_ret
    exact ⟨rfl, ex_trans B_W hz⟩
end Go.Proofs.Ythihdiilokdidaa
end

section
namespace Go.Proofs.Ythihdiilokdidaa.spillEnds
open Go.ChangeShapes Go.WideShapes Go.ChangeAt Go.RowKit
set_option linter.unusedVariables false

set_option maxRecDepth 100000 in
theorem lifted (os : Os) (started : os.Started) (H : Type) (enc : TypeId × Value → H) :
    ReturnsInHanded {} Try.checked os 5 .any (Rows.spillEndsSpec.pre6 enc Try.prog Try.f5 Rows.spillEndsRow.domain false) (Rows.spillEndsSpec.post enc Try.prog Try.f5 false true false false) := by
  refine returnsInHanded_of_change (C := Try.checked) own started (by kernel_rfl) Try.func5
    (ChangeSpec.witness6 (enc := enc) (C := Try.checked) false ⟨#[], #[.agg #[.slice none 0 0, .int .i64 0, .slice none 0 0, .slice none 0 0], .slice none 0 0, .int .u8 0, .int .u8 0], []⟩ 8 (by kernel_rfl) (by kernel_rfl) (by kernel_rfl) (by kernel_rfl)) ?_
  intro W base args ds gs before hval0 hW hcnd _
  have hval : ∀ (j : Nat) t v, Try.f5.params[j]? = some t → args[j]? = some v → Value.okWide Try.prog W .any base t v := hval0
  have hW0 := hW
  obtain ⟨p, q, hA0, hV, rfl, hfz, hnd⟩ := hW
  have hA : DataW.TrodAll enc Try.prog W 0 (fun _ => true) true Try.f5.params.toList args.toList ds p := hA0
  rw [Try.params5] at hA hval
  obtain ⟨v0, vs0, d0, ds0, p0, q0, ea0, ed0, ep0, h0, hA0⟩ := trodAll_cons hA
  obtain ⟨v1, vs1, d1, ds1, p1, q1, ea1, ed1, ep1, h1, hA1⟩ := trodAll_cons hA0
  obtain ⟨v2, vs2, d2, ds2, p2, q2, ea2, ed2, ep2, h2, hA2⟩ := trodAll_cons hA1
  obtain ⟨v3, vs3, d3, ds3, p3, q3, ea3, ed3, ep3, h3, hA3⟩ := trodAll_cons hA2
  obtain ⟨ea, ed, ep⟩ := trodAll_nil hA3
  have eargs : args = #[v0, v1, v2, v3] := by rw [← Array.toArray_toList (xs := args), ea0, ea1, ea2, ea3, ea]
  have eds : ds = [d0, d1, d2, d3] := by rw [ed0, ed1, ed2, ed3, ed]
  subst eargs eds
  obtain ⟨rfl, rfl⟩ := trodVars_none hV
  obtain ⟨s, Ar, Am, Aw, cr, cm, cw, rfl, hsl, hs⟩ := open_worksT (hval 0 _ _ rfl rfl) h0
  obtain ⟨AW, ws, cW, rfl, hwl, hw, hwb⟩ := open_words (hval 1 _ _ rfl rfl) h1
  obtain ⟨m2, rfl, hm2⟩ := open_int Try.underlying5 (hval 2 _ _ rfl rfl) h2
  obtain ⟨m3, rfl, hm3⟩ := open_int Try.underlying5 (hval 3 _ _ rfl rfl) h3
  refine (EndsLaw_any s Ar Am Aw cr cm cw W hs AW cW ws hw hwb hwl m2 m3 (wf_u8 hm2) (wf_u8 hm3)).mono fun e W' he => ?_
  obtain ⟨rfl, hb⟩ := he
  exact ⟨_, rfl, post_law rfl hW0 rfl rfl ⟨⟨by kernel_rfl, of_decide_eq_true (by kernel_rfl)⟩, ⟨by kernel_rfl, of_decide_eq_true (by kernel_rfl)⟩, ⟨by kernel_rfl, of_decide_eq_true (by kernel_rfl)⟩, ⟨by kernel_rfl, of_decide_eq_true (by kernel_rfl)⟩, trivial⟩ hb⟩

theorem over : Rows.spillEndsRow.holds Try.pinned (OpenSpec.ofChange Rows.spillEndsSpec) :=
  OpenClaim.holds_of_wide 5 Try.f5 rfl rfl rfl rfl rfl rfl rfl ⟨rfl, rfl, rfl, rfl, rfl⟩ rfl rfl rfl rfl rfl (by kernel_rfl) Try.func5 (by kernel_rfl)
    (of_decide_eq_true (by kernel_rfl)) (by unfold Func.isWrapper; first | (rw [if_pos (by decide +kernel)]; kernel_rfl) | (rw [if_neg (by decide +kernel)]; exact ⟨rfl, rfl⟩))
    (fun os started H enc _ => lifted os started H enc)

/-- the statement. -/
theorem proved : Rows.SpillEndsSaid :=
  over
#print axioms proved
end Go.Proofs.Ythihdiilokdidaa.spillEnds
end

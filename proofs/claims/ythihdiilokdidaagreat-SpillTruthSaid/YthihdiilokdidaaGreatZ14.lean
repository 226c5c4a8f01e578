/- Spill's laws: lives (walk). · Spill's outright laws (plain): what lives tells; ends of a range. · Spill: Fewest and Blame (plain): the lists that are tried. · Spill's outright laws (plain): what Missing and Lost tell. · Spill's law SpillTruth (plain). · Spill's reference: IsBook, Says (walks). -/
import Derived.Test.YthihdiilokdidaaGreatZ13
set_option linter.unusedVariables false
set_option linter.unusedSimpArgs false
set_option linter.unusedSectionVars false
section
namespace Go.Proofs.YthihdiilokdidaaGreat
open Go.RowKit
attribute [local go_sem] Ex.cell? Ex.frozen? Fx.cell?

theorem wp_region_fx_mix {P : Program} {Q : Exit → Act → World → Prop} {id : Nat} {a : Act} {w : World} {l : List Oper} (R : Nat → Prop) (n : Nat) (ks : List (Bool × Nat)) (hm : P.follows .mixedOrders = true)
    (hB : (mixedB .any l.toArray n ks && decide (ks.length = n)) = true) (hQ : ∀ d v c a w, Q (.panic c) (a.put d v) w → Q (.panic c) a w)
    (h : wpMix P l Q (fun w' => ∃ x : Fx w R, w' = x.W) n ks a w.drew) : (Code.region id l.toArray true).wp P Q a w :=
  wp_region_mixed_tail n ks _ hm hB hQ (inFx (Fr.refl R w).drew) h
theorem results_cctt_row {P : Program} {fn : Func} {p q x y : Tmp} {ty tz : TypeId} (h : fn.results = #[.cell p ty, .cell q tz, .tmp x, .tmp y]) (tmps : Array Value) (w : World) (g g' : Nat) (ty' tz' : TypeId) (cs cs' : Array Value) (fr fr' : Nat × Nat) (d d' : TypeDesc)
    (hp : tmps.getD p undef = .pointer (some ⟨g, 0, none⟩)) (hg : w.heap[g]? = some (.cells cs ty' fr)) (hq : tmps.getD q undef = .pointer (some ⟨g', 0, none⟩)) (hg' : w.heap[g']? = some (.cells cs' tz' fr'))
    (hu : P.underlying ty = some d) (hd : (match d with | .struct _ | .array _ _ => true | _ => false) = true) (hi : (P.info? ty).map (·.size) = some cs.size)
    (hu' : P.underlying tz = some d') (hd' : (match d' with | .struct _ | .array _ _ => true | _ => false) = true) (hi' : (P.info? tz).map (·.size) = some cs'.size) :
    (results fn tmps).run P w = .ok (.tuple #[.agg cs, .agg cs', tmps.getD x undef, tmps.getD y undef]) w := by
  have hp' : tmps[p]?.getD undef = .pointer (some ⟨g, 0, none⟩) := by simpa using hp
  have hq' : tmps[q]?.getD undef = .pointer (some ⟨g', 0, none⟩) := by simpa using hq
  simp [results, h, hp', hq', asAddr, run_loadVar_row w g ty' ty cs fr d hg hu hd hi, run_loadVar_row w g' tz' tz cs' fr' d' hg' hu' hd' hi']
abbrev Ws.wg (s : Ws) (L : List Wg) : Ws := ⟨s.rooms, s.days, s.moves, L⟩
structure LivX (s : Ws) (m : Nat) (t : Tt) (L : List Wg) : Prop where
  thn : Thn s ⟨[], [], []⟩
  ck : ckWs s = 0
  tru : truT s t = true
  can : canT s t = true
  wg : WgTo s (stk s.wo t.F t.V t.G) m L s.wgs.length
  ckx : ckWs (s.wg L) = 0
structure LivV (s : Ws) (m : Nat) (Ar Am : Option Addr) (cr cm : Nat) (w' : World) (e : Ending) : Prop where
  out : (∃ A1 A2 A3 A4 A5 A6 A7 c1 c2 c3 c4 c5 c6 c7, ∃ n1 n2 n3 n4 n5 n6 n7 : Nat, ∃ d : Int, e = .returned (.tuple #[.agg #[.slice A1 n1 c1, .int .i64 d, .slice A2 n2 c2, .slice A3 n3 c3], .agg #[.slice A4 n4 c4, .slice A5 n5 c5, .slice A6 n6 c6], .slice A7 n7 c7, .bool false])) ∨
    ∃ t : Tt, ∃ L : List Wg, ∃ A3 A4 A5 A6 A7 c3 c4 c5 c6 c7 rV rcV rA rc, e = .returned (.tuple #[.agg #[.slice Ar s.rooms.length cr, .int .i64 s.days, .slice Am s.moves.length cm, .slice A3 L.length c3], .agg #[.slice A4 t.fs.length c4, .slice A5 t.vs.length c5, .slice A6 t.gs.length c6], .slice A7 s.rooms.length c7, .bool true]) ∧
      LivX s m t L ∧ SlAt w' w'.heap.size 4 A3 L.length (fWg L) ∧ TtIn w' w'.heap.size t A4 A5 A6 rV rcV ∧ MatIn w' w'.heap.size A7 s.rooms.length s.wo.days (stk s.wo t.F t.V t.G) rA rc
set_option maxRecDepth 100000 in
set_option maxHeartbeats 6400000 in
theorem lives_any (s : Ws) (Ar Am Aw : Option Addr) (cr cm cw : Nat) (w : World) (hs : WsIn w w.heap.size s Ar Am Aw) (AW : Option Addr) (cW : Nat) (ws : List Int) (hwd : SlAt w w.heap.size 1 AW ws.length (fU ws)) (hwb : ∀ k, k < ws.length → 0 ≤ gI ws k ∧ gI ws k ≤ 65535) (hwl : ws.length ≤ maxLen) (m : Nat) (hm : (m : Int) ≤ 255) :
    Calls Tryz.prog 4 #[.agg #[.slice Ar s.rooms.length cr, .int .i64 s.days, .slice Am s.moves.length cm, .slice Aw s.wgs.length cw], .slice AW ws.length cW, .int .u8 (m : Int)] w fun e w' => LivV s m Ar Am cr cm w' e ∧ Below w.heap.size w w' := by
  have HWB := Lib.hid hwb
  clear hwb
  have hb1 := ex_alloc (ex_alloc (ex_alloc (Below.refl w.heap.size w) (.cells #[.slice Ar s.rooms.length cr, .int .i64 s.days, .slice Am s.moves.length cm, .slice Aw s.wgs.length cw] 26)) (.cells #[.slice none 0 0, .int .i64 0, .slice none 0 0, .slice none 0 0] 26)) (.cells #[.slice none 0 0, .slice none 0 0, .slice none 0 0] 31)
  have q0 : Blk (((w.alloc (.cells #[.slice Ar s.rooms.length cr, .int .i64 s.days, .slice Am s.moves.length cm, .slice Aw s.wgs.length cw] 26)).alloc (.cells #[.slice none 0 0, .int .i64 0, .slice none 0 0, .slice none 0 0] 26)).alloc (.cells #[.slice none 0 0, .slice none 0 0, .slice none 0 0] 31)) w.heap.size 26 #[.slice Ar s.rooms.length cr, .int .i64 s.days, .slice Am s.moves.length cm, .slice Aw s.wgs.length cw] := ((Blk.new _ _ _).alloc _).alloc _
  have q1 : Blk (((w.alloc (.cells #[.slice Ar s.rooms.length cr, .int .i64 s.days, .slice Am s.moves.length cm, .slice Aw s.wgs.length cw] 26)).alloc (.cells #[.slice none 0 0, .int .i64 0, .slice none 0 0, .slice none 0 0] 26)).alloc (.cells #[.slice none 0 0, .slice none 0 0, .slice none 0 0] 31)) (w.heap.size + 1) 26 #[.slice none 0 0, .int .i64 0, .slice none 0 0, .slice none 0 0] := (Blk.new' _ _ _ (by simp)).alloc _
  have q2 : Blk (((w.alloc (.cells #[.slice Ar s.rooms.length cr, .int .i64 s.days, .slice Am s.moves.length cm, .slice Aw s.wgs.length cw] 26)).alloc (.cells #[.slice none 0 0, .int .i64 0, .slice none 0 0, .slice none 0 0] 26)).alloc (.cells #[.slice none 0 0, .slice none 0 0, .slice none 0 0] 31)) (w.heap.size + 1 + 1) 31 #[.slice none 0 0, .slice none 0 0, .slice none 0 0] := Blk.new' _ _ _ (by simp)
  replace hs := hs.go hb1
  replace hwd := (hwd.below hb1).up hb1.size
  go_enter Tryz.func4, Tryz.ntmps4
  go_upto_region 1 with fail
  show Code.wp _ _ _ _ (((w.alloc (.cells #[.slice Ar s.rooms.length cr, .int .i64 s.days, .slice Am s.moves.length cm, .slice Aw s.wgs.length cw] 26)).alloc (.cells #[.slice none 0 0, .int .i64 0, .slice none 0 0, .slice none 0 0] 26)).alloc (.cells #[.slice none 0 0, .slice none 0 0, .slice none 0 0] 31))
  generalize ((w.alloc (.cells #[.slice Ar s.rooms.length cr, .int .i64 s.days, .slice Am s.moves.length cm, .slice Aw s.wgs.length cw] 26)).alloc (.cells #[.slice none 0 0, .int .i64 0, .slice none 0 0, .slice none 0 0] 26)).alloc (.cells #[.slice none 0 0, .slice none 0 0, .slice none 0 0] 31) = V at *
  have a0 : V.cell? ⟨w.heap.size, 0, none⟩ = some (.slice Ar s.rooms.length cr) := q0.cell 0
  have a1 : V.cell? ⟨w.heap.size, 1, none⟩ = some (.int .i64 s.days) := q0.cell 1
  have a2 : V.cell? ⟨w.heap.size, 2, none⟩ = some (.slice Am s.moves.length cm) := q0.cell 2
  have a3 : V.cell? ⟨w.heap.size, 3, none⟩ = some (.slice Aw s.wgs.length cw) := q0.cell 3
  have l0 := q0.lt
  go_wp2_with fail
  refine (Thin_any s Ar Am Aw cr cm cw V hs ⟨[], [], []⟩ none none none 0 0 0 (fun _ => none) (fun _ => 0) ⟨fun h => absurd h (by simp), fun h => absurd h (by simp), fun k h => absurd h (by simp), fun h => absurd h (by simp)⟩).mono ?_
  rintro e V1 ⟨rfl, hV1⟩
  replace q0 := q0.below hV1 q0.lt
  replace q1 := q1.below hV1 q1.lt
  replace q2 := q2.below hV1 q2.lt
  replace hs := hs.go hV1
  replace hwd := (hwd.below hV1).up hV1.size
  have B_V1 := ex_trans hb1 hV1
  clear a0 a1 a2 a3 l0
  have a0 : V1.cell? ⟨w.heap.size, 0, none⟩ = some (.slice Ar s.rooms.length cr) := q0.cell 0
  have a1 : V1.cell? ⟨w.heap.size, 1, none⟩ = some (.int .i64 s.days) := q0.cell 1
  have a2 : V1.cell? ⟨w.heap.size, 2, none⟩ = some (.slice Am s.moves.length cm) := q0.cell 2
  have a3 : V1.cell? ⟨w.heap.size, 3, none⟩ = some (.slice Aw s.wgs.length cw) := q0.cell 3
  have l0 := q0.lt
  cases hth : thinB s ⟨[], [], []⟩
  · clear hth
    have z0 : V1.cell? ⟨w.heap.size + 1, 0, none⟩ = some (.slice none 0 0) := q1.cell 0
    have z1 : V1.cell? ⟨w.heap.size + 1, 1, none⟩ = some (.int .i64 0) := q1.cell 1
    have z2 : V1.cell? ⟨w.heap.size + 1, 2, none⟩ = some (.slice none 0 0) := q1.cell 2
    have z3 : V1.cell? ⟨w.heap.size + 1, 3, none⟩ = some (.slice none 0 0) := q1.cell 3
    have y0 : V1.cell? ⟨w.heap.size + 1 + 1, 0, none⟩ = some (.slice none 0 0) := q2.cell 0
    have y1 : V1.cell? ⟨w.heap.size + 1 + 1, 1, none⟩ = some (.slice none 0 0) := q2.cell 1
    have y2 : V1.cell? ⟨w.heap.size + 1 + 1, 2, none⟩ = some (.slice none 0 0) := q2.cell 2
    have l1 := q1.lt
    have l2 := q2.lt
    have f1 := q1.frozen0
    have f2 := q2.frozen0
    go_upto_region 2 with fail
    have hF : Fr (fun b => b = w.heap.size + 1 ∨ b = w.heap.size + 1 + 1) V1 (((((((V1.setCell ⟨w.heap.size + 1, 0, none⟩ (.slice Ar s.rooms.length cr)).setCell ⟨w.heap.size + 1, 1, none⟩ (.int .i64 s.days)).setCell ⟨w.heap.size + 1, 2, none⟩ (.slice Am s.moves.length cm)).setCell ⟨w.heap.size + 1, 3, none⟩ (.slice Aw s.wgs.length cw)).setCell ⟨w.heap.size + 1 + 1, 0, none⟩ (.slice none 0 0)).setCell ⟨w.heap.size + 1 + 1, 1, none⟩ (.slice none 0 0)).setCell ⟨w.heap.size + 1 + 1, 2, none⟩ (.slice none 0 0)) := (((((((Fr.refl (fun b => b = w.heap.size + 1 ∨ b = w.heap.size + 1 + 1) V1).andSet (.inl rfl)).andSet (.inl rfl)).andSet (.inl rfl)).andSet (.inl rfl)).andSet (.inr rfl)).andSet (.inr rfl)).andSet (.inr rfl)
    have Bz := hF.toBelow B_V1 B_V1.size (fun x hx => by omega)
    have p1 := ((((((q1.set_ 0 (.slice Ar s.rooms.length cr)).set_ 1 (.int .i64 s.days)).set_ 2 (.slice Am s.moves.length cm)).set_ 3 (.slice Aw s.wgs.length cw)).far (p := ⟨w.heap.size + 1 + 1, 0, none⟩) (by show w.heap.size + 1 ≠ w.heap.size + 1 + 1; omega) (.slice none 0 0)).far (p := ⟨w.heap.size + 1 + 1, 1, none⟩) (by show w.heap.size + 1 ≠ w.heap.size + 1 + 1; omega) (.slice none 0 0)).far (p := ⟨w.heap.size + 1 + 1, 2, none⟩) (by show w.heap.size + 1 ≠ w.heap.size + 1 + 1; omega) (.slice none 0 0)
    have p2 := ((((((q2.far (p := ⟨w.heap.size + 1, 0, none⟩) (by show w.heap.size + 1 + 1 ≠ w.heap.size + 1; omega) (.slice Ar s.rooms.length cr)).far (p := ⟨w.heap.size + 1, 1, none⟩) (by show w.heap.size + 1 + 1 ≠ w.heap.size + 1; omega) (.int .i64 s.days)).far (p := ⟨w.heap.size + 1, 2, none⟩) (by show w.heap.size + 1 + 1 ≠ w.heap.size + 1; omega) (.slice Am s.moves.length cm)).far (p := ⟨w.heap.size + 1, 3, none⟩) (by show w.heap.size + 1 + 1 ≠ w.heap.size + 1; omega) (.slice Aw s.wgs.length cw)).set_ 0 (.slice none 0 0)).set_ 1 (.slice none 0 0)).set_ 2 (.slice none 0 0)
    simp only [List.setIfInBounds_toArray, List.set_cons_zero, List.set_cons_succ] at p1 p2
    go_wp2
    refine bodyPost_ret (results_cctt_row rfl _ _ (w.heap.size + 1) (w.heap.size + 1 + 1) 26 31 _ _ (0, 0) (0, 0) _ _ rfl p1 rfl p2 rfl rfl rfl rfl rfl rfl) rfl ?_
    exact ⟨⟨.inl ⟨_, _, _, _, _, _, _, _, _, _, _, _, _, _, _, _, _, _, _, _, _, _, rfl⟩⟩, Bz⟩
  have HT := Lib.hid (thinB_iff.1 hth)
  clear hth
  go_wp2_with fail
  refine (fault_any s Ar Am Aw cr cm cw V1 hs).mono ?_
  rintro e V2 ⟨rfl, hV2⟩
  replace q0 := q0.below hV2 q0.lt
  replace q1 := q1.below hV2 q1.lt
  replace q2 := q2.below hV2 q2.lt
  replace hs := hs.go hV2
  replace hwd := (hwd.below hV2).up hV2.size
  have B_V2 := ex_trans B_V1 hV2
  clear a0 a1 a2 a3 l0
  have a0 : V2.cell? ⟨w.heap.size, 0, none⟩ = some (.slice Ar s.rooms.length cr) := q0.cell 0
  have a1 : V2.cell? ⟨w.heap.size, 1, none⟩ = some (.int .i64 s.days) := q0.cell 1
  have a2 : V2.cell? ⟨w.heap.size, 2, none⟩ = some (.slice Am s.moves.length cm) := q0.cell 2
  have a3 : V2.cell? ⟨w.heap.size, 3, none⟩ = some (.slice Aw s.wgs.length cw) := q0.cell 3
  have l0 := q0.lt
  by_cases hck : ckWs s = 0
  · obtain ⟨hwo, hdd⟩ := ckWs_iff.1 hck
    have HCK := Lib.hid hck
    rw [hck]
    have HWO := Lib.hid hwo
    have HDD := Lib.hid hdd
    clear hck hwo hdd
    have hbP : w.heap.size + 1 + 1 + 1 ≤ V2.heap.size := by have := q2.lt; omega
    go_wp2_with fail
    refine (Picked_any s Ar Am Aw cr cm cw V2 hs HWO.out HDD.out AW cW ws hwd HWB.out hwl).mono ?_
    rintro e V3 ⟨⟨⟨t, A4, A5, A6, c4, c5, c6, rfl, htr, htt⟩⟩, hV3⟩
    replace q0 := q0.below hV3 q0.lt
    replace q1 := q1.below hV3 q1.lt
    replace q2 := q2.below hV3 q2.lt
    replace hs := hs.go hV3
    replace hwd := (hwd.below hV3).up hV3.size
    have B_V3 := ex_trans B_V2 hV3
    replace htt := htt.base hbP
    have HTR := Lib.hid htr
    clear htr
    clear a0 a1 a2 a3 l0
    have a0 : V3.cell? ⟨w.heap.size, 0, none⟩ = some (.slice Ar s.rooms.length cr) := q0.cell 0
    have a1 : V3.cell? ⟨w.heap.size, 1, none⟩ = some (.int .i64 s.days) := q0.cell 1
    have a2 : V3.cell? ⟨w.heap.size, 2, none⟩ = some (.slice Am s.moves.length cm) := q0.cell 2
    have a3 : V3.cell? ⟨w.heap.size, 3, none⟩ = some (.slice Aw s.wgs.length cw) := q0.cell 3
    have l0 := q0.lt
    have hl2 : w.heap.size + 1 + 1 < V3.heap.size := q2.lt
    have q3 : Blk (V3.alloc (.cells #[.slice A4 t.fs.length c4, .slice A5 t.vs.length c5, .slice A6 t.gs.length c6] 31)) V3.heap.size 31 #[.slice A4 t.fs.length c4, .slice A5 t.vs.length c5, .slice A6 t.gs.length c6] := Blk.new _ _ _
    have N3 := ex_alloc (Below.refl V3.heap.size V3) (.cells #[.slice A4 t.fs.length c4, .slice A5 t.vs.length c5, .slice A6 t.gs.length c6] 31)
    go_upto_region 4 with fail
    clear a0 a1 a2 a3 l0
    replace q0 := q0.below N3 q0.lt
    replace q1 := q1.below N3 q1.lt
    replace q2 := q2.below N3 q2.lt
    replace hs := hs.go N3
    replace hwd := (hwd.below N3).up N3.size
    replace htt := htt.below N3
    have B_V4 := ex_trans B_V3 N3
    obtain ⟨p3, hp3⟩ : ∃ p, V3.heap.size = p := ⟨_, rfl⟩
    have hp3g : Hid (w.heap.size + 1 + 1 < p3) := Lib.hid (by rw [← hp3]; exact hl2)
    rw [hp3] at q3 ⊢
    clear N3 hp3 hl2
    generalize V3.alloc (.cells #[.slice A4 t.fs.length c4, .slice A5 t.vs.length c5, .slice A6 t.gs.length c6] 31) = V4 at *
    have a0 : V4.cell? ⟨w.heap.size, 0, none⟩ = some (.slice Ar s.rooms.length cr) := q0.cell 0
    have a1 : V4.cell? ⟨w.heap.size, 1, none⟩ = some (.int .i64 s.days) := q0.cell 1
    have a2 : V4.cell? ⟨w.heap.size, 2, none⟩ = some (.slice Am s.moves.length cm) := q0.cell 2
    have a3 : V4.cell? ⟨w.heap.size, 3, none⟩ = some (.slice Aw s.wgs.length cw) := q0.cell 3
    have l0 := q0.lt
    have t0 : V4.cell? ⟨p3, 0, none⟩ = some (.slice A4 t.fs.length c4) := q3.cell 0
    have t1 : V4.cell? ⟨p3, 1, none⟩ = some (.slice A5 t.vs.length c5) := q3.cell 1
    have t2 : V4.cell? ⟨p3, 2, none⟩ = some (.slice A6 t.gs.length c6) := q3.cell 2
    have l3 := q3.lt
    obtain ⟨rV, rcV, ht0⟩ := htt.tt
    have hbQ : w.heap.size + 1 + 1 + 1 ≤ V4.heap.size := by have := q2.lt; omega
    go_wp2_with fail
    refine (Play_own s Ar Am Aw cr cm cw V4 hs HWO.out HDD.out t A4 A5 A6 c4 c5 c6 rV rcV ht0 HTR.out).mono ?_
    rintro e V5 ⟨⟨A7, c7, X7, rfl, hmt, hmx⟩, hV5⟩
    replace q0 := q0.below hV5 q0.lt
    replace q1 := q1.below hV5 q1.lt
    replace q2 := q2.below hV5 q2.lt
    replace hs := hs.go hV5
    replace hwd := (hwd.below hV5).up hV5.size
    replace htt := htt.below hV5
    replace q3 := q3.below hV5 q3.lt
    have B_V5 := ex_trans B_V4 hV5
    replace hmt := hmt.base hbQ
    have HMX := Lib.hid hmx
    clear hmx ht0
    clear a0 a1 a2 a3 l0
    have a0 : V5.cell? ⟨w.heap.size, 0, none⟩ = some (.slice Ar s.rooms.length cr) := q0.cell 0
    have a1 : V5.cell? ⟨w.heap.size, 1, none⟩ = some (.int .i64 s.days) := q0.cell 1
    have a2 : V5.cell? ⟨w.heap.size, 2, none⟩ = some (.slice Am s.moves.length cm) := q0.cell 2
    have a3 : V5.cell? ⟨w.heap.size, 3, none⟩ = some (.slice Aw s.wgs.length cw) := q0.cell 3
    have l0 := q0.lt
    clear t0 t1 t2 l3
    have t0 : V5.cell? ⟨p3, 0, none⟩ = some (.slice A4 t.fs.length c4) := q3.cell 0
    have t1 : V5.cell? ⟨p3, 1, none⟩ = some (.slice A5 t.vs.length c5) := q3.cell 1
    have t2 : V5.cell? ⟨p3, 2, none⟩ = some (.slice A6 t.gs.length c6) := q3.cell 2
    have l3 := q3.lt
    cases hcn : canT s t
    · clear hcn
      have z0 : V5.cell? ⟨w.heap.size + 1, 0, none⟩ = some (.slice none 0 0) := q1.cell 0
      have z1 : V5.cell? ⟨w.heap.size + 1, 1, none⟩ = some (.int .i64 0) := q1.cell 1
      have z2 : V5.cell? ⟨w.heap.size + 1, 2, none⟩ = some (.slice none 0 0) := q1.cell 2
      have z3 : V5.cell? ⟨w.heap.size + 1, 3, none⟩ = some (.slice none 0 0) := q1.cell 3
      have y0 : V5.cell? ⟨w.heap.size + 1 + 1, 0, none⟩ = some (.slice none 0 0) := q2.cell 0
      have y1 : V5.cell? ⟨w.heap.size + 1 + 1, 1, none⟩ = some (.slice none 0 0) := q2.cell 1
      have y2 : V5.cell? ⟨w.heap.size + 1 + 1, 2, none⟩ = some (.slice none 0 0) := q2.cell 2
      have l1 := q1.lt
      have l2 := q2.lt
      have f1 := q1.frozen0
      have f2 := q2.frozen0
      have hp3 : w.heap.size + 1 + 1 < p3 := by have := q2.lt; have := q3.lt; have := hp3g.out; omega
      have n5 : ¬ w.heap.size = w.heap.size + 1 := by omega
      have n6 : ¬ w.heap.size = w.heap.size + 1 + 1 := by omega
      have n1 : ¬ p3 = w.heap.size + 1 := by omega
      have n2 : ¬ p3 = w.heap.size + 1 + 1 := by omega
      go_upto_region 6 with fail
      have D6 := (Below.refl V5.heap.size V5).drew
      have F0 : Fr (fun b => b = w.heap.size + 1 ∨ b = w.heap.size + 1 + 1) V5 V5.drew := Fr.below D6
      refine wp_region_fx_mix (fun b => b = w.heap.size + 1 ∨ b = w.heap.size + 1 + 1) 6 [(false, 0), (false, 1), (false, 2), (true, 3), (true, 4), (false, 5)] (by kernel_rfl) (by kernel_rfl) (by intro d _ _ _ _ h; cases d <;> exact h) ?_
      repeat (refine mix_quiet rfl ?_; go_big_quiet_step (fail); refine wpQuiet_nil ?_)
      obtain ⟨Y6, hY⟩ : ∃ Y, V5.drew = Y := ⟨_, rfl⟩
      rw [hY] at D6 F0 ⊢
      clear hY a0 a1 a2 a3 l0 t0 t1 t2 l3 z0 z1 z2 z3 y0 y1 y2 l1 l2 f1 f2
      replace q0 := q0.below D6 q0.lt
      replace q1 := q1.below D6 q1.lt
      replace q2 := q2.below D6 q2.lt
      replace hs := hs.go D6
      replace hwd := (hwd.below D6).up D6.size
      replace htt := htt.below D6
      replace q3 := q3.below D6 q3.lt
      replace hmt := hmt.below D6
      have B_Y6 := ex_trans B_V5 D6
      have z0 : Y6.cell? ⟨w.heap.size + 1, 0, none⟩ = some (.slice none 0 0) := q1.cell 0
      have z1 : Y6.cell? ⟨w.heap.size + 1, 1, none⟩ = some (.int .i64 0) := q1.cell 1
      have z2 : Y6.cell? ⟨w.heap.size + 1, 2, none⟩ = some (.slice none 0 0) := q1.cell 2
      have z3 : Y6.cell? ⟨w.heap.size + 1, 3, none⟩ = some (.slice none 0 0) := q1.cell 3
      have y0 : Y6.cell? ⟨w.heap.size + 1 + 1, 0, none⟩ = some (.slice none 0 0) := q2.cell 0
      have y1 : Y6.cell? ⟨w.heap.size + 1 + 1, 1, none⟩ = some (.slice none 0 0) := q2.cell 1
      have y2 : Y6.cell? ⟨w.heap.size + 1 + 1, 2, none⟩ = some (.slice none 0 0) := q2.cell 2
      have l1 := q1.lt
      have l2 := q2.lt
      have f1 := q1.frozen0
      have f2 := q2.frozen0
      have hF : Fr (fun b => b = w.heap.size + 1 ∨ b = w.heap.size + 1 + 1) Y6 (((((((Y6.setCell ⟨w.heap.size + 1, 0, none⟩ (.slice Ar s.rooms.length cr)).setCell ⟨w.heap.size + 1, 1, none⟩ (.int .i64 s.days)).setCell ⟨w.heap.size + 1, 2, none⟩ (.slice Am s.moves.length cm)).setCell ⟨w.heap.size + 1, 3, none⟩ (.slice Aw s.wgs.length cw)).setCell ⟨w.heap.size + 1 + 1, 0, none⟩ (.slice A4 t.fs.length c4)).setCell ⟨w.heap.size + 1 + 1, 1, none⟩ (.slice A5 t.vs.length c5)).setCell ⟨w.heap.size + 1 + 1, 2, none⟩ (.slice A6 t.gs.length c6)) := (((((((Fr.refl (fun b => b = w.heap.size + 1 ∨ b = w.heap.size + 1 + 1) Y6).andSet (.inl rfl)).andSet (.inl rfl)).andSet (.inl rfl)).andSet (.inl rfl)).andSet (.inr rfl)).andSet (.inr rfl)).andSet (.inr rfl)
      have Bz := hF.toBelow B_Y6 B_Y6.size (fun x hx => by omega)
      have p1 := ((((((q1.set_ 0 (.slice Ar s.rooms.length cr)).set_ 1 (.int .i64 s.days)).set_ 2 (.slice Am s.moves.length cm)).set_ 3 (.slice Aw s.wgs.length cw)).far (p := ⟨w.heap.size + 1 + 1, 0, none⟩) (by show w.heap.size + 1 ≠ w.heap.size + 1 + 1; omega) (.slice A4 t.fs.length c4)).far (p := ⟨w.heap.size + 1 + 1, 1, none⟩) (by show w.heap.size + 1 ≠ w.heap.size + 1 + 1; omega) (.slice A5 t.vs.length c5)).far (p := ⟨w.heap.size + 1 + 1, 2, none⟩) (by show w.heap.size + 1 ≠ w.heap.size + 1 + 1; omega) (.slice A6 t.gs.length c6)
      have p2 := ((((((q2.far (p := ⟨w.heap.size + 1, 0, none⟩) (by show w.heap.size + 1 + 1 ≠ w.heap.size + 1; omega) (.slice Ar s.rooms.length cr)).far (p := ⟨w.heap.size + 1, 1, none⟩) (by show w.heap.size + 1 + 1 ≠ w.heap.size + 1; omega) (.int .i64 s.days)).far (p := ⟨w.heap.size + 1, 2, none⟩) (by show w.heap.size + 1 + 1 ≠ w.heap.size + 1; omega) (.slice Am s.moves.length cm)).far (p := ⟨w.heap.size + 1, 3, none⟩) (by show w.heap.size + 1 + 1 ≠ w.heap.size + 1; omega) (.slice Aw s.wgs.length cw)).set_ 0 (.slice A4 t.fs.length c4)).set_ 1 (.slice A5 t.vs.length c5)).set_ 2 (.slice A6 t.gs.length c6)
      simp only [List.setIfInBounds_toArray, List.set_cons_zero, List.set_cons_succ] at p1 p2
      have F3 : Fr (fun b => b = w.heap.size + 1 ∨ b = w.heap.size + 1 + 1) V5 ((((Y6.setCell ⟨w.heap.size + 1, 0, none⟩ (.slice Ar s.rooms.length cr)).setCell ⟨w.heap.size + 1, 1, none⟩ (.int .i64 s.days)).setCell ⟨w.heap.size + 1, 2, none⟩ (.slice Am s.moves.length cm)).setCell ⟨w.heap.size + 1, 3, none⟩ (.slice Aw s.wgs.length cw)) := ((((F0).andSet (.inl rfl)).andSet (.inl rfl)).andSet (.inl rfl)).andSet (.inl rfl)
      have F4 : Fr (fun b => b = w.heap.size + 1 ∨ b = w.heap.size + 1 + 1) V5 (((((((Y6.setCell ⟨w.heap.size + 1, 0, none⟩ (.slice Ar s.rooms.length cr)).setCell ⟨w.heap.size + 1, 1, none⟩ (.int .i64 s.days)).setCell ⟨w.heap.size + 1, 2, none⟩ (.slice Am s.moves.length cm)).setCell ⟨w.heap.size + 1, 3, none⟩ (.slice Aw s.wgs.length cw)).setCell ⟨w.heap.size + 1 + 1, 0, none⟩ (.slice A4 t.fs.length c4)).setCell ⟨w.heap.size + 1 + 1, 1, none⟩ (.slice A5 t.vs.length c5)).setCell ⟨w.heap.size + 1 + 1, 2, none⟩ (.slice A6 t.gs.length c6)) := ((F3.andSet (.inr rfl)).andSet (.inr rfl)).andSet (.inr rfl)
      refine mix_loud rfl ?_
      go_wp2_with fail
      refine ⟨inFx F3, ?_⟩
      repeat (refine mix_quiet rfl ?_; go_big_quiet_step (fail); refine wpQuiet_nil ?_)
      refine mix_loud rfl ?_
      go_wp2_with fail
      refine ⟨inFx F4, ?_⟩
      repeat (refine mix_quiet rfl ?_; go_big_quiet_step (fail); refine wpQuiet_nil ?_)
      refine mix_nil (r := [_]) rfl ?_
      go_wp2
      refine bodyPost_ret (results_cctt_row rfl _ _ (w.heap.size + 1) (w.heap.size + 1 + 1) 26 31 _ _ (0, 0) (0, 0) _ _ rfl p1 rfl p2 rfl rfl rfl rfl rfl rfl) rfl ?_
      exact ⟨⟨.inl ⟨_, _, _, _, _, _, _, _, _, _, _, _, _, _, _, _, _, _, _, _, _, _, rfl⟩⟩, Bz⟩
    · have HCN := Lib.hid hcn
      clear hcn
      have hbS : ∀ r d, r < s.rooms.length → d < s.wo.days → 0 ≤ stk s.wo t.F t.V t.G r d ∧ stk s.wo t.F t.V t.G r d ≤ 1000000 := fun r d hr hd => ⟨canT_iff.1 HCN.out r d hr hd, by
        have h1 := stk_le HWO.out ((truT_iff HDD.out).1 HTR.out).2.2 (r := r) hr d hd
        have h2 := HWO.out.days.2
        omega⟩
      have HBS := Lib.hid hbS
      clear hbS
      skip
      obtain ⟨A7', c7', rA, rc, e7, hm7⟩ := IOwn.lays hmt HMX.out
      injection e7 with e71 _ e72
      subst e71 e72
      have hbR : w.heap.size + 1 + 1 + 1 ≤ V5.heap.size := by have := q2.lt; omega
      go_wp2_with fail
      refine (Weighed_any s Ar Am Aw cr cm cw V5 hs HWO.out (stk s.wo t.F t.V t.G) A7 c7 rA rc hm7 HBS.out AW cW ws hwd HWB.out hwl m hm).mono ?_
      rintro e V6 ⟨⟨⟨L, A3, c3, rfl, hwg, hsl⟩⟩, hV6⟩
      replace q0 := q0.below hV6 q0.lt
      replace q1 := q1.below hV6 q1.lt
      replace q2 := q2.below hV6 q2.lt
      replace hs := hs.go hV6
      replace hwd := (hwd.below hV6).up hV6.size
      replace htt := htt.below hV6
      replace q3 := q3.below hV6 q3.lt
      replace hmt := hmt.below hV6
      have B_V6 := ex_trans B_V5 hV6
      replace hsl := hsl.base hbR
      have HWG := Lib.hid hwg
      clear hwg hm7
      have hl2 : w.heap.size + 1 + 1 < V6.heap.size := q2.lt
      have q4 : Blk (V6.alloc (.cells #[.slice Ar s.rooms.length cr, .int .i64 s.days, .slice Am s.moves.length cm, .slice A3 L.length c3] 26)) V6.heap.size 26 #[.slice Ar s.rooms.length cr, .int .i64 s.days, .slice Am s.moves.length cm, .slice A3 L.length c3] := Blk.new _ _ _
      have N6 := ex_alloc (Below.refl V6.heap.size V6) (.cells #[.slice Ar s.rooms.length cr, .int .i64 s.days, .slice Am s.moves.length cm, .slice A3 L.length c3] 26)
      go_upto_region 8 with fail
      clear a0 a1 a2 a3 l0 t0 t1 t2 l3
      replace q0 := q0.below N6 q0.lt
      replace q1 := q1.below N6 q1.lt
      replace q2 := q2.below N6 q2.lt
      replace hs := hs.go N6
      replace hwd := (hwd.below N6).up N6.size
      replace htt := htt.below N6
      replace q3 := q3.below N6 q3.lt
      replace hmt := hmt.below N6
      replace hsl := hsl.below N6
      have B_V7 := ex_trans B_V6 N6
      obtain ⟨p4, hp4⟩ : ∃ p, V6.heap.size = p := ⟨_, rfl⟩
      have hp4g : Hid (w.heap.size + 1 + 1 < p4) := Lib.hid (by rw [← hp4]; exact hl2)
      rw [hp4] at q4 ⊢
      clear N6 hp4 hl2
      generalize V6.alloc (.cells #[.slice Ar s.rooms.length cr, .int .i64 s.days, .slice Am s.moves.length cm, .slice A3 L.length c3] 26) = V7 at *
      have x0 : V7.cell? ⟨p4, 0, none⟩ = some (.slice Ar s.rooms.length cr) := q4.cell 0
      have x1 : V7.cell? ⟨p4, 1, none⟩ = some (.int .i64 s.days) := q4.cell 1
      have x2 : V7.cell? ⟨p4, 2, none⟩ = some (.slice Am s.moves.length cm) := q4.cell 2
      have x3 : V7.cell? ⟨p4, 3, none⟩ = some (.slice A3 L.length c3) := q4.cell 3
      have l4 := q4.lt
      have t0 : V7.cell? ⟨p3, 0, none⟩ = some (.slice A4 t.fs.length c4) := q3.cell 0
      have t1 : V7.cell? ⟨p3, 1, none⟩ = some (.slice A5 t.vs.length c5) := q3.cell 1
      have t2 : V7.cell? ⟨p3, 2, none⟩ = some (.slice A6 t.gs.length c6) := q3.cell 2
      have l3 := q3.lt
      have D8 := (Below.refl V7.heap.size V7).drew
      have n5 : ¬ w.heap.size = w.heap.size + 1 := by omega
      have n6 : ¬ w.heap.size = w.heap.size + 1 + 1 := by omega
      have n1 : ¬ p3 = w.heap.size + 1 := by have := hp3g.out; omega
      have n2 : ¬ p3 = w.heap.size + 1 + 1 := by have := hp3g.out; omega
      have n3 : ¬ p4 = w.heap.size + 1 := by have := hp4g.out; omega
      have n4 : ¬ p4 = w.heap.size + 1 + 1 := by have := hp4g.out; omega
      refine wp_region_fx_mix (fun b => b = w.heap.size + 1 ∨ b = w.heap.size + 1 + 1) 9 [(false, 0), (false, 1), (false, 2), (false, 3), (true, 4), (false, 5), (true, 6), (true, 7), (false, 8)] (by kernel_rfl) (by kernel_rfl) (by intro d _ _ _ _ h; cases d <;> exact h) ?_
      repeat (refine mix_quiet rfl ?_; go_big_quiet_step (fail); refine wpQuiet_nil ?_)
      obtain ⟨Y8, hY⟩ : ∃ Y, V7.drew = Y := ⟨_, rfl⟩
      rw [hY] at D8 ⊢
      clear hY x0 x1 x2 x3 l4 t0 t1 t2 l3
      replace q0 := q0.below D8 q0.lt
      replace q1 := q1.below D8 q1.lt
      replace q2 := q2.below D8 q2.lt
      replace hs := hs.go D8
      replace hwd := (hwd.below D8).up D8.size
      replace htt := htt.below D8
      replace q3 := q3.below D8 q3.lt
      replace hmt := hmt.below D8
      replace hsl := hsl.below D8
      replace q4 := q4.below D8 q4.lt
      have B_Y8 := ex_trans B_V7 D8
      refine mix_loud rfl ?_
      go_wp2_with fail
      refine (fault_any ⟨s.rooms, s.days, s.moves, L⟩ Ar Am A3 cr cm c3 Y8 ⟨hs.rooms, hs.moves, hsl.sl⟩).mono ?_
      rintro e V9 ⟨rfl, hV9⟩
      replace q0 := q0.below hV9 q0.lt
      replace q1 := q1.below hV9 q1.lt
      replace q2 := q2.below hV9 q2.lt
      replace hs := hs.go hV9
      replace hwd := (hwd.below hV9).up hV9.size
      replace htt := htt.below hV9
      replace q3 := q3.below hV9 q3.lt
      replace hmt := hmt.below hV9
      replace hsl := hsl.below hV9
      replace q4 := q4.below hV9 q4.lt
      have B_V9 := ex_trans B_Y8 hV9
      have X_V9 := ex_trans D8 hV9
      go_wp2_with fail
      have F0 : Fr (fun b => b = w.heap.size + 1 ∨ b = w.heap.size + 1 + 1) V7 V9 := Fr.below X_V9
      refine ⟨inFx F0, ?_⟩
      repeat (refine mix_quiet rfl ?_; go_big_quiet_step (fail); refine wpQuiet_nil ?_)
      have z0 : V9.cell? ⟨w.heap.size + 1, 0, none⟩ = some (.slice none 0 0) := q1.cell 0
      have z1 : V9.cell? ⟨w.heap.size + 1, 1, none⟩ = some (.int .i64 0) := q1.cell 1
      have z2 : V9.cell? ⟨w.heap.size + 1, 2, none⟩ = some (.slice none 0 0) := q1.cell 2
      have z3 : V9.cell? ⟨w.heap.size + 1, 3, none⟩ = some (.slice none 0 0) := q1.cell 3
      have y0 : V9.cell? ⟨w.heap.size + 1 + 1, 0, none⟩ = some (.slice none 0 0) := q2.cell 0
      have y1 : V9.cell? ⟨w.heap.size + 1 + 1, 1, none⟩ = some (.slice none 0 0) := q2.cell 1
      have y2 : V9.cell? ⟨w.heap.size + 1 + 1, 2, none⟩ = some (.slice none 0 0) := q2.cell 2
      have l1 := q1.lt
      have l2 := q2.lt
      have f1 := q1.frozen0
      have f2 := q2.frozen0
      have hF : Fr (fun b => b = w.heap.size + 1 ∨ b = w.heap.size + 1 + 1) V9 (((((((V9.setCell ⟨w.heap.size + 1, 0, none⟩ (.slice Ar s.rooms.length cr)).setCell ⟨w.heap.size + 1, 1, none⟩ (.int .i64 s.days)).setCell ⟨w.heap.size + 1, 2, none⟩ (.slice Am s.moves.length cm)).setCell ⟨w.heap.size + 1, 3, none⟩ (.slice A3 L.length c3)).setCell ⟨w.heap.size + 1 + 1, 0, none⟩ (.slice A4 t.fs.length c4)).setCell ⟨w.heap.size + 1 + 1, 1, none⟩ (.slice A5 t.vs.length c5)).setCell ⟨w.heap.size + 1 + 1, 2, none⟩ (.slice A6 t.gs.length c6)) := (((((((Fr.refl (fun b => b = w.heap.size + 1 ∨ b = w.heap.size + 1 + 1) V9).andSet (.inl rfl)).andSet (.inl rfl)).andSet (.inl rfl)).andSet (.inl rfl)).andSet (.inr rfl)).andSet (.inr rfl)).andSet (.inr rfl)
      have Bz := hF.toBelow B_V9 B_V9.size (fun x hx => by omega)
      have p1 := ((((((q1.set_ 0 (.slice Ar s.rooms.length cr)).set_ 1 (.int .i64 s.days)).set_ 2 (.slice Am s.moves.length cm)).set_ 3 (.slice A3 L.length c3)).far (p := ⟨w.heap.size + 1 + 1, 0, none⟩) (by show w.heap.size + 1 ≠ w.heap.size + 1 + 1; omega) (.slice A4 t.fs.length c4)).far (p := ⟨w.heap.size + 1 + 1, 1, none⟩) (by show w.heap.size + 1 ≠ w.heap.size + 1 + 1; omega) (.slice A5 t.vs.length c5)).far (p := ⟨w.heap.size + 1 + 1, 2, none⟩) (by show w.heap.size + 1 ≠ w.heap.size + 1 + 1; omega) (.slice A6 t.gs.length c6)
      have p2 := ((((((q2.far (p := ⟨w.heap.size + 1, 0, none⟩) (by show w.heap.size + 1 + 1 ≠ w.heap.size + 1; omega) (.slice Ar s.rooms.length cr)).far (p := ⟨w.heap.size + 1, 1, none⟩) (by show w.heap.size + 1 + 1 ≠ w.heap.size + 1; omega) (.int .i64 s.days)).far (p := ⟨w.heap.size + 1, 2, none⟩) (by show w.heap.size + 1 + 1 ≠ w.heap.size + 1; omega) (.slice Am s.moves.length cm)).far (p := ⟨w.heap.size + 1, 3, none⟩) (by show w.heap.size + 1 + 1 ≠ w.heap.size + 1; omega) (.slice A3 L.length c3)).set_ 0 (.slice A4 t.fs.length c4)).set_ 1 (.slice A5 t.vs.length c5)).set_ 2 (.slice A6 t.gs.length c6)
      simp only [List.setIfInBounds_toArray, List.set_cons_zero, List.set_cons_succ] at p1 p2
      skip
      obtain ⟨cx, hcx⟩ : ∃ x, ckWs ⟨s.rooms, s.days, s.moves, L⟩ = x := ⟨_, rfl⟩
      rw [hcx]
      have HCX := Lib.hid hcx
      clear hcx
      have F3 : Fr (fun b => b = w.heap.size + 1 ∨ b = w.heap.size + 1 + 1) V7 ((((V9.setCell ⟨w.heap.size + 1, 0, none⟩ (.slice Ar s.rooms.length cr)).setCell ⟨w.heap.size + 1, 1, none⟩ (.int .i64 s.days)).setCell ⟨w.heap.size + 1, 2, none⟩ (.slice Am s.moves.length cm)).setCell ⟨w.heap.size + 1, 3, none⟩ (.slice A3 L.length c3)) := ((((F0).andSet (.inl rfl)).andSet (.inl rfl)).andSet (.inl rfl)).andSet (.inl rfl)
      have F4 : Fr (fun b => b = w.heap.size + 1 ∨ b = w.heap.size + 1 + 1) V7 (((((((V9.setCell ⟨w.heap.size + 1, 0, none⟩ (.slice Ar s.rooms.length cr)).setCell ⟨w.heap.size + 1, 1, none⟩ (.int .i64 s.days)).setCell ⟨w.heap.size + 1, 2, none⟩ (.slice Am s.moves.length cm)).setCell ⟨w.heap.size + 1, 3, none⟩ (.slice A3 L.length c3)).setCell ⟨w.heap.size + 1 + 1, 0, none⟩ (.slice A4 t.fs.length c4)).setCell ⟨w.heap.size + 1 + 1, 1, none⟩ (.slice A5 t.vs.length c5)).setCell ⟨w.heap.size + 1 + 1, 2, none⟩ (.slice A6 t.gs.length c6)) := ((F3.andSet (.inr rfl)).andSet (.inr rfl)).andSet (.inr rfl)
      refine mix_loud rfl ?_
      go_wp2_with fail
      refine ⟨inFx F3, ?_⟩
      repeat (refine mix_quiet rfl ?_; go_big_quiet_step (fail); refine wpQuiet_nil ?_)
      refine mix_loud rfl ?_
      go_wp2_with fail
      refine ⟨inFx F4, ?_⟩
      repeat (refine mix_quiet rfl ?_; go_big_quiet_step (fail); refine wpQuiet_nil ?_)
      refine mix_nil (r := [_]) rfl ?_
      by_cases hc0 : cx = 0
      · have e0 : (cx == 0) = true := by simp [hc0]
        have hlx : LivX s m t L := ⟨HT.out, HCK.out, HTR.out, HCN.out, HWG.out, by rw [← hc0]; exact HCX.out⟩
        have HLX := Lib.hid hlx
        rw [e0]
        clear hlx hc0
        have h1 := Lib.hid (hsl.fr hF (fun g hg _ e => by omega)).sl
        obtain ⟨rV', rcV', h2'⟩ := (htt.fr hF (fun g hg _ e => by omega)).tt
        have h2 := Lib.hid h2'
        obtain ⟨A7', c7', rA', rc', e7, hm7⟩ := IOwn.lays (hmt.fr hF (fun g hg _ e => by omega)) HMX.out
        injection e7 with e71 _ e72
        subst e71 e72
        have h3 := Lib.hid hm7
        clear h2' hm7 hsl htt hmt hF
        go_wp2
        refine bodyPost_ret (results_cctt_row rfl _ _ (w.heap.size + 1) (w.heap.size + 1 + 1) 26 31 _ _ (0, 0) (0, 0) _ _ rfl p1 rfl p2 rfl rfl rfl rfl rfl rfl) rfl ?_
        exact ⟨⟨.inr ⟨t, L, _, _, _, _, _, _, _, _, _, _, rV', rcV', rA', rc', rfl, HLX.out, h1.out, h2.out, h3.out⟩⟩, Bz⟩
      · have e0 : (cx == 0) = false := by simp [hc0]
        rw [e0]
        clear hc0
        go_wp2
        refine bodyPost_ret (results_cctt_row rfl _ _ (w.heap.size + 1) (w.heap.size + 1 + 1) 26 31 _ _ (0, 0) (0, 0) _ _ rfl p1 rfl p2 rfl rfl rfl rfl rfl rfl) rfl ?_
        exact ⟨⟨.inl ⟨_, _, _, _, _, _, _, _, _, _, _, _, _, _, _, _, _, _, _, _, _, _, rfl⟩⟩, Bz⟩
  · have e0 : (ckWs s == 0) = false := by simp [hck]
    have e1 : (ckWs s != 0) = true := by simp [hck]
    generalize ckWs s = cc at *
    clear hck
    have z0 : V2.cell? ⟨w.heap.size + 1, 0, none⟩ = some (.slice none 0 0) := q1.cell 0
    have z1 : V2.cell? ⟨w.heap.size + 1, 1, none⟩ = some (.int .i64 0) := q1.cell 1
    have z2 : V2.cell? ⟨w.heap.size + 1, 2, none⟩ = some (.slice none 0 0) := q1.cell 2
    have z3 : V2.cell? ⟨w.heap.size + 1, 3, none⟩ = some (.slice none 0 0) := q1.cell 3
    have y0 : V2.cell? ⟨w.heap.size + 1 + 1, 0, none⟩ = some (.slice none 0 0) := q2.cell 0
    have y1 : V2.cell? ⟨w.heap.size + 1 + 1, 1, none⟩ = some (.slice none 0 0) := q2.cell 1
    have y2 : V2.cell? ⟨w.heap.size + 1 + 1, 2, none⟩ = some (.slice none 0 0) := q2.cell 2
    have l1 := q1.lt
    have l2 := q2.lt
    have f1 := q1.frozen0
    have f2 := q2.frozen0
    go_upto_region 2 with fail
    have hF : Fr (fun b => b = w.heap.size + 1 ∨ b = w.heap.size + 1 + 1) V2 (((((((V2.setCell ⟨w.heap.size + 1, 0, none⟩ (.slice Ar s.rooms.length cr)).setCell ⟨w.heap.size + 1, 1, none⟩ (.int .i64 s.days)).setCell ⟨w.heap.size + 1, 2, none⟩ (.slice Am s.moves.length cm)).setCell ⟨w.heap.size + 1, 3, none⟩ (.slice Aw s.wgs.length cw)).setCell ⟨w.heap.size + 1 + 1, 0, none⟩ (.slice none 0 0)).setCell ⟨w.heap.size + 1 + 1, 1, none⟩ (.slice none 0 0)).setCell ⟨w.heap.size + 1 + 1, 2, none⟩ (.slice none 0 0)) := (((((((Fr.refl (fun b => b = w.heap.size + 1 ∨ b = w.heap.size + 1 + 1) V2).andSet (.inl rfl)).andSet (.inl rfl)).andSet (.inl rfl)).andSet (.inl rfl)).andSet (.inr rfl)).andSet (.inr rfl)).andSet (.inr rfl)
    have Bz := hF.toBelow B_V2 B_V2.size (fun x hx => by omega)
    have p1 := ((((((q1.set_ 0 (.slice Ar s.rooms.length cr)).set_ 1 (.int .i64 s.days)).set_ 2 (.slice Am s.moves.length cm)).set_ 3 (.slice Aw s.wgs.length cw)).far (p := ⟨w.heap.size + 1 + 1, 0, none⟩) (by show w.heap.size + 1 ≠ w.heap.size + 1 + 1; omega) (.slice none 0 0)).far (p := ⟨w.heap.size + 1 + 1, 1, none⟩) (by show w.heap.size + 1 ≠ w.heap.size + 1 + 1; omega) (.slice none 0 0)).far (p := ⟨w.heap.size + 1 + 1, 2, none⟩) (by show w.heap.size + 1 ≠ w.heap.size + 1 + 1; omega) (.slice none 0 0)
    have p2 := ((((((q2.far (p := ⟨w.heap.size + 1, 0, none⟩) (by show w.heap.size + 1 + 1 ≠ w.heap.size + 1; omega) (.slice Ar s.rooms.length cr)).far (p := ⟨w.heap.size + 1, 1, none⟩) (by show w.heap.size + 1 + 1 ≠ w.heap.size + 1; omega) (.int .i64 s.days)).far (p := ⟨w.heap.size + 1, 2, none⟩) (by show w.heap.size + 1 + 1 ≠ w.heap.size + 1; omega) (.slice Am s.moves.length cm)).far (p := ⟨w.heap.size + 1, 3, none⟩) (by show w.heap.size + 1 + 1 ≠ w.heap.size + 1; omega) (.slice Aw s.wgs.length cw)).set_ 0 (.slice none 0 0)).set_ 1 (.slice none 0 0)).set_ 2 (.slice none 0 0)
    simp only [List.setIfInBounds_toArray, List.set_cons_zero, List.set_cons_succ] at p1 p2
    go_wp2
    refine bodyPost_ret (results_cctt_row rfl _ _ (w.heap.size + 1) (w.heap.size + 1 + 1) 26 31 _ _ (0, 0) (0, 0) _ _ rfl p1 rfl p2 rfl rfl rfl rfl rfl rfl) rfl ?_
    exact ⟨⟨.inl ⟨_, _, _, _, _, _, _, _, _, _, _, _, _, _, _, _, _, _, _, _, _, _, rfl⟩⟩, Bz⟩
end Go.Proofs.YthihdiilokdidaaGreat
end

section
namespace Go.Proofs.YthihdiilokdidaaGreat

def bitO (m : Nat) : Nat → Bool := fun i => decide (m / 2 ^ i % 2 = 1)
theorem bitO_zero : bitO 0 = off0 := by
  funext i
  unfold bitO off0
  rw [Nat.zero_div]
  rfl
section
variable {s : Ws} {m : Nat} {t : Tt} {L : List Wg}
theorem stk_wgL (s : Ws) (L : List Wg) (F : Nat → Int) (V : Nat → Nat → Int) (G : Nat → Int) (r d : Nat) : stk (s.wg L).wo F V G r d = stk s.wo F V G r d := (SameMv.wgs s.wo s.wgs L).stk F V G r d
theorem LivX.wo (h : LivX s m t L) : WoOk s.wo ∧ s.days = (s.wo.days : Int) := ckWs_iff.1 h.ck
theorem LivX.wox (h : LivX s m t L) : WoOk (s.wg L).wo ∧ (s.wg L).days = ((s.wg L).wo.days : Int) := ckWs_iff.1 h.ckx
theorem LivX.sm (h : LivX s m t L) : (s.wg L).rooms.length ≤ 1000 ∧ (s.wg L).moves.length ≤ 1000 ∧ (s.wg L).wgs.length ≤ 1000 := by
  have h1 := h.wox.1.len
  have a : (s.wg L).wo.rooms.length = (s.wg L).rooms.length := rfl
  have b : (s.wg L).wo.moves.length = (s.wg L).moves.length := rfl
  have c : (s.wg L).wo.wgs.length = (s.wg L).wgs.length := rfl
  omega
theorem LivX.tru' (h : LivX s m t L) : TruF s.wo t.F t.V t.G := ((truT_iff h.wo.2).1 h.tru).2.2
theorem LivX.good (h : LivX s m t L) : GoodF (s.wg L).wo (bitO m) t.F t.V t.G where
  tru := ⟨h.tru'.fst, h.tru'.vap, h.tru'.mov⟩
  can := fun r d hr hd => by rw [stk_wgL]; exact canT_iff.1 h.can r d hr hd
  agr := fun i hi ho => by
    have hl := h.wg.len
    have hi2 : i < s.wgs.length := by rw [← hl]; exact hi
    obtain ⟨h1, h2, h3⟩ := h.wg.ok i hi2
    have hz : m / 2 ^ i % 2 = 0 := by
      have := of_decide_eq_false ho
      omega
    have h4 := h3 hz
    show inR (stk (s.wg L).wo t.F t.V t.G (gWg L i).room.toNat (gWg L i).day.toNat) (gWg L i).g
    rw [stk_wgL, h1, h2]
    exact h4
theorem LivX.good0 (h : LivX s 0 t L) : Good (s.wg L).wo off0 := ⟨_, _, _, bitO_zero ▸ h.good⟩
theorem LivX.stE0 (h : LivX s 0 t L) : stE (s.wg L) = 0 := stE_zero.2 ⟨h.ckx, h.good0⟩
theorem LivX.stk_in (h : LivX s 0 t L) {r d : Nat} : StkZ (s.wg L).wo off0 r d (stk s.wo t.F t.V t.G r d) := ⟨_, _, _, bitO_zero ▸ h.good, stk_wgL _ _ _ _ _ _ _⟩
theorem LivX.len (h : LivX s m t L) : L.length = s.wgs.length := h.wg.len
end
def endV (lo hi : Int) : Nat → Int
  | 0 => lo
  | 1 => hi
  | 2 => lo - 1
  | _ => hi + 1
theorem stkR_bd {w : Wo} (hw : WoOk w) (h : Good w off0) {r d : Nat} (hr : r < w.rooms.length) (hd : d < w.days) : 0 ≤ (stkR w off0 r d).lo ∧ (stkR w off0 r d).lo ≤ (stkR w off0 r d).hi ∧ (stkR w off0 r d).hi ≤ 1000000 := by
  have he := good_ends hw h hr hd
  have h2 := hw.days
  have key : ∀ z, StkZ w off0 r d z → 0 ≤ z ∧ z ≤ 1000000 := fun z ⟨F, V, G, hg, e⟩ => by
    have a := hg.can r d hr hd
    have b := stk_le hw hg.tru hr d hd
    omega
  have a := key _ he.1
  have b := key _ he.2.1
  have c := he.2.2 _ he.1
  omega
end Go.Proofs.YthihdiilokdidaaGreat
end

section
namespace Go.Proofs.YthihdiilokdidaaGreat

def cnt (O : Nat → Bool) (n : Nat) : Nat → Nat
  | 0 => 0
  | f + 1 => (if O n then 1 else 0) + cnt O (n + 1) f
theorem cnt_zero {O : Nat → Bool} : ∀ {f n : Nat}, cnt O n f = 0 → ∀ j, n ≤ j → j < n + f → O j = false
  | 0, n, _, j, h1, h2 => by omega
  | f + 1, n, h, j, h1, h2 => by
    rw [cnt] at h
    cases ho : O n
    · rw [ho] at h
      rcases Nat.eq_or_lt_of_le h1 with he | hlt
      · subst he; exact ho
      · exact cnt_zero (f := f) (n := n + 1) (by simpa using h) j hlt (by omega)
    · rw [ho] at h; simp at h
theorem setO_self {o : Nat → Bool} {n : Nat} : setO o n n = true := by simp [setO]
theorem setO_ne {o : Nat → Bool} {n j : Nat} (h : j ≠ n) : setO o n j = o j := by simp [setO, h]
theorem pick_ne {A : (Nat → Bool) → Bool} {N many : Nat} {O : Nat → Bool} (hA : ∀ o, (∀ j, j < N → o j = O j) → A o = true) : ∀ (f n : Nat) (lv : List Int) (o : Nat → Bool), n + f = N → (∀ j, j < n → o j = O j) → (∀ j, n ≤ j → o j = false) → lv.length + cnt O n f = many → pickL A many f lv o n ≠ [] := by
  intro f
  induction f with
  | zero =>
    intro n lv o h1 h2 h3 h4
    unfold pickL
    rw [cnt] at h4
    rw [if_pos (by omega), if_pos (hA o (fun j hj => h2 j (by omega)))]
    simp
  | succ f ih =>
    intro n lv o h1 h2 h3 h4
    by_cases hm : lv.length = many
    · unfold pickL
      have hz := cnt_zero (show cnt O n (f + 1) = 0 by omega)
      rw [if_pos hm, if_pos (hA o (fun j hj => by
        rcases Nat.lt_or_ge j n with h | h
        · exact h2 j h
        · rw [h3 j h, hz j h (by omega)]))]
      simp
    · unfold pickL
      rw [if_neg hm, loopL_succ]
      rw [cnt] at h4
      cases ho : O n
      · rw [ho] at h4
        have := ih (n + 1) lv o (by omega) (fun j hj => by
          rcases Nat.lt_succ_iff_lt_or_eq.1 hj with h | h
          · exact h2 j h
          · subst h; rw [h3 j (Nat.le_refl _), ho]) (fun j hj => h3 j (by omega)) (by simpa using h4)
        unfold pickL at this
        rw [if_neg hm] at this
        simp [this]
      · rw [ho] at h4
        have := ih (n + 1) (lv ++ [(n : Int)]) (setO o n) (by omega) (fun j hj => by
          rcases Nat.lt_succ_iff_lt_or_eq.1 hj with h | h
          · rw [setO_ne (by omega)]; exact h2 j h
          · subst h; rw [setO_self, ho]) (fun j hj => by rw [setO_ne (by omega)]; exact h3 j (by omega)) (by simp at h4 ⊢; omega)
        simp [this]
theorem pick_mem {A : (Nat → Bool) → Bool} {many : Nat} {L : List Int} : ∀ (f n : Nat) (lv : List Int) (o : Nat → Bool), (∀ j : Nat, o j = true ↔ (j : Int) ∈ lv) → L ∈ pickL A many f lv o n → ∃ o', A o' = true ∧ (∀ j : Nat, o' j = true ↔ (j : Int) ∈ L) := by
  have hset : ∀ (n : Nat) (lv : List Int) (o : Nat → Bool), (∀ j : Nat, o j = true ↔ (j : Int) ∈ lv) → ∀ j : Nat, setO o n j = true ↔ (j : Int) ∈ lv ++ [(n : Int)] := fun n lv o h j => by
    by_cases hj : j = n
    · subst hj; simp [setO_self]
    · rw [setO_ne hj, h j]; simp; omega
  intro f
  induction f with
  | zero =>
    intro n lv o h hL
    unfold pickL at hL
    split at hL
    · split at hL
      · rename_i ha
        rw [List.mem_singleton] at hL
        subst hL; exact ⟨o, ha, h⟩
      · cases hL
    · simp [loopL] at hL
  | succ f ih =>
    intro n lv o h hL
    unfold pickL at hL
    split at hL
    · split at hL
      · rename_i ha
        rw [List.mem_singleton] at hL
        subst hL; exact ⟨o, ha, h⟩
      · cases hL
    · rename_i hm
      rw [loopL_succ, List.mem_append] at hL
      rcases hL with hL | hL
      · exact ih (n + 1) _ _ (hset n lv o h) hL
      · exact ih (n + 1) lv o h (by unfold pickL; rw [if_neg hm]; exact hL)

theorem pick_up {A : (Nat → Bool) → Bool} {many : Nat} {L : List Int} : ∀ (f n : Nat) (lv : List Int) (o : Nat → Bool), L ∈ pickL A many f lv o n → ∃ m : List Int, L = lv ++ m ∧ m.Pairwise (· < ·) ∧ ∀ x ∈ m, (n : Int) ≤ x ∧ x < (n : Int) + f := by
  intro f
  induction f with
  | zero =>
    intro n lv o hL
    unfold pickL at hL
    split at hL
    · split at hL
      · rw [List.mem_singleton] at hL
        exact ⟨[], by simp [hL], List.Pairwise.nil, fun x hx => by cases hx⟩
      · cases hL
    · simp [loopL] at hL
  | succ f ih =>
    intro n lv o hL
    unfold pickL at hL
    split at hL
    · split at hL
      · rw [List.mem_singleton] at hL
        exact ⟨[], by simp [hL], List.Pairwise.nil, fun x hx => by cases hx⟩
      · cases hL
    · rename_i hm
      rw [loopL_succ, List.mem_append] at hL
      rcases hL with hL | hL
      · obtain ⟨m, e, h1, h2⟩ := ih (n + 1) _ _ hL
        refine ⟨(n : Int) :: m, by rw [e]; simp, List.pairwise_cons.2 ⟨fun x hx => by have := h2 x hx; omega, h1⟩, fun x hx => ?_⟩
        rcases List.mem_cons.1 hx with rfl | hx
        · omega
        · have := h2 x hx; omega
      · obtain ⟨m, e, h1, h2⟩ := ih (n + 1) lv o (by unfold pickL; rw [if_neg hm]; exact hL)
        exact ⟨m, e, h1, fun x hx => by have := h2 x hx; omega⟩
def outL (L : List Int) : Nat → Bool := fun j => decide ((j : Int) ∈ L)
theorem good_off {w : Wo} {o o' : Nat → Bool} (h : ∀ j, j < w.wgs.length → o j = o' j) : Good w o ↔ Good w o' := by
  have key : ∀ o o' : Nat → Bool, (∀ j, j < w.wgs.length → o j = o' j) → Good w o → Good w o' := fun o o' h ⟨F, V, G, hg⟩ => ⟨F, V, G, hg.tru, hg.can, fun i hi ho => hg.agr i hi (by rw [h i hi]; exact ho)⟩
  exact ⟨key o o' h, key o' o (fun j hj => (h j hj).symm)⟩
structure Told (s : Ws) (L : List Int) : Prop where
  good : Good s.wo (outL L)
  up : L.Pairwise (· < ·)
  bd : ∀ x ∈ L, 0 ≤ x ∧ x < (s.wgs.length : Int)
theorem listsL_told {s : Ws} {many : Nat} {L : List Int} (h : L ∈ listsL s many) : Told s L ∧ L.length = many := by
  unfold listsL at h
  obtain ⟨m, e, h1, h2⟩ := pick_up _ _ _ _ h
  obtain ⟨o', ha, ho⟩ := pick_mem s.wgs.length 0 [] off0 (fun j => by simp [off0]) h
  simp only [List.nil_append] at e
  subst e
  refine ⟨⟨?_, h1, fun x hx => by have := h2 x hx; omega⟩, listsL_mem (s := s) (by unfold listsL; exact h)⟩
  refine (good_off (fun j _ => ?_)).1 (truB_iff.1 ha)
  unfold outL
  cases hj : o' j
  · symm; rw [decide_eq_false_iff_not]
    intro hm; rw [(ho j).2 hm] at hj; cases hj
  · symm; rw [decide_eq_true_eq]; exact (ho j).1 hj
theorem listsL_ne {s : Ws} {O : Nat → Bool} (h : Good s.wo O) : listsL s (cnt O 0 s.wgs.length) ≠ [] := by
  unfold listsL
  refine pick_ne (N := s.wgs.length) (O := O) (fun o ho => truB_iff.2 ((good_off (fun j hj => ho j hj)).2 h)) s.wgs.length 0 [] off0 (by omega) (fun j hj => by omega) (fun _ _ => rfl) (by simp)
theorem cnt_le (O : Nat → Bool) : ∀ f n, cnt O n f ≤ f
  | 0, _ => Nat.le_refl _
  | f + 1, n => by
    have := cnt_le O f (n + 1)
    rw [cnt]; split <;> omega
theorem fewK_le {s : Ws} {O : Nat → Bool} (h : Good s.wo O) : 0 ≤ fewK s ∧ fewK s ≤ (cnt O 0 s.wgs.length : Nat) := by
  have hc := cnt_le O s.wgs.length 0
  have hne := listsL_ne h
  have hpos : decide (0 < (listsL s (cnt O 0 s.wgs.length)).length) = true := by
    rw [decide_eq_true_eq]; exact List.length_pos_iff.2 hne
  have key : ∀ n k : Nat, k < n → (fun k => decide (0 < (listsL s k).length)) k = true → 0 ≤ firstOf (fun k => decide (0 < (listsL s k).length)) n ∧ firstOf (fun k => decide (0 < (listsL s k).length)) n ≤ k := by
    intro n
    induction n with
    | zero => intro k hk; omega
    | succ n ih =>
      intro k hk hf
      rw [firstOf]
      rcases Nat.lt_succ_iff_lt_or_eq.1 hk with hlt | rfl
      · have := ih k hlt hf
        rw [if_neg (by omega)]; exact this
      · by_cases hn : firstOf (fun k => decide (0 < (listsL s k).length)) k < 0
        · rw [if_pos hn, if_pos hf]; omega
        · rw [if_neg hn]
          refine ⟨by omega, ?_⟩
          have hb : ∀ n, firstOf (fun k => decide (0 < (listsL s k).length)) n < (n : Int) := by
            intro n
            induction n with
            | zero => simp [firstOf]
            | succ n ih => rw [firstOf]; split <;> (try split) <;> omega
          have := hb k; omega
  exact key _ _ (by omega) hpos
theorem firstOf_hit {f : Nat → Bool} : ∀ {n : Nat}, 0 ≤ firstOf f n → f (firstOf f n).toNat = true ∧ (firstOf f n).toNat < n
  | 0, h => by simp [firstOf] at h
  | n + 1, h => by
    rw [firstOf] at h ⊢
    by_cases hn : firstOf f n < 0
    · rw [if_pos hn] at h ⊢
      by_cases hf : f n = true
      · rw [if_pos hf]; simp [hf]
      · rw [if_neg hf] at h; omega
    · rw [if_neg hn] at h ⊢
      have := firstOf_hit (f := f) (n := n) (by omega)
      exact ⟨this.1, by omega⟩
theorem headD_mem {α : Type} {l : List α} (z : α) (h : l ≠ []) : l.headD z ∈ l := by cases l with
  | nil => exact absurd rfl h
  | cons a l => simp
structure FwIs (s : Ws) : Prop where
  told : Told s (fwL s)
  min : ∀ O, Good s.wo O → (fwL s).length ≤ cnt O 0 s.wgs.length
theorem fw_ok {s : Ws} (hc : ckWs s = 0) (h : fwE s = 0) : FwIs s := by
  have hk : 0 ≤ fewK s := by
    unfold fwE at h
    rw [if_pos hc] at h
    by_cases hk : 0 ≤ fewK s
    · exact hk
    · rw [if_neg hk] at h; cases h
  have hh := (firstOf_hit (f := fun k => decide (0 < (listsL s k).length)) (n := s.wgs.length + 1) hk).1
  have hh' : 0 < (listsL s (fewK s).toNat).length := of_decide_eq_true hh
  have hm : fwL s ∈ listsL s (fewK s).toNat := by
    unfold fwL
    rw [if_pos h]
    exact headD_mem _ (List.length_pos_iff.1 hh')
  obtain ⟨ht, hl⟩ := listsL_told hm
  refine ⟨ht, fun O hO => ?_⟩
  have := fewK_le hO
  omega
theorem fw_yes {s : Ws} {O : Nat → Bool} (hc : ckWs s = 0) (h : Good s.wo O) : fwE s = 0 := by
  unfold fwE
  rw [if_pos hc, if_pos (fewK_le h).1]
theorem cnt_off0 : ∀ f n, cnt off0 n f = 0
  | 0, _ => rfl
  | f + 1, n => by rw [cnt, cnt_off0 f]; rfl
theorem fw_nil {s : Ws} (hc : ckWs s = 0) : (fwE s = 0 ∧ (fwL s).length = 0) ↔ Good s.wo off0 := by
  constructor
  · rintro ⟨h, h0⟩
    have := (fw_ok hc h).told.good
    rw [List.length_eq_zero_iff.1 h0] at this
    exact (good_off (fun j _ => by simp [outL, off0])).1 this
  · intro h
    have hf := fw_yes hc h
    have := (fw_ok hc hf).min off0 h
    rw [cnt_off0] at this
    exact ⟨hf, by omega⟩
end Go.Proofs.YthihdiilokdidaaGreat
end

section
namespace Go.Proofs.YthihdiilokdidaaGreat
section
variable {s : Ws} {b : Bk}
theorem mis_ok (hc : ckWs s = 0) (hb : bookB s b = true) (hg : Good s.wo off0) {r d : Nat} (hr : r < s.rooms.length) (hd : d < s.wo.days) : misE s b r d = 0 ∧ misR s b r d = ⟨saysF s.wo b r d - (stkR s.wo off0 r d).hi, saysF s.wo b r d - (stkR s.wo off0 r d).lo⟩ := by
  have hdd := (ckWs_iff.1 hc).2
  have h0 : misE s b r d = 0 := by
    unfold misE
    rw [if_pos hc, hb, inB_iff.2 ⟨by omega, by omega⟩, inB_iff.2 ⟨by omega, by omega⟩, truB_iff.2 hg]
    rfl
  refine ⟨h0, ?_⟩
  unfold misR
  rw [if_pos h0]
  rfl
structure LostIs (s : Ws) (b : Bk) (r d : Nat) : Prop where
  v : losV s b = ((r : Int), (d : Int))
  hr : r < s.rooms.length
  hd : d < s.wo.days
  hit : lostB s b d r = true
  row : ∀ i, i < r → lostB s b d i = false
  day : ∀ e i, e < d → i < s.rooms.length → lostB s b e i = false
end
end Go.Proofs.YthihdiilokdidaaGreat
end

section
namespace Go.Proofs.YthihdiilokdidaaGreat
open Go.RowKit
attribute [local go_sem] Ex.cell? Ex.frozen?

theorem mov_ok {w : Wo} (h : WoOk w) : MovesOk w := h.moves
section
variable {s : Ws} {t : Tt} {L : List Wg}
theorem liv_tru (h : LivX s 0 t L) : truT (s.wg L) t = true := by
  have h1 := (truT_iff h.wo.2).1 h.tru
  exact (truT_iff h.wox.2).2 ⟨h1.1, h1.2.1, ⟨h1.2.2.fst, h1.2.2.vap, h1.2.2.mov⟩⟩
theorem liv_can (h : LivX s 0 t L) : canT (s.wg L) t = true := canT_iff.2 fun r d hr hd => by rw [stk_wgL]; exact canT_iff.1 h.can r d hr hd
structure LivIs (s : Ws) (t : Tt) (L : List Wg) : Prop where
  e : playE (s.wg L) t = 0
  b : playB (s.wg L) t = true
  p : proveT (s.wg L) t = true
  f : fwE (s.wg L) = 0
  l : (fwL (s.wg L)).length = 0
theorem liv_is (h : LivX s 0 t L) : LivIs s t L := by
  have he : playE (s.wg L) t = 0 := by unfold playE; rw [if_pos h.ckx, if_pos (liv_tru h)]
  have hb : playB (s.wg L) t = true := by unfold playB; rw [he, liv_can h]; rfl
  have hf := (fw_nil h.ckx).2 h.good0
  refine ⟨he, hb, ?_, hf.1, hf.2⟩
  unfold proveT
  rw [hb, Bool.true_and, allTo_iff]
  intro k hk
  have := h.good.agr k hk (by rw [bitO_zero]; rfl)
  exact inB_iff.2 this
theorem book_ok {b : Bk} (h1 : b.fs.length = s.rooms.length) (h2 : b.gs.length = s.moves.length) (h3 : ∀ k, k < s.rooms.length → 0 ≤ gI b.fs k ∧ gI b.fs k ≤ 2000) (h4 : ∀ k, k < s.moves.length → 0 ≤ gI b.gs k ∧ gI b.gs k ≤ 2000) : bookB (s.wg L) b = true := bookB_iff.2 ⟨h1, h2, h3, h4⟩
def fstS (t : Tt) (k : Nat) : Int := esum t.F (List.range k)
def lstS (s : Ws) (t : Tt) (k : Nat) : Int := esum (fun r : Nat => stk s.wo t.F t.V t.G r (s.wo.days - 1) + esum (t.V r) (List.range s.wo.days)) (List.range k)
def vapS (t : Tt) (r k : Nat) : Int := esum (t.V r) (List.range k)
def srcS (s : Ws) (t : Tt) (k : Nat) : Int := esum (fun i : Nat => if (gMv s.moves i).src < 0 then t.G i else 0) (List.range k)
def dstS (s : Ws) (t : Tt) (k : Nat) : Int := esum (fun i : Nat => if (gMv s.moves i).dst < 0 then t.G i else 0) (List.range k)
theorem fstS_succ (t : Tt) (k : Nat) : fstS t (k + 1) = fstS t k + t.F k := by unfold fstS; rw [List.range_succ, esum_app]; simp [esum]
theorem lstS_succ (s : Ws) (t : Tt) (k : Nat) : lstS s t (k + 1) = lstS s t k + (stk s.wo t.F t.V t.G k (s.wo.days - 1) + vapS t k s.wo.days) := by unfold lstS; rw [List.range_succ, esum_app]; simp [esum, vapS]
theorem vapS_succ (t : Tt) (r k : Nat) : vapS t r (k + 1) = vapS t r k + t.V r k := by unfold vapS; rw [List.range_succ, esum_app]; simp [esum]
theorem srcS_succ (s : Ws) (t : Tt) (k : Nat) : srcS s t (k + 1) = srcS s t k + (if (gMv s.moves k).src < 0 then t.G k else 0) := by unfold srcS; rw [List.range_succ, esum_app]; simp [esum]
theorem dstS_succ (s : Ws) (t : Tt) (k : Nat) : dstS s t (k + 1) = dstS s t k + (if (gMv s.moves k).dst < 0 then t.G k else 0) := by unfold dstS; rw [List.range_succ, esum_app]; simp [esum]
theorem all_same (h : LivX s 0 t L) : fstS t s.rooms.length + srcS s t s.moves.length = lstS s t s.rooms.length + dstS s t s.moves.length := conserve (w := s.wo) (F := t.F) (V := t.V) (G := t.G) (mov_ok h.wo.1)
structure LivBd (s : Ws) (t : Tt) : Prop where
  F : ∀ r, r < s.rooms.length → 0 ≤ t.F r ∧ t.F r ≤ 2000
  V : ∀ r d, r < s.rooms.length → d < s.wo.days → 0 ≤ t.V r d ∧ t.V r d ≤ 50
  G : ∀ i, i < s.moves.length → 0 ≤ t.G i ∧ t.G i ≤ 2000
  S : ∀ r d, r < s.rooms.length → d < s.wo.days → 0 ≤ stk s.wo t.F t.V t.G r d ∧ stk s.wo t.F t.V t.G r d ≤ 1000000
theorem liv_bd (h : LivX s 0 t L) : LivBd s t := by
  have hw := h.wo.1
  have ht := h.tru'
  refine ⟨fun r hr => ?_, fun r d hr hd => ?_, fun i hi => ?_, fun r d hr hd => ?_⟩
  · have h1 := ht.fst r hr; have h2 := hw.rooms r hr; unfold inR at h1; omega
  · have h1 := ht.vap r d hr hd; have h2 := hw.rooms r hr; unfold inR at h1; omega
  · have h1 := ht.mov i hi; have h2 := hw.grams i hi; unfold inR at h1; omega
  · have h1 := stkR_bd h.wox.1 h.good0 (r := r) (d := d) hr hd
    have h2 := (good_ends h.wox.1 h.good0 (r := r) (d := d) hr hd).2.2 _ h.stk_in
    omega
theorem fstS_bd (h : LivBd s t) : ∀ {k : Nat}, k ≤ s.rooms.length → 0 ≤ fstS t k ∧ fstS t k ≤ 2000 * (k : Int)
  | 0, _ => by simp [fstS, esum]
  | k + 1, hk => by have := fstS_bd h (k := k) (by omega); have := h.F k (by omega); rw [fstS_succ]; omega
theorem vapS_bd (h : LivBd s t) {r : Nat} (hr : r < s.rooms.length) : ∀ {k : Nat}, k ≤ s.wo.days → 0 ≤ vapS t r k ∧ vapS t r k ≤ 50 * (k : Int)
  | 0, _ => by simp [vapS, esum]
  | k + 1, hk => by have := vapS_bd h hr (k := k) (by omega); have := h.V r k hr (by omega); rw [vapS_succ]; omega
theorem lstS_bd (h : LivBd s t) (hd : 1 ≤ s.wo.days ∧ s.wo.days ≤ 6) : ∀ {k : Nat}, k ≤ s.rooms.length → 0 ≤ lstS s t k ∧ lstS s t k ≤ 1000300 * (k : Int)
  | 0, _ => by simp [lstS, esum]
  | k + 1, hk => by
    have := lstS_bd h hd (k := k) (by omega)
    have := h.S k (s.wo.days - 1) (by omega) (by omega)
    have := vapS_bd h (r := k) (by omega) (Nat.le_refl s.wo.days)
    rw [lstS_succ]; omega
theorem srcS_bd (h : LivBd s t) : ∀ {k : Nat}, k ≤ s.moves.length → 0 ≤ srcS s t k ∧ srcS s t k ≤ 2000 * (k : Int)
  | 0, _ => by simp [srcS, esum]
  | k + 1, hk => by have := srcS_bd h (k := k) (by omega); have := h.G k (by omega); rw [srcS_succ]; split <;> omega
theorem dstS_bd (h : LivBd s t) : ∀ {k : Nat}, k ≤ s.moves.length → 0 ≤ dstS s t k ∧ dstS s t k ≤ 2000 * (k : Int)
  | 0, _ => by simp [dstS, esum]
  | k + 1, hk => by have := dstS_bd h (k := k) (by omega); have := h.G k (by omega); rw [dstS_succ]; split <;> omega
structure LookIs (s : Ws) (t : Tt) (L : List Wg) (b : Bk) (r d : Nat) : Prop where
  e : misE (s.wg L) b r d = 0
  m : misR (s.wg L) b r d = ⟨saysF s.wo b r d - (stkR (s.wg L).wo off0 r d).hi, saysF s.wo b r d - (stkR (s.wg L).wo off0 r d).lo⟩
  lo : (stkR (s.wg L).wo off0 r d).lo ≤ stk s.wo t.F t.V t.G r d
  hi : stk s.wo t.F t.V t.G r d ≤ (stkR (s.wg L).wo off0 r d).hi
theorem look_is (h : LivX s 0 t L) {b : Bk} (hb : bookB (s.wg L) b = true) {r d : Nat} (hr : r < s.rooms.length) (hd : d < s.wo.days) : LookIs s t L b r d := by
  obtain ⟨h1, h2⟩ := mis_ok h.ckx hb h.good0 (r := r) (d := d) hr hd
  have h3 := (good_ends h.wox.1 h.good0 (r := r) (d := d) hr hd).2.2 _ h.stk_in
  exact ⟨h1, h2, h3.1, h3.2⟩
end
end Go.Proofs.YthihdiilokdidaaGreat
end

section
namespace Go.Proofs.YthihdiilokdidaaGreat
open Go.RowKit
attribute [local go_sem] Ex.cell? Ex.frozen?

def saysT (s : Ws) (b : Bk) (r d : Nat) : Int := gI b.fs r + esum (fun e : Nat => comes s.wo (gI b.gs) r e s.moves.length) (List.range d)
theorem saysT_succ (s : Ws) (b : Bk) (r d : Nat) : saysT s b r (d + 1) = saysT s b r d + comes s.wo (gI b.gs) r d s.moves.length := by
  unfold saysT
  rw [List.range_succ, esum_app]
  simp only [esum]
  omega
theorem saysT_bd {s : Ws} {b : Bk} {r : Nat} (h1 : ∀ k, k < s.rooms.length → 0 ≤ gI b.fs k ∧ gI b.fs k ≤ 2000) (h2 : ∀ k, k < s.moves.length → 0 ≤ gI b.gs k ∧ gI b.gs k ≤ 2000) (hr : r < s.rooms.length) (hm : s.moves.length ≤ 12) : ∀ d : Nat, -(24000 * (d : Int)) ≤ saysT s b r d ∧ saysT s b r d ≤ 2000 + 24000 * d
  | 0 => by have := h1 r hr; unfold saysT; simp only [List.range_zero, esum]; omega
  | d + 1 => by
    have h3 := saysT_bd h1 h2 hr hm d
    have h4 := comes_bd s.wo (G := gI b.gs) r d s.moves.length h2
    rw [saysT_succ]
    omega
set_option maxRecDepth 100000 in
set_option maxHeartbeats 1600000 in
theorem Says_ref (s : Ws) (Ar Am Aw : Option Addr) (cr cm cw : Nat) (w : World) (hs : WsIn w w.heap.size s Ar Am Aw) (hw : WoOk s.wo) (b : Bk) (Af Ag : Option Addr) (cf cg : Nat) (hAf : SlAt w w.heap.size 1 Af b.fs.length (fI b.fs)) (hAg : SlAt w w.heap.size 1 Ag b.gs.length (fI b.gs)) (hB : b.fs.length = s.rooms.length ∧ b.gs.length = s.moves.length ∧ (∀ k, k < s.rooms.length → 0 ≤ gI b.fs k ∧ gI b.fs k ≤ 2000) ∧ ∀ k, k < s.moves.length → 0 ≤ gI b.gs k ∧ gI b.gs k ≤ 2000) (r d : Nat) (hr : r < s.rooms.length) (hdd : d < s.wo.days) :
    Calls Tryz.prog 16 #[.agg #[.slice Ar s.rooms.length cr, .int .i64 s.days, .slice Am s.moves.length cm, .slice Aw s.wgs.length cw], .agg #[.slice Af b.fs.length cf, .slice Ag b.gs.length cg], .int .i64 (r : Int), .int .i64 (d : Int)] w fun e w' => e = .returned (.int .i64 (saysF s.wo b r d)) ∧ Below w.heap.size w w' := by
  obtain ⟨h1, h2, hb1', hb2'⟩ := hB
  have HB1 := Lib.hid hb1'
  have HB2 := Lib.hid hb2'
  have HL1 := Lib.hid h1
  have HL2 := Lib.hid h2
  clear h1 h2 hb1' hb2'
  obtain ⟨D, hD⟩ : ∃ D, s.wo.days = D := ⟨_, rfl⟩
  have hD6 : 1 ≤ D ∧ D ≤ 6 := by have := hw.days; omega
  have hr3 : s.rooms.length ≤ 3 := hw.len.2.1
  have hm12 : s.moves.length ≤ 12 := hw.len.2.2.1
  rw [hD] at hdd
  clear hD
  have hb1 := ex_alloc (ex_alloc (Below.refl w.heap.size w) (.cells #[.slice Ar s.rooms.length cr, .int .i64 s.days, .slice Am s.moves.length cm, .slice Aw s.wgs.length cw] 26)) (.cells #[.slice Af b.fs.length cf, .slice Ag b.gs.length cg] 54)
  have q0 : Blk ((w.alloc (.cells #[.slice Ar s.rooms.length cr, .int .i64 s.days, .slice Am s.moves.length cm, .slice Aw s.wgs.length cw] 26)).alloc (.cells #[.slice Af b.fs.length cf, .slice Ag b.gs.length cg] 54)) w.heap.size 26 #[.slice Ar s.rooms.length cr, .int .i64 s.days, .slice Am s.moves.length cm, .slice Aw s.wgs.length cw] := (Blk.new _ _ _).alloc _
  have q1 : Blk ((w.alloc (.cells #[.slice Ar s.rooms.length cr, .int .i64 s.days, .slice Am s.moves.length cm, .slice Aw s.wgs.length cw] 26)).alloc (.cells #[.slice Af b.fs.length cf, .slice Ag b.gs.length cg] 54)) (w.heap.size + 1) 54 #[.slice Af b.fs.length cf, .slice Ag b.gs.length cg] := Blk.new' _ _ _ (by simp)
  go_enter Tryz.func16, Tryz.ntmps16
  go_upto_region 1 with fail
  show Code.wp _ _ _ _ ((w.alloc (.cells #[.slice Ar s.rooms.length cr, .int .i64 s.days, .slice Am s.moves.length cm, .slice Aw s.wgs.length cw] 26)).alloc (.cells #[.slice Af b.fs.length cf, .slice Ag b.gs.length cg] 54))
  generalize (w.alloc (.cells #[.slice Ar s.rooms.length cr, .int .i64 s.days, .slice Am s.moves.length cm, .slice Aw s.wgs.length cw] 26)).alloc (.cells #[.slice Af b.fs.length cf, .slice Ag b.gs.length cg] 54) = V at *
  obtain ⟨bl, ol, hA, hbl, v0⟩ := IsInts.at_ ((hAf.below hb1)) (show r < b.fs.length by rw [HL1.out]; exact hr)
  have b0 : V.cell? ⟨w.heap.size + 1, 0, none⟩ = some (.slice Af b.fs.length cf) := q1.cell 0
  rw [hA] at b0
  have l1 := q1.lt
  have lbl : bl < V.heap.size := by have := hb1.size; omega
  have hrn : (r : Int) < (b.fs.length : Int) := by rw [HL1.out]; omega
  have hf0 := HB1.out r hr
  obtain ⟨fv, hfv⟩ : ∃ x, gI b.fs r = x := ⟨_, rfl⟩
  rw [hfv] at v0 hf0
  have HFV := Lib.hid hfv
  clear hfv
  have hs0 : Hid (fv = saysT s b r 0) := Lib.hid (by rw [← HFV.out]; simp [saysT, esum])
  go_wp2_with fail
  rw [hs0.out]
  clear b0 l1 v0
  refine wp_loop (fun a W => Rel (fun a W => ∃ k : Nat, k ≤ d + 1 ∧ (Below w.heap.size w W ∧ Blk W w.heap.size 26 #[.slice Ar s.rooms.length cr, .int .i64 s.days, .slice Am s.moves.length cm, .slice Aw s.wgs.length cw] ∧ Blk W (w.heap.size + 1) 54 #[.slice Af b.fs.length cf, .slice Ag b.gs.length cg]) ∧ ∃ u : Nat → Value, a = ⟨List.toArray (u 0 :: u 1 :: .int .i64 (r : Int) :: .int .i64 (d : Int) :: .pointer (some ⟨w.heap.size, 0, none⟩) :: .pointer (some ⟨w.heap.size + 1, 0, none⟩) :: u 6 :: u 7 :: u 8 :: .int .i64 (saysT s b r k) :: .int .i64 (k : Int) :: u 11 :: u 12 :: u 13 :: u 14 :: u 15 :: u 16 :: u 17 :: u 18 :: u 19 :: u 20 :: u 21 :: u 22 :: u 23 :: u 24 :: u 25 :: u 26 :: u 27 :: u 28 :: u 29 :: []), []⟩) a W) (fun a _ => d + 1 - (intOf (a.tmps.getD 10 undef)).toNat) ⟨⟨0, by omega, ⟨hb1, q0, q1⟩, exFrame (by kernel_rfl)⟩⟩ ?_
  clear hb1 q0 q1 lbl V
  rintro a W ⟨⟨k, hk, ⟨hb1, q0, q1⟩, u, rfl⟩⟩
  by_cases hlt : k < d + 1
  · have a0 : W.cell? ⟨w.heap.size, 0, none⟩ = some (.slice Ar s.rooms.length cr) := q0.cell 0
    have a1 : W.cell? ⟨w.heap.size, 1, none⟩ = some (.int .i64 s.days) := q0.cell 1
    have a2 : W.cell? ⟨w.heap.size, 2, none⟩ = some (.slice Am s.moves.length cm) := q0.cell 2
    have a3 : W.cell? ⟨w.heap.size, 3, none⟩ = some (.slice Aw s.wgs.length cw) := q0.cell 3
    have b0 : W.cell? ⟨w.heap.size + 1, 0, none⟩ = some (.slice Af b.fs.length cf) := q1.cell 0
    have b1 : W.cell? ⟨w.heap.size + 1, 1, none⟩ = some (.slice Ag b.gs.length cg) := q1.cell 1
    have l0 := q0.lt
    have l1 := q1.lt
    have hkd : (k : Int) ≤ (d : Int) := by omega
    go_wp2_with fail
    refine (Comes_ref s Ar Am Aw cr cm cw W (hs.go hb1) hw b.gs Ag b.gs.length cg ((hAg.below hb1).up hb1.size) (by rw [HL2.out]; exact Nat.le_refl _) HB2.out (r : Int) (k : Int)).mono ?_
    rintro e W2 ⟨rfl, hW2⟩
    have B2 := ex_trans hb1 hW2
    have hsb := saysT_bd HB1.out HB2.out hr hm12 k
    have hsb2 := saysT_bd HB1.out HB2.out hr hm12 (k + 1)
    have hss : saysT s b r k + comes s.wo (gI b.gs) (r : Int) (k : Int) s.moves.length = saysT s b r (k + 1) := (saysT_succ s b r k).symm
    obtain ⟨x0, hx0⟩ : ∃ x, saysT s b r k = x := ⟨_, rfl⟩
    obtain ⟨x1, hx1⟩ : ∃ x, saysT s b r (k + 1) = x := ⟨_, rfl⟩
    obtain ⟨cc, hcc⟩ : ∃ x, comes s.wo (gI b.gs) (r : Int) (k : Int) s.moves.length = x := ⟨_, rfl⟩
    rw [hx0] at hsb hss ⊢
    rw [hx1] at hsb2 hss
    rw [hcc] at hss ⊢
    have HX1 := Lib.hid hx1
    have HSS := Lib.hid hss
    have hcb : -300000 ≤ x0 + cc ∧ x0 + cc ≤ 300000 := by omega
    clear hx0 hx1 hcc hss hsb2
    replace q0 := q0.below hW2 q0.lt
    replace q1 := q1.below hW2 q1.lt
    clear a0 a1 a2 a3 b0 b1 l0 l1
    go_wp2_with fail
    refine ⟨⟨⟨k + 1, by omega, ⟨B2, q0, q1⟩, exFrame (by rw [HX1.out, ← HSS.out]; kernel_rfl)⟩⟩, ?_⟩
    show d + 1 - (intOf (.int .i64 ((k : Int) + 1))).toNat < d + 1 - (intOf (.int .i64 (k : Int))).toNat
    simp [intOf]
    omega
  · obtain rfl : k = d + 1 := by omega
    have hkd : ¬ (((d + 1 : Nat)) : Int) ≤ (d : Int) := by omega
    go_wp2
    go_ret
    exact ⟨ret_int rfl, hb1⟩
end Go.Proofs.YthihdiilokdidaaGreat
end

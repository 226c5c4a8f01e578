/- Spill: Stocks, Missing, Lost (walks). · Spill: Lost (walk). · Spill: lists of weighings that are left out (walk; turned from Glass' texts by gen_GW.py). · Spill: Fewest, Blame (walks). -/
import Derived.Outline
import Derived.Test.YthihdiilokdidaaS9
import Derived.Test.YthihdiilokdidaaS8
import Derived.Test.YthihdiilokdidaaS3
import Derived.Test.YthihdiilokdidaaS2
set_option linter.unusedVariables false
set_option linter.unusedSimpArgs false
set_option linter.unusedSectionVars false
section
namespace Go.Proofs.Ythihdiilokdidaa
open Go.RowKit
attribute [local go_sem] Ex.cell? Ex.frozen?

theorem results_ct_row {P : Program} {fn : Func} {p t : Tmp} {ty : TypeId} (h : fn.results = #[.cell p ty, .tmp t]) (tmps : Array Value) (w : World) (g : Nat) (ty' : TypeId) (cs : Array Value) (fr : Nat × Nat) (d : TypeDesc)
    (hp : tmps.getD p undef = .pointer (some ⟨g, 0, none⟩)) (hg : w.heap[g]? = some (.cells cs ty' fr))
    (hu : P.underlying ty = some d) (hd : (match d with | .struct _ | .array _ _ => true | _ => false) = true) (hi : (P.info? ty).map (·.size) = some cs.size) :
    (results fn tmps).run P w = .ok (.tuple #[.agg cs, tmps.getD t undef]) w := by
  have hp' : tmps[p]?.getD undef = .pointer (some ⟨g, 0, none⟩) := by simpa using hp
  simp [results, h, hp', asAddr, run_loadVar_row w g ty' ty cs fr d hg hu hd hi]
/-- the error that Stocks tells. -/
noncomputable def stE (s : Ws) : Int := if ckWs s = 0 then (if truB (Good s.wo off0) = true then 0 else 9) else ckWs s
structure StkV (s : Ws) (w' : World) (n : Nat) (A : Option Addr) (c : Nat) (rA : Nat → Option Addr) (rc : Nat → Nat) : Prop where
  yes : stE s = 0 → n = s.rooms.length ∧ RgsIn w' w'.heap.size A n s.wo.days (stkR s.wo off0) rA rc
  no : stE s ≠ 0 → n = 0 ∧ A = none ∧ c = 0
theorem stE_zero {s : Ws} : stE s = 0 ↔ ckWs s = 0 ∧ Good s.wo off0 := by
  unfold stE
  by_cases h : ckWs s = 0
  · rw [if_pos h]
    by_cases hg : Good s.wo off0
    · rw [truB_iff.2 hg]; simp [h, hg]
    · rw [truB_false hg]; simp [hg]
  · rw [if_neg h]; simp [h]
/-- what Missing tells. -/
noncomputable def misE (s : Ws) (b : Bk) (r d : Int) : Int := if ckWs s = 0 then (if bookB s b && (inB r 0 ((s.rooms.length : Int) - 1) && inB d 0 (s.days - 1)) then (if truB (Good s.wo off0) = true then 0 else 9) else 2) else ckWs s
noncomputable def misR (s : Ws) (b : Bk) (r d : Int) : Rg := if misE s b r d = 0 then ⟨saysF s.wo b r.toNat d.toNat - (stkR s.wo off0 r.toNat d.toNat).hi, saysF s.wo b r.toNat d.toNat - (stkR s.wo off0 r.toNat d.toNat).lo⟩ else ⟨0, 0⟩
/-- where something is surely missing. -/
noncomputable def lostB (s : Ws) (b : Bk) (d r : Nat) : Bool := decide ((stkR s.wo off0 r d).hi < saysF s.wo b r d)
noncomputable def losR (s : Ws) (b : Bk) (d : Nat) : Int := firstOf (lostB s b d) s.rooms.length
noncomputable def losD (s : Ws) (b : Bk) : Int := firstOf (fun d => decide (0 ≤ losR s b d)) s.wo.days
/-- what Lost tells. -/
noncomputable def losE (s : Ws) (b : Bk) : Int := if ckWs s = 0 then (if bookB s b then (if truB (Good s.wo off0) = true then (if 0 ≤ losD s b then 0 else 7) else 9) else 2) else ckWs s
noncomputable def losV (s : Ws) (b : Bk) : Int × Int := if losE s b = 0 then (losR s b (losD s b).toNat, losD s b) else (0, 0)
theorem RgsIn.at_ {w : World} {B : Nat} {A : Option Addr} {n D : Nat} {L : Nat → Nat → Rg} {rA : Nat → Option Addr} {rc : Nat → Nat} (h : RgsIn w B A n D L rA rc) {r d : Nat} (hr : r < n) (hd : d < D) : ∃ b o b2 o2, A = some ⟨b, o, none⟩ ∧ b < B ∧ w.cell? ⟨b, o + r, none⟩ = some (.slice (some ⟨b2, o2, none⟩) D (rc r)) ∧ b2 < B ∧ w.cell? ⟨b2, o2 + d * 2, none⟩ = some (.int .i64 (L r d).lo) ∧ w.cell? ⟨b2, o2 + d * 2 + 1, none⟩ = some (.int .i64 (L r d).hi) := by
  obtain ⟨b, o, e, hb, hc⟩ := h.out (by omega)
  obtain ⟨b2, o2, e2, hb2, hc2⟩ := h.row r hr (by omega)
  refine ⟨b, o, b2, o2, e, hb, ?_, hb2, ?_, ?_⟩
  · have := hc r 0 hr (by omega)
    rw [show o + (r * 1 + 0) = o + r by omega] at this
    rw [this]; show some (Value.slice (rA r) D (rc r)) = _; rw [e2]
  · exact hc2 d 0 hd (by omega)
  · exact hc2 d 1 hd (by omega)
set_option maxRecDepth 100000 in
set_option maxHeartbeats 3200000 in
theorem Stocks_any (s : Ws) (Ar Am Aw : Option Addr) (cr cm cw : Nat) (w : World) (hs : WsIn w w.heap.size s Ar Am Aw) :
    Calls Try.prog 18 #[.agg #[.slice Ar s.rooms.length cr, .int .i64 s.days, .slice Am s.moves.length cm, .slice Aw s.wgs.length cw]] w fun e w' => (∃ n A c rA rc, e = .returned (.tuple #[.slice A n c, .int .i64 (stE s)]) ∧ StkV s w' n A c rA rc) ∧ Below w.heap.size w w' := by
  have hb1 := ex_alloc (Below.refl w.heap.size w) (.cells #[.slice Ar s.rooms.length cr, .int .i64 s.days, .slice Am s.moves.length cm, .slice Aw s.wgs.length cw] 42)
  have q0 : Blk (w.alloc (.cells #[.slice Ar s.rooms.length cr, .int .i64 s.days, .slice Am s.moves.length cm, .slice Aw s.wgs.length cw] 42)) w.heap.size 42 #[.slice Ar s.rooms.length cr, .int .i64 s.days, .slice Am s.moves.length cm, .slice Aw s.wgs.length cw] := Blk.new _ _ _
  have hs1 := hs.go hb1
  go_enter Try.func18, Try.ntmps18
  go_upto_region 1 with fail
  obtain ⟨p0, hp0⟩ : ∃ p, w.heap.size = p := ⟨_, rfl⟩
  rw [hp0] at q0 ⊢
  generalize w.alloc (.cells #[.slice Ar s.rooms.length cr, .int .i64 s.days, .slice Am s.moves.length cm, .slice Aw s.wgs.length cw] 42) = W1 at *
  clear hp0
  have a0 : W1.cell? ⟨p0, 0, none⟩ = some (.slice Ar s.rooms.length cr) := q0.cell 0
  have a1 : W1.cell? ⟨p0, 1, none⟩ = some (.int .i64 s.days) := q0.cell 1
  have a2 : W1.cell? ⟨p0, 2, none⟩ = some (.slice Am s.moves.length cm) := q0.cell 2
  have a3 : W1.cell? ⟨p0, 3, none⟩ = some (.slice Aw s.wgs.length cw) := q0.cell 3
  have l0 := q0.lt
  go_wp2_with fail
  refine (check_any s Ar Am Aw cr cm cw W1 hs1).mono ?_
  rintro e W2 ⟨rfl, h2⟩
  have B2 := ex_trans hb1 h2
  have q02 := q0.below h2 q0.lt
  have hs2 := hs1.go h2
  clear a0 a1 a2 a3 l0
  have a0 : W2.cell? ⟨p0, 0, none⟩ = some (.slice Ar s.rooms.length cr) := q02.cell 0
  have a1 : W2.cell? ⟨p0, 1, none⟩ = some (.int .i64 s.days) := q02.cell 1
  have a2 : W2.cell? ⟨p0, 2, none⟩ = some (.slice Am s.moves.length cm) := q02.cell 2
  have a3 : W2.cell? ⟨p0, 3, none⟩ = some (.slice Aw s.wgs.length cw) := q02.cell 3
  have l0 := q02.lt
  by_cases hc : ckWs s = 0
  · obtain ⟨hw, hd⟩ := ckWs_iff.1 hc
    have HC := Lib.hid hc
    rw [hc]
    clear hc
    have hr2 := ranges_any s Ar Am Aw cr cm cw W2 hs2 hw hd
    clear hd
    go_wp2_with fail
    refine hr2.mono ?_
    clear hr2
    rintro e W3 ⟨⟨n, A, cA, rA, rc, rfl, hR⟩, h3⟩
    have B3 := ex_trans B2 h3
    have HR := Lib.hid hR
    clear hR
    cases hg : truB (Good s.wo off0)
    · have HG : Hid (¬ Good s.wo off0) := Lib.hid (fun h => by rw [truB_iff.2 h] at hg; cases hg)
      have HE : Hid (stE s = 9) := Lib.hid (by unfold stE; rw [if_pos HC.out, hg]; rfl)
      clear hg
      go_wp2
      go_ret2
      exact ⟨⟨0, none, 0, rA, rc, by rw [HE.out]; rfl, fun h => (by rw [HE.out] at h; cases h), fun _ => ⟨rfl, rfl, rfl⟩⟩, B3⟩
    · have HG : Hid (Good s.wo off0) := Lib.hid (truB_iff.1 hg)
      have HE : Hid (stE s = 0) := Lib.hid (by unfold stE; rw [if_pos HC.out, hg]; rfl)
      clear hg
      go_wp2
      go_ret2
      exact ⟨⟨n, A, cA, rA, rc, by rw [HE.out]; rfl, fun _ => HR.out.yes HG.out, fun h => (h HE.out).elim⟩, B3⟩
  · have HE : Hid (stE s = ckWs s) := Lib.hid (by unfold stE; rw [if_neg hc])
    go_wp2
    go_ret2
    exact ⟨⟨0, none, 0, fun _ => none, fun _ => 0, by rw [HE.out]; rfl, fun h => (hc (HE.out ▸ h)).elim, fun _ => ⟨rfl, rfl, rfl⟩⟩, B2⟩
theorem saysF_bd (w : Wo) (b : Bk) {nr nm : Nat} (hB : b.fs.length = nr ∧ b.gs.length = nm ∧ (∀ k, k < nr → 0 ≤ gI b.fs k ∧ gI b.fs k ≤ 2000) ∧ ∀ k, k < nm → 0 ≤ gI b.gs k ∧ gI b.gs k ≤ 2000) (hw : WoOk w) (hnm : w.moves.length = nm) (r d : Nat) (hr : r < nr) (hd : d < w.days) : -200000 ≤ saysF w b r d ∧ saysF w b r d ≤ 200000 := by
  have h0 := hB.2.2.1 r hr
  have hs : ∀ k : Nat, -(24000 * (k : Int)) ≤ esum (fun e : Nat => comes w (gI b.gs) r e w.moves.length) (List.range k) ∧ esum (fun e : Nat => comes w (gI b.gs) r e w.moves.length) (List.range k) ≤ 24000 * k := by
    intro k
    induction k with
    | zero => simp [esum]
    | succ k ih =>
      have hc := comes_bd w (G := gI b.gs) r k w.moves.length (fun i hi => hB.2.2.2 i (by omega))
      have := hw.len
      rw [List.range_succ, esum_app]
      simp only [esum]
      omega
  have := hs (d + 1)
  have := hw.days
  unfold saysF
  omega
set_option maxRecDepth 100000 in
set_option maxHeartbeats 6400000 in
theorem Missing_any (s : Ws) (Ar Am Aw : Option Addr) (cr cm cw : Nat) (w : World) (hs : WsIn w w.heap.size s Ar Am Aw) (b : Bk) (Af Ag : Option Addr) (cf cg : Nat) (hAf0 : SlAt w w.heap.size 1 Af b.fs.length (fI b.fs)) (hAg0 : SlAt w w.heap.size 1 Ag b.gs.length (fI b.gs)) (hsw : s.rooms.length ≤ 1000 ∧ s.moves.length ≤ 1000) (hsb : b.fs.length ≤ 1000 ∧ b.gs.length ≤ 1000) (r d : Int) :
    Calls Try.prog 43 #[.agg #[.slice Ar s.rooms.length cr, .int .i64 s.days, .slice Am s.moves.length cm, .slice Aw s.wgs.length cw], .agg #[.slice Af b.fs.length cf, .slice Ag b.gs.length cg], .int .i64 r, .int .i64 d] w fun e w' => e = .returned (.tuple #[.agg #[.int .i64 (misR s b r d).lo, .int .i64 (misR s b r d).hi], .int .i64 (misE s b r d)]) ∧ Below w.heap.size w w' := by
  have hb1 := ex_alloc (ex_alloc (ex_alloc (Below.refl w.heap.size w) (.cells #[.slice Ar s.rooms.length cr, .int .i64 s.days, .slice Am s.moves.length cm, .slice Aw s.wgs.length cw] 42)) (.cells #[.slice Af b.fs.length cf, .slice Ag b.gs.length cg] 99)) (.cells #[.int .i64 0, .int .i64 0] 50)
  have q0 : Blk (((w.alloc (.cells #[.slice Ar s.rooms.length cr, .int .i64 s.days, .slice Am s.moves.length cm, .slice Aw s.wgs.length cw] 42)).alloc (.cells #[.slice Af b.fs.length cf, .slice Ag b.gs.length cg] 99)).alloc (.cells #[.int .i64 0, .int .i64 0] 50)) w.heap.size 42 #[.slice Ar s.rooms.length cr, .int .i64 s.days, .slice Am s.moves.length cm, .slice Aw s.wgs.length cw] := ((Blk.new _ _ _).alloc _).alloc _
  have q1 : Blk (((w.alloc (.cells #[.slice Ar s.rooms.length cr, .int .i64 s.days, .slice Am s.moves.length cm, .slice Aw s.wgs.length cw] 42)).alloc (.cells #[.slice Af b.fs.length cf, .slice Ag b.gs.length cg] 99)).alloc (.cells #[.int .i64 0, .int .i64 0] 50)) (w.heap.size + 1) 99 #[.slice Af b.fs.length cf, .slice Ag b.gs.length cg] := (Blk.new' _ _ _ (by simp)).alloc _
  have q8 : Blk (((w.alloc (.cells #[.slice Ar s.rooms.length cr, .int .i64 s.days, .slice Am s.moves.length cm, .slice Aw s.wgs.length cw] 42)).alloc (.cells #[.slice Af b.fs.length cf, .slice Ag b.gs.length cg] 99)).alloc (.cells #[.int .i64 0, .int .i64 0] 50)) (w.heap.size + 1 + 1) 50 #[.int .i64 0, .int .i64 0] := Blk.new' _ _ _ (by simp)
  have hs1 := hs.go hb1
  have hf1 := (hAf0.below hb1).up hb1.size
  have hg1 := (hAg0.below hb1).up hb1.size
  go_enter Try.func43, Try.ntmps43
  go_upto_region 1 with fail
  show Code.wp _ _ _ _ (((w.alloc (.cells #[.slice Ar s.rooms.length cr, .int .i64 s.days, .slice Am s.moves.length cm, .slice Aw s.wgs.length cw] 42)).alloc (.cells #[.slice Af b.fs.length cf, .slice Ag b.gs.length cg] 99)).alloc (.cells #[.int .i64 0, .int .i64 0] 50))
  obtain ⟨p0, hp0⟩ : ∃ p, w.heap.size = p := ⟨_, rfl⟩
  rw [hp0] at q0 q1 q8 ⊢
  have HP0 := Lib.hid hp0
  generalize ((w.alloc (.cells #[.slice Ar s.rooms.length cr, .int .i64 s.days, .slice Am s.moves.length cm, .slice Aw s.wgs.length cw] 42)).alloc (.cells #[.slice Af b.fs.length cf, .slice Ag b.gs.length cg] 99)).alloc (.cells #[.int .i64 0, .int .i64 0] 50) = W1 at *
  clear hp0
  have a0 : W1.cell? ⟨p0, 0, none⟩ = some (.slice Ar s.rooms.length cr) := q0.cell 0
  have a1 : W1.cell? ⟨p0, 1, none⟩ = some (.int .i64 s.days) := q0.cell 1
  have a2 : W1.cell? ⟨p0, 2, none⟩ = some (.slice Am s.moves.length cm) := q0.cell 2
  have a3 : W1.cell? ⟨p0, 3, none⟩ = some (.slice Aw s.wgs.length cw) := q0.cell 3
  have l0 := q0.lt
  have b0 : W1.cell? ⟨p0 + 1, 0, none⟩ = some (.slice Af b.fs.length cf) := q1.cell 0
  have b1 : W1.cell? ⟨p0 + 1, 1, none⟩ = some (.slice Ag b.gs.length cg) := q1.cell 1
  have l1 := q1.lt
  have r0 : W1.cell? ⟨p0 + 1 + 1, 0, none⟩ = some (.int .i64 0) := q8.cell 0
  have r1 : W1.cell? ⟨p0 + 1 + 1, 1, none⟩ = some (.int .i64 0) := q8.cell 1
  have l8 := q8.lt
  have rf := q8.frozen0
  go_wp2_with fail
  refine (check_any s Ar Am Aw cr cm cw W1 hs1).mono ?_
  rintro e W2 ⟨rfl, h2⟩
  have B2 := ex_trans hb1 h2
  have q02 := q0.below h2 q0.lt
  have q12 := q1.below h2 q1.lt
  have q82 := q8.below h2 q8.lt
  have hs2 := hs1.go h2
  have hf2 := (hf1.below h2).up h2.size
  have hg2 := (hg1.below h2).up h2.size
  clear a0 a1 a2 a3 l0
  clear b0 b1 l1
  clear r0 r1 l8 rf
  have a0 : W2.cell? ⟨p0, 0, none⟩ = some (.slice Ar s.rooms.length cr) := q02.cell 0
  have a1 : W2.cell? ⟨p0, 1, none⟩ = some (.int .i64 s.days) := q02.cell 1
  have a2 : W2.cell? ⟨p0, 2, none⟩ = some (.slice Am s.moves.length cm) := q02.cell 2
  have a3 : W2.cell? ⟨p0, 3, none⟩ = some (.slice Aw s.wgs.length cw) := q02.cell 3
  have l0 := q02.lt
  have b0 : W2.cell? ⟨p0 + 1, 0, none⟩ = some (.slice Af b.fs.length cf) := q12.cell 0
  have b1 : W2.cell? ⟨p0 + 1, 1, none⟩ = some (.slice Ag b.gs.length cg) := q12.cell 1
  have l1 := q12.lt
  have r0 : W2.cell? ⟨p0 + 1 + 1, 0, none⟩ = some (.int .i64 0) := q82.cell 0
  have r1 : W2.cell? ⟨p0 + 1 + 1, 1, none⟩ = some (.int .i64 0) := q82.cell 1
  have l8 := q82.lt
  have rf := q82.frozen0
  by_cases hc : ckWs s = 0
  · obtain ⟨hw, hd⟩ := ckWs_iff.1 hc
    have hd6 : 1 ≤ s.days ∧ s.days ≤ 6 := by have := hw.days; omega
    have HC := Lib.hid hc
    have HDs := Lib.hid hd
    rw [hc]
    clear hc hd
    go_wp2_with fail
    refine (book_any s Ar Am Aw cr cm cw W2 hs2 b Af Ag cf cg hf2 hg2 hsw hsb).mono ?_
    rintro e W3 ⟨rfl, h3⟩
    have B3 := ex_trans B2 h3
    have q03 := q02.below h3 q02.lt
    have q13 := q12.below h3 q12.lt
    have q83 := q82.below h3 q82.lt
    have hs3 := hs2.go h3
    have hf3 := (hf2.below h3).up h3.size
    have hg3 := (hg2.below h3).up h3.size
    clear a0 a1 a2 a3 l0
    clear b0 b1 l1
    clear r0 r1 l8 rf
    have a0 : W3.cell? ⟨p0, 0, none⟩ = some (.slice Ar s.rooms.length cr) := q03.cell 0
    have a1 : W3.cell? ⟨p0, 1, none⟩ = some (.int .i64 s.days) := q03.cell 1
    have a2 : W3.cell? ⟨p0, 2, none⟩ = some (.slice Am s.moves.length cm) := q03.cell 2
    have a3 : W3.cell? ⟨p0, 3, none⟩ = some (.slice Aw s.wgs.length cw) := q03.cell 3
    have l0 := q03.lt
    have b0 : W3.cell? ⟨p0 + 1, 0, none⟩ = some (.slice Af b.fs.length cf) := q13.cell 0
    have b1 : W3.cell? ⟨p0 + 1, 1, none⟩ = some (.slice Ag b.gs.length cg) := q13.cell 1
    have l1 := q13.lt
    have r0 : W3.cell? ⟨p0 + 1 + 1, 0, none⟩ = some (.int .i64 0) := q83.cell 0
    have r1 : W3.cell? ⟨p0 + 1 + 1, 1, none⟩ = some (.int .i64 0) := q83.cell 1
    have l8 := q83.lt
    have rf := q83.frozen0
    cases hbk : bookB s b
    · have HBK := Lib.hid hbk
      clear hbk
      have qz := (q83.set_ 0 (.int .i64 (0))).set_ 1 (.int .i64 (0))
      simp only [List.setIfInBounds_toArray, List.set_cons_zero, List.set_cons_succ] at qz
      have Bz := ex_set (ex_set B3 (p := ⟨p0 + 1 + 1, 0, none⟩) (by show w.heap.size ≤ p0 + 1 + 1; rw [HP0.out]; omega) (.int .i64 (0))) (p := ⟨p0 + 1 + 1, 1, none⟩) (by show w.heap.size ≤ p0 + 1 + 1; rw [HP0.out]; omega) (.int .i64 (0))
      have HE : Hid (misE s b r d = 2) := Lib.hid (by unfold misE; rw [if_pos HC.out, if_neg (by rw [HBK.out]; simp)])
      have HR : Hid (misR s b r d = ⟨0, 0⟩) := Lib.hid (by unfold misR; rw [if_neg (by rw [HE.out]; decide)])
      go_wp2_with fail
      refine bodyPost_ret (results_ct_row rfl _ _ (p0 + 1 + 1) 50 _ (0, 0) _ rfl qz rfl rfl rfl) rfl ?_
      exact ⟨by rw [HR.out, HE.out]; rfl, Bz⟩
    · have HBK := Lib.hid hbk
      clear hbk
      go_wp2_with fail
      refine (roomN_any s Ar Am Aw cr cm cw r W3 (by omega)).mono ?_
      rintro e W4 ⟨rfl, h4⟩
      have B4 := ex_trans B3 h4
      have q04 := q03.below h4 q03.lt
      have q14 := q13.below h4 q13.lt
      have q84 := q83.below h4 q83.lt
      have hs4 := hs3.go h4
      have hf4 := (hf3.below h4).up h4.size
      have hg4 := (hg3.below h4).up h4.size
      clear a0 a1 a2 a3 l0
      clear b0 b1 l1
      clear r0 r1 l8 rf
      have a0 : W4.cell? ⟨p0, 0, none⟩ = some (.slice Ar s.rooms.length cr) := q04.cell 0
      have a1 : W4.cell? ⟨p0, 1, none⟩ = some (.int .i64 s.days) := q04.cell 1
      have a2 : W4.cell? ⟨p0, 2, none⟩ = some (.slice Am s.moves.length cm) := q04.cell 2
      have a3 : W4.cell? ⟨p0, 3, none⟩ = some (.slice Aw s.wgs.length cw) := q04.cell 3
      have l0 := q04.lt
      have b0 : W4.cell? ⟨p0 + 1, 0, none⟩ = some (.slice Af b.fs.length cf) := q14.cell 0
      have b1 : W4.cell? ⟨p0 + 1, 1, none⟩ = some (.slice Ag b.gs.length cg) := q14.cell 1
      have l1 := q14.lt
      have r0 : W4.cell? ⟨p0 + 1 + 1, 0, none⟩ = some (.int .i64 0) := q84.cell 0
      have r1 : W4.cell? ⟨p0 + 1 + 1, 1, none⟩ = some (.int .i64 0) := q84.cell 1
      have l8 := q84.lt
      have rf := q84.frozen0
      cases hrm : inB r 0 ((s.rooms.length : Int) - 1)
      · have HRM := Lib.hid hrm
        clear hrm
        have qz := (q84.set_ 0 (.int .i64 (0))).set_ 1 (.int .i64 (0))
        simp only [List.setIfInBounds_toArray, List.set_cons_zero, List.set_cons_succ] at qz
        have Bz := ex_set (ex_set B4 (p := ⟨p0 + 1 + 1, 0, none⟩) (by show w.heap.size ≤ p0 + 1 + 1; rw [HP0.out]; omega) (.int .i64 (0))) (p := ⟨p0 + 1 + 1, 1, none⟩) (by show w.heap.size ≤ p0 + 1 + 1; rw [HP0.out]; omega) (.int .i64 (0))
        have HE : Hid (misE s b r d = 2) := Lib.hid (by unfold misE; rw [if_pos HC.out, if_neg (by rw [HBK.out, HRM.out]; simp)])
        have HR : Hid (misR s b r d = ⟨0, 0⟩) := Lib.hid (by unfold misR; rw [if_neg (by rw [HE.out]; decide)])
        go_wp2_with fail
        refine bodyPost_ret (results_ct_row rfl _ _ (p0 + 1 + 1) 50 _ (0, 0) _ rfl qz rfl rfl rfl) rfl ?_
        exact ⟨by rw [HR.out, HE.out]; rfl, Bz⟩
      · have HRM := Lib.hid hrm
        clear hrm
        go_wp2_with fail
        refine (dayN_any s Ar Am Aw cr cm cw d W4 hd6).mono ?_
        rintro e W5 ⟨rfl, h5⟩
        have B5 := ex_trans B4 h5
        have q05 := q04.below h5 q04.lt
        have q15 := q14.below h5 q14.lt
        have q85 := q84.below h5 q84.lt
        have hs5 := hs4.go h5
        have hf5 := (hf4.below h5).up h5.size
        have hg5 := (hg4.below h5).up h5.size
        clear a0 a1 a2 a3 l0
        clear b0 b1 l1
        clear r0 r1 l8 rf
        have a0 : W5.cell? ⟨p0, 0, none⟩ = some (.slice Ar s.rooms.length cr) := q05.cell 0
        have a1 : W5.cell? ⟨p0, 1, none⟩ = some (.int .i64 s.days) := q05.cell 1
        have a2 : W5.cell? ⟨p0, 2, none⟩ = some (.slice Am s.moves.length cm) := q05.cell 2
        have a3 : W5.cell? ⟨p0, 3, none⟩ = some (.slice Aw s.wgs.length cw) := q05.cell 3
        have l0 := q05.lt
        have b0 : W5.cell? ⟨p0 + 1, 0, none⟩ = some (.slice Af b.fs.length cf) := q15.cell 0
        have b1 : W5.cell? ⟨p0 + 1, 1, none⟩ = some (.slice Ag b.gs.length cg) := q15.cell 1
        have l1 := q15.lt
        have r0 : W5.cell? ⟨p0 + 1 + 1, 0, none⟩ = some (.int .i64 0) := q85.cell 0
        have r1 : W5.cell? ⟨p0 + 1 + 1, 1, none⟩ = some (.int .i64 0) := q85.cell 1
        have l8 := q85.lt
        have rf := q85.frozen0
        cases hdy : inB d 0 (s.days - 1)
        · have HDY := Lib.hid hdy
          clear hdy
          have qz := (q85.set_ 0 (.int .i64 (0))).set_ 1 (.int .i64 (0))
          simp only [List.setIfInBounds_toArray, List.set_cons_zero, List.set_cons_succ] at qz
          have Bz := ex_set (ex_set B5 (p := ⟨p0 + 1 + 1, 0, none⟩) (by show w.heap.size ≤ p0 + 1 + 1; rw [HP0.out]; omega) (.int .i64 (0))) (p := ⟨p0 + 1 + 1, 1, none⟩) (by show w.heap.size ≤ p0 + 1 + 1; rw [HP0.out]; omega) (.int .i64 (0))
          have HE : Hid (misE s b r d = 2) := Lib.hid (by unfold misE; rw [if_pos HC.out, if_neg (by rw [HBK.out, HRM.out, HDY.out]; simp)])
          have HR : Hid (misR s b r d = ⟨0, 0⟩) := Lib.hid (by unfold misR; rw [if_neg (by rw [HE.out]; decide)])
          go_wp2_with fail
          refine bodyPost_ret (results_ct_row rfl _ _ (p0 + 1 + 1) 50 _ (0, 0) _ rfl qz rfl rfl rfl) rfl ?_
          exact ⟨by rw [HR.out, HE.out]; rfl, Bz⟩
        · have HDY := Lib.hid hdy
          clear hdy
          go_wp2_with fail
          refine (ranges_any s Ar Am Aw cr cm cw W5 hs5 hw HDs.out).mono ?_
          rintro e W6 ⟨⟨n, A, cA, rA, rc, rfl, hR⟩, h6⟩
          have B6 := ex_trans B5 h6
          have HRV := Lib.hid hR
          clear hR
          have q06 := q05.below h6 q05.lt
          have q16 := q15.below h6 q15.lt
          have q86 := q85.below h6 q85.lt
          have hs6 := hs5.go h6
          have hf6 := (hf5.below h6).up h6.size
          have hg6 := (hg5.below h6).up h6.size
          clear a0 a1 a2 a3 l0
          clear b0 b1 l1
          clear r0 r1 l8 rf
          have a0 : W6.cell? ⟨p0, 0, none⟩ = some (.slice Ar s.rooms.length cr) := q06.cell 0
          have a1 : W6.cell? ⟨p0, 1, none⟩ = some (.int .i64 s.days) := q06.cell 1
          have a2 : W6.cell? ⟨p0, 2, none⟩ = some (.slice Am s.moves.length cm) := q06.cell 2
          have a3 : W6.cell? ⟨p0, 3, none⟩ = some (.slice Aw s.wgs.length cw) := q06.cell 3
          have l0 := q06.lt
          have b0 : W6.cell? ⟨p0 + 1, 0, none⟩ = some (.slice Af b.fs.length cf) := q16.cell 0
          have b1 : W6.cell? ⟨p0 + 1, 1, none⟩ = some (.slice Ag b.gs.length cg) := q16.cell 1
          have l1 := q16.lt
          have r0 : W6.cell? ⟨p0 + 1 + 1, 0, none⟩ = some (.int .i64 0) := q86.cell 0
          have r1 : W6.cell? ⟨p0 + 1 + 1, 1, none⟩ = some (.int .i64 0) := q86.cell 1
          have l8 := q86.lt
          have rf := q86.frozen0
          have HMO : Hid (misE s b r d = if truB (Good s.wo off0) = true then 0 else 9) := Lib.hid (by unfold misE; rw [if_pos HC.out, if_pos (by rw [HBK.out, HRM.out, HDY.out]; rfl)])
          cases hg : truB (Good s.wo off0)
          · have HG := Lib.hid hg
            clear hg
            have qz := (q86.set_ 0 (.int .i64 (0))).set_ 1 (.int .i64 (0))
            simp only [List.setIfInBounds_toArray, List.set_cons_zero, List.set_cons_succ] at qz
            have Bz := ex_set (ex_set B6 (p := ⟨p0 + 1 + 1, 0, none⟩) (by show w.heap.size ≤ p0 + 1 + 1; rw [HP0.out]; omega) (.int .i64 (0))) (p := ⟨p0 + 1 + 1, 1, none⟩) (by show w.heap.size ≤ p0 + 1 + 1; rw [HP0.out]; omega) (.int .i64 (0))
            have HE : Hid (misE s b r d = 9) := Lib.hid (by rw [HMO.out, HG.out]; rfl)
            have HR : Hid (misR s b r d = ⟨0, 0⟩) := Lib.hid (by unfold misR; rw [if_neg (by rw [HE.out]; decide)])
            go_wp2_with fail
            refine bodyPost_ret (results_ct_row rfl _ _ (p0 + 1 + 1) 50 _ (0, 0) _ rfl qz rfl rfl rfl) rfl ?_
            exact ⟨by rw [HR.out, HE.out]; rfl, Bz⟩
          · have HG : Hid (Good s.wo off0) := Lib.hid (truB_iff.1 hg)
            have HE : Hid (misE s b r d = 0) := Lib.hid (by rw [HMO.out, hg]; rfl)
            clear hg
            obtain ⟨hn, hM⟩ := HRV.out.yes HG.out
            subst hn
            have hrb := inB_iff.1 HRM.out
            have hdb := inB_iff.1 HDY.out
            obtain ⟨rn, rfl⟩ : ∃ x : Nat, r = (x : Int) := ⟨r.toNat, by omega⟩
            obtain ⟨dn, rfl⟩ : ∃ x : Nat, d = (x : Int) := ⟨d.toNat, by omega⟩
            have hrl : rn < s.rooms.length := by omega
            have hdl : dn < s.wo.days := by have := HDs.out; omega
            obtain ⟨bo, oo, b2, o2, rfl, hbo, x1, hb2, x2, x3⟩ := hM.at_ hrl hdl
            have hEnd := good_ends hw HG.out (r := rn) (d := dn) hrl hdl
            have hin1 := stk_in hw hrl hdl hEnd.1
            have hin2 := stk_in hw hrl hdl hEnd.2.1
            have hok := stW_ok hw off0 s.wo.wgs.length (Nat.le_refl _) rn dn
            unfold inR at hin1 hin2
            clear hEnd
            have HR : Hid (misR s b (rn : Int) (dn : Int) = ⟨saysF s.wo b rn dn - (stkR s.wo off0 rn dn).hi, saysF s.wo b rn dn - (stkR s.wo off0 rn dn).lo⟩) := Lib.hid (by unfold misR; rw [if_pos HE.out]; simp)
            obtain ⟨⟨zl, zh⟩, hz⟩ : ∃ x, stkR s.wo off0 rn dn = x := ⟨_, rfl⟩
            rw [hz] at x2 x3 hin1 hin2 HR
            dsimp only at x2 x3 hin1 hin2 HR
            have hzb : -2000000 ≤ zl ∧ zl ≤ 2000000 ∧ -2000000 ≤ zh ∧ zh ≤ 2000000 := by omega
            clear hin1 hin2 hok hz
            skip
            have hsb2 := saysF_bd s.wo b (bookB_iff.1 HBK.out) hw rfl rn dn hrl hdl
            obtain ⟨S, hS⟩ : ∃ x, saysF s.wo b rn dn = x := ⟨_, rfl⟩
            rw [hS] at hsb2 HR
            have HS := Lib.hid hS
            clear hS
            have hrR : (rn : Int) < (s.rooms.length : Int) := by omega
            have hdD : (dn : Int) < (s.wo.days : Int) := by omega
            have DD := (Below.refl W6.heap.size W6).drew
            go_upto_region 9 with fail
            refine wp_region_ext_tqF 14 (.quiet 0 (.quiet 1 (.quiet 2 (.quiet 3 (.quiet 5 (.quiet 6 (.quiet 7 (.quiet 8 (.quiet 9 (.quiet 10 (.quiet 11 (.fork 4 (.loud 12 (.quiet 13 .done)) 12 (.loud 4 (.quiet 13 .done)))))))))))))) (by kernel_rfl) (by kernel_rfl) (by intro d _ _ _ _ h; cases d <;> exact h) ?_
            repeat (refine tq_quiet rfl ?_; go_big_quiet_step (fail); refine wpQuiet_nil ?_)
            obtain ⟨Y, hY⟩ : ∃ Y, W6.drew = Y := ⟨_, rfl⟩
            rw [hY] at DD ⊢
            clear hY
            refine tq_fork rfl rfl ?_ ?_
            · go_wp2_with fail
              refine (says_any s Ar Am Aw cr cm cw Y (hs6.go DD) hw b Af Ag cf cg ((hf6.below DD).up DD.size) ((hg6.below DD).up DD.size) (bookB_iff.1 HBK.out) rn dn hrl hdl).mono ?_
              rintro e Z1 ⟨rfl, hZ1⟩
              rw [HS.out]
              have XZ1 := ex_trans DD hZ1
              go_wp2_with fail
              refine ⟨inEx XZ1, ?_⟩
              repeat (refine tq_quiet rfl ?_; go_big_quiet_step (fail); refine wpQuiet_nil ?_)
              refine tq_loud rfl ?_
              have NZ2 := ex_alloc (Below.refl Z1.heap.size Z1) (.cells #[.int .i64 0, .int .i64 0] 50)
              have XZ2 := ex_trans XZ1 NZ2
              have qn : Blk (Z1.alloc (.cells #[.int .i64 0, .int .i64 0] 50)) Z1.heap.size 50 #[.int .i64 0, .int .i64 0] := Blk.new _ _ _
              have hgz : W6.heap.size ≤ Z1.heap.size := XZ1.size
              go_wp2_with fail
              obtain ⟨pn, hpn⟩ : ∃ p, Z1.heap.size = p := ⟨_, rfl⟩
              rw [hpn] at qn hgz ⊢
              generalize Z1.alloc (.cells #[.int .i64 0, .int .i64 0] 50) = Z2 at *
              clear hpn
              refine ⟨inEx XZ2, ?_⟩
              repeat (refine tq_quiet rfl ?_; go_big_quiet_step (fail); refine wpQuiet_nil ?_)
              have y0 : Z2.cell? ⟨pn, 0, none⟩ = some (.int .i64 0) := qn.cell 0
              have y1 : Z2.cell? ⟨pn, 1, none⟩ = some (.int .i64 0) := qn.cell 1
              have ly := qn.lt
              have yf := qn.frozen0
              have qn2 := (qn.set_ 0 (.int .i64 zl)).set_ 1 (.int .i64 zh)
              simp only [List.setIfInBounds_toArray, List.set_cons_zero, List.set_cons_succ] at qn2
              have hl8 := q86.lt
              have q8x := ((q86.below XZ2 q86.lt).far (p := ⟨pn, 0, none⟩) (by show p0 + 1 + 1 ≠ pn; omega) (.int .i64 zl)).far (p := ⟨pn, 1, none⟩) (by show p0 + 1 + 1 ≠ pn; omega) (.int .i64 zh)
              have BX := ex_trans B6 XZ2
              have hw6 : w.heap.size ≤ pn := by have := B6.size; omega
              have BX2 := ex_set (ex_set BX (p := ⟨pn, 0, none⟩) hw6 (.int .i64 zl)) (p := ⟨pn, 1, none⟩) hw6 (.int .i64 zh)
              refine tq_done (r := [_]) rfl ?_
              go_upto_region 10 with fail
              generalize (Z2.setCell ⟨pn, 0, none⟩ (.int .i64 zl)).setCell ⟨pn, 1, none⟩ (.int .i64 zh) = V at *
              clear y0 y1 ly yf r0 r1 l8 rf
              have y0 : V.cell? ⟨pn, 0, none⟩ = some (.int .i64 zl) := qn2.cell 0
              have y1 : V.cell? ⟨pn, 1, none⟩ = some (.int .i64 zh) := qn2.cell 1
              have ly := qn2.lt
              have r0 : V.cell? ⟨p0 + 1 + 1, 0, none⟩ = some (.int .i64 0) := q8x.cell 0
              have r1 : V.cell? ⟨p0 + 1 + 1, 1, none⟩ = some (.int .i64 0) := q8x.cell 1
              have l8 := q8x.lt
              have rf := q8x.frozen0
              have qz := (q8x.set_ 0 (.int .i64 (S - zh))).set_ 1 (.int .i64 (S - zl))
              simp only [List.setIfInBounds_toArray, List.set_cons_zero, List.set_cons_succ] at qz
              have Bz := ex_set (ex_set BX2 (p := ⟨p0 + 1 + 1, 0, none⟩) (by show w.heap.size ≤ p0 + 1 + 1; rw [HP0.out]; omega) (.int .i64 (S - zh))) (p := ⟨p0 + 1 + 1, 1, none⟩) (by show w.heap.size ≤ p0 + 1 + 1; rw [HP0.out]; omega) (.int .i64 (S - zl))
              go_wp2_with fail
              refine bodyPost_ret (results_ct_row rfl _ _ (p0 + 1 + 1) 50 _ (0, 0) _ rfl qz rfl rfl rfl) rfl ?_
              exact ⟨by rw [HR.out, HE.out]; rfl, Bz⟩
            · have NZ1 := ex_alloc (Below.refl Y.heap.size Y) (.cells #[.int .i64 0, .int .i64 0] 50)
              have XZ1 := ex_trans DD NZ1
              have qn : Blk (Y.alloc (.cells #[.int .i64 0, .int .i64 0] 50)) Y.heap.size 50 #[.int .i64 0, .int .i64 0] := Blk.new _ _ _
              have hgz : W6.heap.size ≤ Y.heap.size := DD.size
              go_wp2_with fail
              obtain ⟨pn, hpn⟩ : ∃ p, Y.heap.size = p := ⟨_, rfl⟩
              rw [hpn] at qn hgz ⊢
              generalize Y.alloc (.cells #[.int .i64 0, .int .i64 0] 50) = Z1 at *
              clear hpn
              refine ⟨inEx XZ1, ?_⟩
              repeat (refine tq_quiet rfl ?_; go_big_quiet_step (fail); refine wpQuiet_nil ?_)
              refine tq_loud rfl ?_
              go_wp2_with fail
              refine (says_any s Ar Am Aw cr cm cw Z1 (hs6.go XZ1) hw b Af Ag cf cg ((hf6.below XZ1).up XZ1.size) ((hg6.below XZ1).up XZ1.size) (bookB_iff.1 HBK.out) rn dn hrl hdl).mono ?_
              rintro e Z2 ⟨rfl, hZ2⟩
              rw [HS.out]
              have XZ2 := ex_trans XZ1 hZ2
              go_wp2_with fail
              refine ⟨inEx XZ2, ?_⟩
              repeat (refine tq_quiet rfl ?_; go_big_quiet_step (fail); refine wpQuiet_nil ?_)
              replace qn := qn.below hZ2 qn.lt
              have y0 : Z2.cell? ⟨pn, 0, none⟩ = some (.int .i64 0) := qn.cell 0
              have y1 : Z2.cell? ⟨pn, 1, none⟩ = some (.int .i64 0) := qn.cell 1
              have ly := qn.lt
              have yf := qn.frozen0
              have qn2 := (qn.set_ 0 (.int .i64 zl)).set_ 1 (.int .i64 zh)
              simp only [List.setIfInBounds_toArray, List.set_cons_zero, List.set_cons_succ] at qn2
              have hl8 := q86.lt
              have q8x := ((q86.below XZ2 q86.lt).far (p := ⟨pn, 0, none⟩) (by show p0 + 1 + 1 ≠ pn; omega) (.int .i64 zl)).far (p := ⟨pn, 1, none⟩) (by show p0 + 1 + 1 ≠ pn; omega) (.int .i64 zh)
              have BX := ex_trans B6 XZ2
              have hw6 : w.heap.size ≤ pn := by have := B6.size; omega
              have BX2 := ex_set (ex_set BX (p := ⟨pn, 0, none⟩) hw6 (.int .i64 zl)) (p := ⟨pn, 1, none⟩) hw6 (.int .i64 zh)
              refine tq_done (r := [_]) rfl ?_
              go_upto_region 10 with fail
              generalize (Z2.setCell ⟨pn, 0, none⟩ (.int .i64 zl)).setCell ⟨pn, 1, none⟩ (.int .i64 zh) = V at *
              clear y0 y1 ly yf r0 r1 l8 rf
              have y0 : V.cell? ⟨pn, 0, none⟩ = some (.int .i64 zl) := qn2.cell 0
              have y1 : V.cell? ⟨pn, 1, none⟩ = some (.int .i64 zh) := qn2.cell 1
              have ly := qn2.lt
              have r0 : V.cell? ⟨p0 + 1 + 1, 0, none⟩ = some (.int .i64 0) := q8x.cell 0
              have r1 : V.cell? ⟨p0 + 1 + 1, 1, none⟩ = some (.int .i64 0) := q8x.cell 1
              have l8 := q8x.lt
              have rf := q8x.frozen0
              have qz := (q8x.set_ 0 (.int .i64 (S - zh))).set_ 1 (.int .i64 (S - zl))
              simp only [List.setIfInBounds_toArray, List.set_cons_zero, List.set_cons_succ] at qz
              have Bz := ex_set (ex_set BX2 (p := ⟨p0 + 1 + 1, 0, none⟩) (by show w.heap.size ≤ p0 + 1 + 1; rw [HP0.out]; omega) (.int .i64 (S - zh))) (p := ⟨p0 + 1 + 1, 1, none⟩) (by show w.heap.size ≤ p0 + 1 + 1; rw [HP0.out]; omega) (.int .i64 (S - zl))
              go_wp2_with fail
              refine bodyPost_ret (results_ct_row rfl _ _ (p0 + 1 + 1) 50 _ (0, 0) _ rfl qz rfl rfl rfl) rfl ?_
              exact ⟨by rw [HR.out, HE.out]; rfl, Bz⟩
  · have qz := (q82.set_ 0 (.int .i64 (0))).set_ 1 (.int .i64 (0))
    simp only [List.setIfInBounds_toArray, List.set_cons_zero, List.set_cons_succ] at qz
    have Bz := ex_set (ex_set B2 (p := ⟨p0 + 1 + 1, 0, none⟩) (by show w.heap.size ≤ p0 + 1 + 1; rw [HP0.out]; omega) (.int .i64 (0))) (p := ⟨p0 + 1 + 1, 1, none⟩) (by show w.heap.size ≤ p0 + 1 + 1; rw [HP0.out]; omega) (.int .i64 (0))
    have HE : Hid (misE s b r d = ckWs s) := Lib.hid (by unfold misE; rw [if_neg hc])
    have HR : Hid (misR s b r d = ⟨0, 0⟩) := Lib.hid (by unfold misR; rw [if_neg (by rw [HE.out]; exact hc)])
    go_wp2_with fail
    refine bodyPost_ret (results_ct_row rfl _ _ (p0 + 1 + 1) 50 _ (0, 0) _ rfl qz rfl rfl rfl) rfl ?_
    exact ⟨by rw [HR.out, HE.out]; rfl, Bz⟩
end Go.Proofs.Ythihdiilokdidaa
end

section
namespace Go.Proofs.Ythihdiilokdidaa
open Go.RowKit
attribute [local go_sem] Ex.cell? Ex.frozen?

set_option maxRecDepth 100000 in
set_option maxHeartbeats 6400000 in
theorem Lost_any (s : Ws) (Ar Am Aw : Option Addr) (cr cm cw : Nat) (w : World) (hs : WsIn w w.heap.size s Ar Am Aw) (b : Bk) (Af Ag : Option Addr) (cf cg : Nat) (hAf0 : SlAt w w.heap.size 1 Af b.fs.length (fI b.fs)) (hAg0 : SlAt w w.heap.size 1 Ag b.gs.length (fI b.gs)) (hsw : s.rooms.length ≤ 1000 ∧ s.moves.length ≤ 1000) (hsb : b.fs.length ≤ 1000 ∧ b.gs.length ≤ 1000) :
    Calls Try.prog 45 #[.agg #[.slice Ar s.rooms.length cr, .int .i64 s.days, .slice Am s.moves.length cm, .slice Aw s.wgs.length cw], .agg #[.slice Af b.fs.length cf, .slice Ag b.gs.length cg]] w fun e w' => e = .returned (.tuple #[.int .i64 (losV s b).1, .int .i64 (losV s b).2, .int .i64 (losE s b)]) ∧ Below w.heap.size w w' := by
  have hb1 := ex_alloc (ex_alloc (Below.refl w.heap.size w) (.cells #[.slice Ar s.rooms.length cr, .int .i64 s.days, .slice Am s.moves.length cm, .slice Aw s.wgs.length cw] 42)) (.cells #[.slice Af b.fs.length cf, .slice Ag b.gs.length cg] 99)
  have q0 : Blk ((w.alloc (.cells #[.slice Ar s.rooms.length cr, .int .i64 s.days, .slice Am s.moves.length cm, .slice Aw s.wgs.length cw] 42)).alloc (.cells #[.slice Af b.fs.length cf, .slice Ag b.gs.length cg] 99)) w.heap.size 42 #[.slice Ar s.rooms.length cr, .int .i64 s.days, .slice Am s.moves.length cm, .slice Aw s.wgs.length cw] := (Blk.new _ _ _).alloc _
  have q1 : Blk ((w.alloc (.cells #[.slice Ar s.rooms.length cr, .int .i64 s.days, .slice Am s.moves.length cm, .slice Aw s.wgs.length cw] 42)).alloc (.cells #[.slice Af b.fs.length cf, .slice Ag b.gs.length cg] 99)) (w.heap.size + 1) 99 #[.slice Af b.fs.length cf, .slice Ag b.gs.length cg] := Blk.new' _ _ _ (by simp)
  have hs1 := hs.go hb1
  have hf1 := (hAf0.below hb1).up hb1.size
  have hg1 := (hAg0.below hb1).up hb1.size
  go_enter Try.func45, Try.ntmps45
  go_wp2_with fail
  go_step3
  go_upto_region 1 with fail
  show Code.wp _ _ _ _ ((w.alloc (.cells #[.slice Ar s.rooms.length cr, .int .i64 s.days, .slice Am s.moves.length cm, .slice Aw s.wgs.length cw] 42)).alloc (.cells #[.slice Af b.fs.length cf, .slice Ag b.gs.length cg] 99))
  obtain ⟨p0, hp0⟩ : ∃ p, w.heap.size = p := ⟨_, rfl⟩
  rw [hp0] at q0 q1 ⊢
  have HP0 := Lib.hid hp0
  generalize (w.alloc (.cells #[.slice Ar s.rooms.length cr, .int .i64 s.days, .slice Am s.moves.length cm, .slice Aw s.wgs.length cw] 42)).alloc (.cells #[.slice Af b.fs.length cf, .slice Ag b.gs.length cg] 99) = W1 at *
  clear hp0
  have a0 : W1.cell? ⟨p0, 0, none⟩ = some (.slice Ar s.rooms.length cr) := q0.cell 0
  have a1 : W1.cell? ⟨p0, 1, none⟩ = some (.int .i64 s.days) := q0.cell 1
  have a2 : W1.cell? ⟨p0, 2, none⟩ = some (.slice Am s.moves.length cm) := q0.cell 2
  have a3 : W1.cell? ⟨p0, 3, none⟩ = some (.slice Aw s.wgs.length cw) := q0.cell 3
  have l0 := q0.lt
  have b0 : W1.cell? ⟨p0 + 1, 0, none⟩ = some (.slice Af b.fs.length cf) := q1.cell 0
  have b1 : W1.cell? ⟨p0 + 1, 1, none⟩ = some (.slice Ag b.gs.length cg) := q1.cell 1
  have l1 := q1.lt
  go_wp2_with fail
  refine (check_any s Ar Am Aw cr cm cw W1 hs1).mono ?_
  rintro e W2 ⟨rfl, h2⟩
  have B2 := ex_trans hb1 h2
  have q02 := q0.below h2 q0.lt
  have q12 := q1.below h2 q1.lt
  have hs2 := hs1.go h2
  have hf2 := (hf1.below h2).up h2.size
  have hg2 := (hg1.below h2).up h2.size
  clear a0 a1 a2 a3 l0 b0 b1 l1
  have a0 : W2.cell? ⟨p0, 0, none⟩ = some (.slice Ar s.rooms.length cr) := q02.cell 0
  have a1 : W2.cell? ⟨p0, 1, none⟩ = some (.int .i64 s.days) := q02.cell 1
  have a2 : W2.cell? ⟨p0, 2, none⟩ = some (.slice Am s.moves.length cm) := q02.cell 2
  have a3 : W2.cell? ⟨p0, 3, none⟩ = some (.slice Aw s.wgs.length cw) := q02.cell 3
  have l0 := q02.lt
  have b0 : W2.cell? ⟨p0 + 1, 0, none⟩ = some (.slice Af b.fs.length cf) := q12.cell 0
  have b1 : W2.cell? ⟨p0 + 1, 1, none⟩ = some (.slice Ag b.gs.length cg) := q12.cell 1
  have l1 := q12.lt
  by_cases hc : ckWs s = 0
  · obtain ⟨hw, hd⟩ := ckWs_iff.1 hc
    have HC := Lib.hid hc
    have HDs := Lib.hid hd
    rw [hc]
    clear hc hd
    go_wp2_with fail
    refine (book_any s Ar Am Aw cr cm cw W2 hs2 b Af Ag cf cg hf2 hg2 hsw hsb).mono ?_
    rintro e W3 ⟨rfl, h3⟩
    have B3 := ex_trans B2 h3
    have q03 := q02.below h3 q02.lt
    have q13 := q12.below h3 q12.lt
    have hs3 := hs2.go h3
    have hf3 := (hf2.below h3).up h3.size
    have hg3 := (hg2.below h3).up h3.size
    clear a0 a1 a2 a3 l0 b0 b1 l1
    have a0 : W3.cell? ⟨p0, 0, none⟩ = some (.slice Ar s.rooms.length cr) := q03.cell 0
    have a1 : W3.cell? ⟨p0, 1, none⟩ = some (.int .i64 s.days) := q03.cell 1
    have a2 : W3.cell? ⟨p0, 2, none⟩ = some (.slice Am s.moves.length cm) := q03.cell 2
    have a3 : W3.cell? ⟨p0, 3, none⟩ = some (.slice Aw s.wgs.length cw) := q03.cell 3
    have l0 := q03.lt
    have b0 : W3.cell? ⟨p0 + 1, 0, none⟩ = some (.slice Af b.fs.length cf) := q13.cell 0
    have b1 : W3.cell? ⟨p0 + 1, 1, none⟩ = some (.slice Ag b.gs.length cg) := q13.cell 1
    have l1 := q13.lt
    cases hbk : bookB s b
    · have HBK := Lib.hid hbk
      clear hbk
      have HE : Hid (losE s b = 2) := Lib.hid (by unfold losE; rw [if_pos HC.out, if_neg (by rw [HBK.out]; simp)])
      have HV : Hid (losV s b = (0, 0)) := Lib.hid (by unfold losV; rw [if_neg (by rw [HE.out]; decide)])
      go_wp2_with fail
      rw [Exit.noGoto_ret]
      go_ret3
      exact ⟨by rw [HV.out, HE.out]; rfl, B3⟩
    · have HBK := Lib.hid hbk
      clear hbk
      go_wp2_with fail
      refine (ranges_any s Ar Am Aw cr cm cw W3 hs3 hw HDs.out).mono ?_
      rintro e W6 ⟨⟨n, A, cA, rA, rc, rfl, hR⟩, h6⟩
      have B6 := ex_trans B3 h6
      have HRV := Lib.hid hR
      clear hR
      have q06 := q03.below h6 q03.lt
      have q16 := q13.below h6 q13.lt
      have hs6 := hs3.go h6
      have hf6 := (hf3.below h6).up h6.size
      have hg6 := (hg3.below h6).up h6.size
      clear a0 a1 a2 a3 l0 b0 b1 l1
      have a0 : W6.cell? ⟨p0, 0, none⟩ = some (.slice Ar s.rooms.length cr) := q06.cell 0
      have a1 : W6.cell? ⟨p0, 1, none⟩ = some (.int .i64 s.days) := q06.cell 1
      have a2 : W6.cell? ⟨p0, 2, none⟩ = some (.slice Am s.moves.length cm) := q06.cell 2
      have a3 : W6.cell? ⟨p0, 3, none⟩ = some (.slice Aw s.wgs.length cw) := q06.cell 3
      have l0 := q06.lt
      have b0 : W6.cell? ⟨p0 + 1, 0, none⟩ = some (.slice Af b.fs.length cf) := q16.cell 0
      have b1 : W6.cell? ⟨p0 + 1, 1, none⟩ = some (.slice Ag b.gs.length cg) := q16.cell 1
      have l1 := q16.lt
      have HMO : Hid (losE s b = if truB (Good s.wo off0) = true then (if 0 ≤ losD s b then 0 else 7) else 9) := Lib.hid (by unfold losE; rw [if_pos HC.out, if_pos HBK.out])
      cases hg : truB (Good s.wo off0)
      · have HG := Lib.hid hg
        clear hg
        have HE : Hid (losE s b = 9) := Lib.hid (by rw [HMO.out, HG.out]; rfl)
        have HV : Hid (losV s b = (0, 0)) := Lib.hid (by unfold losV; rw [if_neg (by rw [HE.out]; decide)])
        go_wp2_with fail
        rw [Exit.noGoto_ret]
        go_ret3
        exact ⟨by rw [HV.out, HE.out]; rfl, B6⟩
      · have HG : Hid (Good s.wo off0) := Lib.hid (truB_iff.1 hg)
        have HME : Hid (losE s b = if 0 ≤ losD s b then 0 else 7) := Lib.hid (by rw [HMO.out, hg]; rfl)
        clear hg
        obtain ⟨hn, hM⟩ := HRV.out.yes HG.out
        subst hn
        obtain ⟨D, hD⟩ : ∃ D, s.wo.days = D := ⟨_, rfl⟩
        have hD6 : 1 ≤ D ∧ D ≤ 6 := by have := hw.days; omega
        have hr3 : 0 < s.rooms.length ∧ s.rooms.length ≤ 3 := ⟨hw.len.1, hw.len.2.1⟩
        have HSD : Hid (s.days = (D : Int)) := Lib.hid (by rw [HDs.out, hD])
        have HD := Lib.hid hD
        clear hD
        rw [HD.out] at hM
        go_wp2_with fail
        go_step3
        go_wp2_with fail
        rw [HSD.out]
        refine wp_loop (fun a W => Rel (fun a W => ∃ k : Nat, k ≤ D ∧ Below W6.heap.size W6 W ∧ Hid (∀ d, d < k → losR s b d = -1) ∧ ∃ u : Nat → Value, a = ⟨List.toArray (u 0 :: u 1 :: .pointer (some ⟨p0, 0, none⟩) :: .pointer (some ⟨p0 + 1, 0, none⟩) :: .int .i64 0 :: .int .i64 0 :: .int .i64 7 :: u 7 :: .slice A s.rooms.length cA :: u 9 :: u 10 :: u 11 :: u 12 :: u 13 :: u 14 :: u 15 :: u 16 :: u 17 :: u 18 :: u 19 :: u 20 :: u 21 :: u 22 :: u 23 :: u 24 :: u 25 :: u 26 :: u 27 :: u 28 :: .int .i64 (D : Int) :: .int .i64 (k : Int) :: u 31 :: u 32 :: u 33 :: u 34 :: u 35 :: u 36 :: u 37 :: u 38 :: u 39 :: u 40 :: u 41 :: u 42 :: u 43 :: u 44 :: u 45 :: u 46 :: u 47 :: u 48 :: u 49 :: u 50 :: u 51 :: u 52 :: u 53 :: u 54 :: u 55 :: u 56 :: u 57 :: u 58 :: u 59 :: []), []⟩) a W) (fun a _ => D - (intOf (a.tmps.getD 30 undef)).toNat) ⟨⟨0, by omega, Below.refl _ _, Lib.hid (fun d hd => by omega), exFrame (by kernel_rfl)⟩⟩ ?_
        clear a0 a1 a2 a3 l0 b0 b1 l1
        rintro a W ⟨⟨k, hk, hb, HK, u, rfl⟩⟩
        have q07 := q06.below hb q06.lt
        have q17 := q16.below hb q16.lt
        have a0 : W.cell? ⟨p0, 0, none⟩ = some (.slice Ar s.rooms.length cr) := q07.cell 0
        have a1 : W.cell? ⟨p0, 1, none⟩ = some (.int .i64 s.days) := q07.cell 1
        have a2 : W.cell? ⟨p0, 2, none⟩ = some (.slice Am s.moves.length cm) := q07.cell 2
        have a3 : W.cell? ⟨p0, 3, none⟩ = some (.slice Aw s.wgs.length cw) := q07.cell 3
        have l0 := q07.lt
        have b0 : W.cell? ⟨p0 + 1, 0, none⟩ = some (.slice Af b.fs.length cf) := q17.cell 0
        have b1 : W.cell? ⟨p0 + 1, 1, none⟩ = some (.slice Ag b.gs.length cg) := q17.cell 1
        have l1 := q17.lt
        by_cases hlt : k < D
        · go_wp2_with fail
          refine wp_loop (fun a W => Rel (fun a W => ∃ j : Nat, j ≤ s.rooms.length ∧ Below W6.heap.size W6 W ∧ Hid (∀ i, i < j → lostB s b k i = false) ∧ ∃ u : Nat → Value, a = ⟨List.toArray (u 0 :: u 1 :: .pointer (some ⟨p0, 0, none⟩) :: .pointer (some ⟨p0 + 1, 0, none⟩) :: .int .i64 0 :: .int .i64 0 :: .int .i64 7 :: u 7 :: .slice A s.rooms.length cA :: u 9 :: .int .i64 (k : Int) :: u 11 :: u 12 :: u 13 :: u 14 :: u 15 :: u 16 :: u 17 :: u 18 :: u 19 :: u 20 :: u 21 :: u 22 :: u 23 :: u 24 :: u 25 :: u 26 :: u 27 :: u 28 :: .int .i64 (D : Int) :: .int .i64 (k : Int) :: u 31 :: u 32 :: u 33 :: u 34 :: .int .i64 (s.rooms.length : Int) :: .int .i64 (j : Int) :: u 37 :: u 38 :: u 39 :: u 40 :: u 41 :: u 42 :: u 43 :: u 44 :: u 45 :: u 46 :: u 47 :: u 48 :: u 49 :: u 50 :: u 51 :: u 52 :: u 53 :: u 54 :: u 55 :: u 56 :: u 57 :: u 58 :: u 59 :: []), []⟩) a W) (fun a _ => s.rooms.length - (intOf (a.tmps.getD 36 undef)).toNat) ⟨⟨0, by omega, hb, Lib.hid (fun d hd => by omega), exFrame (by kernel_rfl)⟩⟩ ?_
          clear a0 a1 a2 a3 l0 b0 b1 l1
          clear q07 q17 hb W
          rintro a W ⟨⟨j, hj, hb, HJ, u2, rfl⟩⟩
          have q07 := q06.below hb q06.lt
          have q17 := q16.below hb q16.lt
          have a0 : W.cell? ⟨p0, 0, none⟩ = some (.slice Ar s.rooms.length cr) := q07.cell 0
          have a1 : W.cell? ⟨p0, 1, none⟩ = some (.int .i64 s.days) := q07.cell 1
          have a2 : W.cell? ⟨p0, 2, none⟩ = some (.slice Am s.moves.length cm) := q07.cell 2
          have a3 : W.cell? ⟨p0, 3, none⟩ = some (.slice Aw s.wgs.length cw) := q07.cell 3
          have l0 := q07.lt
          have b0 : W.cell? ⟨p0 + 1, 0, none⟩ = some (.slice Af b.fs.length cf) := q17.cell 0
          have b1 : W.cell? ⟨p0 + 1, 1, none⟩ = some (.slice Ag b.gs.length cg) := q17.cell 1
          have l1 := q17.lt
          by_cases hlj : j < s.rooms.length
          · have hMW := hM.go hb
            obtain ⟨bo, oo, b2, o2, rfl, hbo, x1, hb2, x2, x3⟩ := hMW.at_ hlj hlt
            clear hMW
            have HLB : Hid (lostB s b k j = decide ((stkR s.wo off0 j k).hi < saysF s.wo b j k)) := Lib.hid rfl
            have hEnd := good_ends hw HG.out (r := j) (d := k) hlj (by rw [HD.out]; exact hlt)
            have hin2 := stk_in hw hlj (by rw [HD.out]; exact hlt) hEnd.2.1
            have hok := stW_ok hw off0 s.wo.wgs.length (Nat.le_refl _) j k
            unfold inR at hin2
            clear hEnd
            obtain ⟨⟨zl, zh⟩, hz⟩ : ∃ x, stkR s.wo off0 j k = x := ⟨_, rfl⟩
            rw [hz] at x2 x3 hin2 HLB
            dsimp only at x2 x3 hin2 HLB
            have hzb : -2000000 ≤ zh ∧ zh ≤ 2000000 := by omega
            clear hin2 hok hz
            have hsb2 := saysF_bd s.wo b (bookB_iff.1 HBK.out) hw rfl j k hlj (by rw [HD.out]; exact hlt)
            obtain ⟨S, hS⟩ : ∃ x, saysF s.wo b j k = x := ⟨_, rfl⟩
            rw [hS] at hsb2 HLB
            have HS := Lib.hid hS
            clear hS
            have hjR : (j : Int) < (s.rooms.length : Int) := by omega
            have hkD : (k : Int) < (D : Int) := by omega
            have DD := (Below.refl W.heap.size W).drew
            have hb0 := ex_trans B6 hb
            have hsW := hs6.go (ex_trans hb DD)
            have hfW := (hf6.below (ex_trans hb DD)).up (ex_trans hb DD).size
            have hgW := (hg6.below (ex_trans hb DD)).up (ex_trans hb DD).size
            go_upto_region 16 with fail
            refine wp_region_ext_mix 13 [(false, 0), (false, 1), (false, 2), (false, 3), (false, 5), (false, 6), (false, 7), (false, 8), (false, 9), (false, 10), (false, 11), (false, 12), (true, 4)] (by kernel_rfl) (by kernel_rfl) (by intro d _ _ _ _ h; cases d <;> exact h) ?_
            repeat (refine mix_quiet rfl ?_; go_big_quiet_step (fail); refine wpQuiet_nil ?_)
            refine mix_loud rfl ?_
            go_wp2_with fail
            refine (says_any s Ar Am Aw cr cm cw W.drew hsW hw b Af Ag cf cg hfW hgW (bookB_iff.1 HBK.out) j k hlj (by rw [HD.out]; exact hlt)).mono ?_
            rintro e Z ⟨rfl, hz⟩
            rw [HS.out]
            have XZ := ex_trans DD hz
            have hbZ := ex_trans hb XZ
            go_wp2_with fail
            refine ⟨inEx XZ, ?_⟩
            repeat (refine mix_quiet rfl ?_; go_big_quiet_step (fail); refine wpQuiet_nil ?_)
            refine mix_nil (r := [_]) rfl ?_
            by_cases hlo : zh < S
            · have HLR : Hid (losR s b k = (j : Int)) := Lib.hid (firstOf_at hlj HJ.out (by rw [HLB.out]; exact decide_eq_true hlo))
              have HLD : Hid (losD s b = (k : Int)) := Lib.hid (by unfold losD; rw [HD.out]; exact firstOf_at hlt (fun d hd => decide_eq_false (by rw [HK.out d hd]; decide)) (decide_eq_true (by rw [HLR.out]; omega)))
              have HE : Hid (losE s b = 0) := Lib.hid (by rw [HME.out, if_pos (by rw [HLD.out]; omega)])
              have HV : Hid (losV s b = ((j : Int), (k : Int))) := Lib.hid (by unfold losV; rw [if_pos HE.out, HLD.out, Int.toNat_natCast, HLR.out])
              go_wp2_with fail
              rw [Exit.noGoto_ret]
              go_ret3
              exact ⟨by rw [HV.out, HE.out]; rfl, ex_trans B6 hbZ⟩
            · have HJ2 : Hid (∀ i, i < j + 1 → lostB s b k i = false) := Lib.hid (fun i hi => by
                rcases Nat.lt_succ_iff_lt_or_eq.1 hi with h | h
                · exact HJ.out i h
                · subst h; rw [HLB.out]; exact decide_eq_false hlo)
              go_wp2_with fail
              refine ⟨⟨⟨j + 1, by omega, hbZ, HJ2, exFrame (by kernel_rfl)⟩⟩, ?_⟩
              show s.rooms.length - (intOf (.int .i64 ((j : Int) + 1))).toNat < s.rooms.length - (intOf (.int .i64 (j : Int))).toNat
              simp [intOf]
              omega
          · have hjr : j = s.rooms.length := by omega
            have HK2 : Hid (∀ d, d < k + 1 → losR s b d = -1) := Lib.hid (fun d hd => by
              rcases Nat.lt_succ_iff_lt_or_eq.1 hd with h | h
              · exact HK.out d h
              · subst h; exact firstOf_neg (fun i hi => HJ.out i (by omega)))
            clear hjr
            go_wp2_with fail
            refine ⟨⟨⟨k + 1, by omega, hb, HK2, exFrame (by kernel_rfl)⟩⟩, ?_⟩
            show D - (intOf (.int .i64 ((k : Int) + 1))).toNat < D - (intOf (.int .i64 (k : Int))).toNat
            simp [intOf]
            omega
        · have hkD : k = D := by omega
          have HLD : Hid (losD s b = -1) := Lib.hid (by unfold losD; exact firstOf_neg (fun d hd => decide_eq_false (by rw [HK.out d (by rw [HD.out] at hd; omega)]; decide)))
          clear hkD
          have HE : Hid (losE s b = 7) := Lib.hid (by rw [HME.out, if_neg (by rw [HLD.out]; decide)])
          have HV : Hid (losV s b = (0, 0)) := Lib.hid (by unfold losV; rw [if_neg (by rw [HE.out]; decide)])
          go_wp2_with fail
          rw [Exit.noGoto_ret]
          go_ret3
          exact ⟨by rw [HV.out, HE.out]; rfl, ex_trans B6 hb⟩
  · have HE : Hid (losE s b = ckWs s) := Lib.hid (by unfold losE; rw [if_neg hc])
    have HV : Hid (losV s b = (0, 0)) := Lib.hid (by unfold losV; rw [if_neg (by rw [HE.out]; exact hc)])
    go_wp2_with fail
    rw [Exit.noGoto_ret]
    go_ret3
    exact ⟨by rw [HV.out, HE.out]; rfl, B2⟩
end Go.Proofs.Ythihdiilokdidaa
end

section
namespace Go.Proofs.Ythihdiilokdidaa
open Go.RowKit
attribute [local go_sem] Ex.cell? Ex.frozen? Gx.cell?
def setO (o : Nat → Bool) (n : Nat) : Nat → Bool := fun k => if k = n then true else o k
theorem offC_set (o : Nat → Bool) {n : Nat} (hn : n < 8) : (offC o).setIfInBounds n (.bool true) = offC (setO o n) := by
  match n, hn with
  | 0, _ => rfl
  | 1, _ => rfl
  | 2, _ => rfl
  | 3, _ => rfl
  | 4, _ => rfl
  | 5, _ => rfl
  | 6, _ => rfl
  | 7, _ => rfl

/-- what pick's loop adds, with so many ices left, from one on. -/
def loopL (A : (Nat → Bool) → Bool) (many : Nat) : Nat → List Int → (Nat → Bool) → Nat → List (List Int)
  | 0, _, _, _ => []
  | f + 1, lv, o, n => (if (lv ++ [(n : Int)]).length = many then (if A (setO o n) then [lv ++ [(n : Int)]] else []) else loopL A many f (lv ++ [(n : Int)]) (setO o n) (n + 1)) ++ loopL A many f lv o (n + 1)
/-- what pick adds. -/
def pickL (A : (Nat → Bool) → Bool) (many f : Nat) (lv : List Int) (o : Nat → Bool) (n : Nat) : List (List Int) :=
  if lv.length = many then (if A o then [lv] else []) else loopL A many f lv o n
theorem loopL_succ {A : (Nat → Bool) → Bool} {many f : Nat} {lv : List Int} {o : Nat → Bool} {n : Nat} :
    loopL A many (f + 1) lv o n = pickL A many f (lv ++ [(n : Int)]) (setO o n) (n + 1) ++ loopL A many f lv o (n + 1) := rfl
/-- how many there are at most. -/
def wt : Nat → Nat
  | 0 => 1
  | n + 1 => wt n + wt n
theorem wt_pos : ∀ n, 1 ≤ wt n
  | 0 => Nat.le_refl _
  | n + 1 => by have := wt_pos n; rw [wt]; omega
theorem loopL_len {A : (Nat → Bool) → Bool} {many : Nat} : ∀ {f : Nat} {lv : List Int} {o : Nat → Bool} {n : Nat}, (loopL A many f lv o n).length + 1 ≤ wt f
  | 0, _, _, _ => by simp [loopL, wt]
  | f + 1, lv, o, n => by
    rw [loopL, wt, List.length_append]
    have h1 := loopL_len (A := A) (many := many) (f := f) (lv := lv) (o := o) (n := n + 1)
    have h2 := loopL_len (A := A) (many := many) (f := f) (lv := lv ++ [(n : Int)]) (o := setO o n) (n := n + 1)
    have h3 := wt_pos f
    have h4 : (if (lv ++ [(n : Int)]).length = many then (if A (setO o n) then [lv ++ [(n : Int)]] else []) else loopL A many f (lv ++ [(n : Int)]) (setO o n) (n + 1)).length ≤ wt f := by
      split
      · split <;> simp <;> omega
      · omega
    omega
theorem pickL_len {A : (Nat → Bool) → Bool} {many f : Nat} {lv : List Int} {o : Nat → Bool} {n : Nat} : (pickL A many f lv o n).length ≤ wt f := by
  have h1 := loopL_len (A := A) (many := many) (f := f) (lv := lv) (o := o) (n := n)
  have h3 := wt_pos f
  unfold pickL
  split
  · split <;> simp <;> omega
  · omega

/-- Clone at a row of the call's own. -/
theorem clone_own {w : World} {base : Nat} {v : Value} {l : List Int} (hl : l.length ≤ 1000000) (h : w.ownsRow base 3 1 v l.length (l.map (Value.int .i64))) :
    Calls Try.prog 71 #[v] w fun e w' => ∃ v', e = .returned v' ∧ w'.ownsRow w.heap.size 3 1 v' l.length (l.map (Value.int .i64)) ∧ Below w.heap.size w w' := by
  obtain ⟨A, c, rfl, hlc, hsl⟩ := own_sl h
  rcases h.2 with ⟨hv, h0⟩ | ⟨g, cap, cur, hv, hb, hh, rest⟩
  · injection hv with hv1 hv2 hv3
    subst hv1 hv3
    refine (slices_Clone_int_nil l.length 0 w).mono ?_
    rintro e w' ⟨rfl, rfl⟩
    exact ⟨_, rfl, ⟨by simp, .inl ⟨rfl, h0⟩⟩, Below.refl _ _⟩
  · injection hv with hv1 hv2 hv3
    subst hv1
    refine (slices_Clone_int g 0 l.length c l w (Nat.le_refl _) (by omega) (fun j hj => ?_)).mono ?_
    · obtain ⟨b, off, e, _, hc⟩ := hsl (by omega)
      injection e with e; injection e with e1 e2; subst e1 e2
      simpa [fI, gI] using hc j 0 hj (by omega)
    · rintro e w' ⟨v', rfl, ho, _, hb⟩
      rw [List.take_length] at ho
      exact ⟨v', rfl, ho, hb⟩


/-- do the weighings agree, but some? -/
noncomputable def agrO (s : Ws) (o : Nat → Bool) : Bool := truB (Good s.wo o)

/-- what lies when pick begins: its boxes, the rows found so far, the row that is handed in. -/
structure PS (w0 : World) (rc : Array Value) (many pm pr po pp base : Nat) (vout vl : Value) (lv : List Int) (vals : List Value) (outL : List (List Int)) (w : World) : Prop where
  bw : Below w0.heap.size w0 w
  qm : Blk w pm 3 #[.int .i64 (many : Int)]
  qr : Blk w pr 42 rc
  qo : Blk w po 29 #[vout]
  qp : Blk w pp 179 #[.func (.func 106) #[] #[.pointer (some ⟨pm, 0, none⟩), .pointer (some ⟨pr, 0, none⟩), .pointer (some ⟨po, 0, none⟩), .pointer (some ⟨pp, 0, none⟩)]]
  oo : w.ownsRow base 28 1 vout vals.length vals
  ol : w.ownsRow base 3 1 vl lv.length (lv.map (Value.int .i64))
  rows : RowsAre w base vals outL
  ap : ∀ v ∈ vals, ∀ b, v.ownBlock = some b → vl.ownBlock ≠ some b
/-- which blocks pick may turn. -/
def PR (po : Nat) (vl vout : Value) (b : Nat) : Prop := b = po ∨ vl.ownBlock = some b ∨ vout.ownBlock = some b
/-- what pick leaves. -/
def PO (w0 : World) (rc : Array Value) (many pm pr po pp base : Nat) (vl : Value) (lv : List Int) (w : World) (vout : Value) (vals : List Value) (outL res : List (List Int)) (w' : World) : Prop :=
  ∃ vout' news, PS w0 rc many pm pr po pp base vout' vl lv (vals ++ news) (outL ++ res) w' ∧ Fr (PR po vl vout) w w' ∧ (∀ v ∈ news, ∀ b, v.ownBlock = some b → w.heap.size ≤ b) ∧ (∀ b, vout'.ownBlock = some b → vout.ownBlock = some b ∨ w.heap.size ≤ b)

theorem PS.fr (w0 : World) (rc : Array Value) (many pm pr po pp base : Nat) {vout vl : Value} {lv : List Int} {vals : List Value} {outL : List (List Int)} {w w' : World} (hB : w0.heap.size ≤ base) (h : PS w0 rc many pm pr po pp base vout vl lv vals outL w) (hb : Below w.heap.size w w') : PS w0 rc many pm pr po pp base vout vl lv vals outL w' := by
  have hf : Fr (fun _ => False) w w' := Fr.below hb
  exact ⟨h.bw.trans (hb.mono h.bw.size), h.qm.fr hf id, h.qr.fr hf id, h.qo.fr hf id, h.qp.fr hf id, own_fr h.oo hf (fun _ _ => id), own_fr h.ol hf (fun _ _ => id), h.rows.fr hf (fun _ _ _ _ => id), h.ap⟩

def oneL (r : Bool) (lv : List Int) : List (List Int) := if r then [lv] else []

set_option maxRecDepth 100000 in
set_option maxHeartbeats 3200000 in
theorem pick_one (s : Ws) (Ar Am Aw : Option Addr) (cr cm cw : Nat) (w0 : World) (hs : WsIn w0 w0.heap.size s Ar Am Aw) (hw : WoOk s.wo) (HDs : Hid (s.days = (s.wo.days : Int)))
    (many pm pr po pp base : Nat) (hpo : w0.heap.size ≤ po) (hlt : pm < base ∧ pr < base ∧ po < base ∧ pp < base) (hB : w0.heap.size ≤ base) (hne : pm ≠ po ∧ pr ≠ po ∧ pp ≠ po) (hb4 : base ≤ pp + 1)
    (A : Option Addr) (c : Nat) (lv : List Int) (o : Nat → Bool) (n : Nat) (vout : Value) (vals : List Value) (outL : List (List Int)) (w : World) (hll : lv.length ≤ 8) (hvl : vals.length ≤ 100000) (hmany : lv.length = many)
    (hps : PS w0 #[.slice Ar s.rooms.length cr, .int .i64 s.days, .slice Am s.moves.length cm, .slice Aw s.wgs.length cw] many pm pr po pp base vout (.slice A lv.length c) lv vals outL w) :
    Calls Try.prog 106 #[.slice A lv.length c, .agg #[.bool (o 0), .bool (o 1), .bool (o 2), .bool (o 3), .bool (o 4), .bool (o 5), .bool (o 6), .bool (o 7)], .int .i64 (n : Int), .pointer (some ⟨pm, 0, none⟩), .pointer (some ⟨pr, 0, none⟩), .pointer (some ⟨po, 0, none⟩), .pointer (some ⟨pp, 0, none⟩)] w fun e w' =>
      (∃ v, e = .returned v) ∧ PO w0 #[.slice Ar s.rooms.length cr, .int .i64 s.days, .slice Am s.moves.length cm, .slice Aw s.wgs.length cw] many pm pr po pp base (.slice A lv.length c) lv w vout vals outL (oneL (agrO s o) lv) w' := by
  obtain ⟨i0, hi0, hz0, hz1, hz2⟩ := info_parts ints_info
  have HI := Lib.hid hi0
  clear hi0
  have HPS := Lib.hid hps
  have hb1 := ex_alloc (Below.refl w.heap.size w) (.cells #[.bool (o 0), .bool (o 1), .bool (o 2), .bool (o 3), .bool (o 4), .bool (o 5), .bool (o 6), .bool (o 7)] 156)
  have hps1 := hps.fr _ _ _ _ _ _ _ _ hB hb1
  have q8 : Blk (w.alloc (.cells #[.bool (o 0), .bool (o 1), .bool (o 2), .bool (o 3), .bool (o 4), .bool (o 5), .bool (o 6), .bool (o 7)] 156)) w.heap.size 156 #[.bool (o 0), .bool (o 1), .bool (o 2), .bool (o 3), .bool (o 4), .bool (o 5), .bool (o 6), .bool (o 7)] := Blk.new _ _ _
  have hm1 : w.cell? ⟨pm, 0, none⟩ = some (.int .i64 (many : Int)) := hps.qm.cell 0
  have lm := hps.qm.lt
  have lr := hps.qr.lt
  have lo := hps.qo.lt
  have a0 := hps.qr.cell 0
  have a1 := hps.qr.cell 1
  have a2 := hps.qr.cell 2
  have a3 := hps.qr.cell 3
  have ao : w.cell? ⟨po, 0, none⟩ = some vout := hps.qo.cell 0
  have fo := hps.qo.frozen 0
  simp at a0 a1 a2 a3
  have hmb : ((lv.length : Int) == (many : Int)) = true := by simp [hmany]
  have hmb' : (lv.length == many) = true := by simp [hmany]
  have hbw := hps1.bw
  have HPS1 := Lib.hid hps1
  clear hmany hps hps1
  go_enter Try.func106, Try.ntmps106
  go_wp2_with fail
  have h8 : s.wgs.length ≤ 8 := hw.len.2.2.2
  refine (yard_any s Ar Am Aw cr cm cw _ ((hs.below hbw).up hbw.size) hw HDs.out o).mono ?_
  rintro e w1 ⟨⟨mm, rfl, hmm, FF, hmp, hFF⟩, hy1⟩
  have hby := ex_trans hbw hy1
  go_wp2_with fail
  refine (can_any s Ar Am Aw cr cm cw w1 ((hs.below hby).up hby.size) mm FF (stW s.wgs o s.wgs.length) hw HDs.out hmp hFF (stW_ok hw o _ (Nat.le_refl _))).mono ?_
  rintro e w2 ⟨rfl, hcz⟩
  have hb2 := ex_trans hy1 hcz
  rw [show truB (CanSt s.wo (stW s.wgs o s.wgs.length)) = agrO s o from truB_congr (canSt_good hw)]
  have hps2 := PS.fr _ _ _ _ _ _ _ _ hB HPS1.out hb2
  have hB2 := ex_trans hb1 hb2
  obtain ⟨r, hr⟩ : ∃ r, agrO s o = r := ⟨_, rfl⟩
  rw [hr]
  have HR := Lib.hid hr
  clear hr
  cases r
  · have HPS2 := Lib.hid hps2
    clear hps2
    go_wp2
    refine bodyPost_ret (results_none rfl _ _ _) rfl ?_
    refine ⟨⟨_, rfl⟩, vout, [], ?_, Fr.below hB2, by simp, fun b hb => .inl hb⟩
    rw [List.append_nil, HR.out, oneL, if_neg (by simp), List.append_nil]
    exact HPS2.out
  · have lo2 := hps2.qo.lt
    have ao2 : w2.cell? ⟨po, 0, none⟩ = some vout := hps2.qo.cell 0
    have fo2 := hps2.qo.frozen 0
    have hno : ¬ some po = vout.ownBlock := fun e => own_blkne hps2.oo hps2.qo (by decide) e.symm
    have ho2 := hps2.ol
    have HPS2 := Lib.hid hps2
    clear hps2
    go_wp2_with fail
    refine wp_region_gx_held vout.ownBlock 5 [0, 1] [2, 3, 4] (by kernel_rfl) (by kernel_rfl) (by intro d _ _ _ _ h; cases d <;> exact h) ?_
    simp only [List.filterMap_cons, List.filterMap_nil, List.getElem?_cons_zero, List.getElem?_cons_succ, List.drop_succ_cons, List.drop_zero]
    show wpQuiet _ _ _ _ [_, _] _
    repeat (any_goals (go_big_quiet_step (fail)))
    refine wpQuiet_nil ?_
    simp only [wpLoud]
    go_wp2_with fail
    refine (clone_own (w := w2.drew) (by omega) ho2).mono ?_
    rintro e w3 ⟨vc, rfl, hoc, hb3⟩
    obtain ⟨Ac, cc, rfl, hcc, -⟩ := own_sl hoc
    have hb3' : Below w2.heap.size w2 w3 := (Below.refl w2.heap.size w2).drew.trans hb3
    have hps3 := PS.fr _ _ _ _ _ _ _ _ hB HPS2.out hb3'
    have ho3 := hps3.oo.alloc (.cells #[.slice Ac lv.length cc] 28)
    have lo3 := hps3.qo.lt
    have hbs : base ≤ w3.heap.size + 1 := by have := hps3.qp.lt; omega
    have ao3 := hps3.qo.alloc (.cells #[.slice Ac lv.length cc] 28)
    have fo3 := ao3.frozen 0
    have HPS3 := Lib.hid hps3
    have c63 : vals.length + 1 ≤ maxLen := by unfold maxLen; omega
    clear hps3 ho2
    go_wp2_with fail
    refine ⟨grown_row hb3', ?_⟩
    go_wp2_with fail
    refine ⟨(grown_row hb3').andThen (grown_of_below ((Below.refl _ _).alloc (Nat.le_refl _) _)) (fun j hj => by cases hj), ?_⟩
    go_wp2_with (at_builtin; refine wpList_append_lies _ rfl _ _ _ rfl base 28 i0 _ 1 24 Try.underlying29 HI.out hz0 hz1 hz2 rfl (by omega) vout _ _ rfl ho3 ⟨w3.heap.size, 0, none⟩ 1 1 [.slice Ac lv.length cc] rfl rfl (World.news_of_block (heap_alloc_new w3 _)) (by simp [Value.oneCell']) (by omega) c63 (by omega) (by simpa using hbs) (w3.heap.size + 1) (by simp) ?_; intro gg cap w4 hown' hgrow hat hlt')
    refine ⟨((grown_row hb3').andThen (grown_of_below ((Below.refl _ _).alloc (Nat.le_refl _) _)) (fun j hj => by cases hj)).andThen hgrow (fun j hj => .inr hj), ?_⟩
    have hno' : some po ≠ vout.ownBlock := hno
    have qo4 := ao3.grown hgrow hno'
    have ao4 : w4.cell? ⟨po, 0, none⟩ = some vout := qo4.cell 0
    have fo4 := qo4.frozen 0
    have lo4 := qo4.lt
    go_wp2
    refine bodyPost_ret (results_none rfl _ _ _) rfl ?_
    have P := HPS.out
    have hA1 : Fr (fun b => b = po ∨ vout.ownBlock = some b) w3 ((w4.setCell ⟨po, 0, none⟩ (.slice (some ⟨gg, 0, none⟩) (vals.length + 1) cap))) :=
      ((Fr.below ((Below.refl w3.heap.size w3).alloc (Nat.le_refl _) _)).trans (Fr.grown (R := fun b => b = po ∨ vout.ownBlock = some b) hgrow (fun b hb => .inl (.inr hb))) (fun _ _ h => h)).trans (Fr.set _ _ _ _ (.inl rfl)) (fun _ _ h => h)
    have hA2 : Fr (fun b => b = po ∨ vout.ownBlock = some b) w ((w4.setCell ⟨po, 0, none⟩ (.slice (some ⟨gg, 0, none⟩) (vals.length + 1) cap))) :=
      ((Fr.below hB2).trans (Fr.below hb3') (fun _ _ h => h)).trans hA1 (fun _ _ h => h)
    have hvo : ∀ b, vout.ownBlock = some b → base ≤ b ∧ b < w.heap.size := fun b hb => own_lt P.oo hb
    have hvl : ∀ b, (Value.slice A lv.length c).ownBlock = some b → base ≤ b ∧ b < w.heap.size := fun b hb => own_lt P.ol hb
    have hw2 := hB2.size
    have hw3 := hb3'.size
    have hsm : ∀ x, x < base → x ≠ po → ¬ (x = po ∨ vout.ownBlock = some x) := fun x h1 h2 h3 => by
      rcases h3 with h3 | h3
      · exact h2 h3
      · have := hvo x h3; omega
    refine ⟨⟨_, rfl⟩, .slice (some ⟨gg, 0, none⟩) (vals.length + 1) cap, [.slice Ac lv.length cc], ?_, ?_, ?_, ?_⟩
    · rw [HR.out, oneL, if_pos rfl]
      refine ⟨hA2.toBelow P.bw P.bw.size (fun x hx => ?_), P.qm.fr hA2 (hsm _ hlt.1 hne.1), P.qr.fr hA2 (hsm _ hlt.2.1 hne.2.1), qo4.set_ 0 _, P.qp.fr hA2 (hsm _ hlt.2.2.2 hne.2.2), ?_, ?_, ?_, ?_⟩
      · rcases hx with rfl | hx
        · exact hpo
        · have := hvo x hx; omega
      · have h1 := own_far hown' (p := ⟨po, 0, none⟩) (show po < base by omega) (.slice (some ⟨gg, 0, none⟩) (vals.length + 1) cap)
        simpa using h1
      · refine own_fr P.ol hA2 (fun b hb h3 => ?_)
        rcases h3 with h3 | h3
        · have := hvl b hb; omega
        · exact own_ownne P.ol P.oo (by decide) hb h3
      · refine RowsAre.snoc (own_fr (own_base hoc (by show base ≤ w2.heap.size; have := P.qp.lt; omega)) hA1 (fun b hb h3 => ?_)) (P.rows.fr hA2 (fun v hv b hb h3 => ?_))
        · have h4 : w2.heap.size ≤ b := (own_lt hoc hb).1
          rcases h3 with h3 | h3
          · omega
          · have := hvo b h3; omega
        · rcases h3 with h3 | h3
          · have := RowsAre.lt P.rows v hv b hb; omega
          · exact RowsAre.ne P.oo (by decide) P.rows v hv b hb h3
      · intro v hv b hb hx
        rcases List.mem_append.1 hv with hv | hv
        · exact P.ap v hv b hb hx
        · rw [List.mem_singleton.1 hv] at hb
          have h4 : w2.heap.size ≤ b := (own_lt hoc hb).1
          have := hvl b hx; omega
    · exact (Fr.refl _ w).trans hA2 (fun x _ h3 => by rcases h3 with h3 | h3; exact .inl h3; exact .inr (.inr h3))
    · intro v hv b hb
      rw [List.mem_singleton.1 hv] at hb
      have h4 : w2.heap.size ≤ b := (own_lt hoc hb).1
      omega
    · intro b hb
      have hgb : gg = b := by simpa [Value.ownBlock] using hb
      subst hgb
      rcases hat with h4 | h4
      · exact .inl h4
      · right; omega


/-- what holds at the head of pick's loop, so many ices done. -/
def PL (A : (Nat → Bool) → Bool) (w0 : World) (rc : Array Value) (many pm pr po pp base : Nat) (vl : Value) (lv : List Int) (o : Nat → Bool) (m f n : Nat) (w1 : World) (q8 : Nat) (vout : Value) (vals : List Value) (outL : List (List Int)) (k : Nat) (wr : World) : Prop :=
  ∃ vout' news res, PS w0 rc many pm pr po pp base vout' vl lv (vals ++ news) (outL ++ res) wr ∧ Fr (PR po vl vout) w1 wr ∧ (∀ v ∈ news, ∀ b, v.ownBlock = some b → w1.heap.size ≤ b) ∧ (∀ b, vout'.ownBlock = some b → vout.ownBlock = some b ∨ w1.heap.size ≤ b) ∧
    Blk wr q8 156 #[.bool (o 0), .bool (o 1), .bool (o 2), .bool (o 3), .bool (o 4), .bool (o 5), .bool (o 6), .bool (o 7)] ∧ res ++ loopL A many (m - k) lv o k = loopL A many f lv o n ∧ news.length + wt (m - k) ≤ wt f

set_option maxRecDepth 100000 in
set_option maxHeartbeats 6400000 in
theorem pick_any (s : Ws) (Ar Am Aw : Option Addr) (cr cm cw : Nat) (w0 : World) (hs : WsIn w0 w0.heap.size s Ar Am Aw) (hw : WoOk s.wo) (HDs : Hid (s.days = (s.wo.days : Int)))
    (many pm pr po pp base : Nat) (hpo : w0.heap.size ≤ po) (hlt : pm < base ∧ pr < base ∧ po < base ∧ pp < base) (hB : w0.heap.size ≤ base) (hne : pm ≠ po ∧ pr ≠ po ∧ pp ≠ po) (hb4 : base ≤ pp + 1) :
    ∀ (j f : Nat), f < j → ∀ (A : Option Addr) (c : Nat) (lv : List Int) (o : Nat → Bool) (n : Nat) (vout : Value) (vals : List Value) (outL : List (List Int)) (w : World), n + f = s.wgs.length → lv.length ≤ n → vals.length + wt f ≤ 100000 →
    PS w0 #[.slice Ar s.rooms.length cr, .int .i64 s.days, .slice Am s.moves.length cm, .slice Aw s.wgs.length cw] many pm pr po pp base vout (.slice A lv.length c) lv vals outL w →
    Calls Try.prog 106 #[.slice A lv.length c, .agg #[.bool (o 0), .bool (o 1), .bool (o 2), .bool (o 3), .bool (o 4), .bool (o 5), .bool (o 6), .bool (o 7)], .int .i64 (n : Int), .pointer (some ⟨pm, 0, none⟩), .pointer (some ⟨pr, 0, none⟩), .pointer (some ⟨po, 0, none⟩), .pointer (some ⟨pp, 0, none⟩)] w fun e w' =>
      (∃ v, e = .returned v) ∧ PO w0 #[.slice Ar s.rooms.length cr, .int .i64 s.days, .slice Am s.moves.length cm, .slice Aw s.wgs.length cw] many pm pr po pp base (.slice A lv.length c) lv w vout vals outL (pickL (agrO s) many f lv o n) w' := by
  intro j
  induction j with
  | zero => intro f hf; omega
  | succ j ih =>
    intro f hf A c lv o n vout vals outL w hnf hln hcap hps
    have hwt := wt_pos f
    have h8 : s.wgs.length ≤ 8 := hw.len.2.2.2
    by_cases hmany : lv.length = many
    · have := pick_one s Ar Am Aw cr cm cw w0 hs hw HDs many pm pr po pp base hpo hlt hB hne hb4 A c lv o n vout vals outL w (by omega) (by omega) hmany hps
      rw [show pickL (agrO s) many f lv o n = oneL (agrO s o) lv by unfold pickL oneL; rw [if_pos hmany]]
      exact this
    have HPK : Hid (pickL (agrO s) many f lv o n = loopL (agrO s) many f lv o n) := Lib.hid (by unfold pickL; rw [if_neg hmany])
    have HIH := Lib.hid ih
    clear ih
    have hmb : ((lv.length : Int) == (many : Int)) = false := by rw [beq_eq_false_iff_ne]; omega
    have hmb' : (lv.length == many) = false := by rw [beq_eq_false_iff_ne]; omega
    have hb1 := ex_alloc (Below.refl w.heap.size w) (.cells #[.bool (o 0), .bool (o 1), .bool (o 2), .bool (o 3), .bool (o 4), .bool (o 5), .bool (o 6), .bool (o 7)] 156)
    have hps1 := hps.fr _ _ _ _ _ _ _ _ hB hb1
    have q8 : Blk (w.alloc (.cells #[.bool (o 0), .bool (o 1), .bool (o 2), .bool (o 3), .bool (o 4), .bool (o 5), .bool (o 6), .bool (o 7)] 156)) w.heap.size 156 #[.bool (o 0), .bool (o 1), .bool (o 2), .bool (o 3), .bool (o 4), .bool (o 5), .bool (o 6), .bool (o 7)] := Blk.new _ _ _
    have hm1 : w.cell? ⟨pm, 0, none⟩ = some (.int .i64 (many : Int)) := hps.qm.cell 0
    have lm := hps.qm.lt
    have hP0 : PL (agrO s) w0 #[.slice Ar s.rooms.length cr, .int .i64 s.days, .slice Am s.moves.length cm, .slice Aw s.wgs.length cw] many pm pr po pp base (.slice A lv.length c) lv o s.wgs.length f n w w.heap.size vout vals outL n (w.alloc (.cells #[.bool (o 0), .bool (o 1), .bool (o 2), .bool (o 3), .bool (o 4), .bool (o 5), .bool (o 6), .bool (o 7)] 156)) :=
      ⟨vout, [], [], by rw [List.append_nil, List.append_nil]; exact hps1, Fr.below hb1, by simp, fun b hb => .inl hb, q8, by rw [show s.wgs.length - n = f by omega]; rfl, by rw [show s.wgs.length - n = f by omega]; simp⟩
    have HPS := Lib.hid hps
    have HNF := Lib.hid hnf
    have hnl : n ≤ s.wgs.length := by omega
    clear hnf hmany hps hps1
    go_enter Try.func106, Try.ntmps106
    go_wp2_with fail
    go_loopw [11, 12] (fun i _ wr => ∃ k : Nat, n ≤ k ∧ k ≤ s.wgs.length ∧ i = .int .i64 k ∧ PL (agrO s) w0 #[.slice Ar s.rooms.length cr, .int .i64 s.days, .slice Am s.moves.length cm, .slice Aw s.wgs.length cw] many pm pr po pp base (.slice A lv.length c) lv o s.wgs.length f n w w.heap.size vout vals outL k wr)
      (fun i _ _ => s.wgs.length - (intOf i).toNat)
    case atStart => exact ⟨n, by omega, by omega, rfl, hP0⟩
    case round =>
      clear hP0 q8 hm1 hb1
      obtain ⟨k, hnk, hk, rfl, vout', news, res, hps, hfr, hfresh, hvo', q8, hres, hwt2⟩ := hrel
      have lr := hps.qr.lt
      have l8 := q8.lt
      have lp := hps.qp.lt
      have lo := hps.qo.lt
      have a3 : wr.cell? ⟨pr, 3, none⟩ = some (.slice Aw s.wgs.length cw) := hps.qr.cell 3
      have ap : wr.cell? ⟨pp, 0, none⟩ = some (.func (.func 106) #[] #[.pointer (some ⟨pm, 0, none⟩), .pointer (some ⟨pr, 0, none⟩), .pointer (some ⟨po, 0, none⟩), .pointer (some ⟨pp, 0, none⟩)]) := hps.qp.cell 0
      have c0 : wr.cell? ⟨w.heap.size, 0, none⟩ = some (.bool (o 0)) := q8.cell 0
      have c1 : wr.cell? ⟨w.heap.size, 1, none⟩ = some (.bool (o 1)) := q8.cell 1
      have c2 : wr.cell? ⟨w.heap.size, 2, none⟩ = some (.bool (o 2)) := q8.cell 2
      have c3 : wr.cell? ⟨w.heap.size, 3, none⟩ = some (.bool (o 3)) := q8.cell 3
      have c4 : wr.cell? ⟨w.heap.size, 4, none⟩ = some (.bool (o 4)) := q8.cell 4
      have c5 : wr.cell? ⟨w.heap.size, 5, none⟩ = some (.bool (o 5)) := q8.cell 5
      have c6 : wr.cell? ⟨w.heap.size, 6, none⟩ = some (.bool (o 6)) := q8.cell 6
      have c7 : wr.cell? ⟨w.heap.size, 7, none⟩ = some (.bool (o 7)) := q8.cell 7
      have HPSR := Lib.hid hps
      have HRES := Lib.hid hres
      have HVO := Lib.hid hvo'
      have HFRESH := Lib.hid hfresh
      clear hps hres hvo' hfresh
      by_cases hkl : k < s.wgs.length
      · have hk8 : k < 8 := by omega
        obtain ⟨o', ho'⟩ : ∃ o', setO o k = o' := ⟨_, rfl⟩
        have hset : (([Value.bool (o 0), Value.bool (o 1), Value.bool (o 2), Value.bool (o 3), Value.bool (o 4), Value.bool (o 5), Value.bool (o 6), Value.bool (o 7)] : List Value).set k (Value.bool true)).toArray = #[.bool (o' 0), .bool (o' 1), .bool (o' 2), .bool (o' 3), .bool (o' 4), .bool (o' 5), .bool (o' 6), .bool (o' 7)] := by
          rw [← ho']
          exact (by simpa [offC] using offC_set o hk8)
        have HO := Lib.hid ho'
        have HSET := Lib.hid hset
        clear ho' hset
        have hbW := ex_alloc (Below.refl wr.heap.size wr) (.cells #[.bool (o' 0), .bool (o' 1), .bool (o' 2), .bool (o' 3), .bool (o' 4), .bool (o' 5), .bool (o' 6), .bool (o' 7)] 156)
        have hpsW := HPSR.out.fr _ _ _ _ _ _ _ _ hB hbW
        have y8 : Blk (wr.alloc (.cells #[.bool (o' 0), .bool (o' 1), .bool (o' 2), .bool (o' 3), .bool (o' 4), .bool (o' 5), .bool (o' 6), .bool (o' 7)] 156)) wr.heap.size 156 #[.bool (o' 0), .bool (o' 1), .bool (o' 2), .bool (o' 3), .bool (o' 4), .bool (o' 5), .bool (o' 6), .bool (o' 7)] := Blk.new _ _ _
        obtain ⟨row, hrow⟩ : ∃ row, (Value.slice A lv.length c).ownBlock = row := ⟨_, rfl⟩
        have hvl : ∀ b, (Value.slice A lv.length c).ownBlock = some b → base ≤ b ∧ b < w.heap.size := fun b hb => own_lt HPS.out.ol hb
        have hfs := hfr.size
        have hn1 : ¬ some pp = row := fun e => by have := hvl pp (hrow.trans e.symm); omega
        have hn2 : ¬ some wr.heap.size = row := fun e => by have := hvl _ (hrow.trans e.symm); omega
        have HROW := Lib.hid hrow
        clear hrow
        go_wp2_with fail
        rw [HSET.out]
        have hWs : (wr.alloc (.cells #[.bool (o' 0), .bool (o' 1), .bool (o' 2), .bool (o' 3), .bool (o' 4), .bool (o' 5), .bool (o' 6), .bool (o' 7)] 156)).heap.size = wr.heap.size + 1 := by simp
        have apW : (wr.alloc (.cells #[.bool (o' 0), .bool (o' 1), .bool (o' 2), .bool (o' 3), .bool (o' 4), .bool (o' 5), .bool (o' 6), .bool (o' 7)] 156)).cell? ⟨pp, 0, none⟩ = some (.func (.func 106) #[] #[.pointer (some ⟨pm, 0, none⟩), .pointer (some ⟨pr, 0, none⟩), .pointer (some ⟨po, 0, none⟩), .pointer (some ⟨pp, 0, none⟩)]) := hpsW.qp.cell 0
        have lpW := hpsW.qp.lt
        have ly := y8.lt
        have d0 : (wr.alloc (.cells #[.bool (o' 0), .bool (o' 1), .bool (o' 2), .bool (o' 3), .bool (o' 4), .bool (o' 5), .bool (o' 6), .bool (o' 7)] 156)).cell? ⟨wr.heap.size, 0, none⟩ = some (.bool (o' 0)) := y8.cell 0
        have d1 : (wr.alloc (.cells #[.bool (o' 0), .bool (o' 1), .bool (o' 2), .bool (o' 3), .bool (o' 4), .bool (o' 5), .bool (o' 6), .bool (o' 7)] 156)).cell? ⟨wr.heap.size, 1, none⟩ = some (.bool (o' 1)) := y8.cell 1
        have d2 : (wr.alloc (.cells #[.bool (o' 0), .bool (o' 1), .bool (o' 2), .bool (o' 3), .bool (o' 4), .bool (o' 5), .bool (o' 6), .bool (o' 7)] 156)).cell? ⟨wr.heap.size, 2, none⟩ = some (.bool (o' 2)) := y8.cell 2
        have d3 : (wr.alloc (.cells #[.bool (o' 0), .bool (o' 1), .bool (o' 2), .bool (o' 3), .bool (o' 4), .bool (o' 5), .bool (o' 6), .bool (o' 7)] 156)).cell? ⟨wr.heap.size, 3, none⟩ = some (.bool (o' 3)) := y8.cell 3
        have d4 : (wr.alloc (.cells #[.bool (o' 0), .bool (o' 1), .bool (o' 2), .bool (o' 3), .bool (o' 4), .bool (o' 5), .bool (o' 6), .bool (o' 7)] 156)).cell? ⟨wr.heap.size, 4, none⟩ = some (.bool (o' 4)) := y8.cell 4
        have d5 : (wr.alloc (.cells #[.bool (o' 0), .bool (o' 1), .bool (o' 2), .bool (o' 3), .bool (o' 4), .bool (o' 5), .bool (o' 6), .bool (o' 7)] 156)).cell? ⟨wr.heap.size, 5, none⟩ = some (.bool (o' 5)) := y8.cell 5
        have d6 : (wr.alloc (.cells #[.bool (o' 0), .bool (o' 1), .bool (o' 2), .bool (o' 3), .bool (o' 4), .bool (o' 5), .bool (o' 6), .bool (o' 7)] 156)).cell? ⟨wr.heap.size, 6, none⟩ = some (.bool (o' 6)) := y8.cell 6
        have d7 : (wr.alloc (.cells #[.bool (o' 0), .bool (o' 1), .bool (o' 2), .bool (o' 3), .bool (o' 4), .bool (o' 5), .bool (o' 6), .bool (o' 7)] 156)).cell? ⟨wr.heap.size, 7, none⟩ = some (.bool (o' 7)) := y8.cell 7
        clear c0 c1 c2 c3 c4 c5 c6 c7 a3 ap
        have HPSW := Lib.hid hpsW
        have HY8 := Lib.hid y8
        have HBW := Lib.hid hbW
        clear hpsW y8 hbW HSET
        generalize hW : wr.alloc (.cells #[.bool (o' 0), .bool (o' 1), .bool (o' 2), .bool (o' 3), .bool (o' 4), .bool (o' 5), .bool (o' 6), .bool (o' 7)] 156) = W at *
        have HWS := Lib.hid hWs
        clear hW
        have hWs' : wr.heap.size + 1 ≤ W.heap.size := by omega
        clear hWs
        refine wp_region_gx_held row 8 [0, 1, 2, 5, 6, 7] [3, 4] (by kernel_rfl) (by kernel_rfl) (by intro d _ _ _ _ h; cases d <;> exact h) ?_
        simp only [List.filterMap_cons, List.filterMap_nil, List.getElem?_cons_zero, List.getElem?_cons_succ, List.drop_succ_cons, List.drop_zero]
        show wpQuiet _ _ _ _ [_, _, _, _, _, _] _
        repeat (any_goals (go_big_quiet_step (fail)))
        refine wpQuiet_nil ?_
        simp only [wpLoud]
        go_wp2_with fail
        have hgA : W.grownBy (W.alloc (.cells #[.int .i64 (k : Int)] 3)).drew row := grown_row (((Below.refl W.heap.size W).alloc (Nat.le_refl _) _).drew)
        refine ⟨hgA, ?_⟩
        have holA : (W.alloc (.cells #[.int .i64 (k : Int)] 3)).drew.ownsRow base 3 1 (.slice A lv.length c) lv.length (lv.map (Value.int .i64)) := HPSW.out.ol.alloc _
        have hcA : (W.alloc (.cells #[.int .i64 (k : Int)] 3)).drew.cell? ⟨W.heap.size, 0, none⟩ = some (.int .i64 (k : Int)) := (Blk.new W _ _).cell 0
        have hbA : base ≤ (W.alloc (.cells #[.int .i64 (k : Int)] 3)).drew.heap.size := by simp; omega
        have hsA : (W.alloc (.cells #[.int .i64 (k : Int)] 3)).drew.heap.size = W.heap.size + 1 := by simp
        have HSA := Lib.hid hsA
        clear hsA
        generalize (W.alloc (.cells #[.int .i64 (k : Int)] 3)).drew = W3 at *
        go_wp2_with (at_builtin; refine wpList_append_two _ rfl _ _ rfl base A lv.length c _ rfl holA ⟨W.heap.size, 0, none⟩ 1 (.int .i64 (k : Int)) rfl hcA rfl (by omega) hbA ?_; intro gg c' w4 hown4 hgrow hat hback; have HBACK := Lib.hid hback; have HAT := Lib.hid hat; clear hat hback hcA)
        rw [HROW.out] at hgrow
        refine ⟨hgA.andThen hgrow (fun j hj => .inr hj), ?_⟩
        have P := HPSR.out
        have PW := HPSW.out
        have hA : Fr (fun b => (Value.slice A lv.length c).ownBlock = some b) W w4 := Fr.grown (hgA.andThen hgrow (fun j hj => .inr hj)) (fun b hb => .inl (by rw [HROW.out]; exact hb))
        have hsm : ∀ x, x < base → ¬ ((Value.slice A lv.length c).ownBlock = some x) := fun x h1 h2 => by have := hvl x h2; omega
        have h2W : w.heap.size ≤ W.heap.size := by omega
        have hlen : (lv ++ [(k : Int)]).length = lv.length + 1 := by simp
        have hps4 : PS w0 #[.slice Ar s.rooms.length cr, .int .i64 s.days, .slice Am s.moves.length cm, .slice Aw s.wgs.length cw] many pm pr po pp base vout' (.slice (some ⟨gg, 0, none⟩) (lv ++ [(k : Int)]).length c') (lv ++ [(k : Int)]) (vals ++ news) (outL ++ res) w4 := by
          refine ⟨hA.toBelow PW.bw PW.bw.size (fun x hx => by have := hvl x hx; omega), PW.qm.fr hA (hsm _ hlt.1), PW.qr.fr hA (hsm _ hlt.2.1), PW.qo.fr hA (hsm _ hlt.2.2.1), PW.qp.fr hA (hsm _ hlt.2.2.2),
            own_fr PW.oo hA (fun b hb h3 => own_ownne PW.oo PW.ol (by decide) hb h3), by rw [hlen]; simpa using hown4, PW.rows.fr hA (fun v hv b hb h3 => PW.ap v hv b hb h3), fun v hv b hb h3 => ?_⟩
          have hgb : gg = b := by simpa [Value.ownBlock] using h3
          subst hgb
          rcases HAT.out with h4 | h4
          · exact PW.ap v hv _ hb h4
          · have h5 := (RowsAre.lt PW.rows v hv _ hb).2
            rw [HSA.out] at h4
            omega
        have hw3 : wt (s.wgs.length - k) = wt (s.wgs.length - (k + 1)) + wt (s.wgs.length - (k + 1)) := by rw [show s.wgs.length - k = (s.wgs.length - (k + 1)) + 1 by omega]; rfl
        have HH := HIH.out (s.wgs.length - (k + 1)) (by have := HNF.out; omega) (some ⟨gg, 0, none⟩) c' (lv ++ [(k : Int)]) o' (k + 1) vout' (vals ++ news) (outL ++ res) w4 (by omega) (by rw [hlen]; omega) (by rw [List.length_append]; omega) hps4
        rw [hlen] at HH hps4
        have HPS4 := Lib.hid hps4
        have HA := Lib.hid hA
        clear hps4 hA hgA hgrow hlen holA
        go_wp2_with fail
        refine HH.mono ?_
        rintro e w5 ⟨⟨v5, rfl⟩, vout5, news5, ps5, fr5, fresh5, vo5⟩
        have HW3 := Lib.hid hw3
        clear hw3 HH
        go_wp2
        go_roundw
        case measure => simp [intOf]; omega
        case rel =>
        have hA := HA.out
        have hs4 := hA.size
        have hgg : gg = gg := rfl
        have hlenr : news5.length = (pickL (agrO s) many (s.wgs.length - (k + 1)) (lv ++ [(k : Int)]) o' (k + 1)).length := by
          have h1 := ps5.rows.len
          have h2 := P.rows.len
          simp only [List.length_append] at h1 h2
          omega
        have hpl := pickL_len (A := agrO s) (many := many) (f := s.wgs.length - (k + 1)) (lv := lv ++ [(k : Int)]) (o := o') (n := k + 1)
        have hWr : Fr (PR po (Value.slice A lv.length c) vout) wr w4 := (Fr.below HBW.out).trans hA (fun x _ hx => .inr (.inl hx))
        refine ⟨k + 1, by omega, by omega, by go_num, vout5, news ++ news5, res ++ pickL (agrO s) many (s.wgs.length - (k + 1)) (lv ++ [(k : Int)]) o' (k + 1), ?_, ?_, ?_, ?_, ?_, ?_, ?_⟩
        · refine ⟨ps5.bw, ps5.qm, ps5.qr, ps5.qo, ps5.qp, by rw [← List.append_assoc]; exact ps5.oo, ?_, by rw [← List.append_assoc, ← List.append_assoc]; exact ps5.rows, fun v hv b hb h3 => ?_⟩
          · refine HBACK.out w5 (by simpa using ps5.ol) (fun b hb hne' => fr5.block b (by have := hvl b hb; omega) (fun hr => ?_))
            rcases hr with hr | hr | hr
            · have := hvl b hb; omega
            · exact hne' (by have : gg = b := by simpa [Value.ownBlock] using hr
                             exact this.symm)
            · exact own_ownne P.ol P.oo (by decide) hb hr
          · rw [← List.append_assoc] at hv
            rcases List.mem_append.1 hv with hv | hv
            · exact P.ap v hv b hb h3
            · have h4 := fresh5 v hv b hb
              have h5 := hvl b h3
              omega
        · refine (hfr.trans hWr (fun x _ hx => hx)).trans fr5 (fun x hx hr => ?_)
          rcases hr with hr | hr | hr
          · exact .inl hr
          · have hgb : gg = x := by simpa [Value.ownBlock] using hr
            subst hgb
            rcases HAT.out with h4 | h4
            · exact .inr (.inl h4)
            · rw [HSA.out] at h4; omega
          · rcases HVO.out x hr with h4 | h4
            · exact .inr (.inr h4)
            · omega
        · intro v hv b hb
          rcases List.mem_append.1 hv with hv | hv
          · exact HFRESH.out v hv b hb
          · have h4 := fresh5 v hv b hb; omega
        · intro b hb
          rcases vo5 b hb with h4 | h4
          · exact HVO.out b h4
          · right; omega
        · have hlo := HPS.out.qo.lt
          refine ((q8.fr (Fr.below (R := fun _ => False) HBW.out) id).fr hA (fun h3 => by have := hvl _ h3; omega)).fr fr5 (fun hr => ?_)
          rcases hr with hr | hr | hr
          · omega
          · have hgb : gg = w.heap.size := by simpa [Value.ownBlock] using hr
            rcases HAT.out with h4 | h4
            · have := hvl gg h4; omega
            · rw [HSA.out] at h4; omega
          · exact own_blkne P.oo q8 (by decide) hr
        · rw [List.append_assoc, ← HRES.out, show s.wgs.length - k = (s.wgs.length - (k + 1)) + 1 by omega, loopL_succ, HO.out]
        · rw [List.length_append]
          have := HW3.out
          omega
      · have HKN : Hid (k = s.wgs.length) := Lib.hid (by omega)
        go_wp2
        refine bodyPost_end (results_none rfl _ _ _) rfl ?_
        refine ⟨⟨_, rfl⟩, vout', news, ?_, hfr, HFRESH.out, HVO.out⟩
        have h1 := HRES.out
        rw [HKN.out, Nat.sub_self] at h1
        rw [HPK.out, ← h1, loopL, List.append_nil]
        exact HPSR.out

section
attribute [local go_sem] run_store_func

theorem RowsAre.base {w : World} {base base' : Nat} (hb : base' ≤ base) : ∀ {vs : List Value} {ls : List (List Int)}, RowsAre w base vs ls → RowsAre w base' vs ls
  | [], [], _ => trivial
  | _ :: _, _ :: _, h => ⟨own_base h.1 hb, RowsAre.base hb h.2⟩

/-- all lists of so many ices. -/
noncomputable def listsL (s : Ws) (many : Nat) : List (List Int) := pickL (agrO s) many s.wgs.length [] off0 0

set_option maxRecDepth 100000 in
set_option maxHeartbeats 1600000 in
theorem listsW_any (s : Ws) (Ar Am Aw : Option Addr) (cr cm cw : Nat) (w : World) (hs : WsIn w w.heap.size s Ar Am Aw) (many : Nat) (hw : WoOk s.wo) (HDs : Hid (s.days = (s.wo.days : Int))) :
    Calls Try.prog 79 #[.agg #[.slice Ar s.rooms.length cr, .int .i64 s.days, .slice Am s.moves.length cm, .slice Aw s.wgs.length cw], .int .i64 (many : Int)] w fun e w' =>
      ∃ v vals, e = .returned v ∧ w'.ownsRow w.heap.size 28 1 v vals.length vals ∧ RowsAre w' w.heap.size vals (listsL s many) ∧ Below w.heap.size w w' := by
  have hmf : ∀ (fn : Fn) (first cap : Array Value) (w : World), (Instr.makeFunc fn first cap).run Try.prog w = .ok (.func fn first cap) w := fun _ _ _ _ => rfl
  go_enter Try.func79, Try.ntmps79
  have q0 : Blk ((((w.alloc (.cells #[.slice Ar s.rooms.length cr, .int .i64 s.days, .slice Am s.moves.length cm, .slice Aw s.wgs.length cw] 42)).alloc (.cells #[.int .i64 (many : Int)] 3)).alloc (.cells #[.slice none 0 0] 29)).alloc (.cells #[.func (.func 106) #[] #[.pointer (some ⟨w.heap.size + 1, 0, none⟩), .pointer (some ⟨w.heap.size, 0, none⟩), .pointer (some ⟨w.heap.size + 1 + 1, 0, none⟩), .pointer (some ⟨w.heap.size + 1 + 1 + 1, 0, none⟩)]] 179)) w.heap.size 42 #[.slice Ar s.rooms.length cr, .int .i64 s.days, .slice Am s.moves.length cm, .slice Aw s.wgs.length cw] := (((Blk.new _ _ _).alloc _).alloc _).alloc _
  have q1 : Blk ((((w.alloc (.cells #[.slice Ar s.rooms.length cr, .int .i64 s.days, .slice Am s.moves.length cm, .slice Aw s.wgs.length cw] 42)).alloc (.cells #[.int .i64 (many : Int)] 3)).alloc (.cells #[.slice none 0 0] 29)).alloc (.cells #[.func (.func 106) #[] #[.pointer (some ⟨w.heap.size + 1, 0, none⟩), .pointer (some ⟨w.heap.size, 0, none⟩), .pointer (some ⟨w.heap.size + 1 + 1, 0, none⟩), .pointer (some ⟨w.heap.size + 1 + 1 + 1, 0, none⟩)]] 179)) (w.heap.size + 1) 3 #[.int .i64 (many : Int)] := ((Blk.new' _ _ _ (by simp)).alloc _).alloc _
  have q2 : Blk ((((w.alloc (.cells #[.slice Ar s.rooms.length cr, .int .i64 s.days, .slice Am s.moves.length cm, .slice Aw s.wgs.length cw] 42)).alloc (.cells #[.int .i64 (many : Int)] 3)).alloc (.cells #[.slice none 0 0] 29)).alloc (.cells #[.func (.func 106) #[] #[.pointer (some ⟨w.heap.size + 1, 0, none⟩), .pointer (some ⟨w.heap.size, 0, none⟩), .pointer (some ⟨w.heap.size + 1 + 1, 0, none⟩), .pointer (some ⟨w.heap.size + 1 + 1 + 1, 0, none⟩)]] 179)) (w.heap.size + 1 + 1) 29 #[.slice none 0 0] := (Blk.new' _ _ _ (by simp)).alloc _
  have q3 : Blk ((((w.alloc (.cells #[.slice Ar s.rooms.length cr, .int .i64 s.days, .slice Am s.moves.length cm, .slice Aw s.wgs.length cw] 42)).alloc (.cells #[.int .i64 (many : Int)] 3)).alloc (.cells #[.slice none 0 0] 29)).alloc (.cells #[.func (.func 106) #[] #[.pointer (some ⟨w.heap.size + 1, 0, none⟩), .pointer (some ⟨w.heap.size, 0, none⟩), .pointer (some ⟨w.heap.size + 1 + 1, 0, none⟩), .pointer (some ⟨w.heap.size + 1 + 1 + 1, 0, none⟩)]] 179)) (w.heap.size + 1 + 1 + 1) 179 #[.func (.func 106) #[] #[.pointer (some ⟨w.heap.size + 1, 0, none⟩), .pointer (some ⟨w.heap.size, 0, none⟩), .pointer (some ⟨w.heap.size + 1 + 1, 0, none⟩), .pointer (some ⟨w.heap.size + 1 + 1 + 1, 0, none⟩)]] := Blk.new' _ _ _ (by simp)
  have hb : Below w.heap.size w ((((w.alloc (.cells #[.slice Ar s.rooms.length cr, .int .i64 s.days, .slice Am s.moves.length cm, .slice Aw s.wgs.length cw] 42)).alloc (.cells #[.int .i64 (many : Int)] 3)).alloc (.cells #[.slice none 0 0] 29)).alloc (.cells #[.func (.func 106) #[] #[.pointer (some ⟨w.heap.size + 1, 0, none⟩), .pointer (some ⟨w.heap.size, 0, none⟩), .pointer (some ⟨w.heap.size + 1 + 1, 0, none⟩), .pointer (some ⟨w.heap.size + 1 + 1 + 1, 0, none⟩)]] 179)) := ex_alloc (ex_alloc (ex_alloc (ex_alloc (Below.refl _ _) _) _) _) _
  have h8 : s.wgs.length ≤ 8 := hw.len.2.2.2
  have hwt : wt s.wgs.length ≤ 256 := by
    have : s.wgs.length = 0 ∨ s.wgs.length = 1 ∨ s.wgs.length = 2 ∨ s.wgs.length = 3 ∨ s.wgs.length = 4 ∨ s.wgs.length = 5 ∨ s.wgs.length = 6 ∨ s.wgs.length = 7 ∨ s.wgs.length = 8 := by omega
    rcases this with h | h | h | h | h | h | h | h | h <;> rw [h] <;> decide
  go_wp2_with fail
  have a3 := q3.cell 0
  simp at a3
  generalize hW : ((((w.alloc (.cells #[.slice Ar s.rooms.length cr, .int .i64 s.days, .slice Am s.moves.length cm, .slice Aw s.wgs.length cw] 42)).alloc (.cells #[.int .i64 (many : Int)] 3)).alloc (.cells #[.slice none 0 0] 29)).alloc (.cells #[.func (.func 106) #[] #[.pointer (some ⟨w.heap.size + 1, 0, none⟩), .pointer (some ⟨w.heap.size, 0, none⟩), .pointer (some ⟨w.heap.size + 1 + 1, 0, none⟩), .pointer (some ⟨w.heap.size + 1 + 1 + 1, 0, none⟩)]] 179)) = W at *
  clear hW
  have HP := pick_any s Ar Am Aw cr cm cw w hs hw HDs many (w.heap.size + 1) w.heap.size (w.heap.size + 1 + 1) (w.heap.size + 1 + 1 + 1) (w.heap.size + 1 + 1 + 1 + 1) (by omega) (by omega) (by omega) (by omega) (by omega) (s.wgs.length + 1) s.wgs.length (by omega)
    none 0 [] off0 0 (.slice none 0 0) [] [] W (by omega) (by simp) (by simp; omega) ⟨hb, q1, q0, q2, q3, ⟨rfl, .inl ⟨rfl, rfl⟩⟩, ⟨rfl, .inl ⟨rfl, rfl⟩⟩, trivial, fun v hv => by cases hv⟩
  refine HP.mono ?_
  rintro e w2 ⟨⟨v, rfl⟩, vout, news, ps, fr, fresh, vo⟩
  have po := ps.qo
  have ho := ps.oo
  have lo := po.lt
  have co : w2.cell? ⟨w.heap.size + 1 + 1, 0, none⟩ = some vout := po.cell 0
  have fo := po.frozen 0
  have hr := ps.rows
  have hbw := ps.bw
  rw [List.nil_append] at ho
  rw [List.nil_append, List.nil_append] at hr
  clear HP ps fr fresh vo
  obtain ⟨Av, cv, hv⟩ : ∃ A c, vout = .slice A news.length c := by
    rcases ho.2 with ⟨rfl, h0⟩ | ⟨g', cap, cur, rfl, _⟩
    · exact ⟨none, 0, by rw [h0]⟩
    · exact ⟨_, _, rfl⟩
  subst hv
  go_wp2
  have co' : (w2.setCell ⟨w.heap.size + 1 + 1, 0, none⟩ (.slice Av news.length cv)).cell? ⟨w.heap.size + 1 + 1, 0, none⟩ = some (.slice Av news.length cv) := (po.set_ 0 _).cell 0
  refine bodyPost_ret (v := .slice Av news.length cv) (by simp [results, Try.results79, go_sem, co']) rfl ?_
  have hf : Fr (fun b => b = w.heap.size + 1 + 1) w2 (w2.setCell ⟨w.heap.size + 1 + 1, 0, none⟩ (.slice Av news.length cv)) := Fr.set _ _ _ _ rfl
  refine ⟨_, news, rfl, own_base (own_fr ho hf (fun b hb h3 => by have := own_lt ho hb; omega)) (by omega), ?_, hbw.setCell (by show w.heap.size ≤ w.heap.size + 1 + 1; omega) _⟩
  have h1 := hr.fr hf (fun v hv b hb h3 => by have := RowsAre.lt hr v hv b hb; omega)
  exact RowsAre.base (by omega) h1

end
end Go.Proofs.Ythihdiilokdidaa
end

section
namespace Go.Proofs.Ythihdiilokdidaa
open Go.RowKit
attribute [local go_sem] Ex.cell? Ex.frozen?

/-- the first number of weighings without which the others agree. -/
noncomputable def fewK (s : Ws) : Int := firstOf (fun k => decide (0 < (listsL s k).length)) (s.wgs.length + 1)
noncomputable def fwE (s : Ws) : Int := if ckWs s = 0 then (if 0 ≤ fewK s then 0 else 9) else ckWs s
noncomputable def fwL (s : Ws) : List Int := if fwE s = 0 then (listsL s (fewK s).toNat).headD [] else []
noncomputable def bmE (s : Ws) : Int := if ckWs s = 0 then (if (listsL s 1).length = 1 ∧ agrO s off0 = false then 0 else 7) else ckWs s
noncomputable def bmV (s : Ws) : Int := if bmE s = 0 then ((listsL s 1).headD []).headD 0 else 0
/-- what Fewest hands back. -/
structure FwV (s : Ws) (w' : World) (e : Ending) : Prop where
  out : ∃ A c, e = .returned (.tuple #[.slice A (fwL s).length c, .int .i64 (fwE s)]) ∧ SlAt w' w'.heap.size 1 A (fwL s).length (fI (fwL s))
theorem slice_form {w : World} {base : Nat} {e : TypeId} {sz n : Nat} {v : Value} {xs : List Value} (h : w.ownsRow base e sz v n xs) : ∃ A c, v = .slice A n c := by
  rcases h.2 with ⟨rfl, h0⟩ | ⟨g', cap, cur, rfl, _⟩
  · exact ⟨none, 0, by rw [h0]⟩
  · exact ⟨_, _, rfl⟩
set_option maxRecDepth 100000 in
set_option maxHeartbeats 3200000 in
theorem Fewest_any (s : Ws) (Ar Am Aw : Option Addr) (cr cm cw : Nat) (w : World) (hs : WsIn w w.heap.size s Ar Am Aw) :
    Calls Try.prog 33 #[.agg #[.slice Ar s.rooms.length cr, .int .i64 s.days, .slice Am s.moves.length cm, .slice Aw s.wgs.length cw]] w fun e w' => FwV s w' e ∧ Below w.heap.size w w' := by
  have hb1 := ex_alloc (Below.refl w.heap.size w) (.cells #[.slice Ar s.rooms.length cr, .int .i64 s.days, .slice Am s.moves.length cm, .slice Aw s.wgs.length cw] 42)
  have q0 : Blk (w.alloc (.cells #[.slice Ar s.rooms.length cr, .int .i64 s.days, .slice Am s.moves.length cm, .slice Aw s.wgs.length cw] 42)) w.heap.size 42 #[.slice Ar s.rooms.length cr, .int .i64 s.days, .slice Am s.moves.length cm, .slice Aw s.wgs.length cw] := Blk.new _ _ _
  have hs1 := hs.go hb1
  go_enter Try.func33, Try.ntmps33
  go_upto_region 1 with fail
  obtain ⟨p0, hp0⟩ : ∃ p, w.heap.size = p := ⟨_, rfl⟩
  rw [hp0] at q0 ⊢
  generalize w.alloc (.cells #[.slice Ar s.rooms.length cr, .int .i64 s.days, .slice Am s.moves.length cm, .slice Aw s.wgs.length cw] 42) = W1 at *
  clear hp0
  have a0 : W1.cell? ⟨p0, 0, none⟩ = some (.slice Ar s.rooms.length cr) := q0.cell 0
  have a1 : W1.cell? ⟨p0, 1, none⟩ = some (.int .i64 s.days) := q0.cell 1
  have a2 : W1.cell? ⟨p0, 2, none⟩ = some (.slice Am s.moves.length cm) := q0.cell 2
  have a3 : W1.cell? ⟨p0, 3, none⟩ = some (.slice Aw s.wgs.length cw) := q0.cell 3
  have l0 := q0.lt
  go_wp2_with fail
  refine (check_any s Ar Am Aw cr cm cw W1 hs1).mono ?_
  rintro e W2 ⟨rfl, h2⟩
  have B2 := ex_trans hb1 h2
  have q02 := q0.below h2 q0.lt
  have hs2 := hs1.go h2
  clear a0 a1 a2 a3 l0
  have a0 : W2.cell? ⟨p0, 0, none⟩ = some (.slice Ar s.rooms.length cr) := q02.cell 0
  have a1 : W2.cell? ⟨p0, 1, none⟩ = some (.int .i64 s.days) := q02.cell 1
  have a2 : W2.cell? ⟨p0, 2, none⟩ = some (.slice Am s.moves.length cm) := q02.cell 2
  have a3 : W2.cell? ⟨p0, 3, none⟩ = some (.slice Aw s.wgs.length cw) := q02.cell 3
  have l0 := q02.lt
  by_cases hc : ckWs s = 0
  · obtain ⟨hw, hd⟩ := ckWs_iff.1 hc
    have HC := Lib.hid hc
    have HDs := Lib.hid hd
    rw [hc]
    clear hc hd
    have h8 : s.wgs.length ≤ 8 := hw.len.2.2.2
    go_wp2_with fail
    refine wp_loop (fun a W => Rel (fun a W => ∃ k : Nat, k ≤ s.wgs.length + 1 ∧ Below W2.heap.size W2 W ∧ Hid (∀ j, j < k → decide (0 < (listsL s j).length) = false) ∧ ∃ u : Nat → Value, a = ⟨List.toArray (u 0 :: .pointer (some ⟨p0, 0, none⟩) :: u 2 :: u 3 :: u 4 :: u 5 :: u 6 :: u 7 :: u 8 :: u 9 :: u 10 :: u 11 :: u 12 :: u 13 :: u 14 :: .int .i64 ((s.wgs.length : Int) + 1) :: .int .i64 (k : Int) :: u 17 :: u 18 :: u 19 :: u 20 :: u 21 :: u 22 :: u 23 :: u 24 :: u 25 :: u 26 :: u 27 :: u 28 :: []), []⟩) a W) (fun a _ => (s.wgs.length + 1) - (intOf (a.tmps.getD 16 undef)).toNat) ⟨⟨0, by omega, Below.refl _ _, Lib.hid (fun j hj => by omega), exFrame (by kernel_rfl)⟩⟩ ?_
    clear a0 a1 a2 a3 l0
    rintro a W ⟨⟨k, hk, hb, HK, u, rfl⟩⟩
    have q03 := q02.below hb q02.lt
    have hs3 := hs2.go hb
    have a0 : W.cell? ⟨p0, 0, none⟩ = some (.slice Ar s.rooms.length cr) := q03.cell 0
    have a1 : W.cell? ⟨p0, 1, none⟩ = some (.int .i64 s.days) := q03.cell 1
    have a2 : W.cell? ⟨p0, 2, none⟩ = some (.slice Am s.moves.length cm) := q03.cell 2
    have a3 : W.cell? ⟨p0, 3, none⟩ = some (.slice Aw s.wgs.length cw) := q03.cell 3
    have l0 := q03.lt
    by_cases hlt : k < s.wgs.length + 1
    · go_wp2_with fail
      refine (listsW_any s Ar Am Aw cr cm cw W hs3 k hw HDs).mono ?_
      rintro e W4 ⟨v, vals, rfl, ho, hr, h4⟩
      have hb4 := ex_trans hb h4
      have hll := hr.len
      obtain ⟨Av, cv, rfl⟩ := slice_form ho
      cases hL : listsL s k with
      | nil =>
        rw [hL] at hll
        have h0 : vals = [] := List.eq_nil_of_length_eq_zero hll
        subst h0
        have HK2 : Hid (∀ j, j < k + 1 → decide (0 < (listsL s j).length) = false) := Lib.hid (fun j hj => by
          rcases Nat.lt_succ_iff_lt_or_eq.1 hj with h | h
          · exact HK.out j h
          · subst h; rw [hL]; rfl)
        clear hL hll
        go_wp2_with fail
        refine ⟨⟨⟨k + 1, by omega, hb4, HK2, exFrame (by kernel_rfl)⟩⟩, ?_⟩
        show (s.wgs.length + 1) - (intOf (.int .i64 ((k : Int) + 1))).toNat < (s.wgs.length + 1) - (intOf (.int .i64 (k : Int))).toNat
        simp [intOf]
        omega
      | cons r ls =>
        rw [hL] at hr
        cases vals with
        | nil => exact hr.elim
        | cons v0 vs =>
          obtain ⟨hr0, hrs⟩ := hr
          obtain ⟨gb, cap, hvv, hgb, hgb2, hcap, hcells⟩ := own_cells ho (by simp)
          injection hvv with e1 _ _
          subst e1
          have hcv : W4.cell? ⟨gb, 0, none⟩ = some v0 := by have := hcells 0 (by simp); simpa using this
          obtain ⟨A0, c0, rfl, hc0', hsl⟩ := own_sl hr0
          have HFK : Hid (fewK s = (k : Int)) := Lib.hid (firstOf_at hlt HK.out (by rw [hL]; rfl))
          have HE : Hid (fwE s = 0) := Lib.hid (by unfold fwE; rw [if_pos HC.out, if_pos (by rw [HFK.out]; omega)])
          have HL : Hid (fwL s = r) := Lib.hid (by unfold fwL; rw [if_pos HE.out, HFK.out, Int.toNat_natCast, hL]; rfl)
          skip
          clear hcells hrs hL hll
          go_wp2
          go_ret2
          exact ⟨⟨⟨A0, c0, by rw [HE.out, HL.out]; rfl, by rw [HL.out]; exact hsl⟩⟩, ex_trans B2 hb4⟩
    · have hkn : k = s.wgs.length + 1 := by omega
      have HFK : Hid (fewK s = -1) := Lib.hid (firstOf_neg (fun j hj => HK.out j (by omega)))
      have HE : Hid (fwE s = 9) := Lib.hid (by unfold fwE; rw [if_pos HC.out, if_neg (by rw [HFK.out]; decide)])
      have HL : Hid (fwL s = []) := Lib.hid (by unfold fwL; rw [if_neg (by rw [HE.out]; decide)])
      have hlt2 : ¬ ((k : Int) < (s.wgs.length : Int) + 1) := by omega
      clear hkn hlt
      go_wp2
      go_ret2
      exact ⟨⟨⟨none, 0, by rw [HE.out, HL.out]; rfl, by rw [HL.out]; intro h; simp at h⟩⟩, ex_trans B2 hb⟩
  · have HE : Hid (fwE s = ckWs s) := Lib.hid (by unfold fwE; rw [if_neg hc])
    have HL : Hid (fwL s = []) := Lib.hid (by unfold fwL; rw [if_neg (by rw [HE.out]; exact hc)])
    go_wp2
    go_ret2
    exact ⟨⟨⟨none, 0, by rw [HE.out, HL.out]; rfl, by rw [HL.out]; intro h; simp at h⟩⟩, B2⟩
end Go.Proofs.Ythihdiilokdidaa
end

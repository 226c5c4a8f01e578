/- Spill's laws: short, Thin, same (walks). · Spill's laws: readings of arguments: works, truths, books, teams, lists. · Spill's laws: word, picked (walks). · Spill's reference: Comes, Play (walks). · Spill's laws: Picked (walk): a truth by words. · Spill's outright laws (plain): other weighings, narrower ranges, a day more, what is left out. -/
import Derived.Test.YthihdiilokdidaaR11
import Derived.Test.YthihdiilokdidaaR0
set_option linter.unusedVariables false
set_option linter.unusedSimpArgs false
set_option linter.unusedSectionVars false
section
namespace Go.Proofs.Ythihdiilokdidaa
open Go.RowKit
attribute [local go_sem] Ex.cell? Ex.frozen?

/-- at most nine lists of nine. -/
def shortB (L : List (List Int)) : Bool := decide (L.length ≤ 9) && allTo (fun k => decide ((gL L k).length ≤ 9)) L.length
def thinB (s : Ws) (t : Tt) : Bool := decide (s.rooms.length ≤ 6) && (decide (s.moves.length ≤ 15) && (decide (s.wgs.length ≤ 11) && (decide (t.fs.length ≤ 9) && (decide (t.gs.length ≤ 18) && shortB t.vs))))
set_option maxRecDepth 100000 in
set_option maxHeartbeats 3200000 in
theorem short_any (A : Option Addr) (c : Nat) (L : List (List Int)) (rV : Nat → Option Addr) (rcV : Nat → Nat) (w : World) (hL : LisIn w w.heap.size A L rV rcV) :
    Calls Try.prog 23 #[.slice A L.length c] w fun e w' => e = .returned (.bool (shortB L)) ∧ Below w.heap.size w w' := by
  obtain ⟨n, hn⟩ : ∃ n, L.length = n := ⟨_, rfl⟩
  have HN := Lib.hid hn
  have hout := hL.out
  rw [hn] at hout ⊢
  clear hn hL
  go_enter Try.func23, Try.ntmps23
  go_wp2_with fail
  refine wp_loop (fun a W => Rel (fun a W => ∃ k : Nat, k ≤ n ∧ k ≤ 10 ∧ Below w.heap.size w W ∧ Hid (∀ j, j < k → (gL L j).length ≤ 9) ∧ ∃ u : Nat → Value, a = ⟨List.toArray (.slice A n c :: u 1 :: u 2 :: .int .i64 (k : Int) :: u 4 :: u 5 :: u 6 :: u 7 :: u 8 :: u 9 :: u 10 :: u 11 :: u 12 :: u 13 :: u 14 :: u 15 :: u 16 :: u 17 :: u 18 :: u 19 :: u 20 :: u 21 :: u 22 :: []), []⟩) a W) (fun a _ => 10 - (intOf (a.tmps.getD 3 undef)).toNat) ⟨⟨0, by omega, by omega, Below.refl _ _, Lib.hid (fun j hj => by omega), exFrame (by kernel_rfl)⟩⟩ ?_
  rintro a W ⟨⟨k, hk, hk10, hb, HO, u, rfl⟩⟩
  by_cases hlt : k < n
  · have d1 : decide ((k : Int) < (n : Int)) = true := decide_eq_true (by omega)
    by_cases h10 : k < 10
    · have d2 : decide ((k : Int) < 10) = true := decide_eq_true (by omega)
      obtain ⟨b1, o1, rfl, hb1, x1⟩ := (hout.below hb) (by omega)
      have y1 : W.cell? ⟨b1, o1 + k, none⟩ = some (.slice (rV k) (gL L k).length (rcV k)) := by have := x1 k 0 hlt (by omega); rw [show o1 + (k * 1 + 0) = o1 + k by omega] at this; exact this
      clear x1
      have hsz := hb.size
      have hb1W : b1 < W.heap.size := by omega
      have hkn : (k : Int) < (n : Int) := by omega
      obtain ⟨m, hm⟩ : ∃ m, (gL L k).length = m := ⟨_, rfl⟩
      rw [hm] at y1
      have HM := Lib.hid hm
      clear hm
      by_cases hm9 : m ≤ 9
      · have d3 : decide (9 < (m : Int)) = false := decide_eq_false (by omega)
        have HO2 : Hid (∀ j, j < k + 1 → (gL L j).length ≤ 9) := Lib.hid (fun j hj => by
          rcases Nat.lt_succ_iff_lt_or_eq.1 hj with h | h
          · exact HO.out j h
          · subst h; rw [HM.out]; exact hm9)
        clear hm9
        go_wp2_with fail
        refine ⟨⟨⟨k + 1, by omega, by omega, hb, HO2, exFrame (by kernel_rfl)⟩⟩, ?_⟩
        show 10 - (intOf (.int .i64 ((k : Int) + 1))).toNat < 10 - (intOf (.int .i64 (k : Int))).toNat
        simp [intOf]
        omega
      · have d3 : decide (9 < (m : Int)) = true := decide_eq_true (by omega)
        have HR : Hid (shortB L = false) := Lib.hid (by unfold shortB; rw [allTo_false (f := fun k => decide ((gL L k).length ≤ 9)) (by rw [HN.out]; exact hlt) (by rw [HM.out]; simpa using hm9), Bool.and_false])
        clear hm9
        go_wp2
        go_ret
        exact ⟨ret_bool HR.out.symm, hb⟩
    · have d2 : decide ((k : Int) < 10) = false := decide_eq_false (by omega)
      have d3 : decide ((n : Int) ≤ 9) = false := decide_eq_false (by omega)
      have HR : Hid (shortB L = false) := Lib.hid (by unfold shortB; rw [HN.out, decide_eq_false (show ¬ n ≤ 9 by omega)]; rfl)
      go_wp2
      go_ret
      exact ⟨ret_bool HR.out.symm, hb⟩
  · obtain rfl : k = n := by omega
    have d1 : decide ((k : Int) < (k : Int)) = false := decide_eq_false (by omega)
    have HR : Hid (shortB L = decide ((k : Int) ≤ 9)) := Lib.hid (by unfold shortB; rw [HN.out, allTo_iff.2 (fun j hj => decide_eq_true (HO.out j hj)), Bool.and_true]; exact decide_eq_decide.2 (by omega))
    go_wp2
    go_ret
    exact ⟨ret_bool HR.out.symm, hb⟩
set_option maxRecDepth 100000 in
set_option maxHeartbeats 3200000 in
theorem Thin_any (s : Ws) (Ar Am Aw : Option Addr) (cr cm cw : Nat) (w : World) (hs : WsIn w w.heap.size s Ar Am Aw) (t : Tt) (Af Av Ag : Option Addr) (cf cv cg : Nat) (rV : Nat → Option Addr) (rcV : Nat → Nat) (ht : TtIn w w.heap.size t Af Av Ag rV rcV) :
    Calls Try.prog 15 #[.agg #[.slice Ar s.rooms.length cr, .int .i64 s.days, .slice Am s.moves.length cm, .slice Aw s.wgs.length cw], .agg #[.slice Af t.fs.length cf, .slice Av t.vs.length cv, .slice Ag t.gs.length cg]] w fun e w' => e = .returned (.bool (thinB s t)) ∧ Below w.heap.size w w' := by
  have hb1 := ex_alloc (Below.refl w.heap.size w) (.cells #[.slice Ar s.rooms.length cr, .int .i64 s.days, .slice Am s.moves.length cm, .slice Aw s.wgs.length cw] 26)
  have hb2 := ex_alloc hb1 (.cells #[.slice Af t.fs.length cf, .slice Av t.vs.length cv, .slice Ag t.gs.length cg] 31)
  have ht2 := ht.go hb2
  have HT : Hid (thinB s t = (decide ((s.rooms.length : Int) ≤ 6) && (decide ((s.moves.length : Int) ≤ 15) && (decide ((s.wgs.length : Int) ≤ 11) && (decide ((t.fs.length : Int) ≤ 9) && (decide ((t.gs.length : Int) ≤ 18) && shortB t.vs)))))) := Lib.hid (by unfold thinB; rw [show decide (s.rooms.length ≤ 6) = decide ((s.rooms.length : Int) ≤ 6) from decide_eq_decide.2 (by omega), show decide (s.moves.length ≤ 15) = decide ((s.moves.length : Int) ≤ 15) from decide_eq_decide.2 (by omega), show decide (s.wgs.length ≤ 11) = decide ((s.wgs.length : Int) ≤ 11) from decide_eq_decide.2 (by omega), show decide (t.fs.length ≤ 9) = decide ((t.fs.length : Int) ≤ 9) from decide_eq_decide.2 (by omega), show decide (t.gs.length ≤ 18) = decide ((t.gs.length : Int) ≤ 18) from decide_eq_decide.2 (by omega)])
  by_cases g0 : (s.rooms.length : Int) ≤ 6
  rotate_left
  · have d0 : decide ((s.rooms.length : Int) ≤ 6) = false := decide_eq_false g0
    have HR : Hid (thinB s t = false) := Lib.hid (by rw [HT.out, d0]; rfl)
    clear g0 HT
    go_enter Try.func15, Try.ntmps15
    go_wp2
    go_ret
    exact ⟨ret_bool HR.out.symm, hb2⟩
  have d0 : decide ((s.rooms.length : Int) ≤ 6) = true := decide_eq_true g0
  clear g0
  by_cases g1 : (s.moves.length : Int) ≤ 15
  rotate_left
  · have d1 : decide ((s.moves.length : Int) ≤ 15) = false := decide_eq_false g1
    have HR : Hid (thinB s t = false) := Lib.hid (by rw [HT.out, d0, d1]; rfl)
    clear g1 HT
    go_enter Try.func15, Try.ntmps15
    go_wp2
    go_ret
    exact ⟨ret_bool HR.out.symm, hb2⟩
  have d1 : decide ((s.moves.length : Int) ≤ 15) = true := decide_eq_true g1
  clear g1
  by_cases g2 : (s.wgs.length : Int) ≤ 11
  rotate_left
  · have d2 : decide ((s.wgs.length : Int) ≤ 11) = false := decide_eq_false g2
    have HR : Hid (thinB s t = false) := Lib.hid (by rw [HT.out, d0, d1, d2]; rfl)
    clear g2 HT
    go_enter Try.func15, Try.ntmps15
    go_wp2
    go_ret
    exact ⟨ret_bool HR.out.symm, hb2⟩
  have d2 : decide ((s.wgs.length : Int) ≤ 11) = true := decide_eq_true g2
  clear g2
  by_cases g3 : (t.fs.length : Int) ≤ 9
  rotate_left
  · have d3 : decide ((t.fs.length : Int) ≤ 9) = false := decide_eq_false g3
    have HR : Hid (thinB s t = false) := Lib.hid (by rw [HT.out, d0, d1, d2, d3]; rfl)
    clear g3 HT
    go_enter Try.func15, Try.ntmps15
    go_wp2
    go_ret
    exact ⟨ret_bool HR.out.symm, hb2⟩
  have d3 : decide ((t.fs.length : Int) ≤ 9) = true := decide_eq_true g3
  clear g3
  by_cases g4 : (t.gs.length : Int) ≤ 18
  rotate_left
  · have d4 : decide ((t.gs.length : Int) ≤ 18) = false := decide_eq_false g4
    have HR : Hid (thinB s t = false) := Lib.hid (by rw [HT.out, d0, d1, d2, d3, d4]; rfl)
    clear g4 HT
    go_enter Try.func15, Try.ntmps15
    go_wp2
    go_ret
    exact ⟨ret_bool HR.out.symm, hb2⟩
  have d4 : decide ((t.gs.length : Int) ≤ 18) = true := decide_eq_true g4
  clear g4
  have HR : Hid (thinB s t = shortB t.vs) := Lib.hid (by rw [HT.out, d0, d1, d2, d3, d4]; rfl)
  clear HT
  go_enter Try.func15, Try.ntmps15
  go_wp2_with fail
  refine (short_any Av cv t.vs rV rcV _ ⟨ht2.vs, ht2.row⟩).mono ?_
  rintro e W1 ⟨rfl, hx⟩
  go_wp2
  go_ret
  exact ⟨ret_bool HR.out.symm, ex_trans hb2 hx⟩
def rowS (nA nB : Nat → Nat) (La Lb : Nat → Nat → Int) (k : Nat) : Bool := decide (nA k = nB k) && allTo (fun i => decide (La k i = Lb k i)) (nA k)
/-- two lists of lists are the same. -/
def sameB (n m : Nat) (nA nB : Nat → Nat) (La Lb : Nat → Nat → Int) : Bool := decide (n = m) && allTo (rowS nA nB La Lb) n
end Go.Proofs.Ythihdiilokdidaa
end

section
namespace Go.Proofs.Ythihdiilokdidaa
open Go.RowKit Go.ChangeShapes Go.WideShapes Go.Deep Go.ChangeAt
theorem list4 {α : Type} {l : List α} (h : l.length = 4) : ∃ a b c d, l = [a, b, c, d] := by
  match l, h with
  | [a, b, c, d], _ => exact ⟨a, b, c, d, rfl⟩
section
variable {H : Type} {enc : TypeId × Value → H} {w : World} {base : Nat} {spare : Nat → Bool} {held : Bool} {r : Reach} {b0 : Nat}
set_option maxRecDepth 100000 in
theorem tr_rgT {fuel : Nat} {cs : List Value} {x : DataW H × List MemPlace} (h : DataW.trod enc Try.prog w base spare held fuel 52 cs = some x) : ∃ r : Rg, cs = cR r := by
  obtain ⟨xs, n, _, _, hc, hxl, hf⟩ := DataW.trod_struct Try.underlying52 h
  have hcs : cs.length = 2 := hc.trans (by kernel_rfl)
  obtain ⟨c0, c1, rfl⟩ := list2 hcs
  have hl : xs.length = 2 := hxl.trans rfl
  obtain ⟨y0, e0⟩ := some_of (l := xs) (i := 0) (by omega)
  obtain ⟨y1, e1⟩ := some_of (l := xs) (i := 1) (by omega)
  have h0 := fld hf (i := 0) 3 0 1 rfl rfl rfl (by kernel_rfl) e0
  have h1 := fld hf (i := 1) 3 1 1 rfl rfl rfl (by kernel_rfl) e1
  simp only [List.drop_zero, List.drop_succ_cons, List.take_succ_cons, List.take_zero] at h0 h1
  obtain ⟨a0, g0, _⟩ := tr_int Try.underlying3 h0
  injection g0 with g0 _
  obtain ⟨a1, g1, _⟩ := tr_int Try.underlying3 h1
  injection g1 with g1 _
  exact ⟨⟨a0, a1⟩, by rw [g0, g1]; rfl⟩
set_option maxRecDepth 100000 in
theorem tr_rmT {fuel : Nat} {cs : List Value} {x : DataW H × List MemPlace} (h : DataW.trod enc Try.prog w base spare held fuel 76 cs = some x) : ∃ r : Rm, cs = cRm r := by
  obtain ⟨xs, n, _, _, hc, hxl, hf⟩ := DataW.trod_struct Try.underlying76 h
  have hcs : cs.length = 4 := hc.trans (by kernel_rfl)
  obtain ⟨c0, c1, c2, c3, rfl⟩ := list4 hcs
  have hl : xs.length = 2 := hxl.trans rfl
  obtain ⟨y0, e0⟩ := some_of (l := xs) (i := 0) (by omega)
  obtain ⟨y1, e1⟩ := some_of (l := xs) (i := 1) (by omega)
  have h0 := fld hf (i := 0) 52 0 2 rfl rfl rfl (by kernel_rfl) e0
  have h1 := fld hf (i := 1) 52 2 2 rfl rfl rfl (by kernel_rfl) e1
  simp only [List.drop_zero, List.drop_succ_cons, List.take_succ_cons, List.take_zero] at h0 h1
  obtain ⟨a0, g0⟩ := tr_rgT h0
  unfold cR at g0
  injection g0 with g0 g0'
  injection g0' with g0' _
  obtain ⟨a1, g1⟩ := tr_rgT h1
  unfold cR at g1
  injection g1 with g1 g1'
  injection g1' with g1' _
  exact ⟨⟨a0, a1⟩, by rw [g0, g0', g1, g1']; rfl⟩
set_option maxRecDepth 100000 in
theorem tr_mvT {fuel : Nat} {cs : List Value} {x : DataW H × List MemPlace} (h : DataW.trod enc Try.prog w base spare held fuel 78 cs = some x) : ∃ r : Mv, cs = cMv r := by
  obtain ⟨xs, n, _, _, hc, hxl, hf⟩ := DataW.trod_struct Try.underlying78 h
  have hcs : cs.length = 5 := hc.trans (by kernel_rfl)
  obtain ⟨c0, c1, c2, c3, c4, rfl⟩ := list5 hcs
  have hl : xs.length = 4 := hxl.trans rfl
  obtain ⟨y0, e0⟩ := some_of (l := xs) (i := 0) (by omega)
  obtain ⟨y1, e1⟩ := some_of (l := xs) (i := 1) (by omega)
  obtain ⟨y2, e2⟩ := some_of (l := xs) (i := 2) (by omega)
  obtain ⟨y3, e3⟩ := some_of (l := xs) (i := 3) (by omega)
  have h0 := fld hf (i := 0) 3 0 1 rfl rfl rfl (by kernel_rfl) e0
  have h1 := fld hf (i := 1) 3 1 1 rfl rfl rfl (by kernel_rfl) e1
  have h2 := fld hf (i := 2) 3 2 1 rfl rfl rfl (by kernel_rfl) e2
  have h3 := fld hf (i := 3) 52 3 2 rfl rfl rfl (by kernel_rfl) e3
  simp only [List.drop_zero, List.drop_succ_cons, List.take_succ_cons, List.take_zero] at h0 h1 h2 h3
  obtain ⟨a0, g0, _⟩ := tr_int Try.underlying3 h0
  injection g0 with g0 _
  obtain ⟨a1, g1, _⟩ := tr_int Try.underlying3 h1
  injection g1 with g1 _
  obtain ⟨a2, g2, _⟩ := tr_int Try.underlying3 h2
  injection g2 with g2 _
  obtain ⟨a3, g3⟩ := tr_rgT h3
  unfold cR at g3
  injection g3 with g3 g3'
  injection g3' with g3' _
  exact ⟨⟨a0, a1, a2, a3⟩, by rw [g0, g1, g2, g3, g3']; rfl⟩
set_option maxRecDepth 100000 in
theorem tr_wgT {fuel : Nat} {cs : List Value} {x : DataW H × List MemPlace} (h : DataW.trod enc Try.prog w base spare held fuel 72 cs = some x) : ∃ r : Wg, cs = cWg r := by
  obtain ⟨xs, n, _, _, hc, hxl, hf⟩ := DataW.trod_struct Try.underlying72 h
  have hcs : cs.length = 4 := hc.trans (by kernel_rfl)
  obtain ⟨c0, c1, c2, c3, rfl⟩ := list4 hcs
  have hl : xs.length = 3 := hxl.trans rfl
  obtain ⟨y0, e0⟩ := some_of (l := xs) (i := 0) (by omega)
  obtain ⟨y1, e1⟩ := some_of (l := xs) (i := 1) (by omega)
  obtain ⟨y2, e2⟩ := some_of (l := xs) (i := 2) (by omega)
  have h0 := fld hf (i := 0) 3 0 1 rfl rfl rfl (by kernel_rfl) e0
  have h1 := fld hf (i := 1) 3 1 1 rfl rfl rfl (by kernel_rfl) e1
  have h2 := fld hf (i := 2) 52 2 2 rfl rfl rfl (by kernel_rfl) e2
  simp only [List.drop_zero, List.drop_succ_cons, List.take_succ_cons, List.take_zero] at h0 h1 h2
  obtain ⟨a0, g0, _⟩ := tr_int Try.underlying3 h0
  injection g0 with g0 _
  obtain ⟨a1, g1, _⟩ := tr_int Try.underlying3 h1
  injection g1 with g1 _
  obtain ⟨a2, g2⟩ := tr_rgT h2
  unfold cR at g2
  injection g2 with g2 g2'
  injection g2' with g2' _
  exact ⟨⟨a0, a1, a2⟩, by rw [g0, g1, g2, g2']; rfl⟩
set_option maxRecDepth 100000 in
theorem tr_rmsT {fuel : Nat} {cs : List Value} {x : DataW H × List MemPlace} (h : DataW.trod enc Try.prog w base spare held fuel 22 cs = some x) :
    ∃ A l cp, cs = [.slice A (l : List Rm).length cp] ∧ l.length ≤ cp ∧ cp ≤ maxLen ∧ SlAt w w.heap.size 4 A l.length (fRm l) := by
  obtain ⟨A, l, cp, h1, h2, h3, h4⟩ := tr_sl (sz := 4) (c := cRm) Try.underlying22 (by omega) (by kernel_rfl) (fun h => tr_rmT h) (fun _ => rfl) h
  refine ⟨A, l, cp, h1, h2, h3, h4 _ (fun k hk j hj => ?_)⟩
  have e := gRm_at hk
  match j, hj with
  | 0, _ => simp [cRm, fRm, e]
  | 1, _ => simp [cRm, fRm, e]
  | 2, _ => simp [cRm, fRm, e]
  | 3, _ => simp [cRm, fRm, e]
set_option maxRecDepth 100000 in
theorem tr_mvsT {fuel : Nat} {cs : List Value} {x : DataW H × List MemPlace} (h : DataW.trod enc Try.prog w base spare held fuel 23 cs = some x) :
    ∃ A l cp, cs = [.slice A (l : List Mv).length cp] ∧ l.length ≤ cp ∧ cp ≤ maxLen ∧ SlAt w w.heap.size 5 A l.length (fMv l) := by
  obtain ⟨A, l, cp, h1, h2, h3, h4⟩ := tr_sl (sz := 5) (c := cMv) Try.underlying23 (by omega) (by kernel_rfl) (fun h => tr_mvT h) (fun _ => rfl) h
  refine ⟨A, l, cp, h1, h2, h3, h4 _ (fun k hk j hj => ?_)⟩
  have e := gMv_at hk
  match j, hj with
  | 0, _ => simp [cMv, fMv, e]
  | 1, _ => simp [cMv, fMv, e]
  | 2, _ => simp [cMv, fMv, e]
  | 3, _ => simp [cMv, fMv, e]
  | 4, _ => simp [cMv, fMv, e]
set_option maxRecDepth 100000 in
theorem tr_wgsT {fuel : Nat} {cs : List Value} {x : DataW H × List MemPlace} (h : DataW.trod enc Try.prog w base spare held fuel 24 cs = some x) :
    ∃ A l cp, cs = [.slice A (l : List Wg).length cp] ∧ l.length ≤ cp ∧ cp ≤ maxLen ∧ SlAt w w.heap.size 4 A l.length (fWg l) := by
  obtain ⟨A, l, cp, h1, h2, h3, h4⟩ := tr_sl (sz := 4) (c := cWg) Try.underlying24 (by omega) (by kernel_rfl) (fun h => tr_wgT h) (fun _ => rfl) h
  refine ⟨A, l, cp, h1, h2, h3, h4 _ (fun k hk j hj => ?_)⟩
  have e := gWg_at hk
  match j, hj with
  | 0, _ => simp [cWg, fWg, e]
  | 1, _ => simp [cWg, fWg, e]
  | 2, _ => simp [cWg, fWg, e]
  | 3, _ => simp [cWg, fWg, e]
/-- a list, and where it lies. -/
structure Lx where
  l : List Int
  A : Option Addr
  c : Nat
instance : Inhabited Lx := ⟨⟨[], none, 0⟩⟩
def cLx (x : Lx) : List Value := [.slice x.A x.l.length x.c]
set_option maxRecDepth 100000 in
theorem open_worksT {v : Value} {d : DataW H} {p : List MemPlace} (hv : Value.okWide Try.prog w r b0 26 v) (h : DataW.Trod enc Try.prog w base spare held 26 v d p) :
    ∃ (s : Ws) (Ar Am Aw : Option Addr) (cr cm cw : Nat), v = .agg #[.slice Ar s.rooms.length cr, .int .i64 s.days, .slice Am s.moves.length cm, .slice Aw s.wgs.length cw] ∧ (s.rooms.length ≤ maxLen ∧ s.moves.length ≤ maxLen ∧ s.wgs.length ≤ maxLen) ∧ WsIn w w.heap.size s Ar Am Aw := by
  obtain ⟨cs, rfl, hsz⟩ := okWide_struct Try.underlying26 hv
  obtain ⟨l⟩ := cs
  obtain ⟨c0, c1, c2, c3, rfl⟩ := list4 (l := l) (hsz.trans (by kernel_rfl))
  obtain ⟨fuel, hfu⟩ := h
  obtain ⟨xs, n, _, _, hc, hxl, hf⟩ := DataW.trod_struct Try.underlying26 hfu
  have hl : xs.length = 4 := hxl.trans rfl
  obtain ⟨y0, e0⟩ := some_of (l := xs) (i := 0) (by omega)
  obtain ⟨y1, e1⟩ := some_of (l := xs) (i := 1) (by omega)
  obtain ⟨y2, e2⟩ := some_of (l := xs) (i := 2) (by omega)
  obtain ⟨y3, e3⟩ := some_of (l := xs) (i := 3) (by omega)
  have h0 := fld hf (i := 0) 22 0 1 rfl rfl rfl (by kernel_rfl) e0
  have h1 := fld hf (i := 1) 3 1 1 rfl rfl rfl (by kernel_rfl) e1
  have h2 := fld hf (i := 2) 23 2 1 rfl rfl rfl (by kernel_rfl) e2
  have h3 := fld hf (i := 3) 24 3 1 rfl rfl rfl (by kernel_rfl) e3
  simp only [Value.cells, List.drop_zero, List.drop_succ_cons, List.take_succ_cons, List.take_zero] at h0 h1 h2 h3
  obtain ⟨A0, l0, c0', g0, p0, p0', q0⟩ := tr_rmsT h0
  injection g0 with g0 _
  obtain ⟨u1, g1, _⟩ := tr_int Try.underlying3 h1
  injection g1 with g1 _
  obtain ⟨A2, l2, c2', g2, p2, p2', q2⟩ := tr_mvsT h2
  injection g2 with g2 _
  obtain ⟨A3, l3, c3', g3, p3, p3', q3⟩ := tr_wgsT h3
  injection g3 with g3 _
  exact ⟨⟨l0, u1, l2, l3⟩, A0, A2, A3, c0', c2', c3', by rw [g0, g1, g2, g3], ⟨Nat.le_trans p0 p0', Nat.le_trans p2 p2', Nat.le_trans p3 p3'⟩, ⟨q0, q2, q3⟩⟩
set_option maxRecDepth 100000 in
theorem open_bookT {v : Value} {d : DataW H} {p : List MemPlace} (hv : Value.okWide Try.prog w r b0 96 v) (h : DataW.Trod enc Try.prog w base spare held 96 v d p) :
    ∃ (b : Bk) (Af Ag : Option Addr) (cf cg : Nat), v = .agg #[.slice Af b.fs.length cf, .slice Ag b.gs.length cg] ∧ (b.fs.length ≤ maxLen ∧ b.gs.length ≤ maxLen) ∧ (SlAt w w.heap.size 1 Af b.fs.length (fI b.fs) ∧ SlAt w w.heap.size 1 Ag b.gs.length (fI b.gs)) := by
  obtain ⟨cs, rfl, hsz⟩ := okWide_struct Try.underlying96 hv
  obtain ⟨l⟩ := cs
  obtain ⟨c0, c1, rfl⟩ := list2 (l := l) (hsz.trans (by kernel_rfl))
  obtain ⟨fuel, hfu⟩ := h
  obtain ⟨xs, n, _, _, hc, hxl, hf⟩ := DataW.trod_struct Try.underlying96 hfu
  have hl : xs.length = 2 := hxl.trans rfl
  obtain ⟨y0, e0⟩ := some_of (l := xs) (i := 0) (by omega)
  obtain ⟨y1, e1⟩ := some_of (l := xs) (i := 1) (by omega)
  have h0 := fld hf (i := 0) 28 0 1 rfl rfl rfl (by kernel_rfl) e0
  have h1 := fld hf (i := 1) 28 1 1 rfl rfl rfl (by kernel_rfl) e1
  simp only [Value.cells, List.drop_zero, List.drop_succ_cons, List.take_succ_cons, List.take_zero] at h0 h1
  obtain ⟨A0, l0, c0', g0, p0, p0', q0⟩ := tr_ints h0
  injection g0 with g0 _
  obtain ⟨A1, l1, c1', g1, p1, p1', q1⟩ := tr_ints h1
  injection g1 with g1 _
  exact ⟨⟨l0, l1⟩, A0, A1, c0', c1', by rw [g0, g1], ⟨Nat.le_trans p0 p0', Nat.le_trans p1 p1'⟩, q0, q1⟩
end
end Go.Proofs.Ythihdiilokdidaa
end

section
namespace Go.Proofs.Ythihdiilokdidaa
open Go.RowKit
attribute [local go_sem] Ex.cell? Ex.frozen? Gx.cell?

set_option maxHeartbeats 800000 in
theorem word_any (A : Option Addr) (c : Nat) (l : List Int) (at_ : Int) (w : World) (hA : SlAt w w.heap.size 1 A l.length (fU l)) (hw : ∀ k, k < l.length → 0 ≤ gI l k ∧ gI l k ≤ 65535) (h0 : 0 ≤ at_) (h1 : at_ ≤ 1000) (hl : l.length ≤ maxLen) :
    Calls Try.prog 36 #[.slice A l.length c, .int .i64 at_] w fun e w' => (∃ n : Int, e = .returned (.int .i64 n) ∧ 0 ≤ n ∧ n ≤ 65535) ∧ Below w.heap.size w w' := by
  unfold maxLen at hl
  by_cases h : l.length = 0
  · have HL := Lib.hid h
    clear h
    go_enter Try.func36, Try.ntmps36
    rw [HL.out]
    go_wp2
    go_ret
    exact ⟨⟨0, rfl, by omega, by omega⟩, Below.refl _ _⟩
  · have hk : (at_ % (l.length : Int)).toNat < l.length := by
      have := Int.emod_lt_of_pos at_ (show (0 : Int) < (l.length : Int) by omega)
      have := Int.emod_nonneg at_ (show (l.length : Int) ≠ 0 by omega)
      omega
    have hr0 := Int.emod_nonneg at_ (show (l.length : Int) ≠ 0 by omega)
    have hr1 := Int.emod_lt_of_pos at_ (show (0 : Int) < (l.length : Int) by omega)
    obtain ⟨m, hm⟩ : ∃ m : Nat, at_ % (l.length : Int) = (m : Int) := ⟨(at_ % (l.length : Int)).toNat, by omega⟩
    have hmk : m < l.length := by omega
    obtain ⟨b, off, rfl, hb, hc⟩ := IsWords.at_ hA hmk
    have hv := hw _ hmk
    have e0 : ((l.length : Int) == 0) = false := by simpa using h
    have e0' : (l.length == 0) = false := by simpa using h
    have h1l : (1 : Int) ≤ (l.length : Int) := by omega
    have e2 : IntKind.i64.wrap (gI l m) = gI l m := IntWalk.i64_in _ (by omega)
    clear hk hr0 hr1
    go_enter Try.func36, Try.ntmps36
    go_wp2
    go_ret
    exact ⟨⟨_, rfl, hv.1, hv.2⟩, Below.refl _ _⟩


set_option maxHeartbeats 800000 in
theorem picked_any (lo hi n : Int) (w : World) (h0 : 0 ≤ n) (h1 : n ≤ 65535) (hl : -100000 ≤ lo) (hlh : lo ≤ hi) (hh : hi ≤ 100000) :
    Calls Try.prog 35 #[.agg #[.int .i64 lo, .int .i64 hi], .int .i64 n] w fun e w' => (∃ x : Int, e = .returned (.int .i64 x) ∧ lo ≤ x ∧ x ≤ hi) ∧ Below w.heap.size w w' := by
  have hb := ex_alloc (Below.refl w.heap.size w) (.cells #[.int .i64 lo, .int .i64 hi] 52)
  by_cases c0 : n % 4 = 0
  · have e0 : (n % 4 == 0) = true := by simp [c0]
    go_enter Try.func35, Try.ntmps35
    go_wp2
    go_ret
    exact ⟨⟨lo, rfl, by omega, by omega⟩, hb⟩
  have e0 : (n % 4 == 0) = false := by simp [c0]
  by_cases c1 : n % 4 = 1
  · have e1 : (n % 4 == 1) = true := by simp [c1]
    go_enter Try.func35, Try.ntmps35
    go_wp2
    go_ret
    exact ⟨⟨hi, rfl, by omega, by omega⟩, hb⟩
  have e1 : (n % 4 == 1) = false := by simp [c1]
  clear c0 c1
  go_enter Try.func35, Try.ntmps35
  go_wp2
  have k0 : (hi - lo + 1 == 0) = false := by rw [beq_eq_false_iff_ne]; omega
  have k1 : IntKind.i64.wrap (hi - lo) = hi - lo := IntWalk.i64_in _ (by omega)
  have k2 : IntKind.i64.wrap (hi - lo + 1) = hi - lo + 1 := IntWalk.i64_in _ (by omega)
  have k3 : IntKind.i64.wrap (n.tdiv 4) = n / 4 := by rw [Int.tdiv_eq_ediv_of_nonneg h0]; exact IntWalk.i64_in _ (by omega)
  have r0 : 0 ≤ (n / 4) % (hi - lo + 1) := Int.emod_nonneg _ (by omega)
  have r1 : (n / 4) % (hi - lo + 1) < hi - lo + 1 := Int.emod_lt_of_pos _ (by omega)
  have k4 : IntKind.i64.wrap ((n / 4).tmod (hi - lo + 1)) = (n / 4) % (hi - lo + 1) := by rw [Int.tmod_eq_emod_of_nonneg (by omega)]; exact IntWalk.i64_in _ (by omega)
  have k5 : IntKind.i64.wrap (lo + (n / 4) % (hi - lo + 1)) = lo + (n / 4) % (hi - lo + 1) := IntWalk.i64_in _ (by omega)
  refine wp_region_ext (by kernel_rfl) (by kernel_rfl) ?_
  repeat (any_goals (go_big_quiet_step (fail)))
  refine wpQuiet_nil ?_; intro _ hw'; obtain ⟨X, rfl⟩ := hw'
  go_wp2
  go_ret
  exact ⟨⟨_, rfl, by omega, by omega⟩, ex_trans hb X.h⟩

end Go.Proofs.Ythihdiilokdidaa
end

section
namespace Go.Proofs.Ythihdiilokdidaa
open Go.RowKit
attribute [local go_sem] Ex.cell? Ex.frozen?

set_option maxRecDepth 100000 in
set_option maxHeartbeats 3200000 in
theorem Comes_ref (s : Ws) (Ar Am Aw : Option Addr) (cr cm cw : Nat) (w : World) (hs : WsIn w w.heap.size s Ar Am Aw) (hw : WoOk s.wo) (gs : List Int) (Ag : Option Addr) (n cg : Nat) (hg : SlAt w w.heap.size 1 Ag n (fI gs)) (hn : s.moves.length ≤ n) (hb : ∀ i, i < s.moves.length → 0 ≤ gI gs i ∧ gI gs i ≤ 2000) (r d : Int) :
    Calls Try.prog 86 #[.agg #[.slice Ar s.rooms.length cr, .int .i64 s.days, .slice Am s.moves.length cm, .slice Aw s.wgs.length cw], .slice Ag n cg, .int .i64 r, .int .i64 d] w fun e w' => e = .returned (.int .i64 (comes s.wo (gI gs) r d s.moves.length)) ∧ Below w.heap.size w w' := by
  have hml : s.moves.length ≤ 12 := hw.len.2.2.1
  have hgr := hg
  clear hg
  have hb1 := ex_alloc (Below.refl w.heap.size w) (.cells #[.slice Ar s.rooms.length cr, .int .i64 s.days, .slice Am s.moves.length cm, .slice Aw s.wgs.length cw] 26)
  have q0 : Blk (w.alloc (.cells #[.slice Ar s.rooms.length cr, .int .i64 s.days, .slice Am s.moves.length cm, .slice Aw s.wgs.length cw] 26)) w.heap.size 26 #[.slice Ar s.rooms.length cr, .int .i64 s.days, .slice Am s.moves.length cm, .slice Aw s.wgs.length cw] := Blk.new _ _ _
  have HW := Lib.hid hw
  clear hw
  go_enter Try.func86, Try.ntmps86
  go_wp2_with fail
  generalize w.alloc (.cells #[.slice Ar s.rooms.length cr, .int .i64 s.days, .slice Am s.moves.length cm, .slice Aw s.wgs.length cw] 26) = V at *
  refine wp_loop (fun a W => Rel (fun a W => ∃ (k : Nat) (cc : Int), k ≤ s.moves.length ∧ Below w.heap.size w W ∧ Blk W w.heap.size 26 #[.slice Ar s.rooms.length cr, .int .i64 s.days, .slice Am s.moves.length cm, .slice Aw s.wgs.length cw] ∧ Hid (comes s.wo (gI gs) r d k = cc) ∧ ∃ u : Nat → Value, a = ⟨List.toArray (u 0 :: .slice Ag n cg :: .int .i64 r :: .int .i64 d :: .pointer (some ⟨w.heap.size, 0, none⟩) :: u 5 :: u 6 :: u 7 :: u 8 :: .int .i64 cc :: .int .i64 (k : Int) :: u 11 :: u 12 :: u 13 :: u 14 :: u 15 :: u 16 :: u 17 :: u 18 :: u 19 :: u 20 :: u 21 :: u 22 :: u 23 :: u 24 :: u 25 :: u 26 :: u 27 :: u 28 :: u 29 :: u 30 :: u 31 :: u 32 :: u 33 :: u 34 :: u 35 :: u 36 :: u 37 :: u 38 :: u 39 :: u 40 :: u 41 :: u 42 :: u 43 :: u 44 :: u 45 :: u 46 :: u 47 :: u 48 :: u 49 :: u 50 :: u 51 :: u 52 :: u 53 :: u 54 :: []), []⟩) a W) (fun a _ => s.moves.length - (intOf (a.tmps.getD 10 undef)).toNat) ⟨⟨0, 0, by omega, hb1, q0, Lib.hid rfl, exFrame (by kernel_rfl)⟩⟩ ?_
  clear hb1 q0 V
  rintro a W ⟨⟨k, cc, hk, hb1, q0, HC, u, rfl⟩⟩
  have l0 := q0.lt
  by_cases hlt : k < s.moves.length
  · obtain ⟨br, orr, rfl, hbr, r0, r1, r2, r3, r4⟩ := IsMvs.at_ (hs.moves.below hb1) hlt
    obtain ⟨bg, og, rfl, hbg, g0⟩ := IsInts.at_ (hgr.below hb1) (show k < n by omega)
    have hkn : (k : Int) < (s.moves.length : Int) := by omega
    have hkg : (k : Int) < (n : Int) := by omega
    have hszW := hb1.size
    have lbr : br < W.heap.size := by omega
    have lbg : bg < W.heap.size := by omega
    have hcb := comes_bd s.wo (G := gI gs) r d k (fun i hi => hb i (by omega))
    rw [HC.out] at hcb
    have hgb := hb k hlt
    have hcs := comes_succ s.wo (gI gs) r d k
    rw [HC.out] at hcs
    obtain ⟨e0, he0⟩ : ∃ x, (gMv s.moves k).day = x := ⟨_, rfl⟩
    rw [he0] at r0
    obtain ⟨e1, he1⟩ : ∃ x, (gMv s.moves k).src = x := ⟨_, rfl⟩
    rw [he1] at r1
    obtain ⟨e2, he2⟩ : ∃ x, (gMv s.moves k).dst = x := ⟨_, rfl⟩
    rw [he2] at r2
    obtain ⟨e3, he3⟩ : ∃ x, (gMv s.moves k).g.lo = x := ⟨_, rfl⟩
    rw [he3] at r3
    obtain ⟨e4, he4⟩ : ∃ x, (gMv s.moves k).g.hi = x := ⟨_, rfl⟩
    rw [he4] at r4
    rw [show gMv s.wo.moves k = gMv s.moves k from rfl, he0, he1, he2] at hcs
    obtain ⟨gv, hgv⟩ : ∃ x, gI gs k = x := ⟨_, rfl⟩
    rw [hgv] at hcs g0 hgb
    have HCS := Lib.hid hcs
    clear hcs he0 he1 he2 he3 he4 hgv
    have a0 : W.cell? ⟨w.heap.size, 0, none⟩ = some (.slice Ar s.rooms.length cr) := q0.cell 0
    have a1 : W.cell? ⟨w.heap.size, 1, none⟩ = some (.int .i64 s.days) := q0.cell 1
    have a2 : W.cell? ⟨w.heap.size, 2, none⟩ = some (.slice (some ⟨br, orr, none⟩) s.moves.length cm) := q0.cell 2
    have a3 : W.cell? ⟨w.heap.size, 3, none⟩ = some (.slice Aw s.wgs.length cw) := q0.cell 3
    by_cases h1 : e0 = d
    · have bh1 : (e0 != d) = false := by simp [h1]
      have Hh1 := Lib.hid h1
      clear h1
      by_cases h2 : e2 = r
      · have bh2 : (e2 == r) = true := by simp [h2]
        have Hh2 := Lib.hid h2
        clear h2
        by_cases h3 : e1 = r
        · have bh3 : (e1 == r) = true := by simp [h3]
          have Hh3 := Lib.hid h3
          clear h3
          have HC2 : Hid (comes s.wo (gI gs) r d (k + 1) = cc) := Lib.hid (by rw [HCS.out]; rw [if_pos Hh1.out, if_pos Hh2.out, if_pos Hh3.out]; omega)
          go_wp2_with fail
          refine ⟨⟨⟨k + 1, cc, by omega, hb1, q0, HC2, exFrame (by kernel_rfl)⟩⟩, ?_⟩
          show s.moves.length - (intOf (.int .i64 ((k : Int) + 1))).toNat < s.moves.length - (intOf (.int .i64 (k : Int))).toNat
          simp [intOf]
          omega
        · have bh3 : (e1 == r) = false := by simp [h3]
          have Hh3 := Lib.hid h3
          clear h3
          have HC2 : Hid (comes s.wo (gI gs) r d (k + 1) = cc + gv) := Lib.hid (by rw [HCS.out]; rw [if_pos Hh1.out, if_pos Hh2.out, if_neg Hh3.out]; omega)
          go_wp2_with fail
          refine ⟨⟨⟨k + 1, cc + gv, by omega, hb1, q0, HC2, exFrame (by kernel_rfl)⟩⟩, ?_⟩
          show s.moves.length - (intOf (.int .i64 ((k : Int) + 1))).toNat < s.moves.length - (intOf (.int .i64 (k : Int))).toNat
          simp [intOf]
          omega
      · have bh2 : (e2 == r) = false := by simp [h2]
        have Hh2 := Lib.hid h2
        clear h2
        by_cases h3 : e1 = r
        · have bh3 : (e1 == r) = true := by simp [h3]
          have Hh3 := Lib.hid h3
          clear h3
          have HC2 : Hid (comes s.wo (gI gs) r d (k + 1) = cc - gv) := Lib.hid (by rw [HCS.out]; rw [if_pos Hh1.out, if_neg Hh2.out, if_pos Hh3.out]; omega)
          go_wp2_with fail
          refine ⟨⟨⟨k + 1, cc - gv, by omega, hb1, q0, HC2, exFrame (by kernel_rfl)⟩⟩, ?_⟩
          show s.moves.length - (intOf (.int .i64 ((k : Int) + 1))).toNat < s.moves.length - (intOf (.int .i64 (k : Int))).toNat
          simp [intOf]
          omega
        · have bh3 : (e1 == r) = false := by simp [h3]
          have Hh3 := Lib.hid h3
          clear h3
          have HC2 : Hid (comes s.wo (gI gs) r d (k + 1) = cc) := Lib.hid (by rw [HCS.out]; rw [if_pos Hh1.out, if_neg Hh2.out, if_neg Hh3.out]; omega)
          go_wp2_with fail
          refine ⟨⟨⟨k + 1, cc, by omega, hb1, q0, HC2, exFrame (by kernel_rfl)⟩⟩, ?_⟩
          show s.moves.length - (intOf (.int .i64 ((k : Int) + 1))).toNat < s.moves.length - (intOf (.int .i64 (k : Int))).toNat
          simp [intOf]
          omega
    · have bh1 : (e0 != d) = true := by simp [h1]
      have Hh1 := Lib.hid h1
      clear h1
      have HC2 : Hid (comes s.wo (gI gs) r d (k + 1) = cc) := Lib.hid (by rw [HCS.out]; rw [if_neg Hh1.out]; omega)
      go_wp2_with fail
      refine ⟨⟨⟨k + 1, cc, by omega, hb1, q0, HC2, exFrame (by kernel_rfl)⟩⟩, ?_⟩
      show s.moves.length - (intOf (.int .i64 ((k : Int) + 1))).toNat < s.moves.length - (intOf (.int .i64 (k : Int))).toNat
      simp [intOf]
      omega
  · have a0 : W.cell? ⟨w.heap.size, 0, none⟩ = some (.slice Ar s.rooms.length cr) := q0.cell 0
    have a1 : W.cell? ⟨w.heap.size, 1, none⟩ = some (.int .i64 s.days) := q0.cell 1
    have a2 : W.cell? ⟨w.heap.size, 2, none⟩ = some (.slice Am s.moves.length cm) := q0.cell 2
    have a3 : W.cell? ⟨w.heap.size, 3, none⟩ = some (.slice Aw s.wgs.length cw) := q0.cell 3
    obtain rfl : k = s.moves.length := by omega
    go_wp2
    go_ret
    exact ⟨ret_int HC.out.symm, hb1⟩
theorem NOwn.base {α : Type} {T1 T2 : TypeId} {s1 s2 : Nat} {c : α → List Value} {A : α → Option Addr} {n : α → Nat} {f : α → Nat → Nat → Value} {W : World} {B B' : Nat} {v : Value} {X : List α} (h : NOwn T1 s1 T2 s2 c A n f W B v X) (hB : B' ≤ B) : NOwn T1 s1 T2 s2 c A n f W B' v X := ⟨own_base h.own hB, fun x hx => (h.ins x hx).base hB⟩
set_option maxRecDepth 100000 in
set_option maxHeartbeats 6400000 in
theorem Play_own (s : Ws) (Ar Am Aw : Option Addr) (cr cm cw : Nat) (w : World) (hs : WsIn w w.heap.size s Ar Am Aw) (hw : WoOk s.wo) (hd : s.days = (s.wo.days : Int)) (t : Tt) (Af Av Ag : Option Addr) (cf cv cg : Nat) (rV : Nat → Option Addr) (rcV : Nat → Nat) (ht : TtIn w w.heap.size t Af Av Ag rV rcV) (hv : truT s t = true) :
    Calls Try.prog 55 #[.agg #[.slice Ar s.rooms.length cr, .int .i64 s.days, .slice Am s.moves.length cm, .slice Aw s.wgs.length cw], .agg #[.slice Af t.fs.length cf, .slice Av t.vs.length cv, .slice Ag t.gs.length cg]] w fun e w' => (∃ A c X, e = .returned (.tuple #[.slice A s.rooms.length c, .bool (canT s t)]) ∧ IOwn w' w.heap.size (.slice A s.rooms.length c) X ∧ X.map (fun x => x.2.2) = (List.range s.rooms.length).map fun r => (List.range s.wo.days).map (stk s.wo t.F t.V t.G r)) ∧ Below w.heap.size w w' := by
  obtain ⟨⟨hl1, hl2, hl3⟩, hrl, htf⟩ := (truT_iff hd).1 hv
  have HDs := Lib.hid hd
  clear hd hv
  obtain ⟨n1, hn1⟩ : ∃ n, t.fs.length = n := ⟨_, rfl⟩
  obtain ⟨n2, hn2⟩ : ∃ n, t.vs.length = n := ⟨_, rfl⟩
  obtain ⟨n3, hn3⟩ : ∃ n, t.gs.length = n := ⟨_, rfl⟩
  have hfs := ht.fs
  have hvs := ht.vs
  have hrow := ht.row
  have hgs := ht.gs
  rw [hn1] at hfs hl1 ⊢
  rw [hn2] at hvs hrow hl2 ⊢
  rw [hn3] at hgs hl3 ⊢
  have HL1 := Lib.hid hl1
  have HL2 := Lib.hid hl2
  have HL3 := Lib.hid hl3
  have HRL := Lib.hid hrl
  have HTF := Lib.hid htf
  clear hl1 hl2 hl3 hrl htf hn1 hn2 hn3 ht
  obtain ⟨D, hD⟩ : ∃ D, s.wo.days = D := ⟨_, rfl⟩
  have hD6 : 1 ≤ D ∧ D ≤ 6 := by have := hw.days; omega
  have hr3 : 0 < s.rooms.length ∧ s.rooms.length ≤ 3 := ⟨hw.len.1, hw.len.2.1⟩
  have HD := Lib.hid hD
  have HSD : Hid (s.days = (D : Int)) := Lib.hid (by rw [HDs.out, hD])
  clear hD
  obtain ⟨i1, hi1, hy0, hy1, hy2⟩ := info_parts ints_info2
  obtain ⟨i2, hi2, hz0, hz1, hz2⟩ := info_parts int_info
  have hb1 := ex_alloc (ex_alloc (Below.refl w.heap.size w) (.cells #[.slice Ar s.rooms.length cr, .int .i64 s.days, .slice Am s.moves.length cm, .slice Aw s.wgs.length cw] 26)) (.cells #[.slice Af n1 cf, .slice Av n2 cv, .slice Ag n3 cg] 31)
  have q0 : Blk ((w.alloc (.cells #[.slice Ar s.rooms.length cr, .int .i64 s.days, .slice Am s.moves.length cm, .slice Aw s.wgs.length cw] 26)).alloc (.cells #[.slice Af n1 cf, .slice Av n2 cv, .slice Ag n3 cg] 31)) w.heap.size 26 #[.slice Ar s.rooms.length cr, .int .i64 s.days, .slice Am s.moves.length cm, .slice Aw s.wgs.length cw] := (Blk.new _ _ _).alloc _
  have q1 : Blk ((w.alloc (.cells #[.slice Ar s.rooms.length cr, .int .i64 s.days, .slice Am s.moves.length cm, .slice Aw s.wgs.length cw] 26)).alloc (.cells #[.slice Af n1 cf, .slice Av n2 cv, .slice Ag n3 cg] 31)) (w.heap.size + 1) 31 #[.slice Af n1 cf, .slice Av n2 cv, .slice Ag n3 cg] := Blk.new' _ _ _ (by simp)
  go_enter Try.func55, Try.ntmps55
  go_upto_region 1 with fail
  show Code.wp _ _ _ _ ((w.alloc (.cells #[.slice Ar s.rooms.length cr, .int .i64 s.days, .slice Am s.moves.length cm, .slice Aw s.wgs.length cw] 26)).alloc (.cells #[.slice Af n1 cf, .slice Av n2 cv, .slice Ag n3 cg] 31))
  obtain ⟨p0, hp0⟩ : ∃ p, w.heap.size = p := ⟨_, rfl⟩
  rw [hp0] at q0 q1 ⊢
  have HP0 := Lib.hid hp0
  generalize (w.alloc (.cells #[.slice Ar s.rooms.length cr, .int .i64 s.days, .slice Am s.moves.length cm, .slice Aw s.wgs.length cw] 26)).alloc (.cells #[.slice Af n1 cf, .slice Av n2 cv, .slice Ag n3 cg] 31) = W1 at *
  clear hp0
  obtain ⟨B0, hB0⟩ : ∃ b, W1.heap.size = b := ⟨_, rfl⟩
  have hbs : p0 + 1 < B0 := by have := q1.lt; omega
  have hwb : w.heap.size ≤ B0 := by rw [HP0.out]; omega
  have a0 : W1.cell? ⟨p0, 0, none⟩ = some (.slice Ar s.rooms.length cr) := q0.cell 0
  have a1 : W1.cell? ⟨p0, 1, none⟩ = some (.int .i64 s.days) := q0.cell 1
  have a2 : W1.cell? ⟨p0, 2, none⟩ = some (.slice Am s.moves.length cm) := q0.cell 2
  have a3 : W1.cell? ⟨p0, 3, none⟩ = some (.slice Aw s.wgs.length cw) := q0.cell 3
  have l0 := q0.lt
  go_wp2_with fail
  refine wp_loop (fun a W => Rel (fun a W => ∃ k : Nat, k ≤ s.rooms.length ∧ (Below w.heap.size w W ∧ B0 ≤ W.heap.size ∧ Blk W p0 26 #[.slice Ar s.rooms.length cr, .int .i64 s.days, .slice Am s.moves.length cm, .slice Aw s.wgs.length cw] ∧ Blk W (p0 + 1) 31 #[.slice Af n1 cf, .slice Av n2 cv, .slice Ag n3 cg]) ∧ ∃ vo X, IOwn W B0 vo X ∧ Hid (X.map (fun x => x.2.2) = (List.range k).map fun r => (List.range D).map (stk s.wo t.F t.V t.G r)) ∧ ∃ u : Nat → Value, a = ⟨List.toArray (u 0 :: u 1 :: .pointer (some ⟨p0, 0, none⟩) :: .pointer (some ⟨p0 + 1, 0, none⟩) :: u 4 :: u 5 :: vo :: .bool (canTo s t k) :: .int .i64 (k : Int) :: u 9 :: u 10 :: u 11 :: u 12 :: u 13 :: u 14 :: u 15 :: u 16 :: u 17 :: u 18 :: u 19 :: u 20 :: u 21 :: u 22 :: u 23 :: u 24 :: u 25 :: u 26 :: u 27 :: u 28 :: u 29 :: u 30 :: u 31 :: u 32 :: u 33 :: u 34 :: u 35 :: u 36 :: u 37 :: u 38 :: u 39 :: u 40 :: u 41 :: u 42 :: u 43 :: u 44 :: u 45 :: u 46 :: u 47 :: u 48 :: u 49 :: u 50 :: u 51 :: u 52 :: u 53 :: u 54 :: u 55 :: u 56 :: u 57 :: u 58 :: u 59 :: u 60 :: u 61 :: []), []⟩) a W) (fun a _ => s.rooms.length - (intOf (a.tmps.getD 8 undef)).toNat) ⟨⟨0, by omega, ⟨hb1, by omega, q0, q1⟩, _, [], NOwn.nil, Lib.hid rfl, exFrame (by kernel_rfl)⟩⟩ ?_
  clear a0 a1 a2 a3 l0 q0 q1 hb1 hB0 W1
  rintro a Wk ⟨⟨k, hk, ⟨B1, hz1', q0, q1⟩, vo, X, hO, HX, u, rfl⟩⟩
  have a0 : Wk.cell? ⟨p0, 0, none⟩ = some (.slice Ar s.rooms.length cr) := q0.cell 0
  have a1 : Wk.cell? ⟨p0, 1, none⟩ = some (.int .i64 s.days) := q0.cell 1
  have a2 : Wk.cell? ⟨p0, 2, none⟩ = some (.slice Am s.moves.length cm) := q0.cell 2
  have a3 : Wk.cell? ⟨p0, 3, none⟩ = some (.slice Aw s.wgs.length cw) := q0.cell 3
  have l0 := q0.lt
  rw [HSD.out] at a1
  have b0 : Wk.cell? ⟨p0 + 1, 0, none⟩ = some (.slice Af n1 cf) := q1.cell 0
  have b1 : Wk.cell? ⟨p0 + 1, 1, none⟩ = some (.slice Av n2 cv) := q1.cell 1
  have b2 : Wk.cell? ⟨p0 + 1, 2, none⟩ = some (.slice Ag n3 cg) := q1.cell 2
  have l1 := q1.lt
  by_cases hlt : k < s.rooms.length
  · obtain ⟨bf, of, rfl, hbf, y0⟩ := IsInts.at_ (hfs.below B1) (show k < n1 by rw [HL1.out]; exact hlt)
    have hbfW : bf < Wk.heap.size := by have := B1.size; omega
    have hk1 : (k : Int) < (n1 : Int) := by rw [HL1.out]; omega
    have e7 : Hid (gI t.fs k = stk0 s.wo t.F t.V t.G k 0) := Lib.hid rfl
    have ec : Hid (canTo s t k = cBt s t k 0) := Lib.hid (cBt_zero s t k).symm
    go_wp2_with fail
    rw [e7.out, ec.out]
    obtain ⟨Bk, hBk⟩ : ∃ b, Wk.heap.size = b := ⟨_, rfl⟩
    have HBK := Lib.hid hBk
    rw [hBk] at hz1' hbfW
    clear hBk
    refine wp_loop (fun a W => Rel (fun a W => ∃ j : Nat, j ≤ D ∧ Below Wk.heap.size Wk W ∧ (∃ vl l, W.ownsRow Bk 3 1 vl l.length (l.flatMap cI1) ∧ Hid (l = (List.range j).map (stk s.wo t.F t.V t.G k)) ∧ ∃ u : Nat → Value, a = ⟨List.toArray (u 0 :: u 1 :: .pointer (some ⟨p0, 0, none⟩) :: .pointer (some ⟨p0 + 1, 0, none⟩) :: u 4 :: u 5 :: vo :: .bool (cBt s t k j) :: .int .i64 (k : Int) :: .int .i64 (stk0 s.wo t.F t.V t.G k j) :: vl :: .int .i64 (j : Int) :: u 12 :: u 13 :: u 14 :: u 15 :: u 16 :: u 17 :: u 18 :: u 19 :: u 20 :: u 21 :: u 22 :: u 23 :: u 24 :: u 25 :: u 26 :: u 27 :: u 28 :: u 29 :: u 30 :: u 31 :: u 32 :: u 33 :: u 34 :: u 35 :: u 36 :: u 37 :: u 38 :: u 39 :: u 40 :: u 41 :: u 42 :: u 43 :: u 44 :: u 45 :: u 46 :: u 47 :: u 48 :: u 49 :: u 50 :: u 51 :: u 52 :: u 53 :: u 54 :: u 55 :: u 56 :: u 57 :: u 58 :: u 59 :: u 60 :: u 61 :: []), []⟩)) a W) (fun a _ => D - (intOf (a.tmps.getD 11 undef)).toNat) ⟨⟨0, by omega, Below.refl _ _, _, [], ⟨rfl, .inl ⟨rfl, rfl⟩⟩, Lib.hid rfl, exFrame (by kernel_rfl)⟩⟩ ?_
    clear a0 a1 a2 a3 l0 b0 b1 b2 l1 y0
    rintro a W ⟨⟨j, hj, hfk, vl, l, ho, HL, u2, rfl⟩⟩
    have q0' := q0.below hfk q0.lt
    have q1' := q1.below hfk q1.lt
    have BW := ex_trans B1 hfk
    have hzW := hfk.size
    rw [HBK.out] at hzW
    have HLL : Hid (l.length = j) := Lib.hid (by rw [HL.out]; simp)
    rw [HLL.out] at ho
    have a0 : W.cell? ⟨p0, 0, none⟩ = some (.slice Ar s.rooms.length cr) := q0'.cell 0
    have a1 : W.cell? ⟨p0, 1, none⟩ = some (.int .i64 s.days) := q0'.cell 1
    have a2 : W.cell? ⟨p0, 2, none⟩ = some (.slice Am s.moves.length cm) := q0'.cell 2
    have a3 : W.cell? ⟨p0, 3, none⟩ = some (.slice Aw s.wgs.length cw) := q0'.cell 3
    have l0 := q0'.lt
    rw [HSD.out] at a1
    have b0 : W.cell? ⟨p0 + 1, 0, none⟩ = some (.slice (some ⟨bf, of, none⟩) n1 cf) := q1'.cell 0
    have b1 : W.cell? ⟨p0 + 1, 1, none⟩ = some (.slice Av n2 cv) := q1'.cell 1
    have b2 : W.cell? ⟨p0 + 1, 2, none⟩ = some (.slice Ag n3 cg) := q1'.cell 2
    have l1 := q1'.lt
    by_cases hlj : j < D
    · obtain ⟨bv, ov, rfl, hbv, z0⟩ := (hvs.below BW) (show 0 < n2 by rw [HL2.out]; omega)
      have z1 : W.cell? ⟨bv, ov + k, none⟩ = some (.slice (rV k) (gL t.vs k).length (rcV k)) := by have := z0 k 0 (by rw [HL2.out]; exact hlt) (by omega); rw [show ov + (k * 1 + 0) = ov + k by omega] at this; exact this
      rw [HRL.out k hlt, HD.out] at z1
      have hro := (hrow k (by rw [HL2.out]; exact hlt)).below BW
      rw [HRL.out k hlt, HD.out] at hro
      obtain ⟨bl, ol, hrv, hbl, v0⟩ := IsInts.at_ hro hlj
      rw [hrv] at z1
      have hbvW : bv < W.heap.size := by have := BW.size; omega
      have hblW : bl < W.heap.size := by have := BW.size; omega
      have hk2 : (k : Int) < (n2 : Int) := by rw [HL2.out]; omega
      clear z0 hro hrv
      obtain ⟨rc, hrc⟩ : ∃ x, rcV k = x := ⟨_, rfl⟩
      rw [hrc] at z1
      clear hrc
      have hsd := stk_day s.wo t.F t.V t.G k j
      have hb0 := stk0_bd hw HTF.out (r := k) hlt j (by rw [HD.out]; exact hj)
      have hb2 := stk0_bd hw HTF.out (r := k) hlt (j + 1) (by rw [HD.out]; omega)
      have hcb := comes_bd s.wo (G := t.G) k j s.moves.length (fun i hi => by have a := HTF.out.mov i hi; have b := hw.grams i hi; unfold inR at a; omega)
      have hm12 := hw.len.2.2.1
      have hm0 : s.wo.moves.length = s.moves.length := rfl
      have hvb := HTF.out.vap k j hlt (by rw [HD.out]; exact hlj)
      have hrb := hw.rooms k hlt
      unfold inR at hvb
      have hvq : t.V k j = gI (gL t.vs k) j := rfl
      rw [hvq] at hvb hsd
      rw [hm0] at hsd hm12
      have hb2' : stk0 s.wo t.F t.V t.G k (j + 1) = stk s.wo t.F t.V t.G k j := rfl
      rw [hb2'] at hb2
      obtain ⟨S0, hS0⟩ : ∃ x, stk0 s.wo t.F t.V t.G k j = x := ⟨_, rfl⟩
      obtain ⟨S1, hS1⟩ : ∃ x, stk s.wo t.F t.V t.G k j = x := ⟨_, rfl⟩
      obtain ⟨cc, hcc⟩ : ∃ x, comes s.wo t.G k j s.moves.length = x := ⟨_, rfl⟩
      obtain ⟨vv, hvv⟩ : ∃ x, gI (gL t.vs k) j = x := ⟨_, rfl⟩
      rw [hS0] at hsd hb0 ⊢
      rw [hS1] at hsd hb2
      rw [hcc] at hsd hcb
      rw [hvv] at hsd hvb v0
      have hvb2 : 0 ≤ vv ∧ vv ≤ 50 := by have a1 := hvb.1; have a2 := hvb.2; have b1 : s.wo.rooms = s.rooms := rfl; rw [b1] at hrb; rw [b1] at a1 a2; omega
      have hcb2 : -24000 ≤ cc ∧ cc ≤ 24000 := by omega
      have hjj : (j : Int) ≤ 6 := by omega
      have hS0b : -200000 ≤ S0 ∧ S0 ≤ 200000 := by omega
      have HSD2 := Lib.hid hsd
      have HS1 := Lib.hid hS1
      have HCC := Lib.hid hcc
      clear hvb hcb hsd hb2' hvq hb0 hb2 hrb hm0 hm12 hvv hS0 hS1 hcc
      go_upto_region 11 with fail
      have D0 := (Below.refl W.heap.size W).drew
      refine wp_region_ext_mix 17 [(false, 0), (false, 1), (false, 2), (false, 3), (false, 4), (false, 5), (false, 7), (false, 8), (false, 9), (false, 10), (false, 11), (false, 12), (false, 13), (false, 14), (true, 6), (false, 15), (false, 16)] (by kernel_rfl) (by kernel_rfl) (by intro d _ _ _ _ h; cases d <;> exact h) ?_
      repeat (refine mix_quiet rfl ?_; go_big_quiet_step (fail); refine wpQuiet_nil ?_)
      refine mix_loud rfl ?_
      go_wp2_with fail
      have hcm := Comes_ref s Ar Am Aw cr cm cw W.drew ((hs.below (ex_trans BW D0)).up (ex_trans BW D0).size) hw t.gs Ag n3 cg ((hgs.below (ex_trans BW D0)).up (ex_trans BW D0).size) (by rw [HL3.out]; exact Nat.le_refl _) (fun i hi => by have a := HTF.out.mov i hi; have b := hw.grams i hi; unfold inR at a; have e : t.G i = gI t.gs i := rfl; rw [← e]; omega) (k : Int) (j : Int)
      rw [HSD.out] at hcm
      refine hcm.mono ?_
      clear hcm
      rintro e Z1 ⟨rfl, hz1⟩
      rw [show comes s.wo (gI t.gs) k j s.moves.length = cc from HCC.out]
      have E1 := ex_trans D0 hz1
      go_wp2_with fail
      refine ⟨inEx E1, ?_⟩
      repeat (refine mix_quiet rfl ?_; go_big_quiet_step (fail); refine wpQuiet_nil ?_)
      refine mix_nil (r := [_]) rfl ?_
      have ho1 := own_below ho E1
      have hfk1 := ex_trans hfk E1
      clear D0 hz1 a0 a1 a2 a3 l0 b0 b1 b2 l1 z1 v0 q0' q1'
      have hS1e : S0 + (cc - vv) = S1 := HSD2.out.symm
      have hS1b : -300000 ≤ S1 ∧ S1 ≤ 300000 := by omega
      go_upto_region 12 with fail
      rw [hS1e]
      have HSE := Lib.hid hS1e
      clear hS1e
      have XI := ex_alloc (Below.refl Z1.heap.size Z1) (.cells #[.int .i64 S1] 3)
      have ho2 := own_below ho1 XI
      have c63 : j + 1 ≤ maxLen := by unfold maxLen; omega
      have cby : (j + 1) * 8 ≤ 140737488355328 := by omega
      have hbase : Bk ≤ (Z1.alloc (.cells #[.int .i64 S1] 3)).heap.size := by have := XI.size; have := E1.size; omega
      go_wp2_with (refine pause_at 50 rfl ?_)
      refine Paused.mk ?_
      refine wpList_append_lies _ rfl _ _ _ rfl Bk 3 i2 _ 1 8 Try.underlying28 hi2 hz0 hz1 hz2 rfl (by omega) vl _ _ rfl ho2 ⟨Z1.heap.size, 0, none⟩ 1 1 [.int .i64 S1] rfl rfl (World.news_of_block (heap_alloc_new Z1 _)) (by simp [Value.oneCell']) (by omega) c63 cby hbase (Z1.heap.size + 1) (by simp) ?_
      intro gg cap w1 hown' hgrow hat hlt'
      have hfw : Below Wk.heap.size Wk w1 := (ex_trans hfk1 XI).grown hgrow (ex_trans hfk1 XI).size (fun b hb => by have := own_ge ho2 hb; have := HBK.out; omega)
      have HOW := Lib.hid (own_push (f := cI1) (x := S1) (by rw [HLL.out]) hown')
      have HL2' : Hid (l ++ [S1] = (List.range (j + 1)).map (stk s.wo t.F t.V t.G k)) := Lib.hid (by rw [HL.out, List.range_succ, List.map_append, List.map_singleton, HS1.out])
      have HCS : Hid (cBt s t k (j + 1) = (cBt s t k j && decide (0 ≤ S1))) := Lib.hid (by rw [cBt_succ, HS1.out])
      have HSK : Hid (stk0 s.wo t.F t.V t.G k (j + 1) = S1) := Lib.hid HS1.out
      clear hown' hgrow hat hlt'
      cases hcb : cBt s t k j
      · have HCB := Lib.hid hcb
        clear hcb
        go_wp2_with fail
        refine ⟨⟨⟨j + 1, by omega, hfw, _, _, HOW.out, HL2', exFrame (by rw [HSK.out, HCS.out, HCB.out]; kernel_rfl)⟩⟩, ?_⟩
        show D - (intOf (.int .i64 ((j : Int) + 1))).toNat < D - (intOf (.int .i64 (j : Int))).toNat
        simp [intOf]
        omega
      · by_cases hS : 0 ≤ S1
        · have HCB := Lib.hid hcb
          clear hcb
          go_wp2_with fail
          refine ⟨⟨⟨j + 1, by omega, hfw, _, _, HOW.out, HL2', exFrame (by rw [HSK.out, HCS.out, HCB.out]; rw [decide_eq_true hS]; kernel_rfl)⟩⟩, ?_⟩
          show D - (intOf (.int .i64 ((j : Int) + 1))).toNat < D - (intOf (.int .i64 (j : Int))).toNat
          simp [intOf]
          omega
        · have HCB := Lib.hid hcb
          clear hcb
          go_wp2_with fail
          refine ⟨⟨⟨j + 1, by omega, hfw, _, _, HOW.out, HL2', exFrame (by rw [HSK.out, HCS.out, HCB.out]; rw [decide_eq_false (show ¬ (0 ≤ S1) by omega)]; kernel_rfl)⟩⟩, ?_⟩
          show D - (intOf (.int .i64 ((j : Int) + 1))).toNat < D - (intOf (.int .i64 (j : Int))).toNat
          simp [intOf]
          omega
    · obtain rfl : j = D := by omega
      have hO' := hO.below hfk
      have HXl : Hid (X.length = k) := Lib.hid (by have := congrArg List.length HX.out; simpa using this)
      rw [← HLL.out] at ho
      obtain ⟨A5, c5, rfl, _, _, hr5⟩ := lay_ints ho
      rw [HLL.out]
      have HCA : Hid (cBt s t k j = canTo s t (k + 1)) := Lib.hid (by rw [← HD.out]; exact cBt_all s t k)
      rw [HCA.out]
      have XL := ex_alloc (Below.refl W.heap.size W) (.cells #[.slice A5 j c5] 28)
      have y4 := own_below hO'.own XL
      have c63 : X.length + 1 ≤ maxLen := by rw [HXl.out]; unfold maxLen; omega
      have cby : (X.length + 1) * 24 ≤ 140737488355328 := by rw [HXl.out]; omega
      have hbase : B0 ≤ (W.alloc (.cells #[.slice A5 j c5] 28)).heap.size := by have := XL.size; omega
      clear a0 a2 a3 b0 b1 b2 l1
      go_wp2_with (refine pause_at 59 rfl ?_)
      refine Paused.mk ?_
      refine wpList_append_lies _ rfl _ _ _ rfl B0 28 i1 _ 1 24 Try.underlying29 hi1 hy0 hy1 hy2 rfl (by omega) vo _ _ rfl y4 ⟨W.heap.size, 0, none⟩ 1 1 [.slice A5 j c5] rfl rfl (World.news_of_block (heap_alloc_new W _)) (by simp [Value.oneCell']) (by omega) c63 cby hbase (W.heap.size + 1) (by simp) ?_
      intro gg cap w1 hown' hgrow hat hlt'
      have hgf := Fr.grown (R := fun b => B0 ≤ b) hgrow (fun b hb => .inl (own_ge y4 hb))
      have Bw : Below w.heap.size w w1 := (ex_trans BW XL).grown hgrow (ex_trans BW XL).size (fun b hb => by have := own_ge y4 hb; omega)
      have hN3 : IOwn w1 B0 (.slice (some ⟨gg, 0, none⟩) (X.length + 1) cap) (X ++ [((A5, c5, l) : IRow)]) := NOwn.push (hO'.below XL) hgrow (by decide) rfl (own_push (f := cIR) (x := ((A5, c5, l) : IRow)) rfl (by rw [show cIR ((A5, c5, l) : IRow) = [.slice A5 j c5] by unfold cIR; dsimp only; rw [HLL.out]]; exact hown')) (fun y hy => by
        obtain rfl := List.mem_singleton.1 hy
        exact (hr5.below XL).base (by omega))
      have HX2 : Hid ((X ++ [((A5, c5, l) : IRow)]).map (fun x => x.2.2) = (List.range (k + 1)).map fun r => (List.range j).map (stk s.wo t.F t.V t.G r)) := Lib.hid (by rw [List.map_append, HX.out, List.range_succ, List.map_append, List.map_singleton, List.map_singleton, HL.out])
      have q0w := (q0'.below XL q0'.lt).fr hgf (by omega)
      have q1w := (q1'.below XL q1'.lt).fr hgf (by omega)
      have hzw : B0 ≤ w1.heap.size := by have := hgrow.size; omega
      clear hown' hgrow hat hlt' hgf hr5 ho
      generalize X ++ [((A5, c5, l) : IRow)] = X2 at *
      go_wp2_with fail
      refine ⟨⟨⟨k + 1, by omega, ⟨Bw, hzw, q0w, q1w⟩, _, X2, hN3, HX2, exFrame (by kernel_rfl)⟩⟩, ?_⟩
      show s.rooms.length - (intOf (.int .i64 ((k : Int) + 1))).toNat < s.rooms.length - (intOf (.int .i64 (k : Int))).toNat
      simp [intOf]
      omega
  · obtain ⟨A, c, rA, rc, rfl, hR⟩ := hO.lays (n := k) HX.out
    obtain rfl : k = s.rooms.length := by omega
    go_wp2
    go_ret2
    exact ⟨⟨A, c, X, rfl, hO.base hwb, by rw [HD.out]; exact HX.out⟩, B1⟩
end Go.Proofs.Ythihdiilokdidaa
end

section
namespace Go.Proofs.Ythihdiilokdidaa
open Go.RowKit
attribute [local go_sem] Ex.cell? Ex.frozen? Gx.cell?

theorem own_grow {W W' : World} {base : Nat} {e : TypeId} {sz n : Nat} {v : Value} {xs : List Value} {row : Option Nat} (h : W.ownsRow base e sz v n xs) (hg : W.grownBy W' row) (hn : ∀ b, v.ownBlock = some b → row ≠ some b) : W'.ownsRow base e sz v n xs :=
  own_fr h (Fr.grown (R := fun b => row = some b) hg (fun b e => .inl e)) (fun b hb => hn b hb)
theorem RowAt.grownNe {W W' : World} {B sz n : Nat} {T : TypeId} {A : Option Addr} {f : Nat → Nat → Value} {row : Option Nat} (h : RowAt W B T sz A n f) (hg : W.grownBy W' row) (hn : ∀ g, A = some ⟨g, 0, none⟩ → n ≠ 0 → some g ≠ row) : RowAt W' B T sz A n f := by
  by_cases h0 : n = 0
  · exact .inl h0
  rcases h with h | ⟨g, cur, e, h1, h2, h3⟩
  · exact .inl h
  · exact .inr ⟨g, cur, e, h1, h2.grown hg (hn g e h0), h3⟩
/-- no row of these lies in the block of another. -/
def Apart (X : List IRow) (v : Value) : Prop := ∀ x ∈ X, ∀ g, x.1 = some ⟨g, 0, none⟩ → x.2.2.length ≠ 0 → v.ownBlock ≠ some g
theorem IOwn.grownA {W W' : World} {B B1 n : Nat} {v v1 : Value} {X : List IRow} {xs : List Value} (h : IOwn W B v X) (hg : W.grownBy W' v1.ownBlock) (o1 : W.ownsRow B1 3 1 v1 n xs) (ap : Apart X v1) : IOwn W' B v X :=
  ⟨own_grow h.own hg (fun b hb => own_ownne h.own o1 (by decide) hb), fun x hx => (h.ins x hx).grownNe hg (fun g e hn e2 => ap x hx g e hn e2.symm)⟩
theorem Apart.next {W : World} {B : Nat} {v v1 v1' : Value} {X : List IRow} {gg : Nat} (h : Apart X v1) (hN : IOwn W B v X) (he : v1'.ownBlock = some gg) (hat : v1.ownBlock = some gg ∨ W.heap.size ≤ gg) : Apart X v1' := fun x hx g e hn e2 => by
  rw [he] at e2
  injection e2 with e2
  subst e2
  rcases hat with h1 | h1
  · exact h x hx _ e hn h1
  · rcases hN.ins x hx with h3 | ⟨g, cur, e3, _, k2, _⟩
    · exact hn h3
    · rw [e] at e3
      injection e3 with e3
      injection e3 with e3
      have := k2.lt
      omega
theorem Apart.push {X : List IRow} {v : Value} {x : IRow} {B : Nat} (h : Apart X v) (hx : ∀ g, x.1 = some ⟨g, 0, none⟩ → x.2.2.length ≠ 0 → B ≤ g) (hv : ∀ b, v.ownBlock = some b → b < B) : Apart (X ++ [x]) v := fun y hy g e hn e2 => by
  rcases List.mem_append.1 hy with h1 | h1
  · exact h y h1 g e hn e2
  · obtain rfl := List.mem_singleton.1 h1
    have := hx g e hn
    have := hv g e2
    omega
/-- a room's first and vapours. -/
structure PickOk (s : Ws) (n : Int) (l : List Int) (j : Nat) : Prop where
  fst : inR n (gRm s.rooms j).fst
  len : l.length = s.wo.days
  vap : ∀ d, d < s.wo.days → inR (gI l d) (gRm s.rooms j).vap
structure PickTo (s : Ws) (l1 : List Int) (L : List (List Int)) (k : Nat) : Prop where
  n1 : l1.length = k
  n2 : L.length = k
  ok : ∀ j, j < k → PickOk s (gI l1 j) (gL L j) j
theorem PickTo.snoc {s : Ws} {l1 : List Int} {L : List (List Int)} {k : Nat} (h : PickTo s l1 L k) {n : Int} {l : List Int} (hn : PickOk s n l k) : PickTo s (l1 ++ [n]) (L ++ [l]) (k + 1) where
  n1 := by simp [h.n1]
  n2 := by simp [h.n2]
  ok := fun j hj => by
    rcases Nat.lt_succ_iff_lt_or_eq.1 hj with hlt | rfl
    · have e1 : gI (l1 ++ [n]) j = gI l1 j := getD_l _ (by rw [h.n1]; exact hlt)
      have e2 : gL (L ++ [l]) j = gL L j := getD_l _ (by rw [h.n2]; exact hlt)
      rw [e1, e2]; exact h.ok j hlt
    · have e1 : gI (l1 ++ [n]) j = n := by rw [← h.n1]; exact getD_r _ _ _
      have e2 : gL (L ++ [l]) j = l := by rw [← h.n2]; exact getD_r _ _ _
      rw [e1, e2]; exact hn
theorem PickTo.tru {s : Ws} {t : Tt} (hd : s.days = (s.wo.days : Int)) (h : PickTo s t.fs t.vs s.rooms.length) (hg : t.gs.length = s.moves.length) (hm : ∀ i, i < s.moves.length → inR (gI t.gs i) (gMv s.moves i).g) : truT s t = true :=
  (truT_iff hd).2 ⟨⟨h.n1, h.n2, hg⟩, fun r hr => (h.ok r hr).len, ⟨fun r hr => (h.ok r hr).fst, fun r d hr hd => (h.ok r hr).vap d hd, hm⟩⟩
theorem gI_snoc' {l : List Int} {n : Int} {k : Nat} {P : Int → Nat → Prop} (hl : l.length = k) (h : ∀ j, j < k → P (gI l j) j) (hn : P n k) : ∀ j, j < k + 1 → P (gI (l ++ [n]) j) j := fun j hj => by
  rcases Nat.lt_succ_iff_lt_or_eq.1 hj with hlt | rfl
  · have e1 : gI (l ++ [n]) j = gI l j := getD_l _ (by rw [hl]; exact hlt)
    rw [e1]; exact h j hlt
  · have e1 : gI (l ++ [n]) j = n := by rw [← hl]; exact getD_r _ _ _
    rw [e1]; exact hn
/-- a truth of these. -/
structure TruP (s : Ws) (t : Tt) : Prop where
  pt : PickTo s t.fs t.vs s.rooms.length
  gl : t.gs.length = s.moves.length
  mv : ∀ i, i < s.moves.length → inR (gI t.gs i) (gMv s.moves i).g
theorem TruP.tru {s : Ws} {t : Tt} (h : TruP s t) (hd : s.days = (s.wo.days : Int)) : truT s t = true := PickTo.tru hd h.pt h.gl h.mv
/-- what lies in the midst of Picked. -/
structure PkA (s : Ws) (wc : Array Value) (w : World) (p0 B0 : Nat) (v1 : Value) (l1 : List Int) (v2 : Value) (X : List IRow) (W : World) : Prop where
  bw : Below w.heap.size w W
  sz : B0 ≤ W.heap.size
  q0 : Blk W p0 26 wc
  q1 : Blk W (p0 + 1) 31 #[.slice none 0 0, .slice none 0 0, .slice none 0 0]
  q2 : Blk W (p0 + 1 + 1) 31 #[v1, v2, .slice none 0 0]
  o1 : W.ownsRow B0 3 1 v1 l1.length (l1.flatMap cI1)
  o2 : IOwn W B0 v2 X
  ap : Apart X v1
/-- behind what only makes memory. -/
theorem PkA.below {s : Ws} {wc : Array Value} {w W W' : World} {p0 B0 : Nat} {v1 : Value} {l1 : List Int} {v2 : Value} {X : List IRow} (h : PkA s wc w p0 B0 v1 l1 v2 X W) (hb : Below W.heap.size W W') : PkA s wc w p0 B0 v1 l1 v2 X W' :=
  ⟨ex_trans h.bw hb, Nat.le_trans h.sz hb.size, h.q0.below hb h.q0.lt, h.q1.below hb h.q1.lt, h.q2.below hb h.q2.lt, own_below h.o1 hb, h.o2.below hb, h.ap⟩
/-- behind an append to the firsts. -/
theorem PkA.fst {s : Ws} {wc : Array Value} {w W W' : World} {p0 B0 : Nat} {v1 : Value} {l1 : List Int} {v2 : Value} {X : List IRow} (h : PkA s wc w p0 B0 v1 l1 v2 X W) (hB : p0 + 1 + 1 < B0) (hw : w.heap.size ≤ p0) (hg : W.grownBy W' v1.ownBlock) {gg cap : Nat} {x : Int} (ho : W'.ownsRow B0 3 1 (.slice (some ⟨gg, 0, none⟩) (l1.length + 1) cap) (l1.length + 1) (l1.flatMap cI1 ++ [.int .i64 x])) (hat : v1.ownBlock = some gg ∨ W.heap.size ≤ gg) :
    PkA s wc w p0 B0 (.slice (some ⟨gg, 0, none⟩) (l1.length + 1) cap) (l1 ++ [x]) v2 X (W'.setCell ⟨p0 + 1 + 1, 0, none⟩ (.slice (some ⟨gg, 0, none⟩) (l1.length + 1) cap)) := by
  have hge := fun (j : Nat) (hj : v1.ownBlock = some j) => own_ge h.o1 hj
  have hne : ∀ p, p < B0 → some p ≠ v1.ownBlock := fun p hp e => by have := hge p e.symm; omega
  have q2' := h.q2.grown hg (hne _ hB)
  have hs2 : B0 ≤ W'.heap.size := by have := hg.size; have := h.sz; omega
  have q2s := q2'.set_ 0 (.slice (some ⟨gg, 0, none⟩) (l1.length + 1) cap)
  simp only [List.setIfInBounds_toArray, List.set_cons_zero, List.set_cons_succ] at q2s
  refine ⟨ex_set (h.bw.grown hg h.bw.size (fun b hb => by have := hge b hb; omega)) (by show w.heap.size ≤ p0 + 1 + 1; omega) _, by simpa using hs2, (h.q0.grown hg (hne _ (by omega))).far (by show p0 ≠ p0 + 1 + 1; omega) _, (h.q1.grown hg (hne _ (by omega))).far (by show p0 + 1 ≠ p0 + 1 + 1; omega) _, q2s, ?_, ?_, h.ap.next h.o2 rfl hat⟩
  · exact own_far (own_push (f := cI1) (x := x) rfl ho) (by show p0 + 1 + 1 < B0; omega) _
  · exact (h.o2.grownA hg h.o1 h.ap).set q2' (by decide) (by decide) 0 _
/-- behind an append to the vapours. -/
theorem PkA.vap {s : Ws} {wc : Array Value} {w W W' : World} {p0 B0 : Nat} {v1 : Value} {l1 : List Int} {v2 : Value} {X : List IRow} (h : PkA s wc w p0 B0 v1 l1 v2 X W) (hB : p0 + 1 + 1 < B0) (hw : w.heap.size ≤ p0) (hg : W.grownBy W' v2.ownBlock) {gg cap : Nat} {x : IRow} (ho : W'.ownsRow B0 28 1 (.slice (some ⟨gg, 0, none⟩) (X.length + 1) cap) (X.length + 1) (X.flatMap cIR ++ cIR x)) {B1 : Nat} (hx : RowAt W B1 3 1 x.1 x.2.2.length (fI x.2.2)) (hB1 : B0 ≤ B1) (hv : ∀ b, v1.ownBlock = some b → b < B1) :
    PkA s wc w p0 B0 v1 l1 (.slice (some ⟨gg, 0, none⟩) (X.length + 1) cap) (X ++ [x]) (W'.setCell ⟨p0 + 1 + 1, 1, none⟩ (.slice (some ⟨gg, 0, none⟩) (X.length + 1) cap)) := by
  have hge := fun (j : Nat) (hj : v2.ownBlock = some j) => own_ge h.o2.own hj
  have hne : ∀ p, p < B0 → some p ≠ v2.ownBlock := fun p hp e => by have := hge p e.symm; omega
  have q2' := h.q2.grown hg (hne _ hB)
  have hs2 : B0 ≤ W'.heap.size := by have := hg.size; have := h.sz; omega
  have q2s := q2'.set_ 1 (.slice (some ⟨gg, 0, none⟩) (X.length + 1) cap)
  simp only [List.setIfInBounds_toArray, List.set_cons_zero, List.set_cons_succ] at q2s
  have o2' : IOwn W' B0 (.slice (some ⟨gg, 0, none⟩) (X.length + 1) cap) (X ++ [x]) := NOwn.push h.o2 hg (by decide) rfl (own_push (f := cIR) (x := x) rfl ho) (fun y hy => by
    obtain rfl := List.mem_singleton.1 hy
    exact hx.base hB1)
  refine ⟨ex_set (h.bw.grown hg h.bw.size (fun b hb => by have := hge b hb; omega)) (by show w.heap.size ≤ p0 + 1 + 1; omega) _, by simpa using hs2, (h.q0.grown hg (hne _ (by omega))).far (by show p0 ≠ p0 + 1 + 1; omega) _, (h.q1.grown hg (hne _ (by omega))).far (by show p0 + 1 ≠ p0 + 1 + 1; omega) _, q2s, ?_, ?_, h.ap.push (B := B1) (fun g e hn => ?_) hv⟩
  · exact own_far (own_grow h.o1 hg (fun b hb => own_ownne h.o1 h.o2.own (by decide) hb)) (by show p0 + 1 + 1 < B0; omega) _
  · exact o2'.set q2' (by decide) (by decide) 1 _
  · rcases hx with h3 | ⟨g', cur, e3, k1, k2, _⟩
    · exact absurd h3 hn
    · rw [e] at e3
      injection e3 with e3
      injection e3 with e3
      omega
/-- a truth that Picked tells. -/
structure TtOwn (w : World) (B : Nat) (t : Tt) (A1 A2 A3 : Option Addr) (c2 : Nat) : Prop where
  fs : RowAt w B 3 1 A1 t.fs.length (fI t.fs)
  vs : ∃ X : List IRow, IOwn w B (.slice A2 t.vs.length c2) X ∧ X.map (fun x => x.2.2) = t.vs
  gs : RowAt w B 3 1 A3 t.gs.length (fI t.gs)
theorem TtOwn.below {w w' : World} {B : Nat} {t : Tt} {A1 A2 A3 : Option Addr} {c2 : Nat} (h : TtOwn w B t A1 A2 A3 c2) (hb : Below w.heap.size w w') : TtOwn w' B t A1 A2 A3 c2 := by
  obtain ⟨h1, ⟨X, h2, h3⟩, h4⟩ := h
  exact ⟨h1.below hb, ⟨X, h2.below hb, h3⟩, h4.below hb⟩
theorem TtOwn.fr {R : Nat → Prop} {w w' : World} {B : Nat} {t : Tt} {A1 A2 A3 : Option Addr} {c2 : Nat} (h : TtOwn w B t A1 A2 A3 c2) (hf : Fr R w w') (hn : ∀ g, B ≤ g → g < w.heap.size → ¬ R g) : TtOwn w' B t A1 A2 A3 c2 := by
  obtain ⟨h1, ⟨X, h2, h3⟩, h4⟩ := h
  exact ⟨h1.fr hf hn, ⟨X, h2.fr hf hn, h3⟩, h4.fr hf hn⟩
theorem TtOwn.base {w : World} {B B' : Nat} {t : Tt} {A1 A2 A3 : Option Addr} {c2 : Nat} (h : TtOwn w B t A1 A2 A3 c2) (hb : B' ≤ B) : TtOwn w B' t A1 A2 A3 c2 := by
  obtain ⟨h1, ⟨X, h2, h3⟩, h4⟩ := h
  exact ⟨h1.base hb, ⟨X, h2.base hb, h3⟩, h4.base hb⟩
theorem TtOwn.tt {w : World} {B : Nat} {t : Tt} {A1 A2 A3 : Option Addr} {c2 : Nat} (h : TtOwn w B t A1 A2 A3 c2) : ∃ rV rcV, TtIn w w.heap.size t A1 A2 A3 rV rcV := by
  obtain ⟨h1, ⟨X, h2, h3⟩, h4⟩ := h
  obtain ⟨A, c, rA, rc, e, hl⟩ := IOwn.lis h2 h3
  injection e with e1 _ e2
  subst e1 e2
  exact ⟨rA, rc, h1.sl, hl.out, hl.row, h4.sl⟩
structure PkV (s : Ws) (B : Nat) (w' : World) (e : Ending) : Prop where
  out : ∃ t : Tt, ∃ A1 A2 A3 c1 c2 c3, e = .returned (.agg #[.slice A1 t.fs.length c1, .slice A2 t.vs.length c2, .slice A3 t.gs.length c3]) ∧ truT s t = true ∧ TtOwn w' B t A1 A2 A3 c2
set_option maxRecDepth 100000 in
set_option maxHeartbeats 6400000 in
theorem Picked_any (s : Ws) (Ar Am Aw : Option Addr) (cr cm cw : Nat) (w : World) (hs : WsIn w w.heap.size s Ar Am Aw) (hw : WoOk s.wo) (hd : s.days = (s.wo.days : Int)) (AW : Option Addr) (cW : Nat) (ws : List Int) (hwd : SlAt w w.heap.size 1 AW ws.length (fU ws)) (hwb : ∀ k, k < ws.length → 0 ≤ gI ws k ∧ gI ws k ≤ 65535) (hwl : ws.length ≤ maxLen) :
    Calls Try.prog 77 #[.agg #[.slice Ar s.rooms.length cr, .int .i64 s.days, .slice Am s.moves.length cm, .slice Aw s.wgs.length cw], .slice AW ws.length cW] w fun e w' => PkV s w.heap.size w' e ∧ Below w.heap.size w w' := by
  obtain ⟨i1, hi1, hy0, hy1, hy2⟩ := info_parts ints_info2
  obtain ⟨i0, hi0, hz0, hz1, hz2⟩ := info_parts int_info
  have HI := Lib.hid hi0
  have HJ := Lib.hid hi1
  clear hi0 hi1
  obtain ⟨D, hD⟩ : ∃ D, s.wo.days = D := ⟨_, rfl⟩
  have hD6 : 1 ≤ D ∧ D ≤ 6 := by have := hw.days; omega
  have hr3 : 0 < s.rooms.length ∧ s.rooms.length ≤ 3 := ⟨hw.len.1, hw.len.2.1⟩
  have hm12 : s.moves.length ≤ 12 := hw.len.2.2.1
  have HD := Lib.hid hD
  have HSD : Hid (s.days = (D : Int)) := Lib.hid (by rw [hd, hD])
  clear hD hd
  have HRM : Hid (∀ r, r < s.rooms.length → 0 ≤ (gRm s.rooms r).fst.lo ∧ (gRm s.rooms r).fst.lo ≤ (gRm s.rooms r).fst.hi ∧ (gRm s.rooms r).fst.hi ≤ 2000 ∧ 0 ≤ (gRm s.rooms r).vap.lo ∧ (gRm s.rooms r).vap.lo ≤ (gRm s.rooms r).vap.hi ∧ (gRm s.rooms r).vap.hi ≤ 50) := Lib.hid hw.rooms
  have HMG : Hid (∀ i, i < s.moves.length → 0 ≤ (gMv s.moves i).g.lo ∧ (gMv s.moves i).g.lo ≤ (gMv s.moves i).g.hi ∧ (gMv s.moves i).g.hi ≤ 2000) := Lib.hid hw.grams
  clear hw
  have HWB := Lib.hid hwb
  clear hwb
  have hb1 := ex_alloc (ex_alloc (ex_alloc (Below.refl w.heap.size w) (.cells #[.slice Ar s.rooms.length cr, .int .i64 s.days, .slice Am s.moves.length cm, .slice Aw s.wgs.length cw] 26)) (.cells #[.slice none 0 0, .slice none 0 0, .slice none 0 0] 31)) (.cells #[.slice none 0 0, .slice none 0 0, .slice none 0 0] 31)
  have q0 : Blk (((w.alloc (.cells #[.slice Ar s.rooms.length cr, .int .i64 s.days, .slice Am s.moves.length cm, .slice Aw s.wgs.length cw] 26)).alloc (.cells #[.slice none 0 0, .slice none 0 0, .slice none 0 0] 31)).alloc (.cells #[.slice none 0 0, .slice none 0 0, .slice none 0 0] 31)) w.heap.size 26 #[.slice Ar s.rooms.length cr, .int .i64 s.days, .slice Am s.moves.length cm, .slice Aw s.wgs.length cw] := ((Blk.new _ _ _).alloc _).alloc _
  have q1 : Blk (((w.alloc (.cells #[.slice Ar s.rooms.length cr, .int .i64 s.days, .slice Am s.moves.length cm, .slice Aw s.wgs.length cw] 26)).alloc (.cells #[.slice none 0 0, .slice none 0 0, .slice none 0 0] 31)).alloc (.cells #[.slice none 0 0, .slice none 0 0, .slice none 0 0] 31)) (w.heap.size + 1) 31 #[.slice none 0 0, .slice none 0 0, .slice none 0 0] := (Blk.new' _ _ _ (by simp)).alloc _
  have q2 : Blk (((w.alloc (.cells #[.slice Ar s.rooms.length cr, .int .i64 s.days, .slice Am s.moves.length cm, .slice Aw s.wgs.length cw] 26)).alloc (.cells #[.slice none 0 0, .slice none 0 0, .slice none 0 0] 31)).alloc (.cells #[.slice none 0 0, .slice none 0 0, .slice none 0 0] 31)) (w.heap.size + 1 + 1) 31 #[.slice none 0 0, .slice none 0 0, .slice none 0 0] := Blk.new' _ _ _ (by simp)
  go_enter Try.func77, Try.ntmps77
  go_upto_region 2 with fail
  show Code.wp _ _ _ _ (((w.alloc (.cells #[.slice Ar s.rooms.length cr, .int .i64 s.days, .slice Am s.moves.length cm, .slice Aw s.wgs.length cw] 26)).alloc (.cells #[.slice none 0 0, .slice none 0 0, .slice none 0 0] 31)).alloc (.cells #[.slice none 0 0, .slice none 0 0, .slice none 0 0] 31))
  obtain ⟨p0, hp0⟩ : ∃ p, w.heap.size = p := ⟨_, rfl⟩
  have hwp : w.heap.size ≤ p0 := by omega
  rw [hp0] at q0 q1 q2 ⊢
  have HP0 := Lib.hid hp0
  generalize ((w.alloc (.cells #[.slice Ar s.rooms.length cr, .int .i64 s.days, .slice Am s.moves.length cm, .slice Aw s.wgs.length cw] 26)).alloc (.cells #[.slice none 0 0, .slice none 0 0, .slice none 0 0] 31)).alloc (.cells #[.slice none 0 0, .slice none 0 0, .slice none 0 0] 31) = W1 at *
  clear hp0
  obtain ⟨B0, hB0⟩ : ∃ b, W1.heap.size = b := ⟨_, rfl⟩
  have hbs : p0 + 1 + 1 < B0 := by have := q2.lt; omega
  have hwB : w.heap.size ≤ B0 := by omega
  have P0 : PkA s #[.slice Ar s.rooms.length cr, .int .i64 s.days, .slice Am s.moves.length cm, .slice Aw s.wgs.length cw] w p0 B0 (.slice none 0 0) [] (.slice none 0 0) [] W1 := ⟨hb1, by omega, q0, q1, q2, ⟨rfl, .inl ⟨rfl, rfl⟩⟩, NOwn.nil, fun x hx => by cases hx⟩
  clear hb1 q0 q1 q2 hB0
  have HPT : Hid (PickTo s [] [] 0) := Lib.hid ⟨rfl, rfl, fun j hj => by omega⟩
  go_wp2_with fail
  refine wp_loop (fun a W => Rel (fun a W => ∃ k : Nat, k ≤ s.rooms.length ∧ ∃ v1 l1 v2 X, PkA s #[.slice Ar s.rooms.length cr, .int .i64 s.days, .slice Am s.moves.length cm, .slice Aw s.wgs.length cw] w p0 B0 v1 l1 v2 X W ∧ Hid (PickTo s l1 (X.map (fun x => x.2.2)) k) ∧ ∃ u : Nat → Value, a = ⟨List.toArray (u 0 :: .slice AW ws.length cW :: .pointer (some ⟨p0, 0, none⟩) :: u 3 :: .pointer (some ⟨p0 + 1, 0, none⟩) :: .pointer (some ⟨p0 + 1 + 1, 0, none⟩) :: .int .i64 (k : Int) :: u 7 :: u 8 :: u 9 :: u 10 :: u 11 :: u 12 :: u 13 :: u 14 :: u 15 :: u 16 :: u 17 :: u 18 :: u 19 :: u 20 :: u 21 :: u 22 :: u 23 :: u 24 :: u 25 :: u 26 :: u 27 :: u 28 :: u 29 :: u 30 :: u 31 :: u 32 :: u 33 :: u 34 :: u 35 :: u 36 :: u 37 :: u 38 :: u 39 :: u 40 :: u 41 :: u 42 :: u 43 :: u 44 :: u 45 :: u 46 :: u 47 :: u 48 :: u 49 :: u 50 :: u 51 :: u 52 :: u 53 :: u 54 :: u 55 :: u 56 :: u 57 :: u 58 :: u 59 :: u 60 :: u 61 :: u 62 :: u 63 :: u 64 :: u 65 :: u 66 :: u 67 :: u 68 :: u 69 :: u 70 :: u 71 :: u 72 :: u 73 :: u 74 :: u 75 :: u 76 :: u 77 :: u 78 :: u 79 :: u 80 :: u 81 :: u 82 :: u 83 :: u 84 :: []), []⟩) a W) (fun a _ => s.rooms.length - (intOf (a.tmps.getD 6 undef)).toNat) ⟨⟨0, by omega, _, _, _, _, P0, HPT, exFrame (by kernel_rfl)⟩⟩ ?_
  clear P0 HPT W1
  rintro a W ⟨⟨k, hk, v1, l1, v2, X, P0, HPT, u, rfl⟩⟩
  have a0 : W.cell? ⟨p0, 0, none⟩ = some (.slice Ar s.rooms.length cr) := P0.q0.cell 0
  have a1 : W.cell? ⟨p0, 1, none⟩ = some (.int .i64 s.days) := P0.q0.cell 1
  have a2 : W.cell? ⟨p0, 2, none⟩ = some (.slice Am s.moves.length cm) := P0.q0.cell 2
  have a3 : W.cell? ⟨p0, 3, none⟩ = some (.slice Aw s.wgs.length cw) := P0.q0.cell 3
  have l0 := P0.q0.lt
  have c0 : W.cell? ⟨p0 + 1 + 1, 0, none⟩ = some v1 := P0.q2.cell 0
  have l2 := P0.q2.lt
  by_cases hlt : k < s.rooms.length
  · have hkn : (k : Int) < (s.rooms.length : Int) := by omega
    obtain ⟨br, orr, hAr, hbr, r0, r1, r2, r3⟩ := IsRms.at_ (hs.rooms.below P0.bw) hlt
    have lbr : br < W.heap.size := by have := P0.bw.size; omega
    have hrm := HRM.out k hlt
    have HL1 : Hid (l1.length = k) := Lib.hid HPT.out.n1
    rw [hAr] at a0
    obtain ⟨e0, he0⟩ : ∃ x, (gRm s.rooms k).fst.lo = x := ⟨_, rfl⟩
    rw [he0] at r0 hrm
    obtain ⟨e1, he1⟩ : ∃ x, (gRm s.rooms k).fst.hi = x := ⟨_, rfl⟩
    rw [he1] at r1 hrm
    obtain ⟨e2, he2⟩ : ∃ x, (gRm s.rooms k).vap.lo = x := ⟨_, rfl⟩
    rw [he2] at r2 hrm
    obtain ⟨e3, he3⟩ : ∃ x, (gRm s.rooms k).vap.hi = x := ⟨_, rfl⟩
    rw [he3] at r3 hrm
    have HE := Lib.hid (And.intro he0 (And.intro he1 (And.intro he2 he3)))
    clear he0 he1 he2 he3
    obtain ⟨row, hrow⟩ : ∃ row, v1.ownBlock = row := ⟨_, rfl⟩
    have hge := fun (j : Nat) (hj : v1.ownBlock = some j) => own_ge P0.o1 hj
    have hn0 : ¬ some (p0) = row := fun e => by have := hge _ (hrow.trans e.symm); omega
    have hn1 : ¬ some (p0 + 1) = row := fun e => by have := hge _ (hrow.trans e.symm); omega
    have hn2 : ¬ some (p0 + 1 + 1) = row := fun e => by have := hge _ (hrow.trans e.symm); omega
    have hnr : ¬ some br = row := fun e => by have := hge _ (hrow.trans e.symm); omega
    have hown := P0.o1
    skip
    have HROW := Lib.hid hrow
    clear hrow hge
    have HP := Lib.hid P0
    go_upto_region 5 with fail
    refine wp_region_gx_mix row 15 [(false, 0), (false, 1), (false, 2), (false, 3), (false, 4), (false, 5), (false, 6), (false, 7), (false, 8), (false, 9), (true, 10), (true, 11), (true, 12), (true, 13), (false, 14)] (by kernel_rfl) (by kernel_rfl) (by intro d _ _ _ _ h; cases d <;> exact h) ?_
    repeat (refine mix_quiet rfl ?_; go_big_quiet_step (fail); refine wpQuiet_nil ?_)
    have hX0 := (Below.refl W.heap.size W).drew
    refine mix_loud rfl ?_
    go_wp2_with fail
    refine (word_any AW cW ws (k : Int) W.drew ((hwd.below (ex_trans P0.bw hX0)).up (ex_trans P0.bw hX0).size) HWB.out (by omega) (by omega) hwl).mono ?_
    rintro e x1 ⟨⟨n, rfl, hn0', hn65⟩, hx1⟩
    have hX_x1 := ex_trans hX0 hx1
    go_wp2_with fail
    refine ⟨inGx (grown_row hX_x1), ?_⟩
    repeat (refine mix_quiet rfl ?_; go_big_quiet_step (fail); refine wpQuiet_nil ?_)
    refine mix_loud rfl ?_
    go_wp2_with fail
    refine (picked_any e0 e1 n x1 hn0' hn65 (by omega) (by omega) (by omega)).mono ?_
    rintro e x2 ⟨⟨y, rfl, hy1', hy2'⟩, hx2⟩
    have hX_x2 := ex_trans hX_x1 hx2
    go_wp2_with fail
    refine ⟨inGx (grown_row hX_x2), ?_⟩
    repeat (refine mix_quiet rfl ?_; go_big_quiet_step (fail); refine wpQuiet_nil ?_)
    refine mix_loud rfl ?_
    go_wp2_with fail
    have hX3 := ex_alloc hX_x2 (.cells #[.int .i64 y] 3)
    refine ⟨inGx (grown_row hX3), ?_⟩
    repeat (refine mix_quiet rfl ?_; go_big_quiet_step (fail); refine wpQuiet_nil ?_)
    have y4 := own_below hown hX3
    have c63 : l1.length + 1 ≤ maxLen := by rw [HL1.out]; unfold maxLen; omega
    have cby : (l1.length + 1) * 8 ≤ 140737488355328 := by rw [HL1.out]; omega
    have hbase : B0 ≤ (x2.alloc (.cells #[.int .i64 y] 3)).heap.size := by have := hX3.size; have := HP.out.sz; omega
    refine mix_loud rfl ?_
    go_wp2_with (at_builtin; refine wpList_append_lies _ rfl _ _ _ rfl (B0) 3 i0 _ 1 8 Try.underlying28 HI.out hz0 hz1 hz2 rfl (by omega) v1 _ _ rfl y4 ⟨x2.heap.size, 0, none⟩ 1 1 [.int .i64 y] rfl rfl (World.news_of_block (heap_alloc_new x2 _)) (by simp [Value.oneCell']) (by omega) c63 cby hbase (x2.heap.size + 1) (by simp) ?_; intro gg cap w1 hown' hgrow hat hlt')
    rw [HROW.out] at hgrow
    have hgB := (grown_row (r := row) hX3).andThen hgrow (fun j hj => .inr hj)
    refine ⟨inGx hgB, ?_⟩
    repeat (refine mix_quiet rfl ?_; go_big_quiet_step (fail); refine wpQuiet_nil ?_)
    refine mix_nil rfl ?_
    have hat' : v1.ownBlock = some gg ∨ W.heap.size ≤ gg := hat.imp id (fun e => by have := hX_x2.size; omega)
    rw [← HROW.out] at hgB
    have P1 := HP.out.fst hbs hwp hgB hown' hat'
    have qc := HP.out.q2.grown hgB (by rw [HROW.out]; exact hn2)
    have f0 : w1.cell? ⟨p0 + 1 + 1, 0, none⟩ = some v1 := qc.cell 0
    have ff := qc.frozen0
    have lq := qc.lt
    clear hown' hgB hgrow y4 hX3 hX_x2 hX_x1 hX0 hx1 hx2 hat hat' hlt' a0 a1 a2 a3 l0 c0 l2 r0 r1 r2 r3 hn0 hn1 hn2 hnr hown P0 HP qc
    go_upto_region 7 with fail
    generalize w1.setCell ⟨p0 + 1 + 1, 0, none⟩ (.slice (some ⟨gg, 0, none⟩) (l1.length + 1) cap) = V at *
    generalize Value.slice (some ⟨gg, 0, none⟩) (l1.length + 1) cap = v3 at *
    clear f0 ff lq hbase c63 cby
    obtain ⟨Bk, hBk⟩ : ∃ b, V.heap.size = b := ⟨_, rfl⟩
    have HBK := Lib.hid hBk
    have HY : Hid (e0 ≤ y ∧ y ≤ e1) := Lib.hid ⟨hy1', hy2'⟩
    have hszV := P1.sz
    have hv3 : Hid (∀ b, v3.ownBlock = some b → b < Bk) := Lib.hid (fun b hb => by have := (own_lt P1.o1 hb).2; omega)
    rw [hBk] at hszV
    clear hBk hy1' hy2' hn0' hn65
    go_wp2_with fail
    refine wp_loop (fun a W => Rel (fun a W => ∃ j : Nat, j ≤ D ∧ Below V.heap.size V W ∧ (∃ vl l, W.ownsRow Bk 3 1 vl l.length (l.flatMap cI1) ∧ Hid (l.length = j ∧ ∀ d, d < j → inR (gI l d) ⟨e2, e3⟩) ∧ ∃ u : Nat → Value, a = ⟨List.toArray (u 0 :: .slice AW ws.length cW :: .pointer (some ⟨p0, 0, none⟩) :: u 3 :: .pointer (some ⟨p0 + 1, 0, none⟩) :: .pointer (some ⟨p0 + 1 + 1, 0, none⟩) :: .int .i64 (k : Int) :: vl :: .int .i64 (j : Int) :: u 9 :: u 10 :: u 11 :: u 12 :: u 13 :: u 14 :: u 15 :: u 16 :: u 17 :: u 18 :: u 19 :: u 20 :: u 21 :: u 22 :: u 23 :: u 24 :: u 25 :: u 26 :: u 27 :: u 28 :: u 29 :: u 30 :: u 31 :: u 32 :: u 33 :: u 34 :: u 35 :: u 36 :: u 37 :: u 38 :: u 39 :: u 40 :: u 41 :: u 42 :: u 43 :: u 44 :: u 45 :: u 46 :: u 47 :: u 48 :: u 49 :: u 50 :: u 51 :: u 52 :: u 53 :: u 54 :: u 55 :: u 56 :: u 57 :: u 58 :: u 59 :: u 60 :: u 61 :: u 62 :: u 63 :: u 64 :: u 65 :: u 66 :: u 67 :: u 68 :: u 69 :: u 70 :: u 71 :: u 72 :: u 73 :: u 74 :: u 75 :: u 76 :: u 77 :: u 78 :: u 79 :: u 80 :: u 81 :: u 82 :: u 83 :: u 84 :: []), []⟩)) a W) (fun a _ => D - (intOf (a.tmps.getD 8 undef)).toNat) ⟨⟨0, by omega, Below.refl _ _, _, [], ⟨rfl, .inl ⟨rfl, rfl⟩⟩, Lib.hid ⟨rfl, fun d hd => by omega⟩, exFrame (by kernel_rfl)⟩⟩ ?_
    rintro a W ⟨⟨j, hj, hfk, vl, l, ho, HL, u2, rfl⟩⟩
    have P2 := P1.below hfk
    have a0 : W.cell? ⟨p0, 0, none⟩ = some (.slice Ar s.rooms.length cr) := P2.q0.cell 0
    have a1 : W.cell? ⟨p0, 1, none⟩ = some (.int .i64 s.days) := P2.q0.cell 1
    have a2 : W.cell? ⟨p0, 2, none⟩ = some (.slice Am s.moves.length cm) := P2.q0.cell 2
    have a3 : W.cell? ⟨p0, 3, none⟩ = some (.slice Aw s.wgs.length cw) := P2.q0.cell 3
    have l0 := P2.q0.lt
    rw [HSD.out] at a1
    have HLL : Hid (l.length = j) := Lib.hid HL.out.1
    by_cases hlj : j < D
    · obtain ⟨br, orr, hAr2, hbr, r0, r1, r2, r3⟩ := IsRms.at_ (hs.rooms.below P2.bw) hlt
      rw [hAr2] at a0
      have lbr : br < W.heap.size := by have := P2.bw.size; omega
      rw [HE.out.2.2.1] at r2
      rw [HE.out.2.2.2] at r3
      clear r0 r1
      have hjn : (j : Int) < (D : Int) := by omega
      have m1 : IntKind.i64.wrap (5 * (k : Int)) = 5 * (k : Int) := IntWalk.i64_in _ (by omega)
      have m2 : IntKind.i64.wrap (5 * (k : Int) + (j : Int)) = 5 * (k : Int) + (j : Int) := IntWalk.i64_in _ (by omega)
      have m3 : IntKind.i64.wrap (5 * (k : Int) + (j : Int) + 3) = 5 * (k : Int) + (j : Int) + 3 := IntWalk.i64_in _ (by omega)
      obtain ⟨row, hrow⟩ : ∃ row, vl.ownBlock = row := ⟨_, rfl⟩
      have hge := fun (j : Nat) (hj : vl.ownBlock = some j) => own_ge ho hj
      have hn0 : ¬ some p0 = row := fun e => by have := hge _ (hrow.trans e.symm); omega
      have hnr : ¬ some br = row := fun e => by have := hge _ (hrow.trans e.symm); omega
      have hVb := fun (b : Nat) (hb : row = some b) => hge b (hrow.trans hb)
      have HVB := Lib.hid hVb
      have HROW := Lib.hid hrow
      clear hrow hge hVb
      have HP := Lib.hid P2
      have hsW := hfk.size
      rw [HBK.out] at hsW
      go_upto_region 10 with fail
      refine wp_region_gx_mix row 17 [(false, 0), (false, 1), (false, 2), (false, 3), (false, 4), (false, 5), (false, 6), (false, 7), (false, 8), (false, 9), (false, 10), (false, 11), (false, 12), (true, 13), (true, 14), (true, 15), (true, 16)] (by kernel_rfl) (by kernel_rfl) (by intro d _ _ _ _ h; cases d <;> exact h) ?_
      repeat (refine mix_quiet rfl ?_; go_big_quiet_step (fail); refine wpQuiet_nil ?_)
      have hX0 := (Below.refl W.heap.size W).drew
      refine mix_loud rfl ?_
      go_wp2_with fail
      refine (word_any AW cW ws (5 * (k : Int) + (j : Int) + 3) W.drew ((hwd.below (ex_trans P2.bw hX0)).up (ex_trans P2.bw hX0).size) HWB.out (by omega) (by omega) hwl).mono ?_
      rintro e x1 ⟨⟨n, rfl, hn0', hn65⟩, hx1⟩
      have hX_x1 := ex_trans hX0 hx1
      go_wp2_with fail
      refine ⟨inGx (grown_row hX_x1), ?_⟩
      repeat (refine mix_quiet rfl ?_; go_big_quiet_step (fail); refine wpQuiet_nil ?_)
      refine mix_loud rfl ?_
      go_wp2_with fail
      refine (picked_any e2 e3 n x1 hn0' hn65 (by omega) (by omega) (by omega)).mono ?_
      rintro e x2 ⟨⟨z, rfl, hy1', hy2'⟩, hx2⟩
      have hX_x2 := ex_trans hX_x1 hx2
      go_wp2_with fail
      refine ⟨inGx (grown_row hX_x2), ?_⟩
      repeat (refine mix_quiet rfl ?_; go_big_quiet_step (fail); refine wpQuiet_nil ?_)
      refine mix_loud rfl ?_
      go_wp2_with fail
      have hX3 := ex_alloc hX_x2 (.cells #[.int .i64 z] 3)
      refine ⟨inGx (grown_row hX3), ?_⟩
      repeat (refine mix_quiet rfl ?_; go_big_quiet_step (fail); refine wpQuiet_nil ?_)
      have y4 := own_below ho hX3
      have c63 : l.length + 1 ≤ maxLen := by rw [HLL.out]; unfold maxLen; omega
      have cby : (l.length + 1) * 8 ≤ 140737488355328 := by rw [HLL.out]; omega
      have hbase : Bk ≤ (x2.alloc (.cells #[.int .i64 z] 3)).heap.size := by have := hX3.size; omega
      refine mix_loud rfl ?_
      go_wp2_with (at_builtin; refine wpList_append_lies _ rfl _ _ _ rfl (Bk) 3 i0 _ 1 8 Try.underlying28 HI.out hz0 hz1 hz2 rfl (by omega) vl _ _ rfl y4 ⟨x2.heap.size, 0, none⟩ 1 1 [.int .i64 z] rfl rfl (World.news_of_block (heap_alloc_new x2 _)) (by simp [Value.oneCell']) (by omega) c63 cby hbase (x2.heap.size + 1) (by simp) ?_; intro gg cap w1 hown' hgrow hat hlt')
      rw [HROW.out] at hgrow
      have hgB := (grown_row (r := row) hX3).andThen hgrow (fun j hj => .inr hj)
      refine ⟨inGx hgB, ?_⟩
      repeat (refine mix_quiet rfl ?_; go_big_quiet_step (fail); refine wpQuiet_nil ?_)
      refine mix_nil rfl ?_
      have hfw : Below V.heap.size V w1 := hfk.grown hgB hfk.size (fun b hb => by have := HVB.out b hb; have := HBK.out; omega)
      have HOW := Lib.hid (own_push (f := cI1) (x := z) rfl hown')
      have HL2 : Hid ((l ++ [z]).length = j + 1 ∧ ∀ d, d < j + 1 → inR (gI (l ++ [z]) d) ⟨e2, e3⟩) := Lib.hid ⟨by simp [HLL.out], gI_snoc' (P := fun n _ => inR n ⟨e2, e3⟩) HLL.out HL.out.2 ⟨hy1', hy2'⟩⟩
      clear hown' hgB hgrow y4 hX3 hX_x2 hX_x1 hX0 hx1 hx2 hat hlt' a0 a1 a2 a3 l0 r2 r3 hn0 hnr P2 HP
      go_wp2_with fail
      refine ⟨⟨⟨j + 1, by omega, hfw, _, _, HOW.out, HL2, exFrame (by kernel_rfl)⟩⟩, ?_⟩
      show D - (intOf (.int .i64 ((j : Int) + 1))).toNat < D - (intOf (.int .i64 (j : Int))).toNat
      simp [intOf]
      omega
    · obtain rfl : j = D := by omega
      obtain ⟨A5, c5, rfl, _, _, hr5⟩ := lay_ints ho
      rw [HLL.out]
      have hXl : Hid (X.length = k) := Lib.hid (by have := HPT.out.n2; simpa using this)
      have g1 : W.cell? ⟨p0 + 1 + 1, 1, none⟩ = some v2 := P2.q2.cell 1
      have l2 := P2.q2.lt
      have ff2 := P2.q2.frozen0
      have XL := ex_alloc (Below.refl W.heap.size W) (.cells #[.slice A5 j c5] 28)
      have P3 := P2.below XL
      have y4 := P3.o2.own
      have c63 : X.length + 1 ≤ maxLen := by rw [hXl.out]; unfold maxLen; omega
      have cby : (X.length + 1) * 24 ≤ 140737488355328 := by rw [hXl.out]; omega
      have hbase : B0 ≤ (W.alloc (.cells #[.slice A5 j c5] 28)).heap.size := P3.sz
      go_upto_region 11 with fail
      go_wp2_with (refine pause_at 59 rfl ?_)
      refine Paused.mk ?_
      refine wpList_append_lies _ rfl _ _ _ rfl B0 28 i1 _ 1 24 Try.underlying29 HJ.out hy0 hy1 hy2 rfl (by omega) v2 _ _ rfl y4 ⟨W.heap.size, 0, none⟩ 1 1 [.slice A5 j c5] rfl rfl (World.news_of_block (heap_alloc_new W _)) (by simp [Value.oneCell']) (by omega) c63 cby hbase (W.heap.size + 1) (by simp) ?_
      intro gg cap w1 hown' hgrow hat hlt'
      have hown2 : w1.ownsRow B0 28 1 (.slice (some ⟨gg, 0, none⟩) (X.length + 1) cap) (X.length + 1) (X.flatMap cIR ++ cIR ((A5, c5, l) : IRow)) := by rw [show cIR ((A5, c5, l) : IRow) = [.slice A5 j c5] by unfold cIR; dsimp only; rw [HLL.out]]; exact hown'
      have P4 := P3.vap hbs hwp hgrow hown2 (x := ((A5, c5, l) : IRow)) (hr5.below XL) (by omega) hv3.out
      have qc := P3.q2.grown hgrow (fun e => by have := own_ge y4 e.symm; omega)
      have f1 : w1.cell? ⟨p0 + 1 + 1, 1, none⟩ = some v2 := qc.cell 1
      have ff := qc.frozen0
      have lq := qc.lt
      have HP2 : Hid (PickTo s (l1 ++ [y]) ((X ++ [((A5, c5, l) : IRow)]).map (fun x => x.2.2)) (k + 1)) := Lib.hid (by
        rw [List.map_append, List.map_singleton]
        refine HPT.out.snoc ⟨?_, HLL.out.trans HD.out.symm, fun d hd => ?_⟩
        · have h1 := HE.out; have h2 := HY.out; unfold inR; omega
        · have h1 := HE.out; have h2 := HL.out.2 d (by rw [HD.out] at hd; exact hd); unfold inR at h2; dsimp only at h2; show (gRm s.rooms k).vap.lo ≤ gI l d ∧ gI l d ≤ (gRm s.rooms k).vap.hi; omega)
      clear hown' hown2 hgrow hat hlt' y4 qc P1 P2 P3 a0 a1 a2 a3 l0 g1 l2 ff2 ho hr5 XL hfk
      go_wp2_with fail
      refine ⟨⟨⟨k + 1, by omega, _, _, _, _, P4, HP2, exFrame (by kernel_rfl)⟩⟩, ?_⟩
      show s.rooms.length - (intOf (.int .i64 ((k : Int) + 1))).toNat < s.rooms.length - (intOf (.int .i64 (k : Int))).toNat
      simp [intOf]
      omega
  · have HK : Hid (k = s.rooms.length) := Lib.hid (by omega)
    have HP := Lib.hid P0
    obtain ⟨B3, hB3⟩ : ∃ b, W.heap.size = b := ⟨_, rfl⟩
    have HB3 := Lib.hid hB3
    have hB03 := P0.sz
    rw [hB3] at hB03
    clear hB3
    have hb3 := P0.bw
    have q2 := P0.q2
    clear P0
    go_wp2_with fail
    refine wp_loop (fun a V => Rel (fun a V => ∃ i : Nat, i ≤ s.moves.length ∧ Fr (fun b => b = p0 + 1 + 1) W V ∧ (∃ v l, Blk V (p0 + 1 + 1) 31 #[v1, v2, v] ∧ V.ownsRow B3 3 1 v l.length (l.flatMap cI1) ∧ Hid (l.length = i ∧ ∀ j, j < i → inR (gI l j) (gMv s.moves j).g) ∧ ∃ u : Nat → Value, a = ⟨List.toArray (u 0 :: .slice AW ws.length cW :: .pointer (some ⟨p0, 0, none⟩) :: u 3 :: .pointer (some ⟨p0 + 1, 0, none⟩) :: .pointer (some ⟨p0 + 1 + 1, 0, none⟩) :: u 6 :: u 7 :: u 8 :: .int .i64 (i : Int) :: u 10 :: u 11 :: u 12 :: u 13 :: u 14 :: u 15 :: u 16 :: u 17 :: u 18 :: u 19 :: u 20 :: u 21 :: u 22 :: u 23 :: u 24 :: u 25 :: u 26 :: u 27 :: u 28 :: u 29 :: u 30 :: u 31 :: u 32 :: u 33 :: u 34 :: u 35 :: u 36 :: u 37 :: u 38 :: u 39 :: u 40 :: u 41 :: u 42 :: u 43 :: u 44 :: u 45 :: u 46 :: u 47 :: u 48 :: u 49 :: u 50 :: u 51 :: u 52 :: u 53 :: u 54 :: u 55 :: u 56 :: u 57 :: u 58 :: u 59 :: u 60 :: u 61 :: u 62 :: u 63 :: u 64 :: u 65 :: u 66 :: u 67 :: u 68 :: u 69 :: u 70 :: u 71 :: u 72 :: u 73 :: u 74 :: u 75 :: u 76 :: u 77 :: u 78 :: u 79 :: u 80 :: u 81 :: u 82 :: u 83 :: u 84 :: []), []⟩)) a V) (fun a _ => s.moves.length - (intOf (a.tmps.getD 9 undef)).toNat) ⟨⟨0, by omega, Fr.refl _ _, _, [], q2, ⟨rfl, .inl ⟨rfl, rfl⟩⟩, Lib.hid ⟨rfl, fun j hj => by omega⟩, exFrame (by kernel_rfl)⟩⟩ ?_
    clear q2 a0 a1 a2 a3 l0 c0 l2
    rintro a V ⟨⟨i, hi, hF, v, l, q2, ho, HL, u2, rfl⟩⟩
    have bw := hF.toBelow HP.out.bw HP.out.bw.size (fun x hx => by omega)
    have q0 := HP.out.q0.fr hF (by omega)
    have hzV := hF.size
    rw [HB3.out] at hzV
    have a0 : V.cell? ⟨p0, 0, none⟩ = some (.slice Ar s.rooms.length cr) := q0.cell 0
    have a1 : V.cell? ⟨p0, 1, none⟩ = some (.int .i64 s.days) := q0.cell 1
    have a2 : V.cell? ⟨p0, 2, none⟩ = some (.slice Am s.moves.length cm) := q0.cell 2
    have a3 : V.cell? ⟨p0, 3, none⟩ = some (.slice Aw s.wgs.length cw) := q0.cell 3
    have l0 := q0.lt
    have HLL : Hid (l.length = i) := Lib.hid HL.out.1
    have d2 : V.cell? ⟨p0 + 1 + 1, 2, none⟩ = some v := q2.cell 2
    have l2 := q2.lt
    by_cases hli : i < s.moves.length
    · have hin : (i : Int) < (s.moves.length : Int) := by omega
      obtain ⟨br, orr, hAm, hbr, r0, r1, r2, r3, r4⟩ := IsMvs.at_ (hs.moves.below bw) hli
      rw [hAm] at a2
      have lbr : br < V.heap.size := by have := bw.size; omega
      have hmg := HMG.out i hli
      obtain ⟨e3, he3⟩ : ∃ x, (gMv s.moves i).g.lo = x := ⟨_, rfl⟩
      rw [he3] at r3 hmg
      obtain ⟨e4, he4⟩ : ∃ x, (gMv s.moves i).g.hi = x := ⟨_, rfl⟩
      rw [he4] at r4 hmg
      have HE := Lib.hid (And.intro he3 he4)
      clear he3 he4 r0 r1 r2
      have m1 : IntKind.i64.wrap ((i : Int) + 7) = (i : Int) + 7 := IntWalk.i64_in _ (by omega)
      obtain ⟨row, hrow⟩ : ∃ row, v.ownBlock = row := ⟨_, rfl⟩
      have hge := fun (j : Nat) (hj : v.ownBlock = some j) => own_ge ho hj
      have hn0 : ¬ some (p0) = row := fun e => by have := hge _ (hrow.trans e.symm); omega
      have hn1 : ¬ some (p0 + 1) = row := fun e => by have := hge _ (hrow.trans e.symm); omega
      have hn2 : ¬ some (p0 + 1 + 1) = row := fun e => by have := hge _ (hrow.trans e.symm); omega
      have hnr : ¬ some br = row := fun e => by have := hge _ (hrow.trans e.symm); omega
      have hVb := fun (b : Nat) (hb : row = some b) => hge b (hrow.trans hb)
      have HVB := Lib.hid hVb
      have HROW := Lib.hid hrow
      clear hrow hge hVb
      go_upto_region 15 with fail
      refine wp_region_gx_mix row 16 [(false, 0), (false, 1), (false, 2), (false, 3), (false, 4), (false, 5), (false, 6), (false, 7), (false, 8), (false, 9), (false, 10), (true, 11), (true, 12), (true, 13), (true, 14), (false, 15)] (by kernel_rfl) (by kernel_rfl) (by intro d _ _ _ _ h; cases d <;> exact h) ?_
      repeat (refine mix_quiet rfl ?_; go_big_quiet_step (fail); refine wpQuiet_nil ?_)
      have hX0 := (Below.refl V.heap.size V).drew
      refine mix_loud rfl ?_
      go_wp2_with fail
      refine (word_any AW cW ws ((i : Int) + 7) V.drew ((hwd.below (ex_trans bw hX0)).up (ex_trans bw hX0).size) HWB.out (by omega) (by omega) hwl).mono ?_
      rintro e x1 ⟨⟨n, rfl, hn0', hn65⟩, hx1⟩
      have hX_x1 := ex_trans hX0 hx1
      go_wp2_with fail
      refine ⟨inGx (grown_row hX_x1), ?_⟩
      repeat (refine mix_quiet rfl ?_; go_big_quiet_step (fail); refine wpQuiet_nil ?_)
      refine mix_loud rfl ?_
      go_wp2_with fail
      refine (picked_any e3 e4 n x1 hn0' hn65 (by omega) (by omega) (by omega)).mono ?_
      rintro e x2 ⟨⟨z, rfl, hy1', hy2'⟩, hx2⟩
      have hX_x2 := ex_trans hX_x1 hx2
      go_wp2_with fail
      refine ⟨inGx (grown_row hX_x2), ?_⟩
      repeat (refine mix_quiet rfl ?_; go_big_quiet_step (fail); refine wpQuiet_nil ?_)
      refine mix_loud rfl ?_
      go_wp2_with fail
      have hX3 := ex_alloc hX_x2 (.cells #[.int .i64 z] 3)
      refine ⟨inGx (grown_row hX3), ?_⟩
      repeat (refine mix_quiet rfl ?_; go_big_quiet_step (fail); refine wpQuiet_nil ?_)
      have y4 := own_below ho hX3
      have c63 : l.length + 1 ≤ maxLen := by rw [HLL.out]; unfold maxLen; omega
      have cby : (l.length + 1) * 8 ≤ 140737488355328 := by rw [HLL.out]; omega
      have hbase : B3 ≤ (x2.alloc (.cells #[.int .i64 z] 3)).heap.size := by have := hX3.size; omega
      refine mix_loud rfl ?_
      go_wp2_with (at_builtin; refine wpList_append_lies _ rfl _ _ _ rfl (B3) 3 i0 _ 1 8 Try.underlying28 HI.out hz0 hz1 hz2 rfl (by omega) v _ _ rfl y4 ⟨x2.heap.size, 0, none⟩ 1 1 [.int .i64 z] rfl rfl (World.news_of_block (heap_alloc_new x2 _)) (by simp [Value.oneCell']) (by omega) c63 cby hbase (x2.heap.size + 1) (by simp) ?_; intro gg cap w1 hown' hgrow hat hlt')
      rw [HROW.out] at hgrow
      have hgB := (grown_row (r := row) hX3).andThen hgrow (fun j hj => .inr hj)
      refine ⟨inGx hgB, ?_⟩
      repeat (refine mix_quiet rfl ?_; go_big_quiet_step (fail); refine wpQuiet_nil ?_)
      refine mix_nil rfl ?_
      have hgF := Fr.grown (R := fun b => B3 ≤ b ∨ b = p0 + 1 + 1) hgB (fun b hb => .inl (.inl (HVB.out b hb)))
      have p2 := q2.grown hgB hn2
      have f2 : w1.cell? ⟨p0 + 1 + 1, 2, none⟩ = some v := p2.cell 2
      have ff := p2.frozen0
      have lp2 := p2.lt
      have p2s := p2.set_ 2 (.slice (some ⟨gg, 0, none⟩) (l.length + 1) cap)
      simp only [List.setIfInBounds_toArray, List.set_cons_zero, List.set_cons_succ] at p2s
      have own8 := own_far (own_push (f := cI1) (x := z) rfl hown') (p := ⟨p0 + 1 + 1, 2, none⟩) (by show p0 + 1 + 1 < B3; omega) (.slice (some ⟨gg, 0, none⟩) (l.length + 1) cap)
      have hfr : Fr (fun b => b = p0 + 1 + 1) W (w1.setCell ⟨p0 + 1 + 1, 2, none⟩ (.slice (some ⟨gg, 0, none⟩) (l.length + 1) cap)) := hF.trans (hgF.andSet (b := p0 + 1 + 1) (i := 2) (v := (.slice (some ⟨gg, 0, none⟩) (l.length + 1) cap)) (.inr rfl)) (fun x hx h => by rw [HB3.out] at hx; rcases h with h | h; omega; exact h)
      have HL3 : Hid ((l ++ [z]).length = i + 1 ∧ ∀ j, j < i + 1 → inR (gI (l ++ [z]) j) (gMv s.moves j).g) := Lib.hid ⟨by simp [HLL.out], gI_snoc' (P := fun n j => inR n (gMv s.moves j).g) HLL.out HL.out.2 (by have h := HE.out; unfold inR; omega)⟩
      clear hown' hgB hgrow y4 hX3 hX_x2 hX_x1 hX0 hx1 hx2 hat hlt' a0 a1 a2 a3 l0 d2 l2 r3 r4 hn0 hn1 hn2 hnr ho q0 q2 p2 hgF
      go_wp2_with fail
      refine ⟨⟨⟨i + 1, by omega, hfr, _, _, p2s, own8, HL3, exFrame (by kernel_rfl)⟩⟩, ?_⟩
      show s.moves.length - (intOf (.int .i64 ((i : Int) + 1))).toNat < s.moves.length - (intOf (.int .i64 (i : Int))).toNat
      simp [intOf]
      omega
    · have HI2 : Hid (i = s.moves.length) := Lib.hid (by omega)
      have q1 := HP.out.q1.fr hF (by omega)
      have o1 := own_fr HP.out.o1 hF (fun b hb e => by have := own_ge HP.out.o1 hb; omega)
      have o2 := HP.out.o2.fr hF (fun g hg _ e => by omega)
      obtain ⟨A3, c3, rfl, _, _, ro3⟩ := lay_ints ho
      obtain ⟨A1, c1, rfl, _, _, ro1⟩ := lay_ints o1
      obtain ⟨A2, c2, rA, rc, rfl, hL2⟩ := IOwn.lis o2 rfl
      have T1 : TruP s ⟨l1, X.map (fun x => x.2.2), l⟩ := ⟨HK.out ▸ HPT.out, HLL.out.trans HI2.out, fun i hi => HL.out.2 i (by rw [HI2.out]; exact hi)⟩
      obtain ⟨n1, hn1⟩ : ∃ n, l1.length = n := ⟨_, rfl⟩
      obtain ⟨n2, hn2⟩ : ∃ n, (X.map (fun x => x.2.2)).length = n := ⟨_, rfl⟩
      obtain ⟨n3, hn3⟩ : ∃ n, l.length = n := ⟨_, rfl⟩
      clear d2
      rw [hn1, hn2, hn3] at q2
      have HN := Lib.hid (And.intro hn1 (And.intro hn2 hn3))
      have HTP := Lib.hid T1
      have HR := Lib.hid (And.intro ro1 (And.intro hL2 ro3))
      clear hn1 hn2 hn3 T1 ro1 hL2 ro3 ho o1 o2
      have b0 : V.cell? ⟨p0 + 1 + 1, 0, none⟩ = some (.slice A1 n1 c1) := q2.cell 0
      have b1 : V.cell? ⟨p0 + 1 + 1, 1, none⟩ = some (.slice A2 n2 c2) := q2.cell 1
      have b2 : V.cell? ⟨p0 + 1 + 1, 2, none⟩ = some (.slice A3 n3 c3) := q2.cell 2
      have z0 : V.cell? ⟨p0 + 1, 0, none⟩ = some (.slice none 0 0) := q1.cell 0
      have z1 : V.cell? ⟨p0 + 1, 1, none⟩ = some (.slice none 0 0) := q1.cell 1
      have z2 : V.cell? ⟨p0 + 1, 2, none⟩ = some (.slice none 0 0) := q1.cell 2
      have l1q := q1.lt
      have ff := q1.frozen0
      have qz := ((q1.set_ 0 (.slice A1 n1 c1)).set_ 1 (.slice A2 n2 c2)).set_ 2 (.slice A3 n3 c3)
      simp only [List.setIfInBounds_toArray, List.set_cons_zero, List.set_cons_succ] at qz
      have frz : Fr (fun b => b = p0 + 1) V (((V.setCell ⟨p0 + 1, 0, none⟩ (.slice A1 n1 c1)).setCell ⟨p0 + 1, 1, none⟩ (.slice A2 n2 c2)).setCell ⟨p0 + 1, 2, none⟩ (.slice A3 n3 c3)) := (((Fr.refl (fun b => b = p0 + 1) V).andSet rfl).andSet rfl).andSet rfl
      have Bz := frz.toBelow bw bw.size (fun x hx => by omega)
      skip
      have o2 := (HP.out.o2.fr hF (fun g hg _ e => by omega)).fr frz (fun g hg _ e => by omega)
      have HTT : Hid (TtOwn (((V.setCell ⟨p0 + 1, 0, none⟩ (.slice A1 n1 c1)).setCell ⟨p0 + 1, 1, none⟩ (.slice A2 n2 c2)).setCell ⟨p0 + 1, 2, none⟩ (.slice A3 n3 c3)) w.heap.size ⟨l1, X.map (fun x => x.2.2), l⟩ A1 A2 A3 c2) := Lib.hid ⟨(HR.out.1.fr frz (fun g hg _ e => by omega)).base (by omega), ⟨X, o2.base (by omega), rfl⟩, (HR.out.2.2.fr frz (fun g hg _ e => by omega)).base (by omega)⟩
      clear o2 frz q0 HP hF
      go_wp2
      refine bodyPost_ret (results_cell_row rfl _ _ (p0 + 1) 31 _ (0, 0) _ rfl qz rfl rfl rfl) rfl ?_
      exact ⟨⟨⟨l1, X.map (fun x => x.2.2), l⟩, A1, A2, A3, c1, c2, c3, by rw [← HN.out.1, ← HN.out.2.1, ← HN.out.2.2], HTP.out.tru (by rw [HSD.out, HD.out]), HTT.out⟩, Bz⟩
end Go.Proofs.Ythihdiilokdidaa
end

section
namespace Go.Proofs.Ythihdiilokdidaa

section
variable {x y : Wo} {F : Nat → Int} {V : Nat → Nat → Int} {G : Nat → Int} {out : Nat → Bool}
/-- two works in which the same is moved. -/
structure SameMv (x y : Wo) : Prop where
  nr : y.rooms.length = x.rooms.length
  nm : y.moves.length = x.moves.length
  mv : ∀ i, i < x.moves.length → (gMv y.moves i).day = (gMv x.moves i).day ∧ (gMv y.moves i).src = (gMv x.moves i).src ∧ (gMv y.moves i).dst = (gMv x.moves i).dst
theorem SameMv.comes (h : SameMv x y) (G : Nat → Int) (r d : Int) : ∀ k, k ≤ x.moves.length → comes y G r d k = comes x G r d k := by
  intro k hk
  unfold Proofs.Ythihdiilokdidaa.comes
  refine esum_congr (fun i hi => ?_)
  have hi : i < k := by simpa using hi
  obtain ⟨h1, h2, h3⟩ := h.mv i (by omega)
  rw [h1, h2, h3]
theorem SameMv.stk (h : SameMv x y) (F : Nat → Int) (V : Nat → Nat → Int) (G : Nat → Int) (r : Nat) : ∀ d, stk y F V G r d = stk x F V G r d
  | 0 => by
    show F r + (Proofs.Ythihdiilokdidaa.comes y G r 0 y.moves.length - V r 0) = F r + (Proofs.Ythihdiilokdidaa.comes x G r 0 x.moves.length - V r 0)
    rw [h.nm, h.comes G _ _ _ (Nat.le_refl _)]
  | d + 1 => by
    show Proofs.Ythihdiilokdidaa.stk y F V G r d + (Proofs.Ythihdiilokdidaa.comes y G r ((d : Int) + 1) y.moves.length - V r (d + 1)) = Proofs.Ythihdiilokdidaa.stk x F V G r d + (Proofs.Ythihdiilokdidaa.comes x G r ((d : Int) + 1) x.moves.length - V r (d + 1))
    rw [h.nm, h.comes G _ _ _ (Nat.le_refl _), h.stk F V G r d]
/-- all ranges are as narrow, and the weighings of the first are among those of the second. -/
structure Finer (x y : Wo) : Prop extends SameMv x y where
  days : y.days = x.days
  fst : ∀ r, r < x.rooms.length → ∀ n, inR n (gRm y.rooms r).fst → inR n (gRm x.rooms r).fst
  vap : ∀ r, r < x.rooms.length → ∀ n, inR n (gRm y.rooms r).vap → inR n (gRm x.rooms r).vap
  mov : ∀ i, i < x.moves.length → ∀ n, inR n (gMv y.moves i).g → inR n (gMv x.moves i).g
  nw : x.wgs.length ≤ y.wgs.length
  wg : ∀ i, i < x.wgs.length → (gWg y.wgs i).room = (gWg x.wgs i).room ∧ (gWg y.wgs i).day = (gWg x.wgs i).day ∧ ∀ n, inR n (gWg y.wgs i).g → inR n (gWg x.wgs i).g
theorem Finer.good (h : Finer x y) (hg : GoodF y out F V G) : GoodF x out F V G where
  tru := ⟨fun r hr => h.fst r hr _ (hg.tru.fst r (by rw [h.nr]; exact hr)), fun r d hr hd => h.vap r hr _ (hg.tru.vap r d (by rw [h.nr]; exact hr) (by rw [h.days]; exact hd)), fun i hi => h.mov i hi _ (hg.tru.mov i (by rw [h.nm]; exact hi))⟩
  can := fun r d hr hd => by rw [← h.stk]; exact hg.can r d (by rw [h.nr]; exact hr) (by rw [h.days]; exact hd)
  agr := fun i hi ho => by
    obtain ⟨h1, h2, h3⟩ := h.wg i hi
    have := h3 _ (hg.agr i (by have := h.nw; omega) ho)
    rw [h1, h2, h.stk] at this
    exact this
theorem Finer.stkZ (h : Finer x y) {r d : Nat} {z : Int} (hz : StkZ y out r d z) : StkZ x out r d z := by
  obtain ⟨F, V, G, hg, e⟩ := hz
  exact ⟨F, V, G, h.good hg, by rw [← h.stk]; exact e⟩
theorem Finer.isGood (h : Finer x y) (hg : Good y out) : Good x out := by
  obtain ⟨F, V, G, hg⟩ := hg
  exact ⟨F, V, G, h.good hg⟩
/-- a works with other weighings. -/
def Wo.wg (w : Wo) (l : List Wg) : Wo := ⟨w.rooms, w.days, w.moves, l⟩
theorem SameMv.wgs (w : Wo) (l m : List Wg) : SameMv (w.wg l) (w.wg m) := ⟨rfl, rfl, fun _ _ => ⟨rfl, rfl, rfl⟩⟩
theorem gWg_l {l m : List Wg} {k : Nat} (h : k < l.length) : gWg (l ++ m) k = gWg l k := getD_l _ h
theorem gWg_r (l : List Wg) (x : Wg) : gWg (l ++ [x]) l.length = x := getD_r _ _ _
end

section
variable {x y : Wo}
/-- one day more, on which nothing is moved or weighed. -/
structure Later (x y : Wo) : Prop where
  rooms : y.rooms = x.rooms
  days : y.days = x.days + 1
  moves : y.moves = x.moves
  wgs : y.wgs = x.wgs
theorem Later.same (h : Later x y) : SameMv x y := ⟨by rw [h.rooms], by rw [h.moves], fun i _ => by rw [h.moves]; exact ⟨rfl, rfl, rfl⟩⟩
/-- the same truth, with no vapour on the last day. -/
theorem Later.stkZ (h : Later x y) (hx : WoOk x) (h0 : ∀ r, r < x.rooms.length → (gRm x.rooms r).vap.lo = 0) {r d : Nat} (hd : d < x.days) (hr : r < x.rooms.length) (z : Int) : StkZ y off0 r d z ↔ StkZ x off0 r d z := by
  constructor
  · rintro ⟨F, V, G, hg, e⟩
    refine ⟨F, V, G, ⟨⟨fun r hr => ?_, fun r d hr hd => ?_, fun i hi => ?_⟩, fun r d hr hd => ?_, fun i hi ho => ?_⟩, ?_⟩
    · have := hg.tru.fst r (by rw [h.rooms]; exact hr); rwa [h.rooms] at this
    · have := hg.tru.vap r d (by rw [h.rooms]; exact hr) (by rw [h.days]; omega); rwa [h.rooms] at this
    · have := hg.tru.mov i (by rw [h.moves]; exact hi); rwa [h.moves] at this
    · rw [← h.same.stk]; exact hg.can r d (by rw [h.rooms]; exact hr) (by rw [h.days]; omega)
    · have := hg.agr i (by rw [h.wgs]; exact hi) ho; rwa [h.wgs, h.same.stk] at this
    · rw [← h.same.stk]; exact e
  · rintro ⟨F, V, G, hg, e⟩
    have hV : ∀ r d, d < x.days → stk x F (fun r d => if d < x.days then V r d else 0) G r d = stk x F V G r d := by
      intro r d
      induction d with
      | zero =>
        intro hd
        show F r + (comes x G r 0 x.moves.length - (if 0 < x.days then V r 0 else 0)) = F r + (comes x G r 0 x.moves.length - V r 0)
        rw [if_pos hd]
      | succ d ih =>
        intro hd
        show stk x F (fun r d => if d < x.days then V r d else 0) G r d + (comes x G r ((d : Int) + 1) x.moves.length - (if d + 1 < x.days then V r (d + 1) else 0)) = stk x F V G r d + (comes x G r ((d : Int) + 1) x.moves.length - V r (d + 1))
        rw [if_pos hd, ih (by omega)]
    have hno : ∀ r, comes x G r ((x.days : Nat) : Int) x.moves.length = 0 := fun r => by
      unfold comes
      rw [esum_congr (h := fun _ => 0), esum_zero]
      intro i hi
      have hi : i < x.moves.length := by simpa using hi
      have := (hx.moves.day i hi).2
      rw [if_neg (by omega)]
    have hpos := hx.days.1
    have hlast : ∀ r : Nat, stk x F (fun r d => if d < x.days then V r d else 0) G r x.days = stk x F V G r (x.days - 1) := fun r => by
      obtain ⟨D, hD⟩ : ∃ D, x.days = D + 1 := ⟨x.days - 1, by omega⟩
      have h1 := hno r
      have h2 := hV r D (by omega)
      rw [hD] at h1 h2 ⊢
      show stk x F (fun r d => if d < D + 1 then V r d else 0) G r D + (comes x G r ((D : Int) + 1) x.moves.length - (if D + 1 < D + 1 then V r (D + 1) else 0)) = stk x F V G r D
      rw [if_neg (by omega), h2]
      have : ((D + 1 : Nat) : Int) = (D : Int) + 1 := by omega
      rw [this] at h1
      omega
    refine ⟨F, fun r d => if d < x.days then V r d else 0, G, ⟨⟨fun r hr => ?_, fun r d hr hd => ?_, fun i hi => ?_⟩, fun r d hr hd => ?_, fun i hi ho => ?_⟩, ?_⟩
    · rw [h.rooms] at hr ⊢; exact hg.tru.fst r hr
    · rw [h.rooms] at hr ⊢
      by_cases hlt : d < x.days
      · have := hg.tru.vap r d hr hlt
        show inR (if d < x.days then V r d else 0) _
        rw [if_pos hlt]; exact this
      · have h1 := h0 r hr
        have h2 := hx.rooms r hr
        show inR (if d < x.days then V r d else 0) _
        rw [if_neg hlt]
        exact ⟨by omega, by omega⟩
    · rw [h.moves] at hi ⊢; exact hg.tru.mov i hi
    · rw [h.rooms] at hr
      rw [h.days] at hd
      rw [h.same.stk]
      by_cases hlt : d < x.days
      · rw [hV r d hlt]; exact hg.can r d hr hlt
      · obtain rfl : d = x.days := by omega
        rw [hlast]; exact hg.can r _ hr (by omega)
    · rw [h.wgs] at hi ⊢
      have := hx.wgs i hi
      rw [h.same.stk, hV _ _ (by omega)]
      exact hg.agr i hi ho
    · rw [h.same.stk, hV _ _ hd]; exact e
end

section
variable {w : Wo} {F : Nat → Int} {V : Nat → Nat → Int} {G : Nat → Int}
end
end Go.Proofs.Ythihdiilokdidaa
end

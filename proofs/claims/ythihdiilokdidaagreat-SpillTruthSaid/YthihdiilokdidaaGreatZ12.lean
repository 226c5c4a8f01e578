/- Spill's laws: Works (walk). · Spill's reference: In, span, Fault (walks). · Spill's laws: short, Thin, same (walks). · Spill's laws: readings of arguments: works, truths, books, teams, lists. · Spill's laws: word, picked (walks). -/
import Derived.Test.YthihdiilokdidaaGreatZ11
import Derived.Test.YthihdiilokdidaaGreatZ0
set_option linter.unusedVariables false
set_option linter.unusedSimpArgs false
set_option linter.unusedSectionVars false
section
namespace Go.Proofs.YthihdiilokdidaaGreat
open Go.RowKit
attribute [local go_sem] Ex.cell? Ex.frozen? Gx.cell?

theorem RowAt.set {W : World} {B sz n : Nat} {T T' : TypeId} {A : Option Addr} {f : Nat → Nat → Value} (h : RowAt W B T sz A n f) {b : Nat} {cs : Array Value} (hq : Blk W b T' cs) (ht : T ≠ T') (i : Nat) (u : Value) : RowAt (W.setCell ⟨b, i, none⟩ u) B T sz A n f := by
  rcases h with h3 | ⟨g, cur, e, k1, k2, k3⟩
  · exact .inl h3
  · exact .inr ⟨g, cur, e, k1, k2.fr (Fr.set (R := fun x => x = b) W b i u rfl) (blk_ne k2 hq ht), k3⟩
theorem room_info : (Tryz.prog.info? 92).map (fun i => (i.zero, i.size, i.bytes)) = some (some (.agg #[.int .i64 0, .int .i64 0, .int .i64 0, .int .i64 0]), 4, 32) := by kernel_rfl
theorem move_info : (Tryz.prog.info? 94).map (fun i => (i.zero, i.size, i.bytes)) = some (some (.agg #[.int .i64 0, .int .i64 0, .int .i64 0, .int .i64 0, .int .i64 0]), 5, 40) := by kernel_rfl
theorem wg_info : (Tryz.prog.info? 98).map (fun i => (i.zero, i.size, i.bytes)) = some (some (.agg #[.int .i64 0, .int .i64 0, .int .i64 0, .int .i64 0]), 4, 32) := by kernel_rfl
theorem gRm_at {l : List Rm} {k : Nat} (hk : k < l.length) : gRm l k = l[k] := by simp [gRm, hk]
theorem gMv_at {l : List Mv} {k : Nat} (hk : k < l.length) : gMv l k = l[k] := by simp [gMv, hk]
theorem gWg_at {l : List Wg} {k : Nat} (hk : k < l.length) : gWg l k = l[k] := by simp [gWg, hk]
def cRm (r : Rm) : List Value := [.int .i64 r.fst.lo, .int .i64 r.fst.hi, .int .i64 r.vap.lo, .int .i64 r.vap.hi]
def cMv (m : Mv) : List Value := [.int .i64 m.day, .int .i64 m.src, .int .i64 m.dst, .int .i64 m.g.lo, .int .i64 m.g.hi]
def cWg (x : Wg) : List Value := [.int .i64 x.room, .int .i64 x.day, .int .i64 x.g.lo, .int .i64 x.g.hi]
theorem lay_Rm {W : World} {B : Nat} {v : Value} {l : List Rm} (T : TypeId) (h : W.ownsRow B T 4 v l.length (l.flatMap cRm)) : ∃ A k, v = .slice A l.length k ∧ l.length ≤ k ∧ k ≤ maxLen ∧ RowAt W B T 4 A l.length (fRm l) :=
  own_row (c := cRm) (sz := 4) (fun _ => rfl) (fun k hk j hj => by
    have hg := gRm_at hk
    match j, hj with
    | 0, _ => simp [cRm, fRm, hg]
    | 1, _ => simp [cRm, fRm, hg]
    | 2, _ => simp [cRm, fRm, hg]
    | 3, _ => simp [cRm, fRm, hg]) h
theorem lay_Mv {W : World} {B : Nat} {v : Value} {l : List Mv} (T : TypeId) (h : W.ownsRow B T 5 v l.length (l.flatMap cMv)) : ∃ A k, v = .slice A l.length k ∧ l.length ≤ k ∧ k ≤ maxLen ∧ RowAt W B T 5 A l.length (fMv l) :=
  own_row (c := cMv) (sz := 5) (fun _ => rfl) (fun k hk j hj => by
    have hg := gMv_at hk
    match j, hj with
    | 0, _ => simp [cMv, fMv, hg]
    | 1, _ => simp [cMv, fMv, hg]
    | 2, _ => simp [cMv, fMv, hg]
    | 3, _ => simp [cMv, fMv, hg]
    | 4, _ => simp [cMv, fMv, hg]) h
theorem lay_Wg {W : World} {B : Nat} {v : Value} {l : List Wg} (T : TypeId) (h : W.ownsRow B T 4 v l.length (l.flatMap cWg)) : ∃ A k, v = .slice A l.length k ∧ l.length ≤ k ∧ k ≤ maxLen ∧ RowAt W B T 4 A l.length (fWg l) :=
  own_row (c := cWg) (sz := 4) (fun _ => rfl) (fun k hk j hj => by
    have hg := gWg_at hk
    match j, hj with
    | 0, _ => simp [cWg, fWg, hg]
    | 1, _ => simp [cWg, fWg, hg]
    | 2, _ => simp [cWg, fWg, hg]
    | 3, _ => simp [cWg, fWg, hg]) h
structure WsV (s : Ws) (w' : World) (e : Ending) : Prop where
  out : ∃ Ar Am Aw cr cm cw, e = .returned (.agg #[.slice Ar s.rooms.length cr, .int .i64 s.days, .slice Am s.moves.length cm, .slice Aw s.wgs.length cw]) ∧ WsIn w' w'.heap.size s Ar Am Aw
set_option maxRecDepth 100000 in
set_option maxHeartbeats 12800000 in
theorem Works_any (s : Ws) (Ar Am Aw : Option Addr) (cr cm cw : Nat) (w : World) (hs : WsIn w w.heap.size s Ar Am Aw) (hsm : s.rooms.length ≤ 1000 ∧ s.moves.length ≤ 1000 ∧ s.wgs.length ≤ 1000) :
    Calls Tryz.prog 7 #[.agg #[.slice Ar s.rooms.length cr, .int .i64 s.days, .slice Am s.moves.length cm, .slice Aw s.wgs.length cw]] w fun e w' => WsV s w' e ∧ Below w.heap.size w w' := by
  obtain ⟨i0, hi0, hv0, hv1, hv2⟩ := info_parts room_info
  obtain ⟨i1, hi1, hy0, hy1, hy2⟩ := info_parts move_info
  obtain ⟨i2, hi2, hz0, hz1, hz2⟩ := info_parts wg_info
  have HI0 := Lib.hid hi0
  have HI1 := Lib.hid hi1
  have HI2 := Lib.hid hi2
  clear hi0 hi1 hi2
  obtain ⟨hlr, hlm, hlw⟩ := hsm
  have hb1 := ex_alloc (ex_alloc (ex_alloc (Below.refl w.heap.size w) (.cells #[.slice Ar s.rooms.length cr, .int .i64 s.days, .slice Am s.moves.length cm, .slice Aw s.wgs.length cw] 26)) (.cells #[.slice none 0 0, .int .i64 0, .slice none 0 0, .slice none 0 0] 42)) (.cells #[.slice none 0 0, .int .i64 s.days, .slice none 0 0, .slice none 0 0] 42)
  have q0 : Blk (((w.alloc (.cells #[.slice Ar s.rooms.length cr, .int .i64 s.days, .slice Am s.moves.length cm, .slice Aw s.wgs.length cw] 26)).alloc (.cells #[.slice none 0 0, .int .i64 0, .slice none 0 0, .slice none 0 0] 42)).alloc (.cells #[.slice none 0 0, .int .i64 s.days, .slice none 0 0, .slice none 0 0] 42)) w.heap.size 26 #[.slice Ar s.rooms.length cr, .int .i64 s.days, .slice Am s.moves.length cm, .slice Aw s.wgs.length cw] := ((Blk.new _ _ _).alloc _).alloc _
  have q1 : Blk (((w.alloc (.cells #[.slice Ar s.rooms.length cr, .int .i64 s.days, .slice Am s.moves.length cm, .slice Aw s.wgs.length cw] 26)).alloc (.cells #[.slice none 0 0, .int .i64 0, .slice none 0 0, .slice none 0 0] 42)).alloc (.cells #[.slice none 0 0, .int .i64 s.days, .slice none 0 0, .slice none 0 0] 42)) (w.heap.size + 1) 42 #[.slice none 0 0, .int .i64 0, .slice none 0 0, .slice none 0 0] := (Blk.new' _ _ _ (by simp)).alloc _
  have q2 : Blk (((w.alloc (.cells #[.slice Ar s.rooms.length cr, .int .i64 s.days, .slice Am s.moves.length cm, .slice Aw s.wgs.length cw] 26)).alloc (.cells #[.slice none 0 0, .int .i64 0, .slice none 0 0, .slice none 0 0] 42)).alloc (.cells #[.slice none 0 0, .int .i64 s.days, .slice none 0 0, .slice none 0 0] 42)) (w.heap.size + 1 + 1) 42 #[.slice none 0 0, .int .i64 s.days, .slice none 0 0, .slice none 0 0] := Blk.new' _ _ _ (by simp)
  go_enter Tryz.func7, Tryz.ntmps7
  go_wp2_with fail
  have hVs : w.heap.size + 1 + 1 + 1 ≤ (((w.alloc (.cells #[.slice Ar s.rooms.length cr, .int .i64 s.days, .slice Am s.moves.length cm, .slice Aw s.wgs.length cw] 26)).alloc (.cells #[.slice none 0 0, .int .i64 0, .slice none 0 0, .slice none 0 0] 42)).alloc (.cells #[.slice none 0 0, .int .i64 s.days, .slice none 0 0, .slice none 0 0] 42)).heap.size := by simp
  generalize ((w.alloc (.cells #[.slice Ar s.rooms.length cr, .int .i64 s.days, .slice Am s.moves.length cm, .slice Aw s.wgs.length cw] 26)).alloc (.cells #[.slice none 0 0, .int .i64 0, .slice none 0 0, .slice none 0 0] 42)).alloc (.cells #[.slice none 0 0, .int .i64 s.days, .slice none 0 0, .slice none 0 0] 42) = V at *
  refine wp_loop (fun a W => Rel (fun a W => ∃ k : Nat, k ≤ s.rooms.length ∧ Below w.heap.size w W ∧ w.heap.size + 1 + 1 + 1 ≤ W.heap.size ∧ Blk W w.heap.size 26 #[.slice Ar s.rooms.length cr, .int .i64 s.days, .slice Am s.moves.length cm, .slice Aw s.wgs.length cw] ∧ Blk W (w.heap.size + 1) 42 #[.slice none 0 0, .int .i64 0, .slice none 0 0, .slice none 0 0] ∧ ∃ v, ∃ L : List Rm, Hid (L = s.rooms.take k) ∧ Blk W (w.heap.size + 1 + 1) 42 #[v, .int .i64 s.days, .slice none 0 0, .slice none 0 0] ∧ W.ownsRow (w.heap.size + 1 + 1 + 1) 92 4 v L.length (L.flatMap cRm) ∧ ∃ u : Nat → Value, a = ⟨List.toArray (u 0 :: .pointer (some ⟨w.heap.size, 0, none⟩) :: .pointer (some ⟨w.heap.size + 1, 0, none⟩) :: .pointer (some ⟨w.heap.size + 1 + 1, 0, none⟩) :: .int .i64 (k : Int) :: u 5 :: u 6 :: u 7 :: u 8 :: u 9 :: u 10 :: u 11 :: u 12 :: u 13 :: u 14 :: u 15 :: u 16 :: u 17 :: u 18 :: u 19 :: u 20 :: u 21 :: u 22 :: u 23 :: u 24 :: u 25 :: u 26 :: u 27 :: u 28 :: u 29 :: u 30 :: u 31 :: u 32 :: u 33 :: u 34 :: u 35 :: u 36 :: u 37 :: u 38 :: u 39 :: u 40 :: u 41 :: u 42 :: u 43 :: u 44 :: u 45 :: u 46 :: u 47 :: u 48 :: u 49 :: u 50 :: u 51 :: u 52 :: u 53 :: u 54 :: u 55 :: u 56 :: u 57 :: u 58 :: u 59 :: u 60 :: u 61 :: u 62 :: u 63 :: u 64 :: u 65 :: u 66 :: u 67 :: u 68 :: u 69 :: u 70 :: u 71 :: u 72 :: u 73 :: u 74 :: u 75 :: u 76 :: u 77 :: u 78 :: u 79 :: u 80 :: u 81 :: u 82 :: u 83 :: u 84 :: u 85 :: u 86 :: u 87 :: u 88 :: u 89 :: u 90 :: u 91 :: []), []⟩) a W) (fun a _ => s.rooms.length - (intOf (a.tmps.getD 4 undef)).toNat) ⟨⟨0, by omega, hb1, hVs, q0, q1, .slice none 0 0, [], Lib.hid rfl, q2, ⟨rfl, .inl ⟨rfl, rfl⟩⟩, exFrame (by kernel_rfl)⟩⟩ ?_
  clear hb1 hVs q0 q1 q2  V
  rintro a W ⟨⟨k, hk, hbl, hsz, q0, q1, v, L, HL, q2, hown, u, rfl⟩⟩
  have l0 := q0.lt
  have l1 := q1.lt
  have l2 := q2.lt
  have a0 : W.cell? ⟨w.heap.size, 0, none⟩ = some (.slice Ar s.rooms.length cr) := q0.cell 0
  by_cases hlt : k < s.rooms.length
  · obtain ⟨br, orr, rfl, hbr, r0, r1, r2, r3⟩ := IsRms.at_ (hs.rooms.below hbl) hlt
    have lbr : br < W.heap.size := by omega
    have hlen : L.length = k := by rw [HL.out, List.length_take]; omega
    have hat := (gRm_at hlt).symm
    obtain ⟨e0, he0⟩ : ∃ x, (gRm s.rooms k).fst.lo = x := ⟨_, rfl⟩
    rw [he0] at r0
    obtain ⟨e1, he1⟩ : ∃ x, (gRm s.rooms k).fst.hi = x := ⟨_, rfl⟩
    rw [he1] at r1
    obtain ⟨e2, he2⟩ : ∃ x, (gRm s.rooms k).vap.lo = x := ⟨_, rfl⟩
    rw [he2] at r2
    obtain ⟨e3, he3⟩ : ∃ x, (gRm s.rooms k).vap.hi = x := ⟨_, rfl⟩
    rw [he3] at r3
    have HN : Hid (L ++ [⟨⟨e0, e1⟩, ⟨e2, e3⟩⟩] = s.rooms.take (k + 1)) := Lib.hid (take_push hlt HL.out (by rw [hat, ← he0, ← he1, ← he2, ← he3]))
    have HLEN := Lib.hid hlen
    have hlk : L.length ≤ 1000 := by omega
    have hkn : (k : Int) < (s.rooms.length : Int) := by omega
    clear hat hlen he0 he1 he2 he3
    have hge := fun (j : Nat) (hj : v.ownBlock = some j) => own_ge hown hj
    have hbr2 : br < w.heap.size := hbr
    obtain ⟨row, hrow⟩ : ∃ row, v.ownBlock = row := ⟨_, rfl⟩
    have hn0 : ¬ some (w.heap.size) = row := fun e => by have := hge _ (hrow.trans e.symm); omega
    have hn1 : ¬ some (w.heap.size + 1) = row := fun e => by have := hge _ (hrow.trans e.symm); omega
    have hn2 : ¬ some (w.heap.size + 1 + 1) = row := fun e => by have := hge _ (hrow.trans e.symm); omega
    have hnr : ¬ some br = row := fun e => by have := hge _ (hrow.trans e.symm); omega
    have hrw : ∀ j, row = some j → w.heap.size ≤ j := fun j hj => by have := hge _ (hrow.trans hj); omega
    have e2c : W.cell? ⟨w.heap.size + 1 + 1, 0, none⟩ = some v := q2.cell 0
    have HROW := Lib.hid hrow
    clear hrow hge
    go_wp2_with fail
    refine wp_region_gx_mix row 20 [(false, 0), (false, 1), (false, 2), (false, 3), (false, 4), (false, 5), (false, 6), (false, 7), (false, 9), (false, 10), (false, 11), (false, 12), (false, 13), (false, 14), (true, 8), (true, 15), (false, 16), (true, 17), (true, 18), (false, 19)] (by kernel_rfl) (by kernel_rfl) (by intro d _ _ _ _ h; cases d <;> exact h) ?_
    repeat (refine mix_quiet rfl ?_; go_big_quiet_step (fail); refine wpQuiet_nil ?_)
    have hX0 := (Below.refl W.heap.size W).drew
    refine mix_loud rfl ?_
    go_wp2_with fail
    refine (to_any e0 e1 W.drew).mono ?_
    rintro e x1 ⟨rfl, hx1⟩
    have hX_x1 := ex_trans hX0 hx1
    go_wp2_with fail
    refine ⟨inGx (grown_row hX_x1), ?_⟩
    repeat (refine mix_quiet rfl ?_; go_big_quiet_step (fail); refine wpQuiet_nil ?_)
    refine mix_loud rfl ?_
    go_wp2_with fail
    refine (to_any e2 e3 x1).mono ?_
    rintro e x2 ⟨rfl, hx2⟩
    have hX_x2 := ex_trans hX_x1 hx2
    go_wp2_with fail
    refine ⟨inGx (grown_row hX_x2), ?_⟩
    repeat (refine mix_quiet rfl ?_; go_big_quiet_step (fail); refine wpQuiet_nil ?_)
    refine mix_loud rfl ?_
    go_wp2_with fail
    have hX3 := ex_alloc hX_x2 (.cells #[.int .i64 e0, .int .i64 e1, .int .i64 e2, .int .i64 e3] 92)
    refine ⟨inGx (grown_row hX3), ?_⟩
    repeat (refine mix_quiet rfl ?_; go_big_quiet_step (fail); refine wpQuiet_nil ?_)
    have y4 := own_below hown hX3
    have c63 : L.length + 1 ≤ maxLen := by unfold maxLen; omega
    have cby : (L.length + 1) * 32 ≤ 140737488355328 := by omega
    have hbase : w.heap.size + 1 + 1 + 1 ≤ (x2.alloc (.cells #[.int .i64 e0, .int .i64 e1, .int .i64 e2, .int .i64 e3] 92)).heap.size := by have := hX3.size; omega
    refine mix_loud rfl ?_
    go_wp2_with (at_builtin; refine wpList_append_lies _ rfl _ _ _ rfl (w.heap.size + 1 + 1 + 1) 92 i0 _ 4 32 Tryz.underlying38 HI0.out hv0 hv1 hv2 rfl (by omega) v _ _ rfl y4 ⟨x2.heap.size, 0, none⟩ 1 1 [.int .i64 e0, .int .i64 e1, .int .i64 e2, .int .i64 e3] rfl rfl (World.news_of_block (heap_alloc_new x2 _)) (by simp [Value.oneCell']) (by omega) c63 cby hbase (x2.heap.size + 1) (by simp) ?_; intro gg cap w1 hown' hgrow hat hlt')
    rw [HROW.out] at hgrow
    have hgB := (grown_row (r := row) hX3).andThen hgrow (fun j hj => .inr hj)
    refine ⟨inGx hgB, ?_⟩
    repeat (refine mix_quiet rfl ?_; go_big_quiet_step (fail); refine wpQuiet_nil ?_)
    refine mix_nil rfl ?_
    have B5 := hbl.grown hgB hbl.size hrw
    have p0 := q0.grown hgB hn0
    have p1 := q1.grown hgB hn1
    have p2 := q2.grown hgB hn2
    have f0 : w1.cell? ⟨w.heap.size + 1 + 1, 0, none⟩ = some v := p2.cell 0
    have ff := p2.frozen0
    have lp0 := p0.lt
    have lp1 := p1.lt
    have lp2 := p2.lt
    have hs7 : w.heap.size + 1 + 1 + 1 ≤ w1.heap.size := by have := hgB.size; omega
    have own7 := own_push (f := cRm) (x := (⟨⟨e0, e1⟩, ⟨e2, e3⟩⟩ : Rm)) rfl hown'
    have own8 := own_far own7 (p := ⟨w.heap.size + 1 + 1, 0, none⟩) (by show w.heap.size + 1 + 1 < w.heap.size + 1 + 1 + 1; omega) (.slice (some ⟨gg, 0, none⟩) (L.length + 1) cap)
    have B8 := ex_set B5 (p := ⟨w.heap.size + 1 + 1, 0, none⟩) (by show w.heap.size ≤ w.heap.size + 1 + 1; omega) (.slice (some ⟨gg, 0, none⟩) (L.length + 1) cap)
    have p08 := p0.far (p := ⟨w.heap.size + 1 + 1, 0, none⟩) (by show w.heap.size ≠ w.heap.size + 1 + 1; omega) (.slice (some ⟨gg, 0, none⟩) (L.length + 1) cap)
    have p18 := p1.far (p := ⟨w.heap.size + 1 + 1, 0, none⟩) (by show w.heap.size + 1 ≠ w.heap.size + 1 + 1; omega) (.slice (some ⟨gg, 0, none⟩) (L.length + 1) cap)
    have p28 := p2.set_ 0 (.slice (some ⟨gg, 0, none⟩) (L.length + 1) cap)
    simp only [List.setIfInBounds_toArray, List.set_cons_zero, List.set_cons_succ] at p28
    clear hown' own7 hgB hgrow y4 hX3 hX_x2 hX0 hx2 e2c q0 q1 q2 p0 p1 hown hnr hn0 hn1 hn2 a0 r0 r1 r2 r3 hx1 hX_x1
    go_wp2_with fail
    refine ⟨⟨⟨k + 1, by omega, B8, by simp; omega, p08, p18, _, _, HN, p28, own8, exFrame (by kernel_rfl)⟩⟩, ?_⟩
    show s.rooms.length - (intOf (.int .i64 ((k : Int) + 1))).toNat < s.rooms.length - (intOf (.int .i64 (k : Int))).toNat
    simp [intOf]
    omega
  obtain rfl : k = s.rooms.length := by omega
  have hLL : L = s.rooms := HL.out.trans List.take_length
  clear HL
  rw [hLL] at hown
  obtain ⟨A1, c1, rfl, _, _, ro0⟩ := lay_Rm 92 hown
  clear hown hLL
  have hb1 := hbl
  have hVs := hsz
  clear hbl hsz
  go_wp2_with fail
  refine wp_loop (fun a W => Rel (fun a W => ∃ k : Nat, k ≤ s.moves.length ∧ Below w.heap.size w W ∧ w.heap.size + 1 + 1 + 1 ≤ W.heap.size ∧ Blk W w.heap.size 26 #[.slice Ar s.rooms.length cr, .int .i64 s.days, .slice Am s.moves.length cm, .slice Aw s.wgs.length cw] ∧ Blk W (w.heap.size + 1) 42 #[.slice none 0 0, .int .i64 0, .slice none 0 0, .slice none 0 0] ∧ RowAt W (w.heap.size + 1 + 1 + 1) 92 4 A1 s.rooms.length (fRm s.rooms) ∧ ∃ v, ∃ L : List Mv, Hid (L = s.moves.take k) ∧ Blk W (w.heap.size + 1 + 1) 42 #[.slice A1 s.rooms.length c1, .int .i64 s.days, v, .slice none 0 0] ∧ W.ownsRow (w.heap.size + 1 + 1 + 1) 94 5 v L.length (L.flatMap cMv) ∧ ∃ u : Nat → Value, a = ⟨List.toArray (u 0 :: .pointer (some ⟨w.heap.size, 0, none⟩) :: .pointer (some ⟨w.heap.size + 1, 0, none⟩) :: .pointer (some ⟨w.heap.size + 1 + 1, 0, none⟩) :: u 4 :: .int .i64 (k : Int) :: u 6 :: u 7 :: u 8 :: u 9 :: u 10 :: u 11 :: u 12 :: u 13 :: u 14 :: u 15 :: u 16 :: u 17 :: u 18 :: u 19 :: u 20 :: u 21 :: u 22 :: u 23 :: u 24 :: u 25 :: u 26 :: u 27 :: u 28 :: u 29 :: u 30 :: u 31 :: u 32 :: u 33 :: u 34 :: u 35 :: u 36 :: u 37 :: u 38 :: u 39 :: u 40 :: u 41 :: u 42 :: u 43 :: u 44 :: u 45 :: u 46 :: u 47 :: u 48 :: u 49 :: u 50 :: u 51 :: u 52 :: u 53 :: u 54 :: u 55 :: u 56 :: u 57 :: u 58 :: u 59 :: u 60 :: u 61 :: u 62 :: u 63 :: u 64 :: u 65 :: u 66 :: u 67 :: u 68 :: u 69 :: u 70 :: u 71 :: u 72 :: u 73 :: u 74 :: u 75 :: u 76 :: u 77 :: u 78 :: u 79 :: u 80 :: u 81 :: u 82 :: u 83 :: u 84 :: u 85 :: u 86 :: u 87 :: u 88 :: u 89 :: u 90 :: u 91 :: []), []⟩) a W) (fun a _ => s.moves.length - (intOf (a.tmps.getD 5 undef)).toNat) ⟨⟨0, by omega, hb1, hVs, q0, q1, ro0, .slice none 0 0, [], Lib.hid rfl, q2, ⟨rfl, .inl ⟨rfl, rfl⟩⟩, exFrame (by kernel_rfl)⟩⟩ ?_
  clear hb1 hVs q0 q1 q2 ro0 a0 l0 l1 l2 W
  rintro a W ⟨⟨k, hk, hbl, hsz, q0, q1, ro0, v, L, HL, q2, hown, u, rfl⟩⟩
  have l0 := q0.lt
  have l1 := q1.lt
  have l2 := q2.lt
  have a0 : W.cell? ⟨w.heap.size, 2, none⟩ = some (.slice Am s.moves.length cm) := q0.cell 2
  by_cases hlt : k < s.moves.length
  · obtain ⟨br, orr, rfl, hbr, r0, r1, r2, r3, r4⟩ := IsMvs.at_ (hs.moves.below hbl) hlt
    have lbr : br < W.heap.size := by omega
    have hlen : L.length = k := by rw [HL.out, List.length_take]; omega
    have hat := (gMv_at hlt).symm
    obtain ⟨e0, he0⟩ : ∃ x, (gMv s.moves k).day = x := ⟨_, rfl⟩
    rw [he0] at r0
    obtain ⟨e1, he1⟩ : ∃ x, (gMv s.moves k).src = x := ⟨_, rfl⟩
    rw [he1] at r1
    obtain ⟨e2, he2⟩ : ∃ x, (gMv s.moves k).dst = x := ⟨_, rfl⟩
    rw [he2] at r2
    obtain ⟨e3, he3⟩ : ∃ x, (gMv s.moves k).g.lo = x := ⟨_, rfl⟩
    rw [he3] at r3
    obtain ⟨e4, he4⟩ : ∃ x, (gMv s.moves k).g.hi = x := ⟨_, rfl⟩
    rw [he4] at r4
    have HN : Hid (L ++ [⟨e0, e1, e2, ⟨e3, e4⟩⟩] = s.moves.take (k + 1)) := Lib.hid (take_push hlt HL.out (by rw [hat, ← he0, ← he1, ← he2, ← he3, ← he4]))
    have HLEN := Lib.hid hlen
    have hlk : L.length ≤ 1000 := by omega
    have hkn : (k : Int) < (s.moves.length : Int) := by omega
    clear hat hlen he0 he1 he2 he3 he4
    have hge := fun (j : Nat) (hj : v.ownBlock = some j) => own_ge hown hj
    have hbr2 : br < w.heap.size := hbr
    have hA := ex_alloc (Below.refl W.heap.size W) (.cells #[.int .i64 e0, .int .i64 e1, .int .i64 e2, .int .i64 e3, .int .i64 e4] 59)
    have qm : Blk (W.alloc (.cells #[.int .i64 e0, .int .i64 e1, .int .i64 e2, .int .i64 e3, .int .i64 e4] 59)) W.heap.size 59 #[.int .i64 e0, .int .i64 e1, .int .i64 e2, .int .i64 e3, .int .i64 e4] := Blk.new _ _ _
    have hnm : ¬ v.ownBlock = some W.heap.size := fun e => by have := (own_lt hown e).2; omega
    go_wp2_with fail
    replace hbl := ex_trans hbl hA
    replace q0 := q0.below hA l0
    replace q1 := q1.below hA l1
    replace q2 := q2.below hA l2
    replace hown := own_below hown hA
    replace hsz : w.heap.size + 1 + 1 + 1 ≤ (W.alloc (.cells #[.int .i64 e0, .int .i64 e1, .int .i64 e2, .int .i64 e3, .int .i64 e4] 59)).heap.size := by have := hA.size; omega
    replace ro0 := ro0.below hA
    obtain ⟨pm, hpm⟩ : ∃ p, W.heap.size = p := ⟨_, rfl⟩
    rw [hpm] at qm hnm ⊢
    clear l0 l1 l2 a0 hA hpm r0 r1 r2 r3 r4 lbr
    generalize W.alloc (.cells #[.int .i64 e0, .int .i64 e1, .int .i64 e2, .int .i64 e3, .int .i64 e4] 59) = V at *
    have l0 := q0.lt
    have l1 := q1.lt
    have l2 := q2.lt
    have lm := qm.lt
    have m0 : V.cell? ⟨pm, 0, none⟩ = some (.int .i64 e0) := qm.cell 0
    have m1 : V.cell? ⟨pm, 1, none⟩ = some (.int .i64 e1) := qm.cell 1
    have m2 : V.cell? ⟨pm, 2, none⟩ = some (.int .i64 e2) := qm.cell 2
    have m3 : V.cell? ⟨pm, 3, none⟩ = some (.int .i64 e3) := qm.cell 3
    have m4 : V.cell? ⟨pm, 4, none⟩ = some (.int .i64 e4) := qm.cell 4
    obtain ⟨row, hrow⟩ : ∃ row, v.ownBlock = row := ⟨_, rfl⟩
    have hn0 : ¬ some (w.heap.size) = row := fun e => by have := hge _ (hrow.trans e.symm); omega
    have hn1 : ¬ some (w.heap.size + 1) = row := fun e => by have := hge _ (hrow.trans e.symm); omega
    have hn2 : ¬ some (w.heap.size + 1 + 1) = row := fun e => by have := hge _ (hrow.trans e.symm); omega
    have hnr : ¬ some pm = row := fun e => hnm (hrow.trans e.symm)
    have hrw : ∀ j, row = some j → w.heap.size ≤ j := fun j hj => by have := hge _ (hrow.trans hj); omega
    have e2c : V.cell? ⟨w.heap.size + 1 + 1, 2, none⟩ = some v := q2.cell 2
    have HROW := Lib.hid hrow
    clear hrow hge hnm
    refine wp_region_gx_mix row 15 [(false, 0), (false, 1), (false, 2), (false, 3), (false, 4), (false, 5), (false, 6), (false, 7), (false, 8), (false, 9), (true, 10), (false, 11), (true, 12), (true, 13), (false, 14)] (by kernel_rfl) (by kernel_rfl) (by intro d _ _ _ _ h; cases d <;> exact h) ?_
    repeat (refine mix_quiet rfl ?_; go_big_quiet_step (fail); refine wpQuiet_nil ?_)
    have hX0 := (Below.refl V.heap.size V).drew
    refine mix_loud rfl ?_
    go_wp2_with fail
    refine (to_any e3 e4 V.drew).mono ?_
    rintro e x2 ⟨rfl, hx2⟩
    have hX_x2 := ex_trans hX0 hx2
    go_wp2_with fail
    refine ⟨inGx (grown_row hX_x2), ?_⟩
    repeat (refine mix_quiet rfl ?_; go_big_quiet_step (fail); refine wpQuiet_nil ?_)
    refine mix_loud rfl ?_
    go_wp2_with fail
    have hX3 := ex_alloc hX_x2 (.cells #[.int .i64 e0, .int .i64 e1, .int .i64 e2, .int .i64 e3, .int .i64 e4] 94)
    refine ⟨inGx (grown_row hX3), ?_⟩
    repeat (refine mix_quiet rfl ?_; go_big_quiet_step (fail); refine wpQuiet_nil ?_)
    have y4 := own_below hown hX3
    have c63 : L.length + 1 ≤ maxLen := by unfold maxLen; omega
    have cby : (L.length + 1) * 40 ≤ 140737488355328 := by omega
    have hbase : w.heap.size + 1 + 1 + 1 ≤ (x2.alloc (.cells #[.int .i64 e0, .int .i64 e1, .int .i64 e2, .int .i64 e3, .int .i64 e4] 94)).heap.size := by have := hX3.size; omega
    refine mix_loud rfl ?_
    go_wp2_with (at_builtin; refine wpList_append_lies _ rfl _ _ _ rfl (w.heap.size + 1 + 1 + 1) 94 i1 _ 5 40 Tryz.underlying39 HI1.out hy0 hy1 hy2 rfl (by omega) v _ _ rfl y4 ⟨x2.heap.size, 0, none⟩ 1 1 [.int .i64 e0, .int .i64 e1, .int .i64 e2, .int .i64 e3, .int .i64 e4] rfl rfl (World.news_of_block (heap_alloc_new x2 _)) (by simp [Value.oneCell']) (by omega) c63 cby hbase (x2.heap.size + 1) (by simp) ?_; intro gg cap w1 hown' hgrow hat hlt')
    rw [HROW.out] at hgrow
    have hgB := (grown_row (r := row) hX3).andThen hgrow (fun j hj => .inr hj)
    refine ⟨inGx hgB, ?_⟩
    repeat (refine mix_quiet rfl ?_; go_big_quiet_step (fail); refine wpQuiet_nil ?_)
    refine mix_nil rfl ?_
    have B5 := hbl.grown hgB hbl.size hrw
    have p0 := q0.grown hgB hn0
    have p1 := q1.grown hgB hn1
    have p2 := q2.grown hgB hn2
    have f0 : w1.cell? ⟨w.heap.size + 1 + 1, 2, none⟩ = some v := p2.cell 2
    have ff := p2.frozen0
    have lp0 := p0.lt
    have lp1 := p1.lt
    have lp2 := p2.lt
    have hs7 : w.heap.size + 1 + 1 + 1 ≤ w1.heap.size := by have := hgB.size; omega
    have ro0g := (ro0.grown (HROW.out ▸ hgB) hown (by decide)).set p2 (by decide) 2 (.slice (some ⟨gg, 0, none⟩) (L.length + 1) cap)
    have own7 := own_push (f := cMv) (x := (⟨e0, e1, e2, ⟨e3, e4⟩⟩ : Mv)) rfl hown'
    have own8 := own_far own7 (p := ⟨w.heap.size + 1 + 1, 2, none⟩) (by show w.heap.size + 1 + 1 < w.heap.size + 1 + 1 + 1; omega) (.slice (some ⟨gg, 0, none⟩) (L.length + 1) cap)
    have B8 := ex_set B5 (p := ⟨w.heap.size + 1 + 1, 2, none⟩) (by show w.heap.size ≤ w.heap.size + 1 + 1; omega) (.slice (some ⟨gg, 0, none⟩) (L.length + 1) cap)
    have p08 := p0.far (p := ⟨w.heap.size + 1 + 1, 2, none⟩) (by show w.heap.size ≠ w.heap.size + 1 + 1; omega) (.slice (some ⟨gg, 0, none⟩) (L.length + 1) cap)
    have p18 := p1.far (p := ⟨w.heap.size + 1 + 1, 2, none⟩) (by show w.heap.size + 1 ≠ w.heap.size + 1 + 1; omega) (.slice (some ⟨gg, 0, none⟩) (L.length + 1) cap)
    have p28 := p2.set_ 2 (.slice (some ⟨gg, 0, none⟩) (L.length + 1) cap)
    simp only [List.setIfInBounds_toArray, List.set_cons_zero, List.set_cons_succ] at p28
    clear hown' own7 hgB hgrow y4 hX3 hX_x2 hX0 hx2 e2c q0 q1 q2 p0 p1 hown hnr hn0 hn1 hn2 qm lm m0 m1 m2 m3 m4
    go_wp2_with fail
    refine ⟨⟨⟨k + 1, by omega, B8, by simp; omega, p08, p18, ro0g, _, _, HN, p28, own8, exFrame (by kernel_rfl)⟩⟩, ?_⟩
    show s.moves.length - (intOf (.int .i64 ((k : Int) + 1))).toNat < s.moves.length - (intOf (.int .i64 (k : Int))).toNat
    simp [intOf]
    omega
  obtain rfl : k = s.moves.length := by omega
  have hLL : L = s.moves := HL.out.trans List.take_length
  clear HL
  rw [hLL] at hown
  obtain ⟨A2, c2, rfl, _, _, ro1⟩ := lay_Mv 94 hown
  clear hown hLL
  have hb1 := hbl
  have hVs := hsz
  clear hbl hsz
  go_wp2_with fail
  refine wp_loop (fun a W => Rel (fun a W => ∃ k : Nat, k ≤ s.wgs.length ∧ Below w.heap.size w W ∧ w.heap.size + 1 + 1 + 1 ≤ W.heap.size ∧ Blk W w.heap.size 26 #[.slice Ar s.rooms.length cr, .int .i64 s.days, .slice Am s.moves.length cm, .slice Aw s.wgs.length cw] ∧ Blk W (w.heap.size + 1) 42 #[.slice none 0 0, .int .i64 0, .slice none 0 0, .slice none 0 0] ∧ RowAt W (w.heap.size + 1 + 1 + 1) 92 4 A1 s.rooms.length (fRm s.rooms) ∧ RowAt W (w.heap.size + 1 + 1 + 1) 94 5 A2 s.moves.length (fMv s.moves) ∧ ∃ v, ∃ L : List Wg, Hid (L = s.wgs.take k) ∧ Blk W (w.heap.size + 1 + 1) 42 #[.slice A1 s.rooms.length c1, .int .i64 s.days, .slice A2 s.moves.length c2, v] ∧ W.ownsRow (w.heap.size + 1 + 1 + 1) 98 4 v L.length (L.flatMap cWg) ∧ ∃ u : Nat → Value, a = ⟨List.toArray (u 0 :: .pointer (some ⟨w.heap.size, 0, none⟩) :: .pointer (some ⟨w.heap.size + 1, 0, none⟩) :: .pointer (some ⟨w.heap.size + 1 + 1, 0, none⟩) :: u 4 :: u 5 :: u 6 :: .int .i64 (k : Int) :: u 8 :: u 9 :: u 10 :: u 11 :: u 12 :: u 13 :: u 14 :: u 15 :: u 16 :: u 17 :: u 18 :: u 19 :: u 20 :: u 21 :: u 22 :: u 23 :: u 24 :: u 25 :: u 26 :: u 27 :: u 28 :: u 29 :: u 30 :: u 31 :: u 32 :: u 33 :: u 34 :: u 35 :: u 36 :: u 37 :: u 38 :: u 39 :: u 40 :: u 41 :: u 42 :: u 43 :: u 44 :: u 45 :: u 46 :: u 47 :: u 48 :: u 49 :: u 50 :: u 51 :: u 52 :: u 53 :: u 54 :: u 55 :: u 56 :: u 57 :: u 58 :: u 59 :: u 60 :: u 61 :: u 62 :: u 63 :: u 64 :: u 65 :: u 66 :: u 67 :: u 68 :: u 69 :: u 70 :: u 71 :: u 72 :: u 73 :: u 74 :: u 75 :: u 76 :: u 77 :: u 78 :: u 79 :: u 80 :: u 81 :: u 82 :: u 83 :: u 84 :: u 85 :: u 86 :: u 87 :: u 88 :: u 89 :: u 90 :: u 91 :: []), []⟩) a W) (fun a _ => s.wgs.length - (intOf (a.tmps.getD 7 undef)).toNat) ⟨⟨0, by omega, hb1, hVs, q0, q1, ro0, ro1, .slice none 0 0, [], Lib.hid rfl, q2, ⟨rfl, .inl ⟨rfl, rfl⟩⟩, exFrame (by kernel_rfl)⟩⟩ ?_
  clear hb1 hVs q0 q1 q2 ro0 ro1 a0 l0 l1 l2 W
  rintro a W ⟨⟨k, hk, hbl, hsz, q0, q1, ro0, ro1, v, L, HL, q2, hown, u, rfl⟩⟩
  have l0 := q0.lt
  have l1 := q1.lt
  have l2 := q2.lt
  have a0 : W.cell? ⟨w.heap.size, 3, none⟩ = some (.slice Aw s.wgs.length cw) := q0.cell 3
  by_cases hlt : k < s.wgs.length
  · obtain ⟨br, orr, rfl, hbr, r0, r1, r2, r3⟩ := IsWgs.at_ (hs.wgs.below hbl) hlt
    have lbr : br < W.heap.size := by omega
    have hlen : L.length = k := by rw [HL.out, List.length_take]; omega
    have hat := (gWg_at hlt).symm
    obtain ⟨e0, he0⟩ : ∃ x, (gWg s.wgs k).room = x := ⟨_, rfl⟩
    rw [he0] at r0
    obtain ⟨e1, he1⟩ : ∃ x, (gWg s.wgs k).day = x := ⟨_, rfl⟩
    rw [he1] at r1
    obtain ⟨e2, he2⟩ : ∃ x, (gWg s.wgs k).g.lo = x := ⟨_, rfl⟩
    rw [he2] at r2
    obtain ⟨e3, he3⟩ : ∃ x, (gWg s.wgs k).g.hi = x := ⟨_, rfl⟩
    rw [he3] at r3
    have HN : Hid (L ++ [⟨e0, e1, ⟨e2, e3⟩⟩] = s.wgs.take (k + 1)) := Lib.hid (take_push hlt HL.out (by rw [hat, ← he0, ← he1, ← he2, ← he3]))
    have HLEN := Lib.hid hlen
    have hlk : L.length ≤ 1000 := by omega
    have hkn : (k : Int) < (s.wgs.length : Int) := by omega
    clear hat hlen he0 he1 he2 he3
    have hge := fun (j : Nat) (hj : v.ownBlock = some j) => own_ge hown hj
    have hbr2 : br < w.heap.size := hbr
    have hA := ex_alloc (Below.refl W.heap.size W) (.cells #[.int .i64 e0, .int .i64 e1, .int .i64 e2, .int .i64 e3] 96)
    have qm : Blk (W.alloc (.cells #[.int .i64 e0, .int .i64 e1, .int .i64 e2, .int .i64 e3] 96)) W.heap.size 96 #[.int .i64 e0, .int .i64 e1, .int .i64 e2, .int .i64 e3] := Blk.new _ _ _
    have hnm : ¬ v.ownBlock = some W.heap.size := fun e => by have := (own_lt hown e).2; omega
    go_wp2_with fail
    replace hbl := ex_trans hbl hA
    replace q0 := q0.below hA l0
    replace q1 := q1.below hA l1
    replace q2 := q2.below hA l2
    replace hown := own_below hown hA
    replace hsz : w.heap.size + 1 + 1 + 1 ≤ (W.alloc (.cells #[.int .i64 e0, .int .i64 e1, .int .i64 e2, .int .i64 e3] 96)).heap.size := by have := hA.size; omega
    replace ro0 := ro0.below hA
    replace ro1 := ro1.below hA
    obtain ⟨pm, hpm⟩ : ∃ p, W.heap.size = p := ⟨_, rfl⟩
    rw [hpm] at qm hnm ⊢
    clear l0 l1 l2 a0 hA hpm r0 r1 r2 r3 lbr
    generalize W.alloc (.cells #[.int .i64 e0, .int .i64 e1, .int .i64 e2, .int .i64 e3] 96) = V at *
    have l0 := q0.lt
    have l1 := q1.lt
    have l2 := q2.lt
    have lm := qm.lt
    have m0 : V.cell? ⟨pm, 0, none⟩ = some (.int .i64 e0) := qm.cell 0
    have m1 : V.cell? ⟨pm, 1, none⟩ = some (.int .i64 e1) := qm.cell 1
    have m2 : V.cell? ⟨pm, 2, none⟩ = some (.int .i64 e2) := qm.cell 2
    have m3 : V.cell? ⟨pm, 3, none⟩ = some (.int .i64 e3) := qm.cell 3
    obtain ⟨row, hrow⟩ : ∃ row, v.ownBlock = row := ⟨_, rfl⟩
    have hn0 : ¬ some (w.heap.size) = row := fun e => by have := hge _ (hrow.trans e.symm); omega
    have hn1 : ¬ some (w.heap.size + 1) = row := fun e => by have := hge _ (hrow.trans e.symm); omega
    have hn2 : ¬ some (w.heap.size + 1 + 1) = row := fun e => by have := hge _ (hrow.trans e.symm); omega
    have hnr : ¬ some pm = row := fun e => hnm (hrow.trans e.symm)
    have hrw : ∀ j, row = some j → w.heap.size ≤ j := fun j hj => by have := hge _ (hrow.trans hj); omega
    have e2c : V.cell? ⟨w.heap.size + 1 + 1, 3, none⟩ = some v := q2.cell 3
    have HROW := Lib.hid hrow
    clear hrow hge hnm
    refine wp_region_gx_mix row 13 [(false, 0), (false, 1), (false, 2), (false, 3), (false, 4), (false, 5), (false, 6), (false, 7), (true, 8), (false, 9), (true, 10), (true, 11), (false, 12)] (by kernel_rfl) (by kernel_rfl) (by intro d _ _ _ _ h; cases d <;> exact h) ?_
    repeat (refine mix_quiet rfl ?_; go_big_quiet_step (fail); refine wpQuiet_nil ?_)
    have hX0 := (Below.refl V.heap.size V).drew
    refine mix_loud rfl ?_
    go_wp2_with fail
    refine (to_any e2 e3 V.drew).mono ?_
    rintro e x2 ⟨rfl, hx2⟩
    have hX_x2 := ex_trans hX0 hx2
    go_wp2_with fail
    refine ⟨inGx (grown_row hX_x2), ?_⟩
    repeat (refine mix_quiet rfl ?_; go_big_quiet_step (fail); refine wpQuiet_nil ?_)
    refine mix_loud rfl ?_
    go_wp2_with fail
    have hX3 := ex_alloc hX_x2 (.cells #[.int .i64 e0, .int .i64 e1, .int .i64 e2, .int .i64 e3] 98)
    refine ⟨inGx (grown_row hX3), ?_⟩
    repeat (refine mix_quiet rfl ?_; go_big_quiet_step (fail); refine wpQuiet_nil ?_)
    have y4 := own_below hown hX3
    have c63 : L.length + 1 ≤ maxLen := by unfold maxLen; omega
    have cby : (L.length + 1) * 32 ≤ 140737488355328 := by omega
    have hbase : w.heap.size + 1 + 1 + 1 ≤ (x2.alloc (.cells #[.int .i64 e0, .int .i64 e1, .int .i64 e2, .int .i64 e3] 98)).heap.size := by have := hX3.size; omega
    refine mix_loud rfl ?_
    go_wp2_with (at_builtin; refine wpList_append_lies _ rfl _ _ _ rfl (w.heap.size + 1 + 1 + 1) 98 i2 _ 4 32 Tryz.underlying40 HI2.out hz0 hz1 hz2 rfl (by omega) v _ _ rfl y4 ⟨x2.heap.size, 0, none⟩ 1 1 [.int .i64 e0, .int .i64 e1, .int .i64 e2, .int .i64 e3] rfl rfl (World.news_of_block (heap_alloc_new x2 _)) (by simp [Value.oneCell']) (by omega) c63 cby hbase (x2.heap.size + 1) (by simp) ?_; intro gg cap w1 hown' hgrow hat hlt')
    rw [HROW.out] at hgrow
    have hgB := (grown_row (r := row) hX3).andThen hgrow (fun j hj => .inr hj)
    refine ⟨inGx hgB, ?_⟩
    repeat (refine mix_quiet rfl ?_; go_big_quiet_step (fail); refine wpQuiet_nil ?_)
    refine mix_nil rfl ?_
    have B5 := hbl.grown hgB hbl.size hrw
    have p0 := q0.grown hgB hn0
    have p1 := q1.grown hgB hn1
    have p2 := q2.grown hgB hn2
    have f0 : w1.cell? ⟨w.heap.size + 1 + 1, 3, none⟩ = some v := p2.cell 3
    have ff := p2.frozen0
    have lp0 := p0.lt
    have lp1 := p1.lt
    have lp2 := p2.lt
    have hs7 : w.heap.size + 1 + 1 + 1 ≤ w1.heap.size := by have := hgB.size; omega
    have ro0g := (ro0.grown (HROW.out ▸ hgB) hown (by decide)).set p2 (by decide) 3 (.slice (some ⟨gg, 0, none⟩) (L.length + 1) cap)
    have ro1g := (ro1.grown (HROW.out ▸ hgB) hown (by decide)).set p2 (by decide) 3 (.slice (some ⟨gg, 0, none⟩) (L.length + 1) cap)
    have own7 := own_push (f := cWg) (x := (⟨e0, e1, ⟨e2, e3⟩⟩ : Wg)) rfl hown'
    have own8 := own_far own7 (p := ⟨w.heap.size + 1 + 1, 3, none⟩) (by show w.heap.size + 1 + 1 < w.heap.size + 1 + 1 + 1; omega) (.slice (some ⟨gg, 0, none⟩) (L.length + 1) cap)
    have B8 := ex_set B5 (p := ⟨w.heap.size + 1 + 1, 3, none⟩) (by show w.heap.size ≤ w.heap.size + 1 + 1; omega) (.slice (some ⟨gg, 0, none⟩) (L.length + 1) cap)
    have p08 := p0.far (p := ⟨w.heap.size + 1 + 1, 3, none⟩) (by show w.heap.size ≠ w.heap.size + 1 + 1; omega) (.slice (some ⟨gg, 0, none⟩) (L.length + 1) cap)
    have p18 := p1.far (p := ⟨w.heap.size + 1 + 1, 3, none⟩) (by show w.heap.size + 1 ≠ w.heap.size + 1 + 1; omega) (.slice (some ⟨gg, 0, none⟩) (L.length + 1) cap)
    have p28 := p2.set_ 3 (.slice (some ⟨gg, 0, none⟩) (L.length + 1) cap)
    simp only [List.setIfInBounds_toArray, List.set_cons_zero, List.set_cons_succ] at p28
    clear hown' own7 hgB hgrow y4 hX3 hX_x2 hX0 hx2 e2c q0 q1 q2 p0 p1 hown hnr hn0 hn1 hn2 qm lm m0 m1 m2 m3
    go_wp2_with fail
    refine ⟨⟨⟨k + 1, by omega, B8, by simp; omega, p08, p18, ro0g, ro1g, _, _, HN, p28, own8, exFrame (by kernel_rfl)⟩⟩, ?_⟩
    show s.wgs.length - (intOf (.int .i64 ((k : Int) + 1))).toNat < s.wgs.length - (intOf (.int .i64 (k : Int))).toNat
    simp [intOf]
    omega
  obtain rfl : k = s.wgs.length := by omega
  have hLL : L = s.wgs := HL.out.trans List.take_length
  clear HL
  rw [hLL] at hown
  obtain ⟨A3, c3, rfl, _, _, ro2⟩ := lay_Wg 98 hown
  clear hown hLL
  have hb1 := hbl
  have hVs := hsz
  clear hbl hsz
  have b0 : W.cell? ⟨w.heap.size + 1 + 1, 0, none⟩ = some (.slice A1 s.rooms.length c1) := q2.cell 0
  have b1 : W.cell? ⟨w.heap.size + 1 + 1, 1, none⟩ = some (.int .i64 s.days) := q2.cell 1
  have b2 : W.cell? ⟨w.heap.size + 1 + 1, 2, none⟩ = some (.slice A2 s.moves.length c2) := q2.cell 2
  have b3 : W.cell? ⟨w.heap.size + 1 + 1, 3, none⟩ = some (.slice A3 s.wgs.length c3) := q2.cell 3
  have z0 : W.cell? ⟨w.heap.size + 1, 0, none⟩ = some (.slice none 0 0) := q1.cell 0
  have z1 : W.cell? ⟨w.heap.size + 1, 1, none⟩ = some (.int .i64 0) := q1.cell 1
  have z2 : W.cell? ⟨w.heap.size + 1, 2, none⟩ = some (.slice none 0 0) := q1.cell 2
  have z3 : W.cell? ⟨w.heap.size + 1, 3, none⟩ = some (.slice none 0 0) := q1.cell 3
  have ff := q1.frozen0
  have hw1 : w.heap.size ≤ w.heap.size + 1 := by omega
  have B90 := ex_set hb1 (p := ⟨w.heap.size + 1, 0, none⟩) hw1 (.slice A1 s.rooms.length c1)
  have r00 := ro0.set q1 (by decide) 0 (.slice A1 s.rooms.length c1)
  have r10 := ro1.set q1 (by decide) 0 (.slice A1 s.rooms.length c1)
  have r20 := ro2.set q1 (by decide) 0 (.slice A1 s.rooms.length c1)
  have q80 := q1.set_ 0 (.slice A1 s.rooms.length c1)
  have B91 := ex_set B90 (p := ⟨w.heap.size + 1, 1, none⟩) hw1 (.int .i64 s.days)
  have r01 := r00.set q80 (by decide) 1 (.int .i64 s.days)
  have r11 := r10.set q80 (by decide) 1 (.int .i64 s.days)
  have r21 := r20.set q80 (by decide) 1 (.int .i64 s.days)
  have q81 := q80.set_ 1 (.int .i64 s.days)
  have B92 := ex_set B91 (p := ⟨w.heap.size + 1, 2, none⟩) hw1 (.slice A2 s.moves.length c2)
  have r02 := r01.set q81 (by decide) 2 (.slice A2 s.moves.length c2)
  have r12 := r11.set q81 (by decide) 2 (.slice A2 s.moves.length c2)
  have r22 := r21.set q81 (by decide) 2 (.slice A2 s.moves.length c2)
  have q82 := q81.set_ 2 (.slice A2 s.moves.length c2)
  have B93 := ex_set B92 (p := ⟨w.heap.size + 1, 3, none⟩) hw1 (.slice A3 s.wgs.length c3)
  have r03 := r02.set q82 (by decide) 3 (.slice A3 s.wgs.length c3)
  have r13 := r12.set q82 (by decide) 3 (.slice A3 s.wgs.length c3)
  have r23 := r22.set q82 (by decide) 3 (.slice A3 s.wgs.length c3)
  have q83 := q82.set_ 3 (.slice A3 s.wgs.length c3)
  simp only [List.setIfInBounds_toArray, List.set_cons_zero, List.set_cons_succ] at q83
  have HFIN := Lib.hid (And.intro r03.sl (And.intro r13.sl r23.sl))
  clear ro0 ro1 ro2 r00 r01 r02 r03 r10 r11 r12 r13 r20 r21 r22 r23
  go_wp2
  refine bodyPost_ret (results_cell_row rfl _ _ (w.heap.size + 1) 42 _ (0, 0) _ rfl q83 rfl rfl rfl) rfl ?_
  exact ⟨⟨⟨_, _, _, _, _, _, rfl, HFIN.out.1, HFIN.out.2.1, HFIN.out.2.2⟩⟩, B93⟩
end Go.Proofs.YthihdiilokdidaaGreat
end

section
namespace Go.Proofs.YthihdiilokdidaaGreat
open Go.RowKit
attribute [local go_sem] Ex.cell? Ex.frozen?

theorem In_ref (n lo hi : Int) (w : World) :
    Calls Tryz.prog 71 #[.int .i64 n, .int .i64 lo, .int .i64 hi] w fun e w' => e = .returned (.bool (inB n lo hi)) ∧ w = w' := by
  by_cases h1 : lo ≤ n
  · by_cases h2 : n ≤ hi
    · go_enter Tryz.func71, Tryz.ntmps71
      go_wp2
      go_ret
      simp [inB, h1, h2]
    · have h2' : decide (n ≤ hi) = false := by simpa using h2
      go_enter Tryz.func71, Tryz.ntmps71
      go_wp2
      go_ret
      simp [inB, h1, h2]
  · have h1' : decide (lo ≤ n) = false := by simpa using h1
    go_enter Tryz.func71, Tryz.ntmps71
    go_wp2
    go_ret
    exact ⟨by rw [inB, h1']; rfl, rfl⟩
set_option maxRecDepth 100000 in
theorem span_ref (lo hi high : Int) (w : World) :
    Calls Tryz.prog 72 #[.agg #[.int .i64 lo, .int .i64 hi], .int .i64 high] w fun e w' => e = .returned (.bool (toB lo hi high)) ∧ Below w.heap.size w w' := by
  have hb1 := ex_alloc (Below.refl w.heap.size w) (.cells #[.int .i64 lo, .int .i64 hi] 57)
  cases h1 : inB lo 0 hi
  · have H1 := Lib.hid h1
    have HR : Hid (toB lo hi high = false) := Lib.hid (by
      cases hs : toB lo hi high
      · rfl
      · have := toB_iff.1 hs
        rw [inB_iff.2 ⟨this.1, this.2.1⟩] at h1; cases h1)
    clear h1
    go_enter Tryz.func72, Tryz.ntmps72
    go_wp2_with fail
    refine (In_ref _ _ _ _).mono ?_
    rintro e w' ⟨rfl, rfl⟩
    rw [H1.out]
    go_wp2
    go_ret
    exact ⟨ret_bool HR.out.symm, hb1⟩
  · have H1 := Lib.hid h1
    have HR : Hid (toB lo hi high = decide (hi ≤ high)) := Lib.hid (by
      have h2 := inB_iff.1 h1
      unfold toB
      simp [h2.1, h2.2])
    clear h1
    go_enter Tryz.func72, Tryz.ntmps72
    go_wp2_with fail
    refine (In_ref _ _ _ _).mono ?_
    rintro e w' ⟨rfl, rfl⟩
    rw [H1.out]
    go_wp2
    go_ret
    exact ⟨ret_bool HR.out.symm, hb1⟩
theorem side_in (n : Nat) (k : Int) : sideB n k = inB k (-1) ((n : Int) - 1) := by
  unfold sideB inB
  by_cases h : k = -1
  · subst h
    have h2 : (-1 : Int) ≤ (n : Int) - 1 := by omega
    simp [h2]
  · by_cases h2 : 0 ≤ k
    · have h3 : -1 ≤ k := by omega
      simp [h, h2, h3]
    · have h3 : ¬ -1 ≤ k := by omega
      simp [h, h2, h3]
section
variable {s : Ws} {k : Nat}
theorem ck_one (hb : bigWs s = false) (h : goodWs s = false) : ckWs s = 1 := by unfold ckWs; rw [hb, h]; rfl
theorem ck_room (hb : bigWs s = false) (hk : k < s.rooms.length) (h : roomB (gRm s.rooms k) = false) : ckWs s = 1 := ck_one hb (by unfold goodWs; rw [allTo_false (f := fun k => roomB (gRm s.rooms k)) hk h]; simp)
theorem ck_move (hb : bigWs s = false) (hk : k < s.moves.length) (h : moveB s.rooms.length s.days (gMv s.moves k) = false) : ckWs s = 1 := ck_one hb (by unfold goodWs; rw [allTo_false (f := fun k => moveB s.rooms.length s.days (gMv s.moves k)) hk h]; simp)
theorem ck_wg (hb : bigWs s = false) (hk : k < s.wgs.length) (h : wgB s.rooms.length s.days (gWg s.wgs k) = false) : ckWs s = 1 := ck_one hb (by unfold goodWs; rw [allTo_false (f := fun k => wgB s.rooms.length s.days (gWg s.wgs k)) hk h]; simp)
theorem ck_zero (hb : bigWs s = false) (h0 : ¬ s.rooms.length = 0) (hd : inB s.days 1 6 = true) (h1 : ∀ k, k < s.rooms.length → roomB (gRm s.rooms k) = true) (h2 : ∀ k, k < s.moves.length → moveB s.rooms.length s.days (gMv s.moves k) = true) (h3 : ∀ k, k < s.wgs.length → wgB s.rooms.length s.days (gWg s.wgs k) = true) : ckWs s = 0 := by
  unfold ckWs goodWs
  rw [hb, hd, allTo_iff.2 h1, allTo_iff.2 h2, allTo_iff.2 h3]
  simp [h0]
end
set_option maxRecDepth 100000 in
set_option maxHeartbeats 12800000 in
theorem Fault_ref (s : Ws) (Ar Am Aw : Option Addr) (cr cm cw : Nat) (w : World) (hs : WsIn w w.heap.size s Ar Am Aw) :
    Calls Tryz.prog 46 #[.agg #[.slice Ar s.rooms.length cr, .int .i64 s.days, .slice Am s.moves.length cm, .slice Aw s.wgs.length cw]] w fun e w' => e = .returned (.int .i64 (ckWs s)) ∧ Below w.heap.size w w' := by
  have hb1 := ex_alloc (Below.refl w.heap.size w) (.cells #[.slice Ar s.rooms.length cr, .int .i64 s.days, .slice Am s.moves.length cm, .slice Aw s.wgs.length cw] 26)
  have q0 : Blk (w.alloc (.cells #[.slice Ar s.rooms.length cr, .int .i64 s.days, .slice Am s.moves.length cm, .slice Aw s.wgs.length cw] 26)) w.heap.size 26 #[.slice Ar s.rooms.length cr, .int .i64 s.days, .slice Am s.moves.length cm, .slice Aw s.wgs.length cw] := Blk.new _ _ _
  by_cases hl3 : 3 < s.rooms.length
  · have HR : Hid (ckWs s = 3) := Lib.hid (by unfold ckWs bigWs; rw [if_pos (by simp; omega)])
    have hg3 : decide (3 < (s.rooms.length : Int)) = true := decide_eq_true (by omega)
    clear hl3
    go_enter Tryz.func46, Tryz.ntmps46
    go_wp2
    go_ret
    exact ⟨ret_int HR.out.symm, hb1⟩
  have hg3 : decide (3 < (s.rooms.length : Int)) = false := decide_eq_false (by omega)
  by_cases hl12 : 12 < s.moves.length
  · have HR : Hid (ckWs s = 3) := Lib.hid (by unfold ckWs bigWs; rw [if_pos (by simp; omega)])
    have hg12 : decide (12 < (s.moves.length : Int)) = true := decide_eq_true (by omega)
    clear hl12
    go_enter Tryz.func46, Tryz.ntmps46
    go_wp2
    go_ret
    exact ⟨ret_int HR.out.symm, hb1⟩
  have hg12 : decide (12 < (s.moves.length : Int)) = false := decide_eq_false (by omega)
  by_cases hl8 : 8 < s.wgs.length
  · have HR : Hid (ckWs s = 3) := Lib.hid (by unfold ckWs bigWs; rw [if_pos (by simp; omega)])
    have hg8 : decide (8 < (s.wgs.length : Int)) = true := decide_eq_true (by omega)
    clear hl8
    go_enter Tryz.func46, Tryz.ntmps46
    go_wp2
    go_ret
    exact ⟨ret_int HR.out.symm, hb1⟩
  have hg8 : decide (8 < (s.wgs.length : Int)) = false := decide_eq_false (by omega)
  have HB : Hid (bigWs s = false) := Lib.hid (by unfold bigWs; simp; omega)
  have hlr : s.rooms.length ≤ 3 := by omega
  have hlm : s.moves.length ≤ 12 := by omega
  have hlw : s.wgs.length ≤ 8 := by omega
  clear hl3 hl12 hl8
  by_cases h0 : s.rooms.length = 0
  · have HR : Hid (ckWs s = 1) := Lib.hid (ck_one HB.out (by unfold goodWs; simp [h0]))
    have hz : ((s.rooms.length : Int) == 0) = true := by simp [h0]
    clear h0
    go_enter Tryz.func46, Tryz.ntmps46
    go_wp2
    go_ret
    exact ⟨ret_int HR.out.symm, hb1⟩
  have hz : ((s.rooms.length : Int) == 0) = false := by simp [h0]
  have HZ := Lib.hid h0
  have hpos : 0 < s.rooms.length := by omega
  clear h0
  go_enter Tryz.func46, Tryz.ntmps46
  go_wp2_with fail
  generalize w.alloc (.cells #[.slice Ar s.rooms.length cr, .int .i64 s.days, .slice Am s.moves.length cm, .slice Aw s.wgs.length cw] 26) = V at *
  refine (In_ref _ _ _ _).mono ?_
  rintro e w' ⟨rfl, rfl⟩
  cases hdy : inB s.days 1 6
  · have HD := Lib.hid hdy
    clear hdy
    have HR : Hid (ckWs s = 1) := Lib.hid (ck_one HB.out (by unfold goodWs; rw [HD.out]; simp))
    go_wp2
    go_ret
    exact ⟨ret_int HR.out.symm, hb1⟩
  have HD := Lib.hid hdy
  have hd := inB_iff.1 hdy
  clear hdy
  go_wp2_with fail
  refine wp_loop (fun a W => Rel (fun a W => ∃ k : Nat, k ≤ s.rooms.length ∧ Below w.heap.size w W ∧ Blk W w.heap.size 26 #[.slice Ar s.rooms.length cr, .int .i64 s.days, .slice Am s.moves.length cm, .slice Aw s.wgs.length cw] ∧ Hid (∀ j, j < k → roomB (gRm s.rooms j) = true) ∧ ∃ u : Nat → Value, a = ⟨List.toArray (u 0 :: .pointer (some ⟨w.heap.size, 0, none⟩) :: u 2 :: .int .i64 (k : Int) :: u 4 :: u 5 :: u 6 :: u 7 :: u 8 :: u 9 :: u 10 :: u 11 :: u 12 :: u 13 :: u 14 :: u 15 :: u 16 :: u 17 :: u 18 :: u 19 :: u 20 :: u 21 :: u 22 :: u 23 :: u 24 :: u 25 :: u 26 :: u 27 :: u 28 :: u 29 :: u 30 :: u 31 :: u 32 :: u 33 :: u 34 :: u 35 :: u 36 :: u 37 :: u 38 :: u 39 :: u 40 :: u 41 :: u 42 :: u 43 :: u 44 :: u 45 :: u 46 :: u 47 :: u 48 :: u 49 :: u 50 :: u 51 :: u 52 :: u 53 :: u 54 :: u 55 :: u 56 :: u 57 :: u 58 :: u 59 :: u 60 :: u 61 :: u 62 :: u 63 :: u 64 :: u 65 :: u 66 :: u 67 :: u 68 :: u 69 :: u 70 :: u 71 :: u 72 :: u 73 :: u 74 :: u 75 :: u 76 :: u 77 :: u 78 :: u 79 :: u 80 :: u 81 :: u 82 :: u 83 :: u 84 :: u 85 :: u 86 :: u 87 :: u 88 :: u 89 :: u 90 :: u 91 :: u 92 :: u 93 :: u 94 :: u 95 :: u 96 :: u 97 :: u 98 :: u 99 :: u 100 :: u 101 :: u 102 :: u 103 :: u 104 :: u 105 :: u 106 :: u 107 :: u 108 :: u 109 :: u 110 :: u 111 :: u 112 :: u 113 :: u 114 :: u 115 :: u 116 :: u 117 :: u 118 :: u 119 :: u 120 :: u 121 :: u 122 :: u 123 :: u 124 :: u 125 :: u 126 :: u 127 :: u 128 :: u 129 :: u 130 :: u 131 :: u 132 :: u 133 :: u 134 :: u 135 :: u 136 :: u 137 :: u 138 :: u 139 :: u 140 :: u 141 :: u 142 :: u 143 :: []), []⟩) a W) (fun a _ => s.rooms.length - (intOf (a.tmps.getD 3 undef)).toNat) ⟨⟨0, by omega, hb1, q0, Lib.hid (fun j hj => by omega), exFrame (by kernel_rfl)⟩⟩ ?_
  clear hb1 q0 V
  rintro a W ⟨⟨k, hk, hb1, q0, HO, u, rfl⟩⟩
  have l0 := q0.lt
  by_cases hlt : k < s.rooms.length
  · obtain ⟨br, orr, rfl, hbr, r0, r1, r2, r3⟩ := IsRms.at_ (hs.rooms.below hb1) hlt
    have hkn : (k : Int) < (s.rooms.length : Int) := by omega
    have lbr : br < W.heap.size := by have := hb1.size; omega
    have HRM : Hid (roomB (gRm s.rooms k) = (toB (gRm s.rooms k).fst.lo (gRm s.rooms k).fst.hi 2000 && toB (gRm s.rooms k).vap.lo (gRm s.rooms k).vap.hi 50)) := Lib.hid rfl
    obtain ⟨e0, he0⟩ : ∃ x, (gRm s.rooms k).fst.lo = x := ⟨_, rfl⟩
    rw [he0] at r0 HRM
    clear he0
    obtain ⟨e1, he1⟩ : ∃ x, (gRm s.rooms k).fst.hi = x := ⟨_, rfl⟩
    rw [he1] at r1 HRM
    clear he1
    obtain ⟨e2, he2⟩ : ∃ x, (gRm s.rooms k).vap.lo = x := ⟨_, rfl⟩
    rw [he2] at r2 HRM
    clear he2
    obtain ⟨e3, he3⟩ : ∃ x, (gRm s.rooms k).vap.hi = x := ⟨_, rfl⟩
    rw [he3] at r3 HRM
    clear he3
    skip
    have a0 : W.cell? ⟨w.heap.size, 0, none⟩ = some (.slice (some ⟨br, orr, none⟩) s.rooms.length cr) := q0.cell 0
    have a1 : W.cell? ⟨w.heap.size, 1, none⟩ = some (.int .i64 s.days) := q0.cell 1
    have a2 : W.cell? ⟨w.heap.size, 2, none⟩ = some (.slice Am s.moves.length cm) := q0.cell 2
    have a3 : W.cell? ⟨w.heap.size, 3, none⟩ = some (.slice Aw s.wgs.length cw) := q0.cell 3
    go_wp2_with fail
    refine (span_ref e0 e1 2000 W).mono ?_
    rintro e W1 ⟨rfl, hW1⟩
    replace q0 := q0.below hW1 q0.lt
    have B_W1 := ex_trans hb1 hW1
    clear a0 a1 a2 a3 l0
    have a0 : W1.cell? ⟨w.heap.size, 0, none⟩ = some (.slice (some ⟨br, orr, none⟩) s.rooms.length cr) := q0.cell 0
    have a1 : W1.cell? ⟨w.heap.size, 1, none⟩ = some (.int .i64 s.days) := q0.cell 1
    have a2 : W1.cell? ⟨w.heap.size, 2, none⟩ = some (.slice Am s.moves.length cm) := q0.cell 2
    have a3 : W1.cell? ⟨w.heap.size, 3, none⟩ = some (.slice Aw s.wgs.length cw) := q0.cell 3
    have l0 := q0.lt
    replace r0 : W1.cell? _ = _ := (hW1.cell (p := ⟨br, _, none⟩) (show br < W.heap.size from lbr)).trans r0
    replace r1 : W1.cell? _ = _ := (hW1.cell (p := ⟨br, _, none⟩) (show br < W.heap.size from lbr)).trans r1
    replace r2 : W1.cell? _ = _ := (hW1.cell (p := ⟨br, _, none⟩) (show br < W.heap.size from lbr)).trans r2
    replace r3 : W1.cell? _ = _ := (hW1.cell (p := ⟨br, _, none⟩) (show br < W.heap.size from lbr)).trans r3
    replace lbr : br < W1.heap.size := by have := hW1.size; omega
    cases hS1 : toB e0 e1 2000
    · have HS1 := Lib.hid hS1
      clear hS1
      have HR : Hid (ckWs s = 1) := Lib.hid (ck_room HB.out hlt (by rw [HRM.out, HS1.out]; rfl))
      go_wp2
      go_ret
      exact ⟨ret_int HR.out.symm, B_W1⟩
    have HS1 := Lib.hid hS1
    clear hS1
    go_wp2_with fail
    refine (span_ref e2 e3 50 W1).mono ?_
    rintro e W2 ⟨rfl, hW2⟩
    replace q0 := q0.below hW2 q0.lt
    have B_W2 := ex_trans B_W1 hW2
    clear a0 a1 a2 a3 l0
    have a0 : W2.cell? ⟨w.heap.size, 0, none⟩ = some (.slice (some ⟨br, orr, none⟩) s.rooms.length cr) := q0.cell 0
    have a1 : W2.cell? ⟨w.heap.size, 1, none⟩ = some (.int .i64 s.days) := q0.cell 1
    have a2 : W2.cell? ⟨w.heap.size, 2, none⟩ = some (.slice Am s.moves.length cm) := q0.cell 2
    have a3 : W2.cell? ⟨w.heap.size, 3, none⟩ = some (.slice Aw s.wgs.length cw) := q0.cell 3
    have l0 := q0.lt
    cases hS2 : toB e2 e3 50
    · have HS2 := Lib.hid hS2
      clear hS2
      have HR : Hid (ckWs s = 1) := Lib.hid (ck_room HB.out hlt (by rw [HRM.out, HS2.out, Bool.and_false]))
      go_wp2
      go_ret
      exact ⟨ret_int HR.out.symm, B_W2⟩
    have HS2 := Lib.hid hS2
    clear hS2
    have HO2 : Hid (∀ j, j < k + 1 → roomB (gRm s.rooms j) = true) := Lib.hid (fun j hj => by
      rcases Nat.lt_succ_iff_lt_or_eq.1 hj with h | h
      · exact HO.out j h
      · subst h; rw [HRM.out, HS1.out, HS2.out]; rfl)
    clear r0 r1 r2 r3
    go_wp2_with fail
    refine ⟨⟨⟨k + 1, by omega, B_W2, q0, HO2, exFrame (by kernel_rfl)⟩⟩, ?_⟩
    show s.rooms.length - (intOf (.int .i64 ((k : Int) + 1))).toNat < s.rooms.length - (intOf (.int .i64 (k : Int))).toNat
    simp [intOf]
    omega
  have HO1 : Hid (∀ j, j < s.rooms.length → roomB (gRm s.rooms j) = true) := Lib.hid (fun j hj => HO.out j (by omega))
  obtain rfl : k = s.rooms.length := by omega
  clear HO
  have a0 : W.cell? ⟨w.heap.size, 0, none⟩ = some (.slice Ar s.rooms.length cr) := q0.cell 0
  have a1 : W.cell? ⟨w.heap.size, 1, none⟩ = some (.int .i64 s.days) := q0.cell 1
  have a2 : W.cell? ⟨w.heap.size, 2, none⟩ = some (.slice Am s.moves.length cm) := q0.cell 2
  have a3 : W.cell? ⟨w.heap.size, 3, none⟩ = some (.slice Aw s.wgs.length cw) := q0.cell 3
  go_wp2_with fail
  clear a0 a1 a2 a3 l0 hlt hk
  refine wp_loop (fun a W => Rel (fun a W => ∃ k : Nat, k ≤ s.moves.length ∧ Below w.heap.size w W ∧ Blk W w.heap.size 26 #[.slice Ar s.rooms.length cr, .int .i64 s.days, .slice Am s.moves.length cm, .slice Aw s.wgs.length cw] ∧ Hid (∀ j, j < k → moveB s.rooms.length s.days (gMv s.moves j) = true) ∧ ∃ u : Nat → Value, a = ⟨List.toArray (u 0 :: .pointer (some ⟨w.heap.size, 0, none⟩) :: u 2 :: u 3 :: .int .i64 (s.rooms.length : Int) :: .int .i64 (k : Int) :: u 6 :: u 7 :: u 8 :: u 9 :: u 10 :: u 11 :: u 12 :: u 13 :: u 14 :: u 15 :: u 16 :: u 17 :: u 18 :: u 19 :: u 20 :: u 21 :: u 22 :: u 23 :: u 24 :: u 25 :: u 26 :: u 27 :: u 28 :: u 29 :: u 30 :: u 31 :: u 32 :: u 33 :: u 34 :: u 35 :: u 36 :: u 37 :: u 38 :: u 39 :: u 40 :: u 41 :: u 42 :: u 43 :: u 44 :: u 45 :: u 46 :: u 47 :: u 48 :: u 49 :: u 50 :: u 51 :: u 52 :: u 53 :: u 54 :: u 55 :: u 56 :: u 57 :: u 58 :: u 59 :: u 60 :: u 61 :: u 62 :: u 63 :: u 64 :: u 65 :: u 66 :: u 67 :: u 68 :: u 69 :: u 70 :: u 71 :: u 72 :: u 73 :: u 74 :: u 75 :: u 76 :: u 77 :: u 78 :: u 79 :: u 80 :: u 81 :: u 82 :: u 83 :: u 84 :: u 85 :: u 86 :: u 87 :: u 88 :: u 89 :: u 90 :: u 91 :: u 92 :: u 93 :: u 94 :: u 95 :: u 96 :: u 97 :: u 98 :: u 99 :: u 100 :: u 101 :: u 102 :: u 103 :: u 104 :: u 105 :: u 106 :: u 107 :: u 108 :: u 109 :: u 110 :: u 111 :: u 112 :: u 113 :: u 114 :: u 115 :: u 116 :: u 117 :: u 118 :: u 119 :: u 120 :: u 121 :: u 122 :: u 123 :: u 124 :: u 125 :: u 126 :: u 127 :: u 128 :: u 129 :: u 130 :: u 131 :: u 132 :: u 133 :: u 134 :: u 135 :: u 136 :: u 137 :: u 138 :: u 139 :: u 140 :: u 141 :: u 142 :: u 143 :: []), []⟩) a W) (fun a _ => s.moves.length - (intOf (a.tmps.getD 5 undef)).toNat) ⟨⟨0, by omega, hb1, q0, Lib.hid (fun j hj => by omega), exFrame (by kernel_rfl)⟩⟩ ?_
  clear hb1 q0 W
  rintro a W ⟨⟨k, hk, hb1, q0, HO, u, rfl⟩⟩
  have l0 := q0.lt
  by_cases hlt : k < s.moves.length
  · have HRM : Hid (moveB s.rooms.length s.days (gMv s.moves k) = (inB (gMv s.moves k).day 0 (s.days - 1) && (inB (gMv s.moves k).src (-1) ((s.rooms.length : Int) - 1) && (inB (gMv s.moves k).dst (-1) ((s.rooms.length : Int) - 1) && (decide ((gMv s.moves k).src ≠ (gMv s.moves k).dst) && toB (gMv s.moves k).g.lo (gMv s.moves k).g.hi 2000))))) := Lib.hid (by rw [← side_in, ← side_in]; rfl)
    obtain ⟨br, orr, rfl, hbr, r0, r1, r2, r3, r4⟩ := IsMvs.at_ (hs.moves.below hb1) hlt
    have hkn : (k : Int) < (s.moves.length : Int) := by omega
    have lbr : br < W.heap.size := by have := hb1.size; omega
    obtain ⟨e0, he0⟩ : ∃ x, (gMv s.moves k).day = x := ⟨_, rfl⟩
    rw [he0] at r0 HRM
    clear he0
    obtain ⟨e1, he1⟩ : ∃ x, (gMv s.moves k).src = x := ⟨_, rfl⟩
    rw [he1] at r1 HRM
    clear he1
    obtain ⟨e2, he2⟩ : ∃ x, (gMv s.moves k).dst = x := ⟨_, rfl⟩
    rw [he2] at r2 HRM
    clear he2
    obtain ⟨e3, he3⟩ : ∃ x, (gMv s.moves k).g.lo = x := ⟨_, rfl⟩
    rw [he3] at r3 HRM
    clear he3
    obtain ⟨e4, he4⟩ : ∃ x, (gMv s.moves k).g.hi = x := ⟨_, rfl⟩
    rw [he4] at r4 HRM
    clear he4
    have a0 : W.cell? ⟨w.heap.size, 0, none⟩ = some (.slice Ar s.rooms.length cr) := q0.cell 0
    have a1 : W.cell? ⟨w.heap.size, 1, none⟩ = some (.int .i64 s.days) := q0.cell 1
    have a2 : W.cell? ⟨w.heap.size, 2, none⟩ = some (.slice (some ⟨br, orr, none⟩) s.moves.length cm) := q0.cell 2
    have a3 : W.cell? ⟨w.heap.size, 3, none⟩ = some (.slice Aw s.wgs.length cw) := q0.cell 3
    have qm : Blk (W.alloc (.cells #[.int .i64 e0, .int .i64 e1, .int .i64 e2, .int .i64 e3, .int .i64 e4] 59)) W.heap.size 59 #[.int .i64 e0, .int .i64 e1, .int .i64 e2, .int .i64 e3, .int .i64 e4] := Blk.new _ _ _
    go_wp2_with fail
    have N_V := ex_alloc (Below.refl W.heap.size W) (.cells #[.int .i64 e0, .int .i64 e1, .int .i64 e2, .int .i64 e3, .int .i64 e4] 59)
    clear a0 a1 a2 a3 l0 r0 r1 r2 r3 r4 lbr
    replace q0 := q0.below N_V q0.lt
    have B_V := ex_trans hb1 N_V
    obtain ⟨pm, hpm⟩ : ∃ p, W.heap.size = p := ⟨_, rfl⟩
    rw [hpm] at qm ⊢
    clear hpm N_V
    generalize W.alloc (.cells #[.int .i64 e0, .int .i64 e1, .int .i64 e2, .int .i64 e3, .int .i64 e4] 59) = V at *
    have a0 : V.cell? ⟨w.heap.size, 0, none⟩ = some (.slice Ar s.rooms.length cr) := q0.cell 0
    have a1 : V.cell? ⟨w.heap.size, 1, none⟩ = some (.int .i64 s.days) := q0.cell 1
    have a2 : V.cell? ⟨w.heap.size, 2, none⟩ = some (.slice (some ⟨br, orr, none⟩) s.moves.length cm) := q0.cell 2
    have a3 : V.cell? ⟨w.heap.size, 3, none⟩ = some (.slice Aw s.wgs.length cw) := q0.cell 3
    have l0 := q0.lt
    have lm := qm.lt
    have m0 : V.cell? ⟨pm, 0, none⟩ = some (.int .i64 e0) := qm.cell 0
    have m1 : V.cell? ⟨pm, 1, none⟩ = some (.int .i64 e1) := qm.cell 1
    have m2 : V.cell? ⟨pm, 2, none⟩ = some (.int .i64 e2) := qm.cell 2
    have m3 : V.cell? ⟨pm, 3, none⟩ = some (.int .i64 e3) := qm.cell 3
    have m4 : V.cell? ⟨pm, 4, none⟩ = some (.int .i64 e4) := qm.cell 4
    go_wp2_with fail
    refine (In_ref _ _ _ _).mono ?_
    rintro e w' ⟨rfl, rfl⟩
    cases hI1 : inB e0 0 (s.days - 1)
    · have HI1 := Lib.hid hI1
      clear hI1
      have HR : Hid (ckWs s = 1) := Lib.hid (ck_move HB.out hlt (by rw [HRM.out, HI1.out]; rfl))
      go_wp2
      go_ret
      exact ⟨ret_int HR.out.symm, B_V⟩
    have HI1 := Lib.hid hI1
    clear hI1
    go_wp2_with fail
    refine (In_ref _ _ _ _).mono ?_
    rintro e w' ⟨rfl, rfl⟩
    cases hI2 : inB e1 (-1) ((s.rooms.length : Int) - 1)
    · have HI2 := Lib.hid hI2
      clear hI2
      have HR : Hid (ckWs s = 1) := Lib.hid (ck_move HB.out hlt (by rw [HRM.out, HI1.out, HI2.out]; rfl))
      go_wp2
      go_ret
      exact ⟨ret_int HR.out.symm, B_V⟩
    have HI2 := Lib.hid hI2
    clear hI2
    go_wp2_with fail
    refine (In_ref _ _ _ _).mono ?_
    rintro e w' ⟨rfl, rfl⟩
    cases hI3 : inB e2 (-1) ((s.rooms.length : Int) - 1)
    · have HI3 := Lib.hid hI3
      clear hI3
      have HR : Hid (ckWs s = 1) := Lib.hid (ck_move HB.out hlt (by rw [HRM.out, HI1.out, HI2.out, HI3.out]; rfl))
      go_wp2
      go_ret
      exact ⟨ret_int HR.out.symm, B_V⟩
    have HI3 := Lib.hid hI3
    clear hI3
    by_cases hne : e1 = e2
    · have hq : (e1 == e2) = true := by simp [hne]
      have HNE := Lib.hid hne
      clear hne
      have HR : Hid (ckWs s = 1) := Lib.hid (ck_move HB.out hlt (by rw [HRM.out, HI1.out, HI2.out, HI3.out, HNE.out]; simp))
      go_wp2
      go_ret
      exact ⟨ret_int HR.out.symm, B_V⟩
    have hq : (e1 == e2) = false := by simp [hne]
    have HNE := Lib.hid hne
    clear hne
    go_wp2_with fail
    refine (span_ref e3 e4 2000 V).mono ?_
    rintro e V1 ⟨rfl, hV1⟩
    replace q0 := q0.below hV1 q0.lt
    replace qm := qm.below hV1 qm.lt
    have B_V1 := ex_trans B_V hV1
    clear a0 a1 a2 a3 l0 lm m0 m1 m2 m3 m4
    have a0 : V1.cell? ⟨w.heap.size, 0, none⟩ = some (.slice Ar s.rooms.length cr) := q0.cell 0
    have a1 : V1.cell? ⟨w.heap.size, 1, none⟩ = some (.int .i64 s.days) := q0.cell 1
    have a2 : V1.cell? ⟨w.heap.size, 2, none⟩ = some (.slice (some ⟨br, orr, none⟩) s.moves.length cm) := q0.cell 2
    have a3 : V1.cell? ⟨w.heap.size, 3, none⟩ = some (.slice Aw s.wgs.length cw) := q0.cell 3
    have l0 := q0.lt
    have lm := qm.lt
    have m0 : V1.cell? ⟨pm, 0, none⟩ = some (.int .i64 e0) := qm.cell 0
    have m1 : V1.cell? ⟨pm, 1, none⟩ = some (.int .i64 e1) := qm.cell 1
    have m2 : V1.cell? ⟨pm, 2, none⟩ = some (.int .i64 e2) := qm.cell 2
    have m3 : V1.cell? ⟨pm, 3, none⟩ = some (.int .i64 e3) := qm.cell 3
    have m4 : V1.cell? ⟨pm, 4, none⟩ = some (.int .i64 e4) := qm.cell 4
    cases hS1 : toB e3 e4 2000
    · have HS1 := Lib.hid hS1
      clear hS1
      have HR : Hid (ckWs s = 1) := Lib.hid (ck_move HB.out hlt (by rw [HRM.out, HS1.out]; simp))
      go_wp2
      go_ret
      exact ⟨ret_int HR.out.symm, B_V1⟩
    have HS1 := Lib.hid hS1
    clear hS1
    have HO2 : Hid (∀ j, j < k + 1 → moveB s.rooms.length s.days (gMv s.moves j) = true) := Lib.hid (fun j hj => by
      rcases Nat.lt_succ_iff_lt_or_eq.1 hj with h | h
      · exact HO.out j h
      · subst h; rw [HRM.out, HI1.out, HI2.out, HI3.out, HS1.out, decide_eq_true HNE.out]; rfl)
    go_wp2_with fail
    refine ⟨⟨⟨k + 1, by omega, B_V1, q0, HO2, exFrame (by kernel_rfl)⟩⟩, ?_⟩
    show s.moves.length - (intOf (.int .i64 ((k : Int) + 1))).toNat < s.moves.length - (intOf (.int .i64 (k : Int))).toNat
    simp [intOf]
    omega
  have HO3 : Hid (∀ j, j < s.moves.length → moveB s.rooms.length s.days (gMv s.moves j) = true) := Lib.hid (fun j hj => HO.out j (by omega))
  obtain rfl : k = s.moves.length := by omega
  clear HO
  have a0 : W.cell? ⟨w.heap.size, 0, none⟩ = some (.slice Ar s.rooms.length cr) := q0.cell 0
  have a1 : W.cell? ⟨w.heap.size, 1, none⟩ = some (.int .i64 s.days) := q0.cell 1
  have a2 : W.cell? ⟨w.heap.size, 2, none⟩ = some (.slice Am s.moves.length cm) := q0.cell 2
  have a3 : W.cell? ⟨w.heap.size, 3, none⟩ = some (.slice Aw s.wgs.length cw) := q0.cell 3
  go_wp2_with fail
  clear a0 a1 a2 a3 l0 hlt hk
  refine wp_loop (fun a W => Rel (fun a W => ∃ k : Nat, k ≤ s.wgs.length ∧ Below w.heap.size w W ∧ Blk W w.heap.size 26 #[.slice Ar s.rooms.length cr, .int .i64 s.days, .slice Am s.moves.length cm, .slice Aw s.wgs.length cw] ∧ Hid (∀ j, j < k → wgB s.rooms.length s.days (gWg s.wgs j) = true) ∧ ∃ u : Nat → Value, a = ⟨List.toArray (u 0 :: .pointer (some ⟨w.heap.size, 0, none⟩) :: u 2 :: u 3 :: .int .i64 (s.rooms.length : Int) :: u 5 :: u 6 :: .int .i64 (k : Int) :: u 8 :: u 9 :: u 10 :: u 11 :: u 12 :: u 13 :: u 14 :: u 15 :: u 16 :: u 17 :: u 18 :: u 19 :: u 20 :: u 21 :: u 22 :: u 23 :: u 24 :: u 25 :: u 26 :: u 27 :: u 28 :: u 29 :: u 30 :: u 31 :: u 32 :: u 33 :: u 34 :: u 35 :: u 36 :: u 37 :: u 38 :: u 39 :: u 40 :: u 41 :: u 42 :: u 43 :: u 44 :: u 45 :: u 46 :: u 47 :: u 48 :: u 49 :: u 50 :: u 51 :: u 52 :: u 53 :: u 54 :: u 55 :: u 56 :: u 57 :: u 58 :: u 59 :: u 60 :: u 61 :: u 62 :: u 63 :: u 64 :: u 65 :: u 66 :: u 67 :: u 68 :: u 69 :: u 70 :: u 71 :: u 72 :: u 73 :: u 74 :: u 75 :: u 76 :: u 77 :: u 78 :: u 79 :: u 80 :: u 81 :: u 82 :: u 83 :: u 84 :: u 85 :: u 86 :: u 87 :: u 88 :: u 89 :: u 90 :: u 91 :: u 92 :: u 93 :: u 94 :: u 95 :: u 96 :: u 97 :: u 98 :: u 99 :: u 100 :: u 101 :: u 102 :: u 103 :: u 104 :: u 105 :: u 106 :: u 107 :: u 108 :: u 109 :: u 110 :: u 111 :: u 112 :: u 113 :: u 114 :: u 115 :: u 116 :: u 117 :: u 118 :: u 119 :: u 120 :: u 121 :: u 122 :: u 123 :: u 124 :: u 125 :: u 126 :: u 127 :: u 128 :: u 129 :: u 130 :: u 131 :: u 132 :: u 133 :: u 134 :: u 135 :: u 136 :: u 137 :: u 138 :: u 139 :: u 140 :: u 141 :: u 142 :: u 143 :: []), []⟩) a W) (fun a _ => s.wgs.length - (intOf (a.tmps.getD 7 undef)).toNat) ⟨⟨0, by omega, hb1, q0, Lib.hid (fun j hj => by omega), exFrame (by kernel_rfl)⟩⟩ ?_
  clear hb1 q0 W
  rintro a W ⟨⟨k, hk, hb1, q0, HO, u, rfl⟩⟩
  have l0 := q0.lt
  by_cases hlt : k < s.wgs.length
  · have HRM : Hid (wgB s.rooms.length s.days (gWg s.wgs k) = (inB (gWg s.wgs k).room 0 ((s.rooms.length : Int) - 1) && (inB (gWg s.wgs k).day 0 (s.days - 1) && toB (gWg s.wgs k).g.lo (gWg s.wgs k).g.hi 2000))) := Lib.hid rfl
    obtain ⟨br, orr, rfl, hbr, r0, r1, r2, r3⟩ := IsWgs.at_ (hs.wgs.below hb1) hlt
    have hkn : (k : Int) < (s.wgs.length : Int) := by omega
    have lbr : br < W.heap.size := by have := hb1.size; omega
    obtain ⟨e0, he0⟩ : ∃ x, (gWg s.wgs k).room = x := ⟨_, rfl⟩
    rw [he0] at r0 HRM
    clear he0
    obtain ⟨e1, he1⟩ : ∃ x, (gWg s.wgs k).day = x := ⟨_, rfl⟩
    rw [he1] at r1 HRM
    clear he1
    obtain ⟨e2, he2⟩ : ∃ x, (gWg s.wgs k).g.lo = x := ⟨_, rfl⟩
    rw [he2] at r2 HRM
    clear he2
    obtain ⟨e3, he3⟩ : ∃ x, (gWg s.wgs k).g.hi = x := ⟨_, rfl⟩
    rw [he3] at r3 HRM
    clear he3
    have a0 : W.cell? ⟨w.heap.size, 0, none⟩ = some (.slice Ar s.rooms.length cr) := q0.cell 0
    have a1 : W.cell? ⟨w.heap.size, 1, none⟩ = some (.int .i64 s.days) := q0.cell 1
    have a2 : W.cell? ⟨w.heap.size, 2, none⟩ = some (.slice Am s.moves.length cm) := q0.cell 2
    have a3 : W.cell? ⟨w.heap.size, 3, none⟩ = some (.slice (some ⟨br, orr, none⟩) s.wgs.length cw) := q0.cell 3
    have qm : Blk (W.alloc (.cells #[.int .i64 e0, .int .i64 e1, .int .i64 e2, .int .i64 e3] 96)) W.heap.size 96 #[.int .i64 e0, .int .i64 e1, .int .i64 e2, .int .i64 e3] := Blk.new _ _ _
    go_wp2_with fail
    have N_V := ex_alloc (Below.refl W.heap.size W) (.cells #[.int .i64 e0, .int .i64 e1, .int .i64 e2, .int .i64 e3] 96)
    clear a0 a1 a2 a3 l0 r0 r1 r2 r3 lbr
    replace q0 := q0.below N_V q0.lt
    have B_V := ex_trans hb1 N_V
    obtain ⟨pm, hpm⟩ : ∃ p, W.heap.size = p := ⟨_, rfl⟩
    rw [hpm] at qm ⊢
    clear hpm N_V
    generalize W.alloc (.cells #[.int .i64 e0, .int .i64 e1, .int .i64 e2, .int .i64 e3] 96) = V at *
    have a0 : V.cell? ⟨w.heap.size, 0, none⟩ = some (.slice Ar s.rooms.length cr) := q0.cell 0
    have a1 : V.cell? ⟨w.heap.size, 1, none⟩ = some (.int .i64 s.days) := q0.cell 1
    have a2 : V.cell? ⟨w.heap.size, 2, none⟩ = some (.slice Am s.moves.length cm) := q0.cell 2
    have a3 : V.cell? ⟨w.heap.size, 3, none⟩ = some (.slice (some ⟨br, orr, none⟩) s.wgs.length cw) := q0.cell 3
    have l0 := q0.lt
    have lm := qm.lt
    have m0 : V.cell? ⟨pm, 0, none⟩ = some (.int .i64 e0) := qm.cell 0
    have m1 : V.cell? ⟨pm, 1, none⟩ = some (.int .i64 e1) := qm.cell 1
    have m2 : V.cell? ⟨pm, 2, none⟩ = some (.int .i64 e2) := qm.cell 2
    have m3 : V.cell? ⟨pm, 3, none⟩ = some (.int .i64 e3) := qm.cell 3
    go_wp2_with fail
    refine (In_ref _ _ _ _).mono ?_
    rintro e w' ⟨rfl, rfl⟩
    cases hI1 : inB e0 0 ((s.rooms.length : Int) - 1)
    · have HI1 := Lib.hid hI1
      clear hI1
      have HR : Hid (ckWs s = 1) := Lib.hid (ck_wg HB.out hlt (by rw [HRM.out, HI1.out]; rfl))
      go_wp2
      go_ret
      exact ⟨ret_int HR.out.symm, B_V⟩
    have HI1 := Lib.hid hI1
    clear hI1
    go_wp2_with fail
    refine (In_ref _ _ _ _).mono ?_
    rintro e w' ⟨rfl, rfl⟩
    cases hI2 : inB e1 0 (s.days - 1)
    · have HI2 := Lib.hid hI2
      clear hI2
      have HR : Hid (ckWs s = 1) := Lib.hid (ck_wg HB.out hlt (by rw [HRM.out, HI1.out, HI2.out]; rfl))
      go_wp2
      go_ret
      exact ⟨ret_int HR.out.symm, B_V⟩
    have HI2 := Lib.hid hI2
    clear hI2
    go_wp2_with fail
    refine (span_ref e2 e3 2000 V).mono ?_
    rintro e V1 ⟨rfl, hV1⟩
    replace q0 := q0.below hV1 q0.lt
    replace qm := qm.below hV1 qm.lt
    have B_V1 := ex_trans B_V hV1
    clear a0 a1 a2 a3 l0 lm m0 m1 m2 m3
    have a0 : V1.cell? ⟨w.heap.size, 0, none⟩ = some (.slice Ar s.rooms.length cr) := q0.cell 0
    have a1 : V1.cell? ⟨w.heap.size, 1, none⟩ = some (.int .i64 s.days) := q0.cell 1
    have a2 : V1.cell? ⟨w.heap.size, 2, none⟩ = some (.slice Am s.moves.length cm) := q0.cell 2
    have a3 : V1.cell? ⟨w.heap.size, 3, none⟩ = some (.slice (some ⟨br, orr, none⟩) s.wgs.length cw) := q0.cell 3
    have l0 := q0.lt
    have lm := qm.lt
    have m0 : V1.cell? ⟨pm, 0, none⟩ = some (.int .i64 e0) := qm.cell 0
    have m1 : V1.cell? ⟨pm, 1, none⟩ = some (.int .i64 e1) := qm.cell 1
    have m2 : V1.cell? ⟨pm, 2, none⟩ = some (.int .i64 e2) := qm.cell 2
    have m3 : V1.cell? ⟨pm, 3, none⟩ = some (.int .i64 e3) := qm.cell 3
    cases hS1 : toB e2 e3 2000
    · have HS1 := Lib.hid hS1
      clear hS1
      have HR : Hid (ckWs s = 1) := Lib.hid (ck_wg HB.out hlt (by rw [HRM.out, HI1.out, HI2.out, HS1.out]; rfl))
      go_wp2
      go_ret
      exact ⟨ret_int HR.out.symm, B_V1⟩
    have HS1 := Lib.hid hS1
    clear hS1
    have HO2 : Hid (∀ j, j < k + 1 → wgB s.rooms.length s.days (gWg s.wgs j) = true) := Lib.hid (fun j hj => by
      rcases Nat.lt_succ_iff_lt_or_eq.1 hj with h | h
      · exact HO.out j h
      · subst h; rw [HRM.out, HI1.out, HI2.out, HS1.out]; rfl)
    go_wp2_with fail
    refine ⟨⟨⟨k + 1, by omega, B_V1, q0, HO2, exFrame (by kernel_rfl)⟩⟩, ?_⟩
    show s.wgs.length - (intOf (.int .i64 ((k : Int) + 1))).toNat < s.wgs.length - (intOf (.int .i64 (k : Int))).toNat
    simp [intOf]
    omega
  have HR : Hid (ckWs s = 0) := Lib.hid (ck_zero HB.out HZ.out HD.out HO1.out HO3.out (fun j hj => HO.out j (by omega)))
  obtain rfl : k = s.wgs.length := by omega
  clear HO
  have a0 : W.cell? ⟨w.heap.size, 0, none⟩ = some (.slice Ar s.rooms.length cr) := q0.cell 0
  have a1 : W.cell? ⟨w.heap.size, 1, none⟩ = some (.int .i64 s.days) := q0.cell 1
  have a2 : W.cell? ⟨w.heap.size, 2, none⟩ = some (.slice Am s.moves.length cm) := q0.cell 2
  have a3 : W.cell? ⟨w.heap.size, 3, none⟩ = some (.slice Aw s.wgs.length cw) := q0.cell 3
  go_wp2
  go_ret
  exact ⟨ret_int HR.out.symm, hb1⟩
set_option maxRecDepth 100000 in
set_option maxHeartbeats 1600000 in
theorem fault_any (s : Ws) (Ar Am Aw : Option Addr) (cr cm cw : Nat) (w : World) (hs : WsIn w w.heap.size s Ar Am Aw) :
    Calls Tryz.prog 18 #[.agg #[.slice Ar s.rooms.length cr, .int .i64 s.days, .slice Am s.moves.length cm, .slice Aw s.wgs.length cw]] w fun e w' => e = .returned (.int .i64 (ckWs s)) ∧ Below w.heap.size w w' := by
  have hb1 := ex_alloc (Below.refl w.heap.size w) (.cells #[.slice Ar s.rooms.length cr, .int .i64 s.days, .slice Am s.moves.length cm, .slice Aw s.wgs.length cw] 26)
  have q0 : Blk (w.alloc (.cells #[.slice Ar s.rooms.length cr, .int .i64 s.days, .slice Am s.moves.length cm, .slice Aw s.wgs.length cw] 26)) w.heap.size 26 #[.slice Ar s.rooms.length cr, .int .i64 s.days, .slice Am s.moves.length cm, .slice Aw s.wgs.length cw] := Blk.new _ _ _
  have hs1 := hs.go hb1
  go_enter Tryz.func18, Tryz.ntmps18
  go_wp2_with fail
  refine (Fault_ref s Ar Am Aw cr cm cw _ hs1).mono ?_
  rintro e W1 ⟨rfl, hx⟩
  go_wp2
  go_ret
  exact ⟨rfl, ex_trans hb1 hx⟩
end Go.Proofs.YthihdiilokdidaaGreat
end

section
namespace Go.Proofs.YthihdiilokdidaaGreat
open Go.RowKit
attribute [local go_sem] Ex.cell? Ex.frozen?

def shortB (L : List (List Int)) : Bool := decide (L.length ≤ 9) && allTo (fun k => decide ((gL L k).length ≤ 9)) L.length
def thinB (s : Ws) (t : Tt) : Bool := decide (s.rooms.length ≤ 6) && (decide (s.moves.length ≤ 15) && (decide (s.wgs.length ≤ 11) && (decide (t.fs.length ≤ 9) && (decide (t.gs.length ≤ 18) && shortB t.vs))))
set_option maxRecDepth 100000 in
set_option maxHeartbeats 3200000 in
theorem short_any (A : Option Addr) (c : Nat) (L : List (List Int)) (rV : Nat → Option Addr) (rcV : Nat → Nat) (w : World) (hL : LisIn w w.heap.size A L rV rcV) :
    Calls Tryz.prog 45 #[.slice A L.length c] w fun e w' => e = .returned (.bool (shortB L)) ∧ Below w.heap.size w w' := by
  obtain ⟨n, hn⟩ : ∃ n, L.length = n := ⟨_, rfl⟩
  have HN := Lib.hid hn
  have hout := hL.out
  rw [hn] at hout ⊢
  clear hn hL
  go_enter Tryz.func45, Tryz.ntmps45
  go_wp2_with fail
  refine wp_loop (fun a W => Rel (fun a W => ∃ k : Nat, k ≤ n ∧ k ≤ 10 ∧ Below w.heap.size w W ∧ Hid (∀ j, j < k → (gL L j).length ≤ 9) ∧ ∃ u : Nat → Value, a = ⟨List.toArray (.slice A n c :: u 1 :: u 2 :: .int .i64 (k : Int) :: u 4 :: u 5 :: u 6 :: u 7 :: u 8 :: u 9 :: u 10 :: u 11 :: u 12 :: u 13 :: u 14 :: u 15 :: u 16 :: u 17 :: u 18 :: u 19 :: u 20 :: u 21 :: u 22 :: []), []⟩) a W) (fun a _ => 10 - (intOf (a.tmps.getD 3 undef)).toNat) ⟨⟨0, by omega, by omega, Below.refl _ _, Lib.hid (fun j hj => by omega), exFrame (by kernel_rfl)⟩⟩ ?_
  rintro a W ⟨⟨k, hk, hk10, hb, HO, u, rfl⟩⟩
  by_cases hlt : k < n
  · have d1 : decide ((k : Int) < (n : Int)) = true := decide_eq_true (by omega)
    by_cases h10 : k < 10
    · have d2 : decide ((k : Int) < 10) = true := decide_eq_true (by omega)
      obtain ⟨b1, o1, rfl, hb1, x1⟩ := (hout.below hb) (by omega)
      have y1 : W.cell? ⟨b1, o1 + k, none⟩ = some (.slice (rV k) (gL L k).length (rcV k)) := by have := x1 k 0 hlt (by omega); rw [show o1 + (k * 1 + 0) = o1 + k by omega] at this; exact this
      clear x1
      have hsz := hb.size
      have hb1W : b1 < W.heap.size := by omega
      have hkn : (k : Int) < (n : Int) := by omega
      obtain ⟨m, hm⟩ : ∃ m, (gL L k).length = m := ⟨_, rfl⟩
      rw [hm] at y1
      have HM := Lib.hid hm
      clear hm
      by_cases hm9 : m ≤ 9
      · have d3 : decide (9 < (m : Int)) = false := decide_eq_false (by omega)
        have HO2 : Hid (∀ j, j < k + 1 → (gL L j).length ≤ 9) := Lib.hid (fun j hj => by
          rcases Nat.lt_succ_iff_lt_or_eq.1 hj with h | h
          · exact HO.out j h
          · subst h; rw [HM.out]; exact hm9)
        clear hm9
        go_wp2_with fail
        refine ⟨⟨⟨k + 1, by omega, by omega, hb, HO2, exFrame (by kernel_rfl)⟩⟩, ?_⟩
        show 10 - (intOf (.int .i64 ((k : Int) + 1))).toNat < 10 - (intOf (.int .i64 (k : Int))).toNat
        simp [intOf]
        omega
      · have d3 : decide (9 < (m : Int)) = true := decide_eq_true (by omega)
        have HR : Hid (shortB L = false) := Lib.hid (by unfold shortB; rw [allTo_false (f := fun k => decide ((gL L k).length ≤ 9)) (by rw [HN.out]; exact hlt) (by rw [HM.out]; simpa using hm9), Bool.and_false])
        clear hm9
        go_wp2
        go_ret
        exact ⟨ret_bool HR.out.symm, hb⟩
    · have d2 : decide ((k : Int) < 10) = false := decide_eq_false (by omega)
      have d3 : decide ((n : Int) ≤ 9) = false := decide_eq_false (by omega)
      have HR : Hid (shortB L = false) := Lib.hid (by unfold shortB; rw [HN.out, decide_eq_false (show ¬ n ≤ 9 by omega)]; rfl)
      go_wp2
      go_ret
      exact ⟨ret_bool HR.out.symm, hb⟩
  · obtain rfl : k = n := by omega
    have d1 : decide ((k : Int) < (k : Int)) = false := decide_eq_false (by omega)
    have HR : Hid (shortB L = decide ((k : Int) ≤ 9)) := Lib.hid (by unfold shortB; rw [HN.out, allTo_iff.2 (fun j hj => decide_eq_true (HO.out j hj)), Bool.and_true]; exact decide_eq_decide.2 (by omega))
    go_wp2
    go_ret
    exact ⟨ret_bool HR.out.symm, hb⟩
set_option maxRecDepth 100000 in
set_option maxHeartbeats 3200000 in
theorem Thin_any (s : Ws) (Ar Am Aw : Option Addr) (cr cm cw : Nat) (w : World) (hs : WsIn w w.heap.size s Ar Am Aw) (t : Tt) (Af Av Ag : Option Addr) (cf cv cg : Nat) (rV : Nat → Option Addr) (rcV : Nat → Nat) (ht : TtIn w w.heap.size t Af Av Ag rV rcV) :
    Calls Tryz.prog 17 #[.agg #[.slice Ar s.rooms.length cr, .int .i64 s.days, .slice Am s.moves.length cm, .slice Aw s.wgs.length cw], .agg #[.slice Af t.fs.length cf, .slice Av t.vs.length cv, .slice Ag t.gs.length cg]] w fun e w' => e = .returned (.bool (thinB s t)) ∧ Below w.heap.size w w' := by
  have hb1 := ex_alloc (Below.refl w.heap.size w) (.cells #[.slice Ar s.rooms.length cr, .int .i64 s.days, .slice Am s.moves.length cm, .slice Aw s.wgs.length cw] 26)
  have hb2 := ex_alloc hb1 (.cells #[.slice Af t.fs.length cf, .slice Av t.vs.length cv, .slice Ag t.gs.length cg] 31)
  have ht2 := ht.go hb2
  have HT : Hid (thinB s t = (decide ((s.rooms.length : Int) ≤ 6) && (decide ((s.moves.length : Int) ≤ 15) && (decide ((s.wgs.length : Int) ≤ 11) && (decide ((t.fs.length : Int) ≤ 9) && (decide ((t.gs.length : Int) ≤ 18) && shortB t.vs)))))) := Lib.hid (by unfold thinB; rw [show decide (s.rooms.length ≤ 6) = decide ((s.rooms.length : Int) ≤ 6) from decide_eq_decide.2 (by omega), show decide (s.moves.length ≤ 15) = decide ((s.moves.length : Int) ≤ 15) from decide_eq_decide.2 (by omega), show decide (s.wgs.length ≤ 11) = decide ((s.wgs.length : Int) ≤ 11) from decide_eq_decide.2 (by omega), show decide (t.fs.length ≤ 9) = decide ((t.fs.length : Int) ≤ 9) from decide_eq_decide.2 (by omega), show decide (t.gs.length ≤ 18) = decide ((t.gs.length : Int) ≤ 18) from decide_eq_decide.2 (by omega)])
  by_cases g0 : (s.rooms.length : Int) ≤ 6
  rotate_left
  · have d0 : decide ((s.rooms.length : Int) ≤ 6) = false := decide_eq_false g0
    have HR : Hid (thinB s t = false) := Lib.hid (by rw [HT.out, d0]; rfl)
    clear g0 HT
    go_enter Tryz.func17, Tryz.ntmps17
    go_wp2
    go_ret
    exact ⟨ret_bool HR.out.symm, hb2⟩
  have d0 : decide ((s.rooms.length : Int) ≤ 6) = true := decide_eq_true g0
  clear g0
  by_cases g1 : (s.moves.length : Int) ≤ 15
  rotate_left
  · have d1 : decide ((s.moves.length : Int) ≤ 15) = false := decide_eq_false g1
    have HR : Hid (thinB s t = false) := Lib.hid (by rw [HT.out, d0, d1]; rfl)
    clear g1 HT
    go_enter Tryz.func17, Tryz.ntmps17
    go_wp2
    go_ret
    exact ⟨ret_bool HR.out.symm, hb2⟩
  have d1 : decide ((s.moves.length : Int) ≤ 15) = true := decide_eq_true g1
  clear g1
  by_cases g2 : (s.wgs.length : Int) ≤ 11
  rotate_left
  · have d2 : decide ((s.wgs.length : Int) ≤ 11) = false := decide_eq_false g2
    have HR : Hid (thinB s t = false) := Lib.hid (by rw [HT.out, d0, d1, d2]; rfl)
    clear g2 HT
    go_enter Tryz.func17, Tryz.ntmps17
    go_wp2
    go_ret
    exact ⟨ret_bool HR.out.symm, hb2⟩
  have d2 : decide ((s.wgs.length : Int) ≤ 11) = true := decide_eq_true g2
  clear g2
  by_cases g3 : (t.fs.length : Int) ≤ 9
  rotate_left
  · have d3 : decide ((t.fs.length : Int) ≤ 9) = false := decide_eq_false g3
    have HR : Hid (thinB s t = false) := Lib.hid (by rw [HT.out, d0, d1, d2, d3]; rfl)
    clear g3 HT
    go_enter Tryz.func17, Tryz.ntmps17
    go_wp2
    go_ret
    exact ⟨ret_bool HR.out.symm, hb2⟩
  have d3 : decide ((t.fs.length : Int) ≤ 9) = true := decide_eq_true g3
  clear g3
  by_cases g4 : (t.gs.length : Int) ≤ 18
  rotate_left
  · have d4 : decide ((t.gs.length : Int) ≤ 18) = false := decide_eq_false g4
    have HR : Hid (thinB s t = false) := Lib.hid (by rw [HT.out, d0, d1, d2, d3, d4]; rfl)
    clear g4 HT
    go_enter Tryz.func17, Tryz.ntmps17
    go_wp2
    go_ret
    exact ⟨ret_bool HR.out.symm, hb2⟩
  have d4 : decide ((t.gs.length : Int) ≤ 18) = true := decide_eq_true g4
  clear g4
  have HR : Hid (thinB s t = shortB t.vs) := Lib.hid (by rw [HT.out, d0, d1, d2, d3, d4]; rfl)
  clear HT
  go_enter Tryz.func17, Tryz.ntmps17
  go_wp2_with fail
  refine (short_any Av cv t.vs rV rcV _ ⟨ht2.vs, ht2.row⟩).mono ?_
  rintro e W1 ⟨rfl, hx⟩
  go_wp2
  go_ret
  exact ⟨ret_bool HR.out.symm, ex_trans hb2 hx⟩
def rowS (nA nB : Nat → Nat) (La Lb : Nat → Nat → Int) (k : Nat) : Bool := decide (nA k = nB k) && allTo (fun i => decide (La k i = Lb k i)) (nA k)
def sameB (n m : Nat) (nA nB : Nat → Nat) (La Lb : Nat → Nat → Int) : Bool := decide (n = m) && allTo (rowS nA nB La Lb) n
set_option maxRecDepth 100000 in
set_option maxHeartbeats 3200000 in
theorem same_any (A B : Option Addr) (ca cb n m : Nat) (nA nB : Nat → Nat) (rA rB : Nat → Option Addr) (kA kB : Nat → Nat) (La Lb : Nat → Nat → Int) (w : World) (hA : SlAt w w.heap.size 1 A n (fun k _ => .slice (rA k) (nA k) (kA k))) (hB : SlAt w w.heap.size 1 B m (fun k _ => .slice (rB k) (nB k) (kB k)))
    (hAr : ∀ k, k < n → SlAt w w.heap.size 1 (rA k) (nA k) (fun i _ => .int .i64 (La k i))) (hBr : ∀ k, k < m → SlAt w w.heap.size 1 (rB k) (nB k) (fun i _ => .int .i64 (Lb k i))) (hnA : ∀ k, k < n → nA k ≤ 1000000) (hnB : ∀ k, k < m → nB k ≤ 1000000) (hn : n ≤ 1000000) (hm : m ≤ 1000000) :
    Calls Tryz.prog 11 #[.slice A n ca, .slice B m cb] w fun e w' => e = .returned (.bool (sameB n m nA nB La Lb)) ∧ Below w.heap.size w w' := by
  by_cases h : n = m
  · subst h
    go_enter Tryz.func11, Tryz.ntmps11
    go_wp2_with fail
    refine wp_loop (fun a W => Rel (fun a W => ∃ k : Nat, k ≤ n ∧ Below w.heap.size w W ∧ Hid (∀ j, j < k → (rowS nA nB La Lb) j = true) ∧ ∃ u : Nat → Value, a = ⟨List.toArray (.slice A n ca :: .slice B n cb :: u 2 :: u 3 :: u 4 :: .int .i64 (k : Int) :: u 6 :: u 7 :: u 8 :: u 9 :: u 10 :: u 11 :: u 12 :: u 13 :: u 14 :: u 15 :: u 16 :: u 17 :: u 18 :: u 19 :: u 20 :: u 21 :: u 22 :: u 23 :: u 24 :: u 25 :: u 26 :: []), []⟩) a W) (fun a _ => n - (intOf (a.tmps.getD 5 undef)).toNat) ⟨⟨0, by omega, Below.refl _ _, Lib.hid (fun j hj => by omega), exFrame (by kernel_rfl)⟩⟩ ?_
    rintro a W ⟨⟨k, hk, hb, HO, u, rfl⟩⟩
    by_cases hlt : k < n
    · obtain ⟨b1, o1, rfl, hb1, x1⟩ := (hA.below hb) (by omega)
      obtain ⟨b2, o2, rfl, hb2, x2⟩ := (hB.below hb) (by omega)
      have y1 : W.cell? ⟨b1, o1 + k, none⟩ = some (.slice (rA k) (nA k) (kA k)) := by have := x1 k 0 hlt (by omega); rw [show o1 + (k * 1 + 0) = o1 + k by omega] at this; exact this
      have y2 : W.cell? ⟨b2, o2 + k, none⟩ = some (.slice (rB k) (nB k) (kB k)) := by have := x2 k 0 hlt (by omega); rw [show o2 + (k * 1 + 0) = o2 + k by omega] at this; exact this
      clear x1 x2
      have hsz := hb.size
      have hb1W : b1 < W.heap.size := by omega
      have hb2W : b2 < W.heap.size := by omega
      have hkn : (k : Int) < (n : Int) := by omega
      have DD := (Below.refl W.heap.size W).drew
      have hb3 := ex_trans hb DD
      have hra := ((hAr k hlt).below hb3).up hb3.size
      have hrb := ((hBr k hlt).below hb3).up hb3.size
      have hla := hnA k hlt
      have hlb := hnB k hlt
      have HRK : Hid ((rowS nA nB La Lb) k = (decide (nA k = nB k) && allTo (fun i => decide (La k i = Lb k i)) (nA k))) := Lib.hid rfl
      obtain ⟨pa, hpa⟩ : ∃ x, rA k = x := ⟨_, rfl⟩
      rw [hpa] at y1 hra
      obtain ⟨na, hna⟩ : ∃ x, nA k = x := ⟨_, rfl⟩
      rw [hna] at y1 hra hla
      obtain ⟨ka, hka⟩ : ∃ x, kA k = x := ⟨_, rfl⟩
      rw [hka] at y1
      obtain ⟨pb, hpb⟩ : ∃ x, rB k = x := ⟨_, rfl⟩
      rw [hpb] at y2 hrb
      obtain ⟨nb, hnb⟩ : ∃ x, nB k = x := ⟨_, rfl⟩
      rw [hnb] at y2 hrb hlb
      obtain ⟨kb, hkb⟩ : ∃ x, kB k = x := ⟨_, rfl⟩
      rw [hkb] at y2
      obtain ⟨fa, hfa⟩ : ∃ x, La k = x := ⟨_, rfl⟩
      rw [hfa] at hra
      obtain ⟨fb, hfb⟩ : ∃ x, Lb k = x := ⟨_, rfl⟩
      rw [hfb] at hrb
      obtain ⟨rb, hrbe⟩ : ∃ x, (rowS nA nB La Lb) k = x := ⟨_, rfl⟩
      have HSM := Lib.hid hrbe
      have HRK2 : Hid ((decide (na = nb) && allTo (fun i => decide (fa i = fb i)) na) = rb) := Lib.hid (by rw [← hrbe, HRK.out, hna, hnb, hfa, hfb])
      clear hrbe
      clear HRK hpa hna hka hpb hnb hkb hfa hfb
      go_upto_region 6 with fail
      refine wp_region_ext_mix 9 [(false, 0), (false, 1), (false, 2), (false, 3), (false, 4), (false, 5), (false, 6), (false, 7), (true, 8)] (by kernel_rfl) (by kernel_rfl) (by intro d _ _ _ _ h; cases d <;> exact h) ?_
      repeat (refine mix_quiet rfl ?_; go_big_quiet_step (fail); refine wpQuiet_nil ?_)
      refine mix_loud rfl ?_
      go_wp2_with fail
      refine (ints_eq pa pb ka kb na nb fa fb W.drew hra hrb hla hlb).mono ?_
      rintro e W1 ⟨rfl, hx⟩
      rw [HRK2.out]
      have X1 := ex_trans DD hx
      have hb4 := ex_trans hb X1
      go_wp2_with fail
      refine ⟨inEx X1, ?_⟩
      refine mix_nil (r := [_]) rfl ?_
      cases rb
      · have HF : Hid (sameB n n nA nB La Lb = false) := Lib.hid (by unfold sameB; rw [allTo_false (f := (rowS nA nB La Lb)) hlt HSM.out, Bool.and_false])
        go_wp2
        go_ret
        exact ⟨ret_bool HF.out.symm, hb4⟩
      · have HO2 : Hid (∀ j, j < k + 1 → (rowS nA nB La Lb) j = true) := Lib.hid (fun j hj => by
          rcases Nat.lt_succ_iff_lt_or_eq.1 hj with h | h
          · exact HO.out j h
          · subst h; exact HSM.out)
        go_wp2_with fail
        refine ⟨⟨⟨k + 1, by omega, hb4, HO2, exFrame (by kernel_rfl)⟩⟩, ?_⟩
        show n - (intOf (.int .i64 ((k : Int) + 1))).toNat < n - (intOf (.int .i64 (k : Int))).toNat
        simp [intOf]
        omega
    · obtain rfl : k = n := by omega
      have HF : Hid (sameB k k nA nB La Lb = true) := Lib.hid (by unfold sameB; rw [decide_eq_true (rfl : k = k), (allTo_iff (f := (rowS nA nB La Lb))).2 HO.out]; rfl)
      go_wp2
      go_ret
      exact ⟨ret_bool HF.out.symm, hb⟩
  · have h1 : ((n : Int) != (m : Int)) = true := by rw [bne_iff_ne]; omega
    have HF : Hid (sameB n m nA nB La Lb = false) := Lib.hid (by unfold sameB; rw [decide_eq_false h]; rfl)
    clear h
    go_enter Tryz.func11, Tryz.ntmps11
    go_wp2
    go_ret
    exact ⟨ret_bool HF.out.symm, Below.refl _ _⟩
end Go.Proofs.YthihdiilokdidaaGreat
end

section
namespace Go.Proofs.YthihdiilokdidaaGreat
open Go.RowKit Go.ChangeShapes Go.WideShapes Go.Deep Go.ChangeAt
theorem list4 {α : Type} {l : List α} (h : l.length = 4) : ∃ a b c d, l = [a, b, c, d] := by
  match l, h with
  | [a, b, c, d], _ => exact ⟨a, b, c, d, rfl⟩
section
variable {H : Type} {enc : TypeId × Value → H} {w : World} {base : Nat} {spare : Nat → Bool} {held : Bool} {r : Reach} {b0 : Nat}
set_option maxRecDepth 100000 in
theorem tr_rgT {fuel : Nat} {cs : List Value} {x : DataW H × List MemPlace} (h : DataW.trod enc Tryz.prog w base spare held fuel 57 cs = some x) : ∃ r : Rg, cs = cR r := by
  obtain ⟨xs, n, _, _, hc, hxl, hf⟩ := DataW.trod_struct Tryz.underlying57 h
  have hcs : cs.length = 2 := hc.trans (by kernel_rfl)
  obtain ⟨c0, c1, rfl⟩ := list2 hcs
  have hl : xs.length = 2 := hxl.trans rfl
  obtain ⟨y0, e0⟩ := some_of (l := xs) (i := 0) (by omega)
  obtain ⟨y1, e1⟩ := some_of (l := xs) (i := 1) (by omega)
  have h0 := fld hf (i := 0) 3 0 1 rfl rfl rfl (by kernel_rfl) e0
  have h1 := fld hf (i := 1) 3 1 1 rfl rfl rfl (by kernel_rfl) e1
  simp only [List.drop_zero, List.drop_succ_cons, List.take_succ_cons, List.take_zero] at h0 h1
  obtain ⟨a0, g0, _⟩ := tr_int Tryz.underlying3 h0
  injection g0 with g0 _
  obtain ⟨a1, g1, _⟩ := tr_int Tryz.underlying3 h1
  injection g1 with g1 _
  exact ⟨⟨a0, a1⟩, by rw [g0, g1]; rfl⟩
set_option maxRecDepth 100000 in
theorem tr_rmT {fuel : Nat} {cs : List Value} {x : DataW H × List MemPlace} (h : DataW.trod enc Tryz.prog w base spare held fuel 90 cs = some x) : ∃ r : Rm, cs = cRm r := by
  obtain ⟨xs, n, _, _, hc, hxl, hf⟩ := DataW.trod_struct Tryz.underlying90 h
  have hcs : cs.length = 4 := hc.trans (by kernel_rfl)
  obtain ⟨c0, c1, c2, c3, rfl⟩ := list4 hcs
  have hl : xs.length = 2 := hxl.trans rfl
  obtain ⟨y0, e0⟩ := some_of (l := xs) (i := 0) (by omega)
  obtain ⟨y1, e1⟩ := some_of (l := xs) (i := 1) (by omega)
  have h0 := fld hf (i := 0) 57 0 2 rfl rfl rfl (by kernel_rfl) e0
  have h1 := fld hf (i := 1) 57 2 2 rfl rfl rfl (by kernel_rfl) e1
  simp only [List.drop_zero, List.drop_succ_cons, List.take_succ_cons, List.take_zero] at h0 h1
  obtain ⟨a0, g0⟩ := tr_rgT h0
  unfold cR at g0
  injection g0 with g0 g0'
  injection g0' with g0' _
  obtain ⟨a1, g1⟩ := tr_rgT h1
  unfold cR at g1
  injection g1 with g1 g1'
  injection g1' with g1' _
  exact ⟨⟨a0, a1⟩, by rw [g0, g0', g1, g1']; rfl⟩
set_option maxRecDepth 100000 in
theorem tr_mvT {fuel : Nat} {cs : List Value} {x : DataW H × List MemPlace} (h : DataW.trod enc Tryz.prog w base spare held fuel 59 cs = some x) : ∃ r : Mv, cs = cMv r := by
  obtain ⟨xs, n, _, _, hc, hxl, hf⟩ := DataW.trod_struct Tryz.underlying59 h
  have hcs : cs.length = 5 := hc.trans (by kernel_rfl)
  obtain ⟨c0, c1, c2, c3, c4, rfl⟩ := list5 hcs
  have hl : xs.length = 4 := hxl.trans rfl
  obtain ⟨y0, e0⟩ := some_of (l := xs) (i := 0) (by omega)
  obtain ⟨y1, e1⟩ := some_of (l := xs) (i := 1) (by omega)
  obtain ⟨y2, e2⟩ := some_of (l := xs) (i := 2) (by omega)
  obtain ⟨y3, e3⟩ := some_of (l := xs) (i := 3) (by omega)
  have h0 := fld hf (i := 0) 3 0 1 rfl rfl rfl (by kernel_rfl) e0
  have h1 := fld hf (i := 1) 3 1 1 rfl rfl rfl (by kernel_rfl) e1
  have h2 := fld hf (i := 2) 3 2 1 rfl rfl rfl (by kernel_rfl) e2
  have h3 := fld hf (i := 3) 57 3 2 rfl rfl rfl (by kernel_rfl) e3
  simp only [List.drop_zero, List.drop_succ_cons, List.take_succ_cons, List.take_zero] at h0 h1 h2 h3
  obtain ⟨a0, g0, _⟩ := tr_int Tryz.underlying3 h0
  injection g0 with g0 _
  obtain ⟨a1, g1, _⟩ := tr_int Tryz.underlying3 h1
  injection g1 with g1 _
  obtain ⟨a2, g2, _⟩ := tr_int Tryz.underlying3 h2
  injection g2 with g2 _
  obtain ⟨a3, g3⟩ := tr_rgT h3
  unfold cR at g3
  injection g3 with g3 g3'
  injection g3' with g3' _
  exact ⟨⟨a0, a1, a2, a3⟩, by rw [g0, g1, g2, g3, g3']; rfl⟩
set_option maxRecDepth 100000 in
theorem tr_wgT {fuel : Nat} {cs : List Value} {x : DataW H × List MemPlace} (h : DataW.trod enc Tryz.prog w base spare held fuel 96 cs = some x) : ∃ r : Wg, cs = cWg r := by
  obtain ⟨xs, n, _, _, hc, hxl, hf⟩ := DataW.trod_struct Tryz.underlying96 h
  have hcs : cs.length = 4 := hc.trans (by kernel_rfl)
  obtain ⟨c0, c1, c2, c3, rfl⟩ := list4 hcs
  have hl : xs.length = 3 := hxl.trans rfl
  obtain ⟨y0, e0⟩ := some_of (l := xs) (i := 0) (by omega)
  obtain ⟨y1, e1⟩ := some_of (l := xs) (i := 1) (by omega)
  obtain ⟨y2, e2⟩ := some_of (l := xs) (i := 2) (by omega)
  have h0 := fld hf (i := 0) 3 0 1 rfl rfl rfl (by kernel_rfl) e0
  have h1 := fld hf (i := 1) 3 1 1 rfl rfl rfl (by kernel_rfl) e1
  have h2 := fld hf (i := 2) 57 2 2 rfl rfl rfl (by kernel_rfl) e2
  simp only [List.drop_zero, List.drop_succ_cons, List.take_succ_cons, List.take_zero] at h0 h1 h2
  obtain ⟨a0, g0, _⟩ := tr_int Tryz.underlying3 h0
  injection g0 with g0 _
  obtain ⟨a1, g1, _⟩ := tr_int Tryz.underlying3 h1
  injection g1 with g1 _
  obtain ⟨a2, g2⟩ := tr_rgT h2
  unfold cR at g2
  injection g2 with g2 g2'
  injection g2' with g2' _
  exact ⟨⟨a0, a1, a2⟩, by rw [g0, g1, g2, g2']; rfl⟩
set_option maxRecDepth 100000 in
theorem tr_rmsT {fuel : Nat} {cs : List Value} {x : DataW H × List MemPlace} (h : DataW.trod enc Tryz.prog w base spare held fuel 22 cs = some x) :
    ∃ A l cp, cs = [.slice A (l : List Rm).length cp] ∧ l.length ≤ cp ∧ cp ≤ maxLen ∧ SlAt w w.heap.size 4 A l.length (fRm l) := by
  obtain ⟨A, l, cp, h1, h2, h3, h4⟩ := tr_sl (sz := 4) (c := cRm) Tryz.underlying22 (by omega) (by kernel_rfl) (fun h => tr_rmT h) (fun _ => rfl) h
  refine ⟨A, l, cp, h1, h2, h3, h4 _ (fun k hk j hj => ?_)⟩
  have e := gRm_at hk
  match j, hj with
  | 0, _ => simp [cRm, fRm, e]
  | 1, _ => simp [cRm, fRm, e]
  | 2, _ => simp [cRm, fRm, e]
  | 3, _ => simp [cRm, fRm, e]
set_option maxRecDepth 100000 in
theorem tr_mvsT {fuel : Nat} {cs : List Value} {x : DataW H × List MemPlace} (h : DataW.trod enc Tryz.prog w base spare held fuel 23 cs = some x) :
    ∃ A l cp, cs = [.slice A (l : List Mv).length cp] ∧ l.length ≤ cp ∧ cp ≤ maxLen ∧ SlAt w w.heap.size 5 A l.length (fMv l) := by
  obtain ⟨A, l, cp, h1, h2, h3, h4⟩ := tr_sl (sz := 5) (c := cMv) Tryz.underlying23 (by omega) (by kernel_rfl) (fun h => tr_mvT h) (fun _ => rfl) h
  refine ⟨A, l, cp, h1, h2, h3, h4 _ (fun k hk j hj => ?_)⟩
  have e := gMv_at hk
  match j, hj with
  | 0, _ => simp [cMv, fMv, e]
  | 1, _ => simp [cMv, fMv, e]
  | 2, _ => simp [cMv, fMv, e]
  | 3, _ => simp [cMv, fMv, e]
  | 4, _ => simp [cMv, fMv, e]
set_option maxRecDepth 100000 in
theorem tr_wgsT {fuel : Nat} {cs : List Value} {x : DataW H × List MemPlace} (h : DataW.trod enc Tryz.prog w base spare held fuel 24 cs = some x) :
    ∃ A l cp, cs = [.slice A (l : List Wg).length cp] ∧ l.length ≤ cp ∧ cp ≤ maxLen ∧ SlAt w w.heap.size 4 A l.length (fWg l) := by
  obtain ⟨A, l, cp, h1, h2, h3, h4⟩ := tr_sl (sz := 4) (c := cWg) Tryz.underlying24 (by omega) (by kernel_rfl) (fun h => tr_wgT h) (fun _ => rfl) h
  refine ⟨A, l, cp, h1, h2, h3, h4 _ (fun k hk j hj => ?_)⟩
  have e := gWg_at hk
  match j, hj with
  | 0, _ => simp [cWg, fWg, e]
  | 1, _ => simp [cWg, fWg, e]
  | 2, _ => simp [cWg, fWg, e]
  | 3, _ => simp [cWg, fWg, e]
structure Lx where
  l : List Int
  A : Option Addr
  c : Nat
instance : Inhabited Lx := ⟨⟨[], none, 0⟩⟩
def cLx (x : Lx) : List Value := [.slice x.A x.l.length x.c]
set_option maxRecDepth 100000 in
theorem open_worksT {v : Value} {d : DataW H} {p : List MemPlace} (hv : Value.okWide Tryz.prog w r b0 26 v) (h : DataW.Trod enc Tryz.prog w base spare held 26 v d p) :
    ∃ (s : Ws) (Ar Am Aw : Option Addr) (cr cm cw : Nat), v = .agg #[.slice Ar s.rooms.length cr, .int .i64 s.days, .slice Am s.moves.length cm, .slice Aw s.wgs.length cw] ∧ (s.rooms.length ≤ maxLen ∧ s.moves.length ≤ maxLen ∧ s.wgs.length ≤ maxLen) ∧ WsIn w w.heap.size s Ar Am Aw := by
  obtain ⟨cs, rfl, hsz⟩ := okWide_struct Tryz.underlying26 hv
  obtain ⟨l⟩ := cs
  obtain ⟨c0, c1, c2, c3, rfl⟩ := list4 (l := l) (hsz.trans (by kernel_rfl))
  obtain ⟨fuel, hfu⟩ := h
  obtain ⟨xs, n, _, _, hc, hxl, hf⟩ := DataW.trod_struct Tryz.underlying26 hfu
  have hl : xs.length = 4 := hxl.trans rfl
  obtain ⟨y0, e0⟩ := some_of (l := xs) (i := 0) (by omega)
  obtain ⟨y1, e1⟩ := some_of (l := xs) (i := 1) (by omega)
  obtain ⟨y2, e2⟩ := some_of (l := xs) (i := 2) (by omega)
  obtain ⟨y3, e3⟩ := some_of (l := xs) (i := 3) (by omega)
  have h0 := fld hf (i := 0) 22 0 1 rfl rfl rfl (by kernel_rfl) e0
  have h1 := fld hf (i := 1) 3 1 1 rfl rfl rfl (by kernel_rfl) e1
  have h2 := fld hf (i := 2) 23 2 1 rfl rfl rfl (by kernel_rfl) e2
  have h3 := fld hf (i := 3) 24 3 1 rfl rfl rfl (by kernel_rfl) e3
  simp only [Value.cells, List.drop_zero, List.drop_succ_cons, List.take_succ_cons, List.take_zero] at h0 h1 h2 h3
  obtain ⟨A0, l0, c0', g0, p0, p0', q0⟩ := tr_rmsT h0
  injection g0 with g0 _
  obtain ⟨u1, g1, _⟩ := tr_int Tryz.underlying3 h1
  injection g1 with g1 _
  obtain ⟨A2, l2, c2', g2, p2, p2', q2⟩ := tr_mvsT h2
  injection g2 with g2 _
  obtain ⟨A3, l3, c3', g3, p3, p3', q3⟩ := tr_wgsT h3
  injection g3 with g3 _
  exact ⟨⟨l0, u1, l2, l3⟩, A0, A2, A3, c0', c2', c3', by rw [g0, g1, g2, g3], ⟨Nat.le_trans p0 p0', Nat.le_trans p2 p2', Nat.le_trans p3 p3'⟩, ⟨q0, q2, q3⟩⟩
end
end Go.Proofs.YthihdiilokdidaaGreat
end

section
namespace Go.Proofs.YthihdiilokdidaaGreat
open Go.RowKit
attribute [local go_sem] Ex.cell? Ex.frozen? Gx.cell?

set_option maxHeartbeats 800000 in
theorem word_any (A : Option Addr) (c : Nat) (l : List Int) (at_ : Int) (w : World) (hA : SlAt w w.heap.size 1 A l.length (fU l)) (hw : ∀ k, k < l.length → 0 ≤ gI l k ∧ gI l k ≤ 65535) (h0 : 0 ≤ at_) (h1 : at_ ≤ 1000) (hl : l.length ≤ maxLen) :
    Calls Tryz.prog 13 #[.slice A l.length c, .int .i64 at_] w fun e w' => (∃ n : Int, e = .returned (.int .i64 n) ∧ 0 ≤ n ∧ n ≤ 65535) ∧ Below w.heap.size w w' := by
  unfold maxLen at hl
  by_cases h : l.length = 0
  · have HL := Lib.hid h
    clear h
    go_enter Tryz.func13, Tryz.ntmps13
    rw [HL.out]
    go_wp2
    go_ret
    exact ⟨⟨0, rfl, by omega, by omega⟩, Below.refl _ _⟩
  · have hk : (at_ % (l.length : Int)).toNat < l.length := by
      have := Int.emod_lt_of_pos at_ (show (0 : Int) < (l.length : Int) by omega)
      have := Int.emod_nonneg at_ (show (l.length : Int) ≠ 0 by omega)
      omega
    have hr0 := Int.emod_nonneg at_ (show (l.length : Int) ≠ 0 by omega)
    have hr1 := Int.emod_lt_of_pos at_ (show (0 : Int) < (l.length : Int) by omega)
    obtain ⟨m, hm⟩ : ∃ m : Nat, at_ % (l.length : Int) = (m : Int) := ⟨(at_ % (l.length : Int)).toNat, by omega⟩
    have hmk : m < l.length := by omega
    obtain ⟨b, off, rfl, hb, hc⟩ := IsWords.at_ hA hmk
    have hv := hw _ hmk
    have e0 : ((l.length : Int) == 0) = false := by simpa using h
    have e0' : (l.length == 0) = false := by simpa using h
    have h1l : (1 : Int) ≤ (l.length : Int) := by omega
    have e2 : IntKind.i64.wrap (gI l m) = gI l m := IntWalk.i64_in _ (by omega)
    clear hk hr0 hr1
    go_enter Tryz.func13, Tryz.ntmps13
    go_wp2
    go_ret
    exact ⟨⟨_, rfl, hv.1, hv.2⟩, Below.refl _ _⟩


set_option maxHeartbeats 800000 in
theorem picked_any (lo hi n : Int) (w : World) (h0 : 0 ≤ n) (h1 : n ≤ 65535) (hl : -100000 ≤ lo) (hlh : lo ≤ hi) (hh : hi ≤ 100000) :
    Calls Tryz.prog 47 #[.agg #[.int .i64 lo, .int .i64 hi], .int .i64 n] w fun e w' => (∃ x : Int, e = .returned (.int .i64 x) ∧ lo ≤ x ∧ x ≤ hi) ∧ Below w.heap.size w w' := by
  have hb := ex_alloc (Below.refl w.heap.size w) (.cells #[.int .i64 lo, .int .i64 hi] 57)
  by_cases c0 : n % 4 = 0
  · have e0 : (n % 4 == 0) = true := by simp [c0]
    go_enter Tryz.func47, Tryz.ntmps47
    go_wp2
    go_ret
    exact ⟨⟨lo, rfl, by omega, by omega⟩, hb⟩
  have e0 : (n % 4 == 0) = false := by simp [c0]
  by_cases c1 : n % 4 = 1
  · have e1 : (n % 4 == 1) = true := by simp [c1]
    go_enter Tryz.func47, Tryz.ntmps47
    go_wp2
    go_ret
    exact ⟨⟨hi, rfl, by omega, by omega⟩, hb⟩
  have e1 : (n % 4 == 1) = false := by simp [c1]
  clear c0 c1
  go_enter Tryz.func47, Tryz.ntmps47
  go_wp2
  have k0 : (hi - lo + 1 == 0) = false := by rw [beq_eq_false_iff_ne]; omega
  have k1 : IntKind.i64.wrap (hi - lo) = hi - lo := IntWalk.i64_in _ (by omega)
  have k2 : IntKind.i64.wrap (hi - lo + 1) = hi - lo + 1 := IntWalk.i64_in _ (by omega)
  have k3 : IntKind.i64.wrap (n.tdiv 4) = n / 4 := by rw [Int.tdiv_eq_ediv_of_nonneg h0]; exact IntWalk.i64_in _ (by omega)
  have r0 : 0 ≤ (n / 4) % (hi - lo + 1) := Int.emod_nonneg _ (by omega)
  have r1 : (n / 4) % (hi - lo + 1) < hi - lo + 1 := Int.emod_lt_of_pos _ (by omega)
  have k4 : IntKind.i64.wrap ((n / 4).tmod (hi - lo + 1)) = (n / 4) % (hi - lo + 1) := by rw [Int.tmod_eq_emod_of_nonneg (by omega)]; exact IntWalk.i64_in _ (by omega)
  have k5 : IntKind.i64.wrap (lo + (n / 4) % (hi - lo + 1)) = lo + (n / 4) % (hi - lo + 1) := IntWalk.i64_in _ (by omega)
  refine wp_region_ext (by kernel_rfl) (by kernel_rfl) ?_
  repeat (any_goals (go_big_quiet_step (fail)))
  refine wpQuiet_nil ?_; intro _ hw'; obtain ⟨X, rfl⟩ := hw'
  go_wp2
  go_ret
  exact ⟨⟨_, rfl, by omega, by omega⟩, ex_trans hb X.h⟩

end Go.Proofs.YthihdiilokdidaaGreat
end

/- Spill's reference: Comes, Play (walks). · Spill's reference: IsTruth, Has, Agrees (walks). · Spill's reference: Has, Agrees (walks). · Spill's laws: readings of arguments: works, truths, books, teams, lists. -/
import Derived.Test.YthihdiilokdidaaM12
import Derived.Test.YthihdiilokdidaaM1
set_option linter.unusedVariables false
set_option linter.unusedSimpArgs false
set_option linter.unusedSectionVars false
section
namespace Go.Proofs.Ythihdiilokdidaa
open Go.RowKit
attribute [local go_sem] Ex.cell? Ex.frozen?

set_option maxRecDepth 100000 in
set_option maxHeartbeats 3200000 in
theorem Comes_ref (s : Ws) (Ar Am Aw : Option Addr) (cr cm cw : Nat) (w : World) (hs : WsIn w w.heap.size s Ar Am Aw) (hw : WoOk s.wo) (gs : List Int) (Ag : Option Addr) (n cg : Nat) (hg : SlAt w w.heap.size 1 Ag n (fI gs)) (hn : s.moves.length ≤ n) (hb : ∀ i, i < s.moves.length → 0 ≤ gI gs i ∧ gI gs i ≤ 2000) (r d : Int) :
    Calls Try.prog 86 #[.agg #[.slice Ar s.rooms.length cr, .int .i64 s.days, .slice Am s.moves.length cm, .slice Aw s.wgs.length cw], .slice Ag n cg, .int .i64 r, .int .i64 d] w fun e w' => e = .returned (.int .i64 (comes s.wo (gI gs) r d s.moves.length)) ∧ Below w.heap.size w w' := by
  have hml : s.moves.length ≤ 12 := hw.len.2.2.1
  have hgr := hg
  clear hg
  have hb1 := ex_alloc (Below.refl w.heap.size w) (.cells #[.slice Ar s.rooms.length cr, .int .i64 s.days, .slice Am s.moves.length cm, .slice Aw s.wgs.length cw] 26)
  have q0 : Blk (w.alloc (.cells #[.slice Ar s.rooms.length cr, .int .i64 s.days, .slice Am s.moves.length cm, .slice Aw s.wgs.length cw] 26)) w.heap.size 26 #[.slice Ar s.rooms.length cr, .int .i64 s.days, .slice Am s.moves.length cm, .slice Aw s.wgs.length cw] := Blk.new _ _ _
  have HW := Lib.hid hw
  clear hw
  go_enter Try.func86, Try.ntmps86
  go_wp2_with fail
  generalize w.alloc (.cells #[.slice Ar s.rooms.length cr, .int .i64 s.days, .slice Am s.moves.length cm, .slice Aw s.wgs.length cw] 26) = V at *
  refine wp_loop (fun a W => Rel (fun a W => ∃ (k : Nat) (cc : Int), k ≤ s.moves.length ∧ Below w.heap.size w W ∧ Blk W w.heap.size 26 #[.slice Ar s.rooms.length cr, .int .i64 s.days, .slice Am s.moves.length cm, .slice Aw s.wgs.length cw] ∧ Hid (comes s.wo (gI gs) r d k = cc) ∧ ∃ u : Nat → Value, a = ⟨List.toArray (u 0 :: .slice Ag n cg :: .int .i64 r :: .int .i64 d :: .pointer (some ⟨w.heap.size, 0, none⟩) :: u 5 :: u 6 :: u 7 :: u 8 :: .int .i64 cc :: .int .i64 (k : Int) :: u 11 :: u 12 :: u 13 :: u 14 :: u 15 :: u 16 :: u 17 :: u 18 :: u 19 :: u 20 :: u 21 :: u 22 :: u 23 :: u 24 :: u 25 :: u 26 :: u 27 :: u 28 :: u 29 :: u 30 :: u 31 :: u 32 :: u 33 :: u 34 :: u 35 :: u 36 :: u 37 :: u 38 :: u 39 :: u 40 :: u 41 :: u 42 :: u 43 :: u 44 :: u 45 :: u 46 :: u 47 :: u 48 :: u 49 :: u 50 :: u 51 :: u 52 :: u 53 :: u 54 :: []), []⟩) a W) (fun a _ => s.moves.length - (intOf (a.tmps.getD 10 undef)).toNat) ⟨⟨0, 0, by omega, hb1, q0, Lib.hid rfl, exFrame (by kernel_rfl)⟩⟩ ?_
  clear hb1 q0 V
  rintro a W ⟨⟨k, cc, hk, hb1, q0, HC, u, rfl⟩⟩
  have l0 := q0.lt
  by_cases hlt : k < s.moves.length
  · obtain ⟨br, orr, rfl, hbr, r0, r1, r2, r3, r4⟩ := IsMvs.at_ (hs.moves.below hb1) hlt
    obtain ⟨bg, og, rfl, hbg, g0⟩ := IsInts.at_ (hgr.below hb1) (show k < n by omega)
    have hkn : (k : Int) < (s.moves.length : Int) := by omega
    have hkg : (k : Int) < (n : Int) := by omega
    have hszW := hb1.size
    have lbr : br < W.heap.size := by omega
    have lbg : bg < W.heap.size := by omega
    have hcb := comes_bd s.wo (G := gI gs) r d k (fun i hi => hb i (by omega))
    rw [HC.out] at hcb
    have hgb := hb k hlt
    have hcs := comes_succ s.wo (gI gs) r d k
    rw [HC.out] at hcs
    obtain ⟨e0, he0⟩ : ∃ x, (gMv s.moves k).day = x := ⟨_, rfl⟩
    rw [he0] at r0
    obtain ⟨e1, he1⟩ : ∃ x, (gMv s.moves k).src = x := ⟨_, rfl⟩
    rw [he1] at r1
    obtain ⟨e2, he2⟩ : ∃ x, (gMv s.moves k).dst = x := ⟨_, rfl⟩
    rw [he2] at r2
    obtain ⟨e3, he3⟩ : ∃ x, (gMv s.moves k).g.lo = x := ⟨_, rfl⟩
    rw [he3] at r3
    obtain ⟨e4, he4⟩ : ∃ x, (gMv s.moves k).g.hi = x := ⟨_, rfl⟩
    rw [he4] at r4
    rw [show gMv s.wo.moves k = gMv s.moves k from rfl, he0, he1, he2] at hcs
    obtain ⟨gv, hgv⟩ : ∃ x, gI gs k = x := ⟨_, rfl⟩
    rw [hgv] at hcs g0 hgb
    have HCS := Lib.hid hcs
    clear hcs he0 he1 he2 he3 he4 hgv
    have a0 : W.cell? ⟨w.heap.size, 0, none⟩ = some (.slice Ar s.rooms.length cr) := q0.cell 0
    have a1 : W.cell? ⟨w.heap.size, 1, none⟩ = some (.int .i64 s.days) := q0.cell 1
    have a2 : W.cell? ⟨w.heap.size, 2, none⟩ = some (.slice (some ⟨br, orr, none⟩) s.moves.length cm) := q0.cell 2
    have a3 : W.cell? ⟨w.heap.size, 3, none⟩ = some (.slice Aw s.wgs.length cw) := q0.cell 3
    by_cases h1 : e0 = d
    · have bh1 : (e0 != d) = false := by simp [h1]
      have Hh1 := Lib.hid h1
      clear h1
      by_cases h2 : e2 = r
      · have bh2 : (e2 == r) = true := by simp [h2]
        have Hh2 := Lib.hid h2
        clear h2
        by_cases h3 : e1 = r
        · have bh3 : (e1 == r) = true := by simp [h3]
          have Hh3 := Lib.hid h3
          clear h3
          have HC2 : Hid (comes s.wo (gI gs) r d (k + 1) = cc) := Lib.hid (by rw [HCS.out]; rw [if_pos Hh1.out, if_pos Hh2.out, if_pos Hh3.out]; omega)
          go_wp2_with fail
          refine ⟨⟨⟨k + 1, cc, by omega, hb1, q0, HC2, exFrame (by kernel_rfl)⟩⟩, ?_⟩
          show s.moves.length - (intOf (.int .i64 ((k : Int) + 1))).toNat < s.moves.length - (intOf (.int .i64 (k : Int))).toNat
          simp [intOf]
          omega
        · have bh3 : (e1 == r) = false := by simp [h3]
          have Hh3 := Lib.hid h3
          clear h3
          have HC2 : Hid (comes s.wo (gI gs) r d (k + 1) = cc + gv) := Lib.hid (by rw [HCS.out]; rw [if_pos Hh1.out, if_pos Hh2.out, if_neg Hh3.out]; omega)
          go_wp2_with fail
          refine ⟨⟨⟨k + 1, cc + gv, by omega, hb1, q0, HC2, exFrame (by kernel_rfl)⟩⟩, ?_⟩
          show s.moves.length - (intOf (.int .i64 ((k : Int) + 1))).toNat < s.moves.length - (intOf (.int .i64 (k : Int))).toNat
          simp [intOf]
          omega
      · have bh2 : (e2 == r) = false := by simp [h2]
        have Hh2 := Lib.hid h2
        clear h2
        by_cases h3 : e1 = r
        · have bh3 : (e1 == r) = true := by simp [h3]
          have Hh3 := Lib.hid h3
          clear h3
          have HC2 : Hid (comes s.wo (gI gs) r d (k + 1) = cc - gv) := Lib.hid (by rw [HCS.out]; rw [if_pos Hh1.out, if_neg Hh2.out, if_pos Hh3.out]; omega)
          go_wp2_with fail
          refine ⟨⟨⟨k + 1, cc - gv, by omega, hb1, q0, HC2, exFrame (by kernel_rfl)⟩⟩, ?_⟩
          show s.moves.length - (intOf (.int .i64 ((k : Int) + 1))).toNat < s.moves.length - (intOf (.int .i64 (k : Int))).toNat
          simp [intOf]
          omega
        · have bh3 : (e1 == r) = false := by simp [h3]
          have Hh3 := Lib.hid h3
          clear h3
          have HC2 : Hid (comes s.wo (gI gs) r d (k + 1) = cc) := Lib.hid (by rw [HCS.out]; rw [if_pos Hh1.out, if_neg Hh2.out, if_neg Hh3.out]; omega)
          go_wp2_with fail
          refine ⟨⟨⟨k + 1, cc, by omega, hb1, q0, HC2, exFrame (by kernel_rfl)⟩⟩, ?_⟩
          show s.moves.length - (intOf (.int .i64 ((k : Int) + 1))).toNat < s.moves.length - (intOf (.int .i64 (k : Int))).toNat
          simp [intOf]
          omega
    · have bh1 : (e0 != d) = true := by simp [h1]
      have Hh1 := Lib.hid h1
      clear h1
      have HC2 : Hid (comes s.wo (gI gs) r d (k + 1) = cc) := Lib.hid (by rw [HCS.out]; rw [if_neg Hh1.out]; omega)
      go_wp2_with fail
      refine ⟨⟨⟨k + 1, cc, by omega, hb1, q0, HC2, exFrame (by kernel_rfl)⟩⟩, ?_⟩
      show s.moves.length - (intOf (.int .i64 ((k : Int) + 1))).toNat < s.moves.length - (intOf (.int .i64 (k : Int))).toNat
      simp [intOf]
      omega
  · have a0 : W.cell? ⟨w.heap.size, 0, none⟩ = some (.slice Ar s.rooms.length cr) := q0.cell 0
    have a1 : W.cell? ⟨w.heap.size, 1, none⟩ = some (.int .i64 s.days) := q0.cell 1
    have a2 : W.cell? ⟨w.heap.size, 2, none⟩ = some (.slice Am s.moves.length cm) := q0.cell 2
    have a3 : W.cell? ⟨w.heap.size, 3, none⟩ = some (.slice Aw s.wgs.length cw) := q0.cell 3
    obtain rfl : k = s.moves.length := by omega
    go_wp2
    go_ret
    exact ⟨ret_int HC.out.symm, hb1⟩
set_option maxRecDepth 100000 in
set_option maxHeartbeats 6400000 in
theorem Play_ref (s : Ws) (Ar Am Aw : Option Addr) (cr cm cw : Nat) (w : World) (hs : WsIn w w.heap.size s Ar Am Aw) (hw : WoOk s.wo) (hd : s.days = (s.wo.days : Int)) (t : Tt) (Af Av Ag : Option Addr) (cf cv cg : Nat) (rV : Nat → Option Addr) (rcV : Nat → Nat) (ht : TtIn w w.heap.size t Af Av Ag rV rcV) (hv : truT s t = true) :
    Calls Try.prog 55 #[.agg #[.slice Ar s.rooms.length cr, .int .i64 s.days, .slice Am s.moves.length cm, .slice Aw s.wgs.length cw], .agg #[.slice Af t.fs.length cf, .slice Av t.vs.length cv, .slice Ag t.gs.length cg]] w fun e w' => (∃ A c rA rc, e = .returned (.tuple #[.slice A s.rooms.length c, .bool (canT s t)]) ∧ MatIn w' w'.heap.size A s.rooms.length s.wo.days (stk s.wo t.F t.V t.G) rA rc) ∧ Below w.heap.size w w' := by
  obtain ⟨⟨hl1, hl2, hl3⟩, hrl, htf⟩ := (truT_iff hd).1 hv
  have HDs := Lib.hid hd
  clear hd hv
  obtain ⟨n1, hn1⟩ : ∃ n, t.fs.length = n := ⟨_, rfl⟩
  obtain ⟨n2, hn2⟩ : ∃ n, t.vs.length = n := ⟨_, rfl⟩
  obtain ⟨n3, hn3⟩ : ∃ n, t.gs.length = n := ⟨_, rfl⟩
  have hfs := ht.fs
  have hvs := ht.vs
  have hrow := ht.row
  have hgs := ht.gs
  rw [hn1] at hfs hl1 ⊢
  rw [hn2] at hvs hrow hl2 ⊢
  rw [hn3] at hgs hl3 ⊢
  have HL1 := Lib.hid hl1
  have HL2 := Lib.hid hl2
  have HL3 := Lib.hid hl3
  have HRL := Lib.hid hrl
  have HTF := Lib.hid htf
  clear hl1 hl2 hl3 hrl htf hn1 hn2 hn3 ht
  obtain ⟨D, hD⟩ : ∃ D, s.wo.days = D := ⟨_, rfl⟩
  have hD6 : 1 ≤ D ∧ D ≤ 6 := by have := hw.days; omega
  have hr3 : 0 < s.rooms.length ∧ s.rooms.length ≤ 3 := ⟨hw.len.1, hw.len.2.1⟩
  have HD := Lib.hid hD
  have HSD : Hid (s.days = (D : Int)) := Lib.hid (by rw [HDs.out, hD])
  clear hD
  obtain ⟨i1, hi1, hy0, hy1, hy2⟩ := info_parts ints_info2
  obtain ⟨i2, hi2, hz0, hz1, hz2⟩ := info_parts int_info
  have hb1 := ex_alloc (ex_alloc (Below.refl w.heap.size w) (.cells #[.slice Ar s.rooms.length cr, .int .i64 s.days, .slice Am s.moves.length cm, .slice Aw s.wgs.length cw] 26)) (.cells #[.slice Af n1 cf, .slice Av n2 cv, .slice Ag n3 cg] 31)
  have q0 : Blk ((w.alloc (.cells #[.slice Ar s.rooms.length cr, .int .i64 s.days, .slice Am s.moves.length cm, .slice Aw s.wgs.length cw] 26)).alloc (.cells #[.slice Af n1 cf, .slice Av n2 cv, .slice Ag n3 cg] 31)) w.heap.size 26 #[.slice Ar s.rooms.length cr, .int .i64 s.days, .slice Am s.moves.length cm, .slice Aw s.wgs.length cw] := (Blk.new _ _ _).alloc _
  have q1 : Blk ((w.alloc (.cells #[.slice Ar s.rooms.length cr, .int .i64 s.days, .slice Am s.moves.length cm, .slice Aw s.wgs.length cw] 26)).alloc (.cells #[.slice Af n1 cf, .slice Av n2 cv, .slice Ag n3 cg] 31)) (w.heap.size + 1) 31 #[.slice Af n1 cf, .slice Av n2 cv, .slice Ag n3 cg] := Blk.new' _ _ _ (by simp)
  go_enter Try.func55, Try.ntmps55
  go_upto_region 1 with fail
  show Code.wp _ _ _ _ ((w.alloc (.cells #[.slice Ar s.rooms.length cr, .int .i64 s.days, .slice Am s.moves.length cm, .slice Aw s.wgs.length cw] 26)).alloc (.cells #[.slice Af n1 cf, .slice Av n2 cv, .slice Ag n3 cg] 31))
  obtain ⟨p0, hp0⟩ : ∃ p, w.heap.size = p := ⟨_, rfl⟩
  rw [hp0] at q0 q1 ⊢
  have HP0 := Lib.hid hp0
  generalize (w.alloc (.cells #[.slice Ar s.rooms.length cr, .int .i64 s.days, .slice Am s.moves.length cm, .slice Aw s.wgs.length cw] 26)).alloc (.cells #[.slice Af n1 cf, .slice Av n2 cv, .slice Ag n3 cg] 31) = W1 at *
  clear hp0
  obtain ⟨B0, hB0⟩ : ∃ b, W1.heap.size = b := ⟨_, rfl⟩
  have hbs : p0 + 1 < B0 := by have := q1.lt; omega
  have hwb : w.heap.size ≤ B0 := by rw [HP0.out]; omega
  have a0 : W1.cell? ⟨p0, 0, none⟩ = some (.slice Ar s.rooms.length cr) := q0.cell 0
  have a1 : W1.cell? ⟨p0, 1, none⟩ = some (.int .i64 s.days) := q0.cell 1
  have a2 : W1.cell? ⟨p0, 2, none⟩ = some (.slice Am s.moves.length cm) := q0.cell 2
  have a3 : W1.cell? ⟨p0, 3, none⟩ = some (.slice Aw s.wgs.length cw) := q0.cell 3
  have l0 := q0.lt
  go_wp2_with fail
  refine wp_loop (fun a W => Rel (fun a W => ∃ k : Nat, k ≤ s.rooms.length ∧ (Below w.heap.size w W ∧ B0 ≤ W.heap.size ∧ Blk W p0 26 #[.slice Ar s.rooms.length cr, .int .i64 s.days, .slice Am s.moves.length cm, .slice Aw s.wgs.length cw] ∧ Blk W (p0 + 1) 31 #[.slice Af n1 cf, .slice Av n2 cv, .slice Ag n3 cg]) ∧ ∃ vo X, IOwn W B0 vo X ∧ Hid (X.map (fun x => x.2.2) = (List.range k).map fun r => (List.range D).map (stk s.wo t.F t.V t.G r)) ∧ ∃ u : Nat → Value, a = ⟨List.toArray (u 0 :: u 1 :: .pointer (some ⟨p0, 0, none⟩) :: .pointer (some ⟨p0 + 1, 0, none⟩) :: u 4 :: u 5 :: vo :: .bool (canTo s t k) :: .int .i64 (k : Int) :: u 9 :: u 10 :: u 11 :: u 12 :: u 13 :: u 14 :: u 15 :: u 16 :: u 17 :: u 18 :: u 19 :: u 20 :: u 21 :: u 22 :: u 23 :: u 24 :: u 25 :: u 26 :: u 27 :: u 28 :: u 29 :: u 30 :: u 31 :: u 32 :: u 33 :: u 34 :: u 35 :: u 36 :: u 37 :: u 38 :: u 39 :: u 40 :: u 41 :: u 42 :: u 43 :: u 44 :: u 45 :: u 46 :: u 47 :: u 48 :: u 49 :: u 50 :: u 51 :: u 52 :: u 53 :: u 54 :: u 55 :: u 56 :: u 57 :: u 58 :: u 59 :: u 60 :: u 61 :: []), []⟩) a W) (fun a _ => s.rooms.length - (intOf (a.tmps.getD 8 undef)).toNat) ⟨⟨0, by omega, ⟨hb1, by omega, q0, q1⟩, _, [], NOwn.nil, Lib.hid rfl, exFrame (by kernel_rfl)⟩⟩ ?_
  clear a0 a1 a2 a3 l0 q0 q1 hb1 hB0 W1
  rintro a Wk ⟨⟨k, hk, ⟨B1, hz1', q0, q1⟩, vo, X, hO, HX, u, rfl⟩⟩
  have a0 : Wk.cell? ⟨p0, 0, none⟩ = some (.slice Ar s.rooms.length cr) := q0.cell 0
  have a1 : Wk.cell? ⟨p0, 1, none⟩ = some (.int .i64 s.days) := q0.cell 1
  have a2 : Wk.cell? ⟨p0, 2, none⟩ = some (.slice Am s.moves.length cm) := q0.cell 2
  have a3 : Wk.cell? ⟨p0, 3, none⟩ = some (.slice Aw s.wgs.length cw) := q0.cell 3
  have l0 := q0.lt
  rw [HSD.out] at a1
  have b0 : Wk.cell? ⟨p0 + 1, 0, none⟩ = some (.slice Af n1 cf) := q1.cell 0
  have b1 : Wk.cell? ⟨p0 + 1, 1, none⟩ = some (.slice Av n2 cv) := q1.cell 1
  have b2 : Wk.cell? ⟨p0 + 1, 2, none⟩ = some (.slice Ag n3 cg) := q1.cell 2
  have l1 := q1.lt
  by_cases hlt : k < s.rooms.length
  · obtain ⟨bf, of, rfl, hbf, y0⟩ := IsInts.at_ (hfs.below B1) (show k < n1 by rw [HL1.out]; exact hlt)
    have hbfW : bf < Wk.heap.size := by have := B1.size; omega
    have hk1 : (k : Int) < (n1 : Int) := by rw [HL1.out]; omega
    have e7 : Hid (gI t.fs k = stk0 s.wo t.F t.V t.G k 0) := Lib.hid rfl
    have ec : Hid (canTo s t k = cBt s t k 0) := Lib.hid (cBt_zero s t k).symm
    go_wp2_with fail
    rw [e7.out, ec.out]
    obtain ⟨Bk, hBk⟩ : ∃ b, Wk.heap.size = b := ⟨_, rfl⟩
    have HBK := Lib.hid hBk
    rw [hBk] at hz1' hbfW
    clear hBk
    refine wp_loop (fun a W => Rel (fun a W => ∃ j : Nat, j ≤ D ∧ Below Wk.heap.size Wk W ∧ (∃ vl l, W.ownsRow Bk 3 1 vl l.length (l.flatMap cI1) ∧ Hid (l = (List.range j).map (stk s.wo t.F t.V t.G k)) ∧ ∃ u : Nat → Value, a = ⟨List.toArray (u 0 :: u 1 :: .pointer (some ⟨p0, 0, none⟩) :: .pointer (some ⟨p0 + 1, 0, none⟩) :: u 4 :: u 5 :: vo :: .bool (cBt s t k j) :: .int .i64 (k : Int) :: .int .i64 (stk0 s.wo t.F t.V t.G k j) :: vl :: .int .i64 (j : Int) :: u 12 :: u 13 :: u 14 :: u 15 :: u 16 :: u 17 :: u 18 :: u 19 :: u 20 :: u 21 :: u 22 :: u 23 :: u 24 :: u 25 :: u 26 :: u 27 :: u 28 :: u 29 :: u 30 :: u 31 :: u 32 :: u 33 :: u 34 :: u 35 :: u 36 :: u 37 :: u 38 :: u 39 :: u 40 :: u 41 :: u 42 :: u 43 :: u 44 :: u 45 :: u 46 :: u 47 :: u 48 :: u 49 :: u 50 :: u 51 :: u 52 :: u 53 :: u 54 :: u 55 :: u 56 :: u 57 :: u 58 :: u 59 :: u 60 :: u 61 :: []), []⟩)) a W) (fun a _ => D - (intOf (a.tmps.getD 11 undef)).toNat) ⟨⟨0, by omega, Below.refl _ _, _, [], ⟨rfl, .inl ⟨rfl, rfl⟩⟩, Lib.hid rfl, exFrame (by kernel_rfl)⟩⟩ ?_
    clear a0 a1 a2 a3 l0 b0 b1 b2 l1 y0
    rintro a W ⟨⟨j, hj, hfk, vl, l, ho, HL, u2, rfl⟩⟩
    have q0' := q0.below hfk q0.lt
    have q1' := q1.below hfk q1.lt
    have BW := ex_trans B1 hfk
    have hzW := hfk.size
    rw [HBK.out] at hzW
    have HLL : Hid (l.length = j) := Lib.hid (by rw [HL.out]; simp)
    rw [HLL.out] at ho
    have a0 : W.cell? ⟨p0, 0, none⟩ = some (.slice Ar s.rooms.length cr) := q0'.cell 0
    have a1 : W.cell? ⟨p0, 1, none⟩ = some (.int .i64 s.days) := q0'.cell 1
    have a2 : W.cell? ⟨p0, 2, none⟩ = some (.slice Am s.moves.length cm) := q0'.cell 2
    have a3 : W.cell? ⟨p0, 3, none⟩ = some (.slice Aw s.wgs.length cw) := q0'.cell 3
    have l0 := q0'.lt
    rw [HSD.out] at a1
    have b0 : W.cell? ⟨p0 + 1, 0, none⟩ = some (.slice (some ⟨bf, of, none⟩) n1 cf) := q1'.cell 0
    have b1 : W.cell? ⟨p0 + 1, 1, none⟩ = some (.slice Av n2 cv) := q1'.cell 1
    have b2 : W.cell? ⟨p0 + 1, 2, none⟩ = some (.slice Ag n3 cg) := q1'.cell 2
    have l1 := q1'.lt
    by_cases hlj : j < D
    · obtain ⟨bv, ov, rfl, hbv, z0⟩ := (hvs.below BW) (show 0 < n2 by rw [HL2.out]; omega)
      have z1 : W.cell? ⟨bv, ov + k, none⟩ = some (.slice (rV k) (gL t.vs k).length (rcV k)) := by have := z0 k 0 (by rw [HL2.out]; exact hlt) (by omega); rw [show ov + (k * 1 + 0) = ov + k by omega] at this; exact this
      rw [HRL.out k hlt, HD.out] at z1
      have hro := (hrow k (by rw [HL2.out]; exact hlt)).below BW
      rw [HRL.out k hlt, HD.out] at hro
      obtain ⟨bl, ol, hrv, hbl, v0⟩ := IsInts.at_ hro hlj
      rw [hrv] at z1
      have hbvW : bv < W.heap.size := by have := BW.size; omega
      have hblW : bl < W.heap.size := by have := BW.size; omega
      have hk2 : (k : Int) < (n2 : Int) := by rw [HL2.out]; omega
      clear z0 hro hrv
      obtain ⟨rc, hrc⟩ : ∃ x, rcV k = x := ⟨_, rfl⟩
      rw [hrc] at z1
      clear hrc
      have hsd := stk_day s.wo t.F t.V t.G k j
      have hb0 := stk0_bd hw HTF.out (r := k) hlt j (by rw [HD.out]; exact hj)
      have hb2 := stk0_bd hw HTF.out (r := k) hlt (j + 1) (by rw [HD.out]; omega)
      have hcb := comes_bd s.wo (G := t.G) k j s.moves.length (fun i hi => by have a := HTF.out.mov i hi; have b := hw.grams i hi; unfold inR at a; omega)
      have hm12 := hw.len.2.2.1
      have hm0 : s.wo.moves.length = s.moves.length := rfl
      have hvb := HTF.out.vap k j hlt (by rw [HD.out]; exact hlj)
      have hrb := hw.rooms k hlt
      unfold inR at hvb
      have hvq : t.V k j = gI (gL t.vs k) j := rfl
      rw [hvq] at hvb hsd
      rw [hm0] at hsd hm12
      have hb2' : stk0 s.wo t.F t.V t.G k (j + 1) = stk s.wo t.F t.V t.G k j := rfl
      rw [hb2'] at hb2
      obtain ⟨S0, hS0⟩ : ∃ x, stk0 s.wo t.F t.V t.G k j = x := ⟨_, rfl⟩
      obtain ⟨S1, hS1⟩ : ∃ x, stk s.wo t.F t.V t.G k j = x := ⟨_, rfl⟩
      obtain ⟨cc, hcc⟩ : ∃ x, comes s.wo t.G k j s.moves.length = x := ⟨_, rfl⟩
      obtain ⟨vv, hvv⟩ : ∃ x, gI (gL t.vs k) j = x := ⟨_, rfl⟩
      rw [hS0] at hsd hb0 ⊢
      rw [hS1] at hsd hb2
      rw [hcc] at hsd hcb
      rw [hvv] at hsd hvb v0
      have hvb2 : 0 ≤ vv ∧ vv ≤ 50 := by have a1 := hvb.1; have a2 := hvb.2; have b1 : s.wo.rooms = s.rooms := rfl; rw [b1] at hrb; rw [b1] at a1 a2; omega
      have hcb2 : -24000 ≤ cc ∧ cc ≤ 24000 := by omega
      have hjj : (j : Int) ≤ 6 := by omega
      have hS0b : -200000 ≤ S0 ∧ S0 ≤ 200000 := by omega
      have HSD2 := Lib.hid hsd
      have HS1 := Lib.hid hS1
      have HCC := Lib.hid hcc
      clear hvb hcb hsd hb2' hvq hb0 hb2 hrb hm0 hm12 hvv hS0 hS1 hcc
      go_upto_region 11 with fail
      have D0 := (Below.refl W.heap.size W).drew
      refine wp_region_ext_mix 17 [(false, 0), (false, 1), (false, 2), (false, 3), (false, 4), (false, 5), (false, 7), (false, 8), (false, 9), (false, 10), (false, 11), (false, 12), (false, 13), (false, 14), (true, 6), (false, 15), (false, 16)] (by kernel_rfl) (by kernel_rfl) (by intro d _ _ _ _ h; cases d <;> exact h) ?_
      repeat (refine mix_quiet rfl ?_; go_big_quiet_step (fail); refine wpQuiet_nil ?_)
      refine mix_loud rfl ?_
      go_wp2_with fail
      have hcm := Comes_ref s Ar Am Aw cr cm cw W.drew ((hs.below (ex_trans BW D0)).up (ex_trans BW D0).size) hw t.gs Ag n3 cg ((hgs.below (ex_trans BW D0)).up (ex_trans BW D0).size) (by rw [HL3.out]; exact Nat.le_refl _) (fun i hi => by have a := HTF.out.mov i hi; have b := hw.grams i hi; unfold inR at a; have e : t.G i = gI t.gs i := rfl; rw [← e]; omega) (k : Int) (j : Int)
      rw [HSD.out] at hcm
      refine hcm.mono ?_
      clear hcm
      rintro e Z1 ⟨rfl, hz1⟩
      rw [show comes s.wo (gI t.gs) k j s.moves.length = cc from HCC.out]
      have E1 := ex_trans D0 hz1
      go_wp2_with fail
      refine ⟨inEx E1, ?_⟩
      repeat (refine mix_quiet rfl ?_; go_big_quiet_step (fail); refine wpQuiet_nil ?_)
      refine mix_nil (r := [_]) rfl ?_
      have ho1 := own_below ho E1
      have hfk1 := ex_trans hfk E1
      clear D0 hz1 a0 a1 a2 a3 l0 b0 b1 b2 l1 z1 v0 q0' q1'
      have hS1e : S0 + (cc - vv) = S1 := HSD2.out.symm
      have hS1b : -300000 ≤ S1 ∧ S1 ≤ 300000 := by omega
      go_upto_region 12 with fail
      rw [hS1e]
      have HSE := Lib.hid hS1e
      clear hS1e
      have XI := ex_alloc (Below.refl Z1.heap.size Z1) (.cells #[.int .i64 S1] 3)
      have ho2 := own_below ho1 XI
      have c63 : j + 1 ≤ maxLen := by unfold maxLen; omega
      have cby : (j + 1) * 8 ≤ 140737488355328 := by omega
      have hbase : Bk ≤ (Z1.alloc (.cells #[.int .i64 S1] 3)).heap.size := by have := XI.size; have := E1.size; omega
      go_wp2_with (refine pause_at 50 rfl ?_)
      refine Paused.mk ?_
      refine wpList_append_lies _ rfl _ _ _ rfl Bk 3 i2 _ 1 8 Try.underlying28 hi2 hz0 hz1 hz2 rfl (by omega) vl _ _ rfl ho2 ⟨Z1.heap.size, 0, none⟩ 1 1 [.int .i64 S1] rfl rfl (World.news_of_block (heap_alloc_new Z1 _)) (by simp [Value.oneCell']) (by omega) c63 cby hbase (Z1.heap.size + 1) (by simp) ?_
      intro gg cap w1 hown' hgrow hat hlt'
      have hfw : Below Wk.heap.size Wk w1 := (ex_trans hfk1 XI).grown hgrow (ex_trans hfk1 XI).size (fun b hb => by have := own_ge ho2 hb; have := HBK.out; omega)
      have HOW := Lib.hid (own_push (f := cI1) (x := S1) (by rw [HLL.out]) hown')
      have HL2' : Hid (l ++ [S1] = (List.range (j + 1)).map (stk s.wo t.F t.V t.G k)) := Lib.hid (by rw [HL.out, List.range_succ, List.map_append, List.map_singleton, HS1.out])
      have HCS : Hid (cBt s t k (j + 1) = (cBt s t k j && decide (0 ≤ S1))) := Lib.hid (by rw [cBt_succ, HS1.out])
      have HSK : Hid (stk0 s.wo t.F t.V t.G k (j + 1) = S1) := Lib.hid HS1.out
      clear hown' hgrow hat hlt'
      cases hcb : cBt s t k j
      · have HCB := Lib.hid hcb
        clear hcb
        go_wp2_with fail
        refine ⟨⟨⟨j + 1, by omega, hfw, _, _, HOW.out, HL2', exFrame (by rw [HSK.out, HCS.out, HCB.out]; kernel_rfl)⟩⟩, ?_⟩
        show D - (intOf (.int .i64 ((j : Int) + 1))).toNat < D - (intOf (.int .i64 (j : Int))).toNat
        simp [intOf]
        omega
      · by_cases hS : 0 ≤ S1
        · have HCB := Lib.hid hcb
          clear hcb
          go_wp2_with fail
          refine ⟨⟨⟨j + 1, by omega, hfw, _, _, HOW.out, HL2', exFrame (by rw [HSK.out, HCS.out, HCB.out]; rw [decide_eq_true hS]; kernel_rfl)⟩⟩, ?_⟩
          show D - (intOf (.int .i64 ((j : Int) + 1))).toNat < D - (intOf (.int .i64 (j : Int))).toNat
          simp [intOf]
          omega
        · have HCB := Lib.hid hcb
          clear hcb
          go_wp2_with fail
          refine ⟨⟨⟨j + 1, by omega, hfw, _, _, HOW.out, HL2', exFrame (by rw [HSK.out, HCS.out, HCB.out]; rw [decide_eq_false (show ¬ (0 ≤ S1) by omega)]; kernel_rfl)⟩⟩, ?_⟩
          show D - (intOf (.int .i64 ((j : Int) + 1))).toNat < D - (intOf (.int .i64 (j : Int))).toNat
          simp [intOf]
          omega
    · obtain rfl : j = D := by omega
      have hO' := hO.below hfk
      have HXl : Hid (X.length = k) := Lib.hid (by have := congrArg List.length HX.out; simpa using this)
      rw [← HLL.out] at ho
      obtain ⟨A5, c5, rfl, _, _, hr5⟩ := lay_ints ho
      rw [HLL.out]
      have HCA : Hid (cBt s t k j = canTo s t (k + 1)) := Lib.hid (by rw [← HD.out]; exact cBt_all s t k)
      rw [HCA.out]
      have XL := ex_alloc (Below.refl W.heap.size W) (.cells #[.slice A5 j c5] 28)
      have y4 := own_below hO'.own XL
      have c63 : X.length + 1 ≤ maxLen := by rw [HXl.out]; unfold maxLen; omega
      have cby : (X.length + 1) * 24 ≤ 140737488355328 := by rw [HXl.out]; omega
      have hbase : B0 ≤ (W.alloc (.cells #[.slice A5 j c5] 28)).heap.size := by have := XL.size; omega
      clear a0 a2 a3 b0 b1 b2 l1
      go_wp2_with (refine pause_at 59 rfl ?_)
      refine Paused.mk ?_
      refine wpList_append_lies _ rfl _ _ _ rfl B0 28 i1 _ 1 24 Try.underlying29 hi1 hy0 hy1 hy2 rfl (by omega) vo _ _ rfl y4 ⟨W.heap.size, 0, none⟩ 1 1 [.slice A5 j c5] rfl rfl (World.news_of_block (heap_alloc_new W _)) (by simp [Value.oneCell']) (by omega) c63 cby hbase (W.heap.size + 1) (by simp) ?_
      intro gg cap w1 hown' hgrow hat hlt'
      have hgf := Fr.grown (R := fun b => B0 ≤ b) hgrow (fun b hb => .inl (own_ge y4 hb))
      have Bw : Below w.heap.size w w1 := (ex_trans BW XL).grown hgrow (ex_trans BW XL).size (fun b hb => by have := own_ge y4 hb; omega)
      have hN3 : IOwn w1 B0 (.slice (some ⟨gg, 0, none⟩) (X.length + 1) cap) (X ++ [((A5, c5, l) : IRow)]) := NOwn.push (hO'.below XL) hgrow (by decide) rfl (own_push (f := cIR) (x := ((A5, c5, l) : IRow)) rfl (by rw [show cIR ((A5, c5, l) : IRow) = [.slice A5 j c5] by unfold cIR; dsimp only; rw [HLL.out]]; exact hown')) (fun y hy => by
        obtain rfl := List.mem_singleton.1 hy
        exact (hr5.below XL).base (by omega))
      have HX2 : Hid ((X ++ [((A5, c5, l) : IRow)]).map (fun x => x.2.2) = (List.range (k + 1)).map fun r => (List.range j).map (stk s.wo t.F t.V t.G r)) := Lib.hid (by rw [List.map_append, HX.out, List.range_succ, List.map_append, List.map_singleton, List.map_singleton, HL.out])
      have q0w := (q0'.below XL q0'.lt).fr hgf (by omega)
      have q1w := (q1'.below XL q1'.lt).fr hgf (by omega)
      have hzw : B0 ≤ w1.heap.size := by have := hgrow.size; omega
      clear hown' hgrow hat hlt' hgf hr5 ho
      generalize X ++ [((A5, c5, l) : IRow)] = X2 at *
      go_wp2_with fail
      refine ⟨⟨⟨k + 1, by omega, ⟨Bw, hzw, q0w, q1w⟩, _, X2, hN3, HX2, exFrame (by kernel_rfl)⟩⟩, ?_⟩
      show s.rooms.length - (intOf (.int .i64 ((k : Int) + 1))).toNat < s.rooms.length - (intOf (.int .i64 (k : Int))).toNat
      simp [intOf]
      omega
  · obtain ⟨A, c, rA, rc, rfl, hR⟩ := hO.lays (n := k) HX.out
    obtain rfl : k = s.rooms.length := by omega
    go_wp2
    go_ret2
    exact ⟨⟨A, c, rA, rc, rfl, by rw [HD.out]; exact hR⟩, B1⟩
end Go.Proofs.Ythihdiilokdidaa
end

section
namespace Go.Proofs.Ythihdiilokdidaa
open Go.RowKit
attribute [local go_sem] Ex.cell? Ex.frozen?

section
variable {s : Ws} {t : Tt} {k : Nat}
theorem tru_len (h : lenT s t = false) : truT s t = false := by unfold truT; rw [h]; rfl
theorem tru_row (hk : k < s.rooms.length) (h : rowT s t k = false) : truT s t = false := by unfold truT; rw [allTo_false (f := rowT s t) hk h]; simp
theorem tru_mov (hk : k < s.moves.length) (h : movT s t.gs k = false) : truT s t = false := by unfold truT; rw [allTo_false (f := movT s t.gs) hk h]; simp
theorem tru_yes (h0 : lenT s t = true) (h1 : ∀ k, k < s.rooms.length → rowT s t k = true) (h2 : ∀ k, k < s.moves.length → movT s t.gs k = true) : truT s t = true := by unfold truT; rw [h0, allTo_iff.2 h1, allTo_iff.2 h2]; rfl
theorem len_false (h : ¬ (t.fs.length = s.rooms.length ∧ t.vs.length = s.rooms.length ∧ t.gs.length = s.moves.length)) : lenT s t = false := by
  cases hh : lenT s t
  · rfl
  · exact absurd (lenT_iff.1 hh) h
end
set_option maxRecDepth 100000 in
set_option maxHeartbeats 12800000 in
theorem IsTruth_ref (s : Ws) (Ar Am Aw : Option Addr) (cr cm cw : Nat) (w : World) (hs : WsIn w w.heap.size s Ar Am Aw) (hw : WoOk s.wo) (hd : s.days = (s.wo.days : Int)) (t : Tt) (Af Av Ag : Option Addr) (cf cv cg : Nat) (rV : Nat → Option Addr) (rcV : Nat → Nat) (ht : TtIn w w.heap.size t Af Av Ag rV rcV) :
    Calls Try.prog 54 #[.agg #[.slice Ar s.rooms.length cr, .int .i64 s.days, .slice Am s.moves.length cm, .slice Aw s.wgs.length cw], .agg #[.slice Af t.fs.length cf, .slice Av t.vs.length cv, .slice Ag t.gs.length cg]] w fun e w' => e = .returned (.bool (truT s t)) ∧ Below w.heap.size w w' := by
  have HDs := Lib.hid hd
  clear hd
  have hr3 : s.rooms.length ≤ 3 := hw.len.2.1
  have hm12 : s.moves.length ≤ 12 := hw.len.2.2.1
  obtain ⟨n1, hn1⟩ : ∃ n, t.fs.length = n := ⟨_, rfl⟩
  obtain ⟨n2, hn2⟩ : ∃ n, t.vs.length = n := ⟨_, rfl⟩
  obtain ⟨n3, hn3⟩ : ∃ n, t.gs.length = n := ⟨_, rfl⟩
  have hfs := ht.fs
  have hvs := ht.vs
  have hrow := ht.row
  have hgs := ht.gs
  rw [hn1] at hfs ⊢
  rw [hn2] at hvs hrow ⊢
  rw [hn3] at hgs ⊢
  have HN1 := Lib.hid hn1
  have HN2 := Lib.hid hn2
  have HN3 := Lib.hid hn3
  clear hn1 hn2 hn3 ht
  have hb1 := ex_alloc (ex_alloc (Below.refl w.heap.size w) (.cells #[.slice Ar s.rooms.length cr, .int .i64 s.days, .slice Am s.moves.length cm, .slice Aw s.wgs.length cw] 26)) (.cells #[.slice Af n1 cf, .slice Av n2 cv, .slice Ag n3 cg] 31)
  have q0 : Blk ((w.alloc (.cells #[.slice Ar s.rooms.length cr, .int .i64 s.days, .slice Am s.moves.length cm, .slice Aw s.wgs.length cw] 26)).alloc (.cells #[.slice Af n1 cf, .slice Av n2 cv, .slice Ag n3 cg] 31)) w.heap.size 26 #[.slice Ar s.rooms.length cr, .int .i64 s.days, .slice Am s.moves.length cm, .slice Aw s.wgs.length cw] := (Blk.new _ _ _).alloc _
  have q1 : Blk ((w.alloc (.cells #[.slice Ar s.rooms.length cr, .int .i64 s.days, .slice Am s.moves.length cm, .slice Aw s.wgs.length cw] 26)).alloc (.cells #[.slice Af n1 cf, .slice Av n2 cv, .slice Ag n3 cg] 31)) (w.heap.size + 1) 31 #[.slice Af n1 cf, .slice Av n2 cv, .slice Ag n3 cg] := Blk.new' _ _ _ (by simp)
  by_cases h0 : n1 = s.rooms.length
  rotate_left
  · have c0 : ((n1 : Int) != (s.rooms.length : Int)) = true := by rw [bne_iff_ne]; omega
    have HR : Hid (truT s t = false) := Lib.hid (tru_len (len_false (by rw [HN1.out, HN2.out, HN3.out]; rintro ⟨x, y, z⟩; exact h0 x)))
    clear h0
    go_enter Try.func54, Try.ntmps54
    go_wp2
    go_ret
    exact ⟨ret_bool HR.out.symm, hb1⟩
  have c0 : ((n1 : Int) != (s.rooms.length : Int)) = false := by simp [h0]
  have E0 := Lib.hid h0
  clear h0
  by_cases h1 : n2 = s.rooms.length
  rotate_left
  · have c1 : ((n2 : Int) != (s.rooms.length : Int)) = true := by rw [bne_iff_ne]; omega
    have HR : Hid (truT s t = false) := Lib.hid (tru_len (len_false (by rw [HN1.out, HN2.out, HN3.out]; rintro ⟨x, y, z⟩; exact h1 y)))
    clear h1
    go_enter Try.func54, Try.ntmps54
    go_wp2
    go_ret
    exact ⟨ret_bool HR.out.symm, hb1⟩
  have c1 : ((n2 : Int) != (s.rooms.length : Int)) = false := by simp [h1]
  have E1 := Lib.hid h1
  clear h1
  by_cases h2 : n3 = s.moves.length
  rotate_left
  · have c2 : ((n3 : Int) != (s.moves.length : Int)) = true := by rw [bne_iff_ne]; omega
    have HR : Hid (truT s t = false) := Lib.hid (tru_len (len_false (by rw [HN1.out, HN2.out, HN3.out]; rintro ⟨x, y, z⟩; exact h2 z)))
    clear h2
    go_enter Try.func54, Try.ntmps54
    go_wp2
    go_ret
    exact ⟨ret_bool HR.out.symm, hb1⟩
  have c2 : ((n3 : Int) != (s.moves.length : Int)) = false := by simp [h2]
  have E2 := Lib.hid h2
  clear h2
  have HLT : Hid (lenT s t = true) := Lib.hid (lenT_iff.2 ⟨by rw [HN1.out]; exact E0.out, by rw [HN2.out]; exact E1.out, by rw [HN3.out]; exact E2.out⟩)
  obtain ⟨D, hD⟩ : ∃ D, s.wo.days = D := ⟨_, rfl⟩
  have hD6 : 1 ≤ D ∧ D ≤ 6 := by have := hw.days; omega
  have HSD : Hid (s.days = (D : Int)) := Lib.hid (by rw [HDs.out, hD])
  clear hD
  go_enter Try.func54, Try.ntmps54
  go_wp2_with fail
  generalize (w.alloc (.cells #[.slice Ar s.rooms.length cr, .int .i64 s.days, .slice Am s.moves.length cm, .slice Aw s.wgs.length cw] 26)).alloc (.cells #[.slice Af n1 cf, .slice Av n2 cv, .slice Ag n3 cg] 31) = V at *
  clear c0 c1 c2
  refine wp_loop (fun a W => Rel (fun a W => ∃ k : Nat, k ≤ s.rooms.length ∧ (Below w.heap.size w W ∧ Blk W w.heap.size 26 #[.slice Ar s.rooms.length cr, .int .i64 s.days, .slice Am s.moves.length cm, .slice Aw s.wgs.length cw] ∧ Blk W (w.heap.size + 1) 31 #[.slice Af n1 cf, .slice Av n2 cv, .slice Ag n3 cg]) ∧ Hid (∀ j, j < k → rowT s t j = true) ∧ ∃ u : Nat → Value, a = ⟨List.toArray (u 0 :: u 1 :: .pointer (some ⟨w.heap.size, 0, none⟩) :: .pointer (some ⟨w.heap.size + 1, 0, none⟩) :: u 4 :: .int .i64 (k : Int) :: u 6 :: u 7 :: u 8 :: u 9 :: u 10 :: u 11 :: u 12 :: u 13 :: u 14 :: u 15 :: u 16 :: u 17 :: u 18 :: u 19 :: u 20 :: u 21 :: u 22 :: u 23 :: u 24 :: u 25 :: u 26 :: u 27 :: u 28 :: u 29 :: u 30 :: u 31 :: u 32 :: u 33 :: u 34 :: u 35 :: u 36 :: u 37 :: u 38 :: u 39 :: u 40 :: u 41 :: u 42 :: u 43 :: u 44 :: u 45 :: u 46 :: u 47 :: u 48 :: u 49 :: u 50 :: u 51 :: u 52 :: u 53 :: u 54 :: u 55 :: u 56 :: u 57 :: u 58 :: u 59 :: u 60 :: u 61 :: u 62 :: u 63 :: u 64 :: u 65 :: u 66 :: u 67 :: u 68 :: u 69 :: u 70 :: u 71 :: u 72 :: u 73 :: u 74 :: u 75 :: u 76 :: u 77 :: u 78 :: u 79 :: u 80 :: u 81 :: u 82 :: u 83 :: u 84 :: u 85 :: u 86 :: u 87 :: u 88 :: u 89 :: u 90 :: u 91 :: u 92 :: u 93 :: u 94 :: u 95 :: u 96 :: u 97 :: u 98 :: u 99 :: u 100 :: u 101 :: u 102 :: u 103 :: u 104 :: u 105 :: u 106 :: u 107 :: u 108 :: u 109 :: u 110 :: u 111 :: u 112 :: u 113 :: u 114 :: u 115 :: u 116 :: u 117 :: u 118 :: u 119 :: []), []⟩) a W) (fun a _ => s.rooms.length - (intOf (a.tmps.getD 5 undef)).toNat) ⟨⟨0, by omega, ⟨hb1, q0, q1⟩, Lib.hid (fun j hj => by omega), exFrame (by kernel_rfl)⟩⟩ ?_
  clear hb1 q0 q1 V
  rintro a W ⟨⟨k, hk, ⟨hb1, q0, q1⟩, HO, u, rfl⟩⟩
  by_cases hlt : k < s.rooms.length
  · obtain ⟨br, orr, rfl, hbr, r0, r1, r2, r3⟩ := IsRms.at_ (hs.rooms.below hb1) hlt
    have hkn : (k : Int) < (s.rooms.length : Int) := by omega
    have hk1 : (k : Int) < (n1 : Int) := by have := E0.out; omega
    have hk2 : (k : Int) < (n2 : Int) := by have := E1.out; omega
    have lbr : br < W.heap.size := by have := hb1.size; omega
    have a0 : W.cell? ⟨w.heap.size, 0, none⟩ = some (.slice (some ⟨br, orr, none⟩) s.rooms.length cr) := q0.cell 0
    have a1 : W.cell? ⟨w.heap.size, 1, none⟩ = some (.int .i64 s.days) := q0.cell 1
    have a2 : W.cell? ⟨w.heap.size, 2, none⟩ = some (.slice Am s.moves.length cm) := q0.cell 2
    have b0 : W.cell? ⟨w.heap.size + 1, 0, none⟩ = some (.slice Af n1 cf) := q1.cell 0
    have b1 : W.cell? ⟨w.heap.size + 1, 1, none⟩ = some (.slice Av n2 cv) := q1.cell 1
    have b2 : W.cell? ⟨w.heap.size + 1, 2, none⟩ = some (.slice Ag n3 cg) := q1.cell 2
    rw [HSD.out] at a1
    have l0 := q0.lt
    have l1 := q1.lt
    have HRW : Hid (rowT s t k = (inB (gI t.fs k) (gRm s.rooms k).fst.lo (gRm s.rooms k).fst.hi && (decide (((gL t.vs k).length : Int) = s.days) && allTo (fun d => inB (gI (gL t.vs k) d) (gRm s.rooms k).vap.lo (gRm s.rooms k).vap.hi) (gL t.vs k).length))) := Lib.hid rfl
    obtain ⟨e0, he0⟩ : ∃ x, (gRm s.rooms k).fst.lo = x := ⟨_, rfl⟩
    rw [he0] at r0 HRW
    clear he0
    obtain ⟨e1, he1⟩ : ∃ x, (gRm s.rooms k).fst.hi = x := ⟨_, rfl⟩
    rw [he1] at r1 HRW
    clear he1
    obtain ⟨e2, he2⟩ : ∃ x, (gRm s.rooms k).vap.lo = x := ⟨_, rfl⟩
    rw [he2] at r2 HRW
    clear he2
    obtain ⟨e3, he3⟩ : ∃ x, (gRm s.rooms k).vap.hi = x := ⟨_, rfl⟩
    rw [he3] at r3 HRW
    clear he3
    have qm : Blk (W.alloc (.cells #[.int .i64 e0, .int .i64 e1, .int .i64 e2, .int .i64 e3] 76)) W.heap.size 76 #[.int .i64 e0, .int .i64 e1, .int .i64 e2, .int .i64 e3] := Blk.new _ _ _
    go_upto_region 7 with fail
    have N_V := ex_alloc (Below.refl W.heap.size W) (.cells #[.int .i64 e0, .int .i64 e1, .int .i64 e2, .int .i64 e3] 76)
    clear a0 a1 a2 b0 b1 b2 l0 l1 r0 r1 r2 r3 lbr
    replace q0 := q0.below N_V q0.lt
    replace q1 := q1.below N_V q1.lt
    have B_V := ex_trans hb1 N_V
    obtain ⟨pm, hpm⟩ : ∃ p, W.heap.size = p := ⟨_, rfl⟩
    rw [hpm] at qm ⊢
    clear hpm N_V
    generalize W.alloc (.cells #[.int .i64 e0, .int .i64 e1, .int .i64 e2, .int .i64 e3] 76) = V at *
    obtain ⟨bf, of, rfl, hbf, y0⟩ := IsInts.at_ (hfs.below B_V) (show k < n1 by have := E0.out; omega)
    obtain ⟨bv, ov, rfl, hbv, z0⟩ := (hvs.below B_V) (show 0 < n2 by have := E1.out; omega)
    have z1 : V.cell? ⟨bv, ov + k, none⟩ = some (.slice (rV k) (gL t.vs k).length (rcV k)) := by have := z0 k 0 (by have := E1.out; omega) (by omega); rw [show ov + (k * 1 + 0) = ov + k by omega] at this; exact this
    have hrk := hrow k (by have := E1.out; omega)
    clear z0
    have lbf : bf < V.heap.size := by have := B_V.size; omega
    have lbv : bv < V.heap.size := by have := B_V.size; omega
    obtain ⟨fv, hh⟩ : ∃ x, gI t.fs k = x := ⟨_, rfl⟩
    rw [hh] at y0 HRW
    clear hh
    obtain ⟨lv, hh⟩ : ∃ x, gL t.vs k = x := ⟨_, rfl⟩
    rw [hh] at z1 hrk HRW
    have HZ2 := Lib.hid hh
    clear hh
    obtain ⟨Ak, hh⟩ : ∃ x, rV k = x := ⟨_, rfl⟩
    rw [hh] at z1 hrk
    have HZ3 := Lib.hid hh
    clear hh
    obtain ⟨ck, hh⟩ : ∃ x, rcV k = x := ⟨_, rfl⟩
    rw [hh] at z1
    have HZ4 := Lib.hid hh
    clear hh
    have a0 : V.cell? ⟨w.heap.size, 0, none⟩ = some (.slice (some ⟨br, orr, none⟩) s.rooms.length cr) := q0.cell 0
    have a1 : V.cell? ⟨w.heap.size, 1, none⟩ = some (.int .i64 s.days) := q0.cell 1
    have a2 : V.cell? ⟨w.heap.size, 2, none⟩ = some (.slice Am s.moves.length cm) := q0.cell 2
    have b0 : V.cell? ⟨w.heap.size + 1, 0, none⟩ = some (.slice (some ⟨bf, of, none⟩) n1 cf) := q1.cell 0
    have b1 : V.cell? ⟨w.heap.size + 1, 1, none⟩ = some (.slice (some ⟨bv, ov, none⟩) n2 cv) := q1.cell 1
    have b2 : V.cell? ⟨w.heap.size + 1, 2, none⟩ = some (.slice Ag n3 cg) := q1.cell 2
    rw [HSD.out] at a1
    have l0 := q0.lt
    have l1 := q1.lt
    have m0 : V.cell? ⟨pm, 0, none⟩ = some (.int .i64 e0) := qm.cell 0
    have m1 : V.cell? ⟨pm, 1, none⟩ = some (.int .i64 e1) := qm.cell 1
    have m2 : V.cell? ⟨pm, 2, none⟩ = some (.int .i64 e2) := qm.cell 2
    have m3 : V.cell? ⟨pm, 3, none⟩ = some (.int .i64 e3) := qm.cell 3
    have lm := qm.lt
    obtain ⟨nv, hnv⟩ : ∃ x, lv.length = x := ⟨_, rfl⟩
    rw [hnv] at z1 hrk HRW
    have HNV := Lib.hid hnv
    clear hnv
    have D0 := (Below.refl V.heap.size V).drew
    refine wp_region_ext_mix 23 [(false, 0), (false, 1), (false, 2), (false, 3), (false, 4), (false, 5), (false, 6), (false, 7), (false, 8), (false, 9), (false, 10), (true, 11), (false, 12), (false, 13), (false, 14), (false, 15), (false, 16), (false, 17), (false, 18), (false, 19), (false, 20), (false, 21), (false, 22)] (by kernel_rfl) (by kernel_rfl) (by intro d _ _ _ _ h; cases d <;> exact h) ?_
    repeat (refine mix_quiet rfl ?_; go_big_quiet_step (fail); refine wpQuiet_nil ?_)
    refine mix_loud rfl ?_
    go_wp2_with fail
    refine (In_ref _ _ _ _).mono ?_
    rintro e w' ⟨rfl, rfl⟩
    have BY := ex_trans B_V D0
    cases hI : inB fv e0 e1
    · have HI := Lib.hid hI
      clear hI
      go_wp2_with fail
      refine ⟨inEx D0, ?_⟩
      repeat (refine mix_quiet rfl ?_; go_big_quiet_step (fail); refine wpQuiet_nil ?_)
      refine mix_nil (r := [_]) rfl ?_
      have HR : Hid (truT s t = false) := Lib.hid (tru_row hlt (by rw [HRW.out, HI.out, Bool.false_and]))
      go_wp2
      go_ret
      exact ⟨ret_bool HR.out.symm, BY⟩
    by_cases hl : nv = D
    rotate_left
    · have hq : ((nv : Int) != (D : Int)) = true := by rw [bne_iff_ne]; omega
      have HL := Lib.hid hl
      clear hl
      have HI := Lib.hid hI
      clear hI
      go_wp2_with fail
      refine ⟨inEx D0, ?_⟩
      repeat (refine mix_quiet rfl ?_; go_big_quiet_step (fail); refine wpQuiet_nil ?_)
      refine mix_nil (r := [_]) rfl ?_
      have HR : Hid (truT s t = false) := Lib.hid (tru_row hlt (by rw [HRW.out, HI.out, HSD.out, decide_eq_false (show ¬ (nv : Int) = (D : Int) from fun h => HL.out (by omega)), Bool.false_and, Bool.and_false]))
      go_wp2
      go_ret
      exact ⟨ret_bool HR.out.symm, BY⟩
    have hq : ((nv : Int) != (D : Int)) = false := by simp [hl]
    have HL := Lib.hid hl
    clear hl
    have HI := Lib.hid hI
    clear hI
    go_wp2_with fail
    refine ⟨inEx D0, ?_⟩
    repeat (refine mix_quiet rfl ?_; go_big_quiet_step (fail); refine wpQuiet_nil ?_)
    refine mix_nil (r := [_]) rfl ?_
    obtain ⟨Y, hY⟩ : ∃ Y, V.drew = Y := ⟨_, rfl⟩
    rw [hY] at D0 BY ⊢
    clear hY
    replace q0 := q0.below D0 q0.lt
    replace q1 := q1.below D0 q1.lt
    replace qm := qm.below D0 qm.lt
    clear a0 a1 a2 b0 b1 b2 l0 l1 m0 m1 m2 m3 lm y0 z1 hq
    go_wp2_with fail
    refine wp_loop (fun a W => Rel (fun a W => ∃ j : Nat, j ≤ D ∧ (Below w.heap.size w W ∧ Below Y.heap.size Y W ∧ Blk W w.heap.size 26 #[.slice (some ⟨br, orr, none⟩) s.rooms.length cr, .int .i64 s.days, .slice Am s.moves.length cm, .slice Aw s.wgs.length cw] ∧ Blk W (w.heap.size + 1) 31 #[.slice (some ⟨bf, of, none⟩) n1 cf, .slice (some ⟨bv, ov, none⟩) n2 cv, .slice Ag n3 cg] ∧ Blk W pm 76 #[.int .i64 e0, .int .i64 e1, .int .i64 e2, .int .i64 e3]) ∧ Hid (∀ i, i < j → inB (gI lv i) e2 e3 = true) ∧ ∃ u : Nat → Value, a = ⟨List.toArray (u 0 :: u 1 :: .pointer (some ⟨w.heap.size, 0, none⟩) :: .pointer (some ⟨w.heap.size + 1, 0, none⟩) :: u 4 :: .int .i64 (k : Int) :: .pointer (some ⟨pm, 0, none⟩) :: .int .i64 (j : Int) :: u 8 :: u 9 :: u 10 :: u 11 :: u 12 :: u 13 :: u 14 :: u 15 :: u 16 :: u 17 :: u 18 :: u 19 :: u 20 :: u 21 :: u 22 :: u 23 :: u 24 :: u 25 :: u 26 :: u 27 :: u 28 :: u 29 :: u 30 :: u 31 :: u 32 :: u 33 :: u 34 :: u 35 :: u 36 :: u 37 :: u 38 :: u 39 :: u 40 :: u 41 :: u 42 :: u 43 :: u 44 :: u 45 :: u 46 :: u 47 :: u 48 :: u 49 :: u 50 :: u 51 :: u 52 :: u 53 :: u 54 :: u 55 :: u 56 :: u 57 :: u 58 :: u 59 :: u 60 :: u 61 :: u 62 :: u 63 :: u 64 :: u 65 :: u 66 :: u 67 :: u 68 :: u 69 :: u 70 :: u 71 :: u 72 :: u 73 :: u 74 :: u 75 :: u 76 :: u 77 :: u 78 :: u 79 :: u 80 :: u 81 :: u 82 :: u 83 :: u 84 :: u 85 :: u 86 :: u 87 :: u 88 :: u 89 :: u 90 :: u 91 :: u 92 :: u 93 :: u 94 :: u 95 :: u 96 :: u 97 :: u 98 :: u 99 :: u 100 :: u 101 :: u 102 :: u 103 :: u 104 :: u 105 :: u 106 :: u 107 :: u 108 :: u 109 :: u 110 :: u 111 :: u 112 :: u 113 :: u 114 :: u 115 :: u 116 :: u 117 :: u 118 :: u 119 :: []), []⟩) a W) (fun a _ => D - (intOf (a.tmps.getD 7 undef)).toNat) ⟨⟨0, by omega, ⟨BY, Below.refl _ _, q0, q1, qm⟩, Lib.hid (fun j hj => by omega), exFrame (by kernel_rfl)⟩⟩ ?_
    clear BY q0 q1 qm
    rintro a W2 ⟨⟨j, hj, ⟨BW, hYW, q0, q1, qm⟩, HJ, u2, rfl⟩⟩
    skip
    have a0 : W2.cell? ⟨w.heap.size, 0, none⟩ = some (.slice (some ⟨br, orr, none⟩) s.rooms.length cr) := q0.cell 0
    have a1 : W2.cell? ⟨w.heap.size, 1, none⟩ = some (.int .i64 s.days) := q0.cell 1
    have a2 : W2.cell? ⟨w.heap.size, 2, none⟩ = some (.slice Am s.moves.length cm) := q0.cell 2
    have b0 : W2.cell? ⟨w.heap.size + 1, 0, none⟩ = some (.slice (some ⟨bf, of, none⟩) n1 cf) := q1.cell 0
    have b1 : W2.cell? ⟨w.heap.size + 1, 1, none⟩ = some (.slice (some ⟨bv, ov, none⟩) n2 cv) := q1.cell 1
    have b2 : W2.cell? ⟨w.heap.size + 1, 2, none⟩ = some (.slice Ag n3 cg) := q1.cell 2
    rw [HSD.out] at a1
    have l0 := q0.lt
    have l1 := q1.lt
    have m0 : W2.cell? ⟨pm, 0, none⟩ = some (.int .i64 e0) := qm.cell 0
    have m1 : W2.cell? ⟨pm, 1, none⟩ = some (.int .i64 e1) := qm.cell 1
    have m2 : W2.cell? ⟨pm, 2, none⟩ = some (.int .i64 e2) := qm.cell 2
    have m3 : W2.cell? ⟨pm, 3, none⟩ = some (.int .i64 e3) := qm.cell 3
    have lm := qm.lt
    have lbv2 : bv < W2.heap.size := by have := BW.size; omega
    by_cases hlj : j < D
    · obtain ⟨bv', ov', ee, _, z0⟩ := (hvs.below BW) (show 0 < n2 by have := E1.out; omega)
      injection ee with ee
      injection ee with e1' e2' _
      subst e1' e2'
      have z1 : W2.cell? ⟨bv, ov + k, none⟩ = some (.slice Ak nv ck) := by have := z0 k 0 (by have := E1.out; omega) (by omega); rw [show ov + (k * 1 + 0) = ov + k by omega] at this; exact this.trans (by show some (Value.slice (rV k) (gL t.vs k).length (rcV k)) = _; rw [HZ2.out, HZ3.out, HZ4.out, HNV.out])
      clear z0
      obtain ⟨bl, ol, rfl, hbl, v0⟩ := IsInts.at_ (hrk.below BW) (show j < nv by have := HL.out; omega)
      have lbl : bl < W2.heap.size := by have := BW.size; omega
      have hjn : (j : Int) < (nv : Int) := by have := HL.out; omega
      have hjd : (j : Int) < (D : Int) := by omega
      obtain ⟨vv, hvv⟩ : ∃ x, gI lv j = x := ⟨_, rfl⟩
      rw [hvv] at v0
      have HVV := Lib.hid hvv
      clear hvv
      have D2 := (Below.refl W2.heap.size W2).drew
      go_upto_region 12 with fail
      refine wp_region_ext_mix 15 [(false, 0), (false, 1), (false, 2), (false, 3), (false, 4), (false, 5), (false, 6), (false, 7), (false, 8), (false, 9), (false, 10), (false, 11), (false, 12), (false, 13), (true, 14)] (by kernel_rfl) (by kernel_rfl) (by intro d _ _ _ _ h; cases d <;> exact h) ?_
      repeat (refine mix_quiet rfl ?_; go_big_quiet_step (fail); refine wpQuiet_nil ?_)
      refine mix_loud rfl ?_
      go_wp2_with fail
      refine (In_ref _ _ _ _).mono ?_
      rintro e w' ⟨rfl, rfl⟩
      go_wp2_with fail
      refine ⟨inEx D2, ?_⟩
      repeat (refine mix_quiet rfl ?_; go_big_quiet_step (fail); refine wpQuiet_nil ?_)
      refine mix_nil (r := [_]) rfl ?_
      have B2 := ex_trans BW D2
      cases hI2 : inB vv e2 e3
      · have HI2 := Lib.hid hI2
        clear hI2
        have HR : Hid (truT s t = false) := Lib.hid (tru_row hlt (by rw [HRW.out, allTo_false (f := fun d => inB (gI lv d) e2 e3) (show j < nv by have := HL.out; omega) (by rw [HVV.out, HI2.out]), Bool.and_false, Bool.and_false]))
        go_wp2
        go_ret
        exact ⟨ret_bool HR.out.symm, B2⟩
      · have HJ2 : Hid (∀ i, i < j + 1 → inB (gI lv i) e2 e3 = true) := Lib.hid (fun i hi => by
          rcases Nat.lt_succ_iff_lt_or_eq.1 hi with h | h
          · exact HJ.out i h
          · subst h; rw [HVV.out]; exact hI2)
        clear hI2
        have hYW2 := ex_trans hYW D2
        replace q0 := q0.below D2 q0.lt
        replace q1 := q1.below D2 q1.lt
        replace qm := qm.below D2 qm.lt
        go_wp2_with fail
        refine ⟨⟨⟨j + 1, by omega, ⟨B2, hYW2, q0, q1, qm⟩, HJ2, exFrame (by kernel_rfl)⟩⟩, ?_⟩
        show D - (intOf (.int .i64 ((j : Int) + 1))).toNat < D - (intOf (.int .i64 (j : Int))).toNat
        simp [intOf]
        omega
    · obtain rfl : j = D := by omega
      have HO2 : Hid (∀ i, i < k + 1 → rowT s t i = true) := Lib.hid (fun i hi => by
        rcases Nat.lt_succ_iff_lt_or_eq.1 hi with h | h
        · exact HO.out i h
        · subst h; rw [HRW.out, HI.out, HSD.out, HL.out, decide_eq_true rfl, allTo_iff.2 (fun d hd => HJ.out d (by omega))]; rfl)
      go_wp2_with fail
      refine ⟨⟨⟨k + 1, by omega, ⟨BW, q0, q1⟩, HO2, exFrame (by kernel_rfl)⟩⟩, ?_⟩
      show s.rooms.length - (intOf (.int .i64 ((k : Int) + 1))).toNat < s.rooms.length - (intOf (.int .i64 (k : Int))).toNat
      simp [intOf]
      omega
  have HO1 : Hid (∀ j, j < s.rooms.length → rowT s t j = true) := Lib.hid (fun j hj => HO.out j (by omega))
  obtain rfl : k = s.rooms.length := by omega
  clear HO
  have a0 : W.cell? ⟨w.heap.size, 0, none⟩ = some (.slice Ar s.rooms.length cr) := q0.cell 0
  have a1 : W.cell? ⟨w.heap.size, 1, none⟩ = some (.int .i64 s.days) := q0.cell 1
  have a2 : W.cell? ⟨w.heap.size, 2, none⟩ = some (.slice Am s.moves.length cm) := q0.cell 2
  have b0 : W.cell? ⟨w.heap.size + 1, 0, none⟩ = some (.slice Af n1 cf) := q1.cell 0
  have b1 : W.cell? ⟨w.heap.size + 1, 1, none⟩ = some (.slice Av n2 cv) := q1.cell 1
  have b2 : W.cell? ⟨w.heap.size + 1, 2, none⟩ = some (.slice Ag n3 cg) := q1.cell 2
  rw [HSD.out] at a1
  have l0 := q0.lt
  have l1 := q1.lt
  go_wp2_with fail
  clear a0 a1 a2 b0 b1 b2 l0 l1 hlt hk
  refine wp_loop (fun a W => Rel (fun a W => ∃ k : Nat, k ≤ s.moves.length ∧ (Below w.heap.size w W ∧ Blk W w.heap.size 26 #[.slice Ar s.rooms.length cr, .int .i64 s.days, .slice Am s.moves.length cm, .slice Aw s.wgs.length cw] ∧ Blk W (w.heap.size + 1) 31 #[.slice Af n1 cf, .slice Av n2 cv, .slice Ag n3 cg]) ∧ Hid (∀ j, j < k → movT s t.gs j = true) ∧ ∃ u : Nat → Value, a = ⟨List.toArray (u 0 :: u 1 :: .pointer (some ⟨w.heap.size, 0, none⟩) :: .pointer (some ⟨w.heap.size + 1, 0, none⟩) :: u 4 :: u 5 :: u 6 :: u 7 :: .int .i64 (k : Int) :: u 9 :: u 10 :: u 11 :: u 12 :: u 13 :: u 14 :: u 15 :: u 16 :: u 17 :: u 18 :: u 19 :: u 20 :: u 21 :: u 22 :: u 23 :: u 24 :: u 25 :: u 26 :: u 27 :: u 28 :: u 29 :: u 30 :: u 31 :: u 32 :: u 33 :: u 34 :: u 35 :: u 36 :: u 37 :: u 38 :: u 39 :: u 40 :: u 41 :: u 42 :: u 43 :: u 44 :: u 45 :: u 46 :: u 47 :: u 48 :: u 49 :: u 50 :: u 51 :: u 52 :: u 53 :: u 54 :: u 55 :: u 56 :: u 57 :: u 58 :: u 59 :: u 60 :: u 61 :: u 62 :: u 63 :: u 64 :: u 65 :: u 66 :: u 67 :: u 68 :: u 69 :: u 70 :: u 71 :: u 72 :: u 73 :: u 74 :: u 75 :: u 76 :: u 77 :: u 78 :: u 79 :: u 80 :: u 81 :: u 82 :: u 83 :: u 84 :: u 85 :: u 86 :: u 87 :: u 88 :: u 89 :: u 90 :: u 91 :: u 92 :: u 93 :: u 94 :: u 95 :: u 96 :: u 97 :: u 98 :: u 99 :: u 100 :: u 101 :: u 102 :: u 103 :: u 104 :: u 105 :: u 106 :: u 107 :: u 108 :: u 109 :: u 110 :: u 111 :: u 112 :: u 113 :: u 114 :: u 115 :: u 116 :: u 117 :: u 118 :: u 119 :: []), []⟩) a W) (fun a _ => s.moves.length - (intOf (a.tmps.getD 8 undef)).toNat) ⟨⟨0, by omega, ⟨hb1, q0, q1⟩, Lib.hid (fun j hj => by omega), exFrame (by kernel_rfl)⟩⟩ ?_
  clear hb1 q0 q1 W
  rintro a W ⟨⟨k, hk, ⟨hb1, q0, q1⟩, HO, u, rfl⟩⟩
  by_cases hlt : k < s.moves.length
  · obtain ⟨br, orr, rfl, hbr, r0, r1, r2, r3, r4⟩ := IsMvs.at_ (hs.moves.below hb1) hlt
    obtain ⟨bg, og, rfl, hbg, y0⟩ := IsInts.at_ (hgs.below hb1) (show k < n3 by have := E2.out; omega)
    have hkn : (k : Int) < (s.moves.length : Int) := by omega
    have hk3 : (k : Int) < (n3 : Int) := by have := E2.out; omega
    have lbr : br < W.heap.size := by have := hb1.size; omega
    have lbg : bg < W.heap.size := by have := hb1.size; omega
    have HMV : Hid (movT s t.gs k = inB (gI t.gs k) (gMv s.moves k).g.lo (gMv s.moves k).g.hi) := Lib.hid rfl
    obtain ⟨e3, he3⟩ : ∃ x, (gMv s.moves k).g.lo = x := ⟨_, rfl⟩
    rw [he3] at r3 HMV
    clear he3
    obtain ⟨e4, he4⟩ : ∃ x, (gMv s.moves k).g.hi = x := ⟨_, rfl⟩
    rw [he4] at r4 HMV
    clear he4
    obtain ⟨gv, hgv⟩ : ∃ x, gI t.gs k = x := ⟨_, rfl⟩
    rw [hgv] at y0 HMV
    clear hgv r0 r1 r2
    have a0 : W.cell? ⟨w.heap.size, 0, none⟩ = some (.slice Ar s.rooms.length cr) := q0.cell 0
    have a1 : W.cell? ⟨w.heap.size, 1, none⟩ = some (.int .i64 s.days) := q0.cell 1
    have a2 : W.cell? ⟨w.heap.size, 2, none⟩ = some (.slice (some ⟨br, orr, none⟩) s.moves.length cm) := q0.cell 2
    have b0 : W.cell? ⟨w.heap.size + 1, 0, none⟩ = some (.slice Af n1 cf) := q1.cell 0
    have b1 : W.cell? ⟨w.heap.size + 1, 1, none⟩ = some (.slice Av n2 cv) := q1.cell 1
    have b2 : W.cell? ⟨w.heap.size + 1, 2, none⟩ = some (.slice (some ⟨bg, og, none⟩) n3 cg) := q1.cell 2
    rw [HSD.out] at a1
    have l0 := q0.lt
    have l1 := q1.lt
    have D0 := (Below.refl W.heap.size W).drew
    go_upto_region 17 with fail
    refine wp_region_ext_mix 20 [(false, 0), (false, 1), (false, 2), (false, 3), (false, 4), (false, 5), (false, 6), (false, 7), (false, 8), (false, 9), (false, 10), (false, 11), (false, 12), (false, 13), (false, 14), (false, 15), (false, 16), (false, 17), (false, 18), (true, 19)] (by kernel_rfl) (by kernel_rfl) (by intro d _ _ _ _ h; cases d <;> exact h) ?_
    repeat (refine mix_quiet rfl ?_; go_big_quiet_step (fail); refine wpQuiet_nil ?_)
    refine mix_loud rfl ?_
    go_wp2_with fail
    refine (In_ref _ _ _ _).mono ?_
    rintro e w' ⟨rfl, rfl⟩
    go_wp2_with fail
    refine ⟨inEx D0, ?_⟩
    repeat (refine mix_quiet rfl ?_; go_big_quiet_step (fail); refine wpQuiet_nil ?_)
    refine mix_nil (r := [_]) rfl ?_
    have B2 := ex_trans hb1 D0
    cases hI : inB gv e3 e4
    · have HR : Hid (truT s t = false) := Lib.hid (tru_mov hlt (by rw [HMV.out, hI]))
      clear hI
      go_wp2
      go_ret
      exact ⟨ret_bool HR.out.symm, B2⟩
    · have HO2 : Hid (∀ i, i < k + 1 → movT s t.gs i = true) := Lib.hid (fun i hi => by
        rcases Nat.lt_succ_iff_lt_or_eq.1 hi with h | h
        · exact HO.out i h
        · subst h; rw [HMV.out]; exact hI)
      clear hI
      replace q0 := q0.below D0 q0.lt
      replace q1 := q1.below D0 q1.lt
      go_wp2_with fail
      refine ⟨⟨⟨k + 1, by omega, ⟨B2, q0, q1⟩, HO2, exFrame (by kernel_rfl)⟩⟩, ?_⟩
      show s.moves.length - (intOf (.int .i64 ((k : Int) + 1))).toNat < s.moves.length - (intOf (.int .i64 (k : Int))).toNat
      simp [intOf]
      omega
  have HR : Hid (truT s t = true) := Lib.hid (tru_yes HLT.out HO1.out (fun j hj => HO.out j (by omega)))
  obtain rfl : k = s.moves.length := by omega
  have a0 : W.cell? ⟨w.heap.size, 0, none⟩ = some (.slice Ar s.rooms.length cr) := q0.cell 0
  have a1 : W.cell? ⟨w.heap.size, 1, none⟩ = some (.int .i64 s.days) := q0.cell 1
  have a2 : W.cell? ⟨w.heap.size, 2, none⟩ = some (.slice Am s.moves.length cm) := q0.cell 2
  have b0 : W.cell? ⟨w.heap.size + 1, 0, none⟩ = some (.slice Af n1 cf) := q1.cell 0
  have b1 : W.cell? ⟨w.heap.size + 1, 1, none⟩ = some (.slice Av n2 cv) := q1.cell 1
  have b2 : W.cell? ⟨w.heap.size + 1, 2, none⟩ = some (.slice Ag n3 cg) := q1.cell 2
  rw [HSD.out] at a1
  have l0 := q0.lt
  have l1 := q1.lt
  go_wp2
  go_ret
  exact ⟨ret_bool HR.out.symm, hb1⟩
end Go.Proofs.Ythihdiilokdidaa
end

section
namespace Go.Proofs.Ythihdiilokdidaa
open Go.RowKit
attribute [local go_sem] Ex.cell? Ex.frozen?

/-- a number is in a list. -/
def hasB (l : List Int) (n : Int) : Bool := !allTo (fun i => !(gI l i == n)) l.length
theorem hasB_iff {l : List Int} {n : Int} : hasB l n = true ↔ n ∈ l := by
  unfold hasB
  rw [Bool.not_eq_true', ← Bool.not_eq_true, allTo_iff]
  constructor
  · intro h
    by_cases hm : n ∈ l
    · exact hm
    · exact absurd (fun k hk => by
        have hne : gI l k ≠ n := fun e => hm (by rw [← e]; simp [gI, hk])
        simpa using hne) h
  · intro hm h
    obtain ⟨k, hk, e⟩ := List.getElem_of_mem hm
    have := h k hk
    simp [gI, hk, e] at this
set_option maxRecDepth 100000 in
set_option maxHeartbeats 1600000 in
theorem Has_ref (A : Option Addr) (c : Nat) (l : List Int) (n : Int) (w : World) (hA : SlAt w w.heap.size 1 A l.length (fI l)) (hl : l.length ≤ 1000000) :
    Calls Try.prog 42 #[.slice A l.length c, .int .i64 n] w fun e w' => e = .returned (.bool (hasB l n)) ∧ Below w.heap.size w w' := by
  obtain ⟨m, hm⟩ : ∃ m, l.length = m := ⟨_, rfl⟩
  have HM := Lib.hid hm
  rw [hm] at hA hl ⊢
  clear hm
  go_enter Try.func42, Try.ntmps42
  go_wp2_with fail
  refine wp_loop (fun a W => Rel (fun a W => ∃ k : Nat, k ≤ m ∧ Below w.heap.size w W ∧ Hid (∀ j, j < k → (!(gI l j == n)) = true) ∧ ∃ u : Nat → Value, a = ⟨List.toArray (.slice A m c :: .int .i64 n :: u 2 :: u 3 :: u 4 :: .int .i64 (k : Int) :: u 6 :: u 7 :: u 8 :: u 9 :: u 10 :: u 11 :: u 12 :: u 13 :: u 14 :: u 15 :: u 16 :: u 17 :: []), []⟩) a W) (fun a _ => m - (intOf (a.tmps.getD 5 undef)).toNat) ⟨⟨0, by omega, Below.refl _ _, Lib.hid (fun j hj => by omega), exFrame (by kernel_rfl)⟩⟩ ?_
  rintro a W ⟨⟨k, hk, hb, HO, u, rfl⟩⟩
  by_cases hlt : k < m
  · obtain ⟨bl, ol, rfl, hbl, v0⟩ := IsInts.at_ (hA.below hb) hlt
    have hkn : (k : Int) < (m : Int) := by omega
    have lbl : bl < W.heap.size := by have := hb.size; omega
    obtain ⟨vv, hvv⟩ : ∃ x, gI l k = x := ⟨_, rfl⟩
    rw [hvv] at v0
    have HVV := Lib.hid hvv
    clear hvv
    by_cases he : vv = n
    · have hq : (vv == n) = true := by simp [he]
      have HR : Hid (hasB l n = true) := Lib.hid (by unfold hasB; rw [allTo_false (f := fun i => !(gI l i == n)) (show k < l.length by rw [HM.out]; exact hlt) (by rw [HVV.out, hq]; rfl)]; rfl)
      clear he
      go_wp2
      go_ret
      exact ⟨ret_bool HR.out.symm, hb⟩
    · have hq : (vv == n) = false := by simp [he]
      have HQ := Lib.hid hq
      clear he
      have HO2 : Hid (∀ j, j < k + 1 → (!(gI l j == n)) = true) := Lib.hid (fun j hj => by
        rcases Nat.lt_succ_iff_lt_or_eq.1 hj with h | h
        · exact HO.out j h
        · subst h; rw [HVV.out, HQ.out]; rfl)
      go_wp2_with fail
      refine ⟨⟨⟨k + 1, by omega, hb, HO2, exFrame (by kernel_rfl)⟩⟩, ?_⟩
      show m - (intOf (.int .i64 ((k : Int) + 1))).toNat < m - (intOf (.int .i64 (k : Int))).toNat
      simp [intOf]
      omega
  · obtain rfl : k = m := by omega
    have HR : Hid (hasB l n = false) := Lib.hid (by unfold hasB; rw [HM.out, allTo_iff.2 HO.out]; rfl)
    go_wp2
    go_ret
    exact ⟨ret_bool HR.out.symm, hb⟩
/-- stocks agree with a weighing, or it is left out. -/
def agr1 (s : Ws) (S : Nat → Nat → Int) (o : List Int) (i : Nat) : Bool := hasB o i || inB (S (gWg s.wgs i).room.toNat (gWg s.wgs i).day.toNat) (gWg s.wgs i).g.lo (gWg s.wgs i).g.hi
def agrL (s : Ws) (S : Nat → Nat → Int) (o : List Int) : Bool := allTo (agr1 s S o) s.wgs.length
set_option maxRecDepth 100000 in
set_option maxHeartbeats 6400000 in
theorem Agrees_ref (s : Ws) (Ar Am Aw : Option Addr) (cr cm cw : Nat) (w : World) (hs : WsIn w w.heap.size s Ar Am Aw) (hw : WoOk s.wo) (S : Nat → Nat → Int) (AS : Option Addr) (cS : Nat) (rA : Nat → Option Addr) (rc : Nat → Nat) (hS : MatIn w w.heap.size AS s.rooms.length s.wo.days S rA rc) (o : List Int) (Ao : Option Addr) (co : Nat) (ho : SlAt w w.heap.size 1 Ao o.length (fI o)) (hlo : o.length ≤ 1000000) :
    Calls Try.prog 57 #[.agg #[.slice Ar s.rooms.length cr, .int .i64 s.days, .slice Am s.moves.length cm, .slice Aw s.wgs.length cw], .slice AS s.rooms.length cS, .slice Ao o.length co] w fun e w' => e = .returned (.bool (agrL s S o)) ∧ Below w.heap.size w w' := by
  have hw8 : s.wgs.length ≤ 8 := hw.len.2.2.2
  have hr3 : s.rooms.length ≤ 3 := hw.len.2.1
  obtain ⟨D, hD⟩ : ∃ D, s.wo.days = D := ⟨_, rfl⟩
  have hD6 : 1 ≤ D ∧ D ≤ 6 := by have := hw.days; omega
  have hwg := hw.wgs
  rw [hD] at hS hwg
  clear hD hw
  have hSo := hS.out
  have hSr := hS.row
  clear hS
  have hwg2 : ∀ i, i < s.wgs.length → 0 ≤ (gWg s.wgs i).room ∧ (gWg s.wgs i).room < (s.rooms.length : Int) ∧ 0 ≤ (gWg s.wgs i).day ∧ (gWg s.wgs i).day < D := fun i hi => by have := hwg i hi; exact ⟨this.1, this.2.1, this.2.2.1, this.2.2.2.1⟩
  have HWG := Lib.hid hwg2
  clear hwg hwg2
  have hb1 := ex_alloc (Below.refl w.heap.size w) (.cells #[.slice Ar s.rooms.length cr, .int .i64 s.days, .slice Am s.moves.length cm, .slice Aw s.wgs.length cw] 26)
  have q0 : Blk (w.alloc (.cells #[.slice Ar s.rooms.length cr, .int .i64 s.days, .slice Am s.moves.length cm, .slice Aw s.wgs.length cw] 26)) w.heap.size 26 #[.slice Ar s.rooms.length cr, .int .i64 s.days, .slice Am s.moves.length cm, .slice Aw s.wgs.length cw] := Blk.new _ _ _
  go_enter Try.func57, Try.ntmps57
  go_wp2_with fail
  generalize w.alloc (.cells #[.slice Ar s.rooms.length cr, .int .i64 s.days, .slice Am s.moves.length cm, .slice Aw s.wgs.length cw] 26) = V at *
  refine wp_loop (fun a W => Rel (fun a W => ∃ k : Nat, k ≤ s.wgs.length ∧ Below w.heap.size w W ∧ Blk W w.heap.size 26 #[.slice Ar s.rooms.length cr, .int .i64 s.days, .slice Am s.moves.length cm, .slice Aw s.wgs.length cw] ∧ Hid (∀ j, j < k → agr1 s S o j = true) ∧ ∃ u : Nat → Value, a = ⟨List.toArray (u 0 :: .slice AS s.rooms.length cS :: .slice Ao o.length co :: .pointer (some ⟨w.heap.size, 0, none⟩) :: u 4 :: u 5 :: u 6 :: .int .i64 (k : Int) :: u 8 :: u 9 :: u 10 :: u 11 :: u 12 :: u 13 :: u 14 :: u 15 :: u 16 :: u 17 :: u 18 :: u 19 :: u 20 :: u 21 :: u 22 :: u 23 :: u 24 :: u 25 :: u 26 :: u 27 :: u 28 :: u 29 :: u 30 :: u 31 :: u 32 :: u 33 :: u 34 :: u 35 :: u 36 :: u 37 :: u 38 :: u 39 :: u 40 :: u 41 :: u 42 :: u 43 :: []), []⟩) a W) (fun a _ => s.wgs.length - (intOf (a.tmps.getD 7 undef)).toNat) ⟨⟨0, by omega, hb1, q0, Lib.hid (fun j hj => by omega), exFrame (by kernel_rfl)⟩⟩ ?_
  clear hb1 q0 V
  rintro a W ⟨⟨k, hk, hb1, q0, HO, u, rfl⟩⟩
  have l0 := q0.lt
  by_cases hlt : k < s.wgs.length
  · obtain ⟨br, orr, rfl, hbr, r0, r1, r2, r3⟩ := IsWgs.at_ (hs.wgs.below hb1) hlt
    have hkn : (k : Int) < (s.wgs.length : Int) := by omega
    have lbr : br < W.heap.size := by have := hb1.size; omega
    have a3 : W.cell? ⟨w.heap.size, 3, none⟩ = some (.slice (some ⟨br, orr, none⟩) s.wgs.length cw) := q0.cell 3
    have hwk := HWG.out k hlt
    have HA1 : Hid (agr1 s S o k = (hasB o k || inB (S (gWg s.wgs k).room.toNat (gWg s.wgs k).day.toNat) (gWg s.wgs k).g.lo (gWg s.wgs k).g.hi)) := Lib.hid rfl
    obtain ⟨e0, he0⟩ : ∃ x, (gWg s.wgs k).room = x := ⟨_, rfl⟩
    rw [he0] at r0 HA1 hwk
    clear he0
    obtain ⟨e1, he1⟩ : ∃ x, (gWg s.wgs k).day = x := ⟨_, rfl⟩
    rw [he1] at r1 HA1 hwk
    clear he1
    obtain ⟨e2, he2⟩ : ∃ x, (gWg s.wgs k).g.lo = x := ⟨_, rfl⟩
    rw [he2] at r2 HA1
    clear he2
    obtain ⟨e3, he3⟩ : ∃ x, (gWg s.wgs k).g.hi = x := ⟨_, rfl⟩
    rw [he3] at r3 HA1
    clear he3
    obtain ⟨r, rfl⟩ : ∃ r : Nat, e0 = r := ⟨e0.toNat, by omega⟩
    obtain ⟨d, rfl⟩ : ∃ d : Nat, e1 = d := ⟨e1.toNat, by omega⟩
    simp only [Int.toNat_natCast] at HA1
    have hrN : r < s.rooms.length := by omega
    have hdD : d < D := by omega
    have hrI : (r : Int) < (s.rooms.length : Int) := by omega
    have hdI : (d : Int) < (D : Int) := by omega
    clear hwk
    have qm : Blk (W.alloc (.cells #[.int .i64 (r : Int), .int .i64 (d : Int), .int .i64 e2, .int .i64 e3] 72)) W.heap.size 72 #[.int .i64 (r : Int), .int .i64 (d : Int), .int .i64 e2, .int .i64 e3] := Blk.new _ _ _
    go_upto_region 5 with fail
    have N_V := ex_alloc (Below.refl W.heap.size W) (.cells #[.int .i64 (r : Int), .int .i64 (d : Int), .int .i64 e2, .int .i64 e3] 72)
    clear a3 l0 r0 r1 r2 r3 lbr
    replace q0 := q0.below N_V q0.lt
    have B_V := ex_trans hb1 N_V
    obtain ⟨pm, hpm⟩ : ∃ p, W.heap.size = p := ⟨_, rfl⟩
    rw [hpm] at qm ⊢
    clear hpm N_V
    generalize W.alloc (.cells #[.int .i64 (r : Int), .int .i64 (d : Int), .int .i64 e2, .int .i64 e3] 72) = V at *
    have D0 := (Below.refl V.heap.size V).drew
    have BV := B_V
    refine wp_region_ext_mix 22 [(false, 0), (false, 1), (true, 2), (false, 3), (false, 4), (false, 5), (false, 6), (false, 7), (false, 8), (false, 9), (false, 10), (false, 11), (false, 12), (false, 13), (false, 14), (false, 15), (false, 16), (false, 17), (false, 18), (false, 19), (true, 20), (false, 21)] (by kernel_rfl) (by kernel_rfl) (by intro d _ _ _ _ h; cases d <;> exact h) ?_
    obtain ⟨bS, oS, rfl, hbS, xS⟩ := (hSo.below BV) (show 0 < s.rooms.length by omega)
    have y0 : V.cell? ⟨bS, oS + r, none⟩ = some (.slice (rA r) D (rc r)) := by have := xS r 0 hrN (by omega); rw [show oS + (r * 1 + 0) = oS + r by omega] at this; exact this
    obtain ⟨bR, oR, hRA, hbR, xR⟩ := ((hSr r hrN).below BV) (show 0 < D by omega)
    have y1 : V.cell? ⟨bR, oR + d, none⟩ = some (.int .i64 (S r d)) := by have := xR d 0 hdD (by omega); rw [show oR + (d * 1 + 0) = oR + d by omega] at this; exact this
    rw [hRA] at y0
    clear xS xR hRA
    have lbS : bS < V.heap.size := by have := BV.size; omega
    have lbR : bR < V.heap.size := by have := BV.size; omega
    obtain ⟨sv, hsv⟩ : ∃ x, S r d = x := ⟨_, rfl⟩
    rw [hsv] at y1 HA1
    clear hsv
    have m0 : V.cell? ⟨pm, 0, none⟩ = some (.int .i64 (r : Int)) := qm.cell 0
    have m1 : V.cell? ⟨pm, 1, none⟩ = some (.int .i64 (d : Int)) := qm.cell 1
    have m2 : V.cell? ⟨pm, 2, none⟩ = some (.int .i64 e2) := qm.cell 2
    have m3 : V.cell? ⟨pm, 3, none⟩ = some (.int .i64 e3) := qm.cell 3
    have lm := qm.lt
    repeat (refine mix_quiet rfl ?_; go_big_quiet_step (fail); refine wpQuiet_nil ?_)
    obtain ⟨Y, hY⟩ : ∃ Y, V.drew = Y := ⟨_, rfl⟩
    rw [hY] at D0 ⊢
    clear hY
    have BY := ex_trans BV D0
    have hoY := (ho.below BY).up BY.size
    refine mix_loud rfl ?_
    go_wp2_with fail
    refine (Has_ref Ao co o k Y hoY hlo).mono ?_
    rintro e Y2 ⟨rfl, hY2⟩
    have X2 := ex_trans D0 hY2
    have B2 := ex_trans BV X2
    cases hH : hasB o k
    · have HH := Lib.hid hH
      clear hH
      go_wp2_with fail
      refine ⟨inEx X2, ?_⟩
      repeat (refine mix_quiet rfl ?_; go_big_quiet_step (fail); refine wpQuiet_nil ?_)
      refine mix_loud rfl ?_
      go_wp2_with fail
      refine (In_ref _ _ _ _).mono ?_
      rintro e w' ⟨rfl, rfl⟩
      go_wp2_with fail
      refine ⟨inEx X2, ?_⟩
      repeat (refine mix_quiet rfl ?_; go_big_quiet_step (fail); refine wpQuiet_nil ?_)
      refine mix_nil (r := [_]) rfl ?_
      cases hI : inB sv e2 e3
      · have HR : Hid (agrL s S o = false) := Lib.hid (allTo_false (f := agr1 s S o) hlt (by rw [HA1.out, HH.out, hI]; rfl))
        clear hI
        go_wp2
        go_ret
        exact ⟨ret_bool HR.out.symm, B2⟩
      · have HI := Lib.hid hI
        clear hI
        have HO2 : Hid (∀ j, j < k + 1 → agr1 s S o j = true) := Lib.hid (fun j hj => by
          rcases Nat.lt_succ_iff_lt_or_eq.1 hj with h | h
          · exact HO.out j h
          · subst h; rw [HA1.out, HH.out, HI.out]; rfl)
        replace q0 := (q0.below X2 q0.lt)
        go_wp2_with fail
        refine ⟨⟨⟨k + 1, by omega, B2, q0, HO2, exFrame (by kernel_rfl)⟩⟩, ?_⟩
        show s.wgs.length - (intOf (.int .i64 ((k : Int) + 1))).toNat < s.wgs.length - (intOf (.int .i64 (k : Int))).toNat
        simp [intOf]
        omega
    · have HH := Lib.hid hH
      clear hH
      go_wp2_with fail
      refine ⟨inEx X2, ?_⟩
      repeat (refine mix_quiet rfl ?_; go_big_quiet_step (fail); refine wpQuiet_nil ?_)
      refine mix_loud rfl ?_
      go_wp2_with fail
      refine ⟨inEx X2, ?_⟩
      repeat (refine mix_quiet rfl ?_; go_big_quiet_step (fail); refine wpQuiet_nil ?_)
      refine mix_nil (r := [_]) rfl ?_
      have HO2 : Hid (∀ j, j < k + 1 → agr1 s S o j = true) := Lib.hid (fun j hj => by
        rcases Nat.lt_succ_iff_lt_or_eq.1 hj with h | h
        · exact HO.out j h
        · subst h; rw [HA1.out, HH.out]; rfl)
      replace q0 := (q0.below X2 q0.lt)
      go_wp2_with fail
      refine ⟨⟨⟨k + 1, by omega, B2, q0, HO2, exFrame (by kernel_rfl)⟩⟩, ?_⟩
      show s.wgs.length - (intOf (.int .i64 ((k : Int) + 1))).toNat < s.wgs.length - (intOf (.int .i64 (k : Int))).toNat
      simp [intOf]
      omega
  have HR : Hid (agrL s S o = true) := Lib.hid (allTo_iff.2 (fun j hj => HO.out j (by omega)))
  have a3 : W.cell? ⟨w.heap.size, 3, none⟩ = some (.slice Aw s.wgs.length cw) := q0.cell 3
  obtain rfl : k = s.wgs.length := by omega
  go_wp2
  go_ret
  exact ⟨ret_bool HR.out.symm, hb1⟩
end Go.Proofs.Ythihdiilokdidaa
end

section
namespace Go.Proofs.Ythihdiilokdidaa
open Go.RowKit Go.ChangeShapes Go.WideShapes Go.Deep Go.ChangeAt
theorem list4 {α : Type} {l : List α} (h : l.length = 4) : ∃ a b c d, l = [a, b, c, d] := by
  match l, h with
  | [a, b, c, d], _ => exact ⟨a, b, c, d, rfl⟩
section
variable {H : Type} {enc : TypeId × Value → H} {w : World} {base : Nat} {spare : Nat → Bool} {held : Bool} {r : Reach} {b0 : Nat}
set_option maxRecDepth 100000 in
theorem tr_rgT {fuel : Nat} {cs : List Value} {x : DataW H × List MemPlace} (h : DataW.trod enc Try.prog w base spare held fuel 52 cs = some x) : ∃ r : Rg, cs = cR r := by
  obtain ⟨xs, n, _, _, hc, hxl, hf⟩ := DataW.trod_struct Try.underlying52 h
  have hcs : cs.length = 2 := hc.trans (by kernel_rfl)
  obtain ⟨c0, c1, rfl⟩ := list2 hcs
  have hl : xs.length = 2 := hxl.trans rfl
  obtain ⟨y0, e0⟩ := some_of (l := xs) (i := 0) (by omega)
  obtain ⟨y1, e1⟩ := some_of (l := xs) (i := 1) (by omega)
  have h0 := fld hf (i := 0) 3 0 1 rfl rfl rfl (by kernel_rfl) e0
  have h1 := fld hf (i := 1) 3 1 1 rfl rfl rfl (by kernel_rfl) e1
  simp only [List.drop_zero, List.drop_succ_cons, List.take_succ_cons, List.take_zero] at h0 h1
  obtain ⟨a0, g0, _⟩ := tr_int Try.underlying3 h0
  injection g0 with g0 _
  obtain ⟨a1, g1, _⟩ := tr_int Try.underlying3 h1
  injection g1 with g1 _
  exact ⟨⟨a0, a1⟩, by rw [g0, g1]; rfl⟩
set_option maxRecDepth 100000 in
theorem tr_rmT {fuel : Nat} {cs : List Value} {x : DataW H × List MemPlace} (h : DataW.trod enc Try.prog w base spare held fuel 76 cs = some x) : ∃ r : Rm, cs = cRm r := by
  obtain ⟨xs, n, _, _, hc, hxl, hf⟩ := DataW.trod_struct Try.underlying76 h
  have hcs : cs.length = 4 := hc.trans (by kernel_rfl)
  obtain ⟨c0, c1, c2, c3, rfl⟩ := list4 hcs
  have hl : xs.length = 2 := hxl.trans rfl
  obtain ⟨y0, e0⟩ := some_of (l := xs) (i := 0) (by omega)
  obtain ⟨y1, e1⟩ := some_of (l := xs) (i := 1) (by omega)
  have h0 := fld hf (i := 0) 52 0 2 rfl rfl rfl (by kernel_rfl) e0
  have h1 := fld hf (i := 1) 52 2 2 rfl rfl rfl (by kernel_rfl) e1
  simp only [List.drop_zero, List.drop_succ_cons, List.take_succ_cons, List.take_zero] at h0 h1
  obtain ⟨a0, g0⟩ := tr_rgT h0
  unfold cR at g0
  injection g0 with g0 g0'
  injection g0' with g0' _
  obtain ⟨a1, g1⟩ := tr_rgT h1
  unfold cR at g1
  injection g1 with g1 g1'
  injection g1' with g1' _
  exact ⟨⟨a0, a1⟩, by rw [g0, g0', g1, g1']; rfl⟩
set_option maxRecDepth 100000 in
theorem tr_mvT {fuel : Nat} {cs : List Value} {x : DataW H × List MemPlace} (h : DataW.trod enc Try.prog w base spare held fuel 78 cs = some x) : ∃ r : Mv, cs = cMv r := by
  obtain ⟨xs, n, _, _, hc, hxl, hf⟩ := DataW.trod_struct Try.underlying78 h
  have hcs : cs.length = 5 := hc.trans (by kernel_rfl)
  obtain ⟨c0, c1, c2, c3, c4, rfl⟩ := list5 hcs
  have hl : xs.length = 4 := hxl.trans rfl
  obtain ⟨y0, e0⟩ := some_of (l := xs) (i := 0) (by omega)
  obtain ⟨y1, e1⟩ := some_of (l := xs) (i := 1) (by omega)
  obtain ⟨y2, e2⟩ := some_of (l := xs) (i := 2) (by omega)
  obtain ⟨y3, e3⟩ := some_of (l := xs) (i := 3) (by omega)
  have h0 := fld hf (i := 0) 3 0 1 rfl rfl rfl (by kernel_rfl) e0
  have h1 := fld hf (i := 1) 3 1 1 rfl rfl rfl (by kernel_rfl) e1
  have h2 := fld hf (i := 2) 3 2 1 rfl rfl rfl (by kernel_rfl) e2
  have h3 := fld hf (i := 3) 52 3 2 rfl rfl rfl (by kernel_rfl) e3
  simp only [List.drop_zero, List.drop_succ_cons, List.take_succ_cons, List.take_zero] at h0 h1 h2 h3
  obtain ⟨a0, g0, _⟩ := tr_int Try.underlying3 h0
  injection g0 with g0 _
  obtain ⟨a1, g1, _⟩ := tr_int Try.underlying3 h1
  injection g1 with g1 _
  obtain ⟨a2, g2, _⟩ := tr_int Try.underlying3 h2
  injection g2 with g2 _
  obtain ⟨a3, g3⟩ := tr_rgT h3
  unfold cR at g3
  injection g3 with g3 g3'
  injection g3' with g3' _
  exact ⟨⟨a0, a1, a2, a3⟩, by rw [g0, g1, g2, g3, g3']; rfl⟩
set_option maxRecDepth 100000 in
theorem tr_wgT {fuel : Nat} {cs : List Value} {x : DataW H × List MemPlace} (h : DataW.trod enc Try.prog w base spare held fuel 72 cs = some x) : ∃ r : Wg, cs = cWg r := by
  obtain ⟨xs, n, _, _, hc, hxl, hf⟩ := DataW.trod_struct Try.underlying72 h
  have hcs : cs.length = 4 := hc.trans (by kernel_rfl)
  obtain ⟨c0, c1, c2, c3, rfl⟩ := list4 hcs
  have hl : xs.length = 3 := hxl.trans rfl
  obtain ⟨y0, e0⟩ := some_of (l := xs) (i := 0) (by omega)
  obtain ⟨y1, e1⟩ := some_of (l := xs) (i := 1) (by omega)
  obtain ⟨y2, e2⟩ := some_of (l := xs) (i := 2) (by omega)
  have h0 := fld hf (i := 0) 3 0 1 rfl rfl rfl (by kernel_rfl) e0
  have h1 := fld hf (i := 1) 3 1 1 rfl rfl rfl (by kernel_rfl) e1
  have h2 := fld hf (i := 2) 52 2 2 rfl rfl rfl (by kernel_rfl) e2
  simp only [List.drop_zero, List.drop_succ_cons, List.take_succ_cons, List.take_zero] at h0 h1 h2
  obtain ⟨a0, g0, _⟩ := tr_int Try.underlying3 h0
  injection g0 with g0 _
  obtain ⟨a1, g1, _⟩ := tr_int Try.underlying3 h1
  injection g1 with g1 _
  obtain ⟨a2, g2⟩ := tr_rgT h2
  unfold cR at g2
  injection g2 with g2 g2'
  injection g2' with g2' _
  exact ⟨⟨a0, a1, a2⟩, by rw [g0, g1, g2, g2']; rfl⟩
set_option maxRecDepth 100000 in
theorem tr_rgsT {fuel : Nat} {cs : List Value} {x : DataW H × List MemPlace} (h : DataW.trod enc Try.prog w base spare held fuel 53 cs = some x) :
    ∃ A l cp, cs = [.slice A (l : List Rg).length cp] ∧ l.length ≤ cp ∧ cp ≤ maxLen ∧ SlAt w w.heap.size 2 A l.length (fR l) := by
  obtain ⟨A, l, cp, h1, h2, h3, h4⟩ := tr_sl (sz := 2) (c := cR) Try.underlying53 (by omega) (by kernel_rfl) (fun h => tr_rgT h) (fun _ => rfl) h
  refine ⟨A, l, cp, h1, h2, h3, h4 _ (fun k hk j hj => ?_)⟩
  have e := gR_at hk
  match j, hj with
  | 0, _ => simp [cR, fR, e]
  | 1, _ => simp [cR, fR, e]
set_option maxRecDepth 100000 in
theorem tr_rmsT {fuel : Nat} {cs : List Value} {x : DataW H × List MemPlace} (h : DataW.trod enc Try.prog w base spare held fuel 22 cs = some x) :
    ∃ A l cp, cs = [.slice A (l : List Rm).length cp] ∧ l.length ≤ cp ∧ cp ≤ maxLen ∧ SlAt w w.heap.size 4 A l.length (fRm l) := by
  obtain ⟨A, l, cp, h1, h2, h3, h4⟩ := tr_sl (sz := 4) (c := cRm) Try.underlying22 (by omega) (by kernel_rfl) (fun h => tr_rmT h) (fun _ => rfl) h
  refine ⟨A, l, cp, h1, h2, h3, h4 _ (fun k hk j hj => ?_)⟩
  have e := gRm_at hk
  match j, hj with
  | 0, _ => simp [cRm, fRm, e]
  | 1, _ => simp [cRm, fRm, e]
  | 2, _ => simp [cRm, fRm, e]
  | 3, _ => simp [cRm, fRm, e]
set_option maxRecDepth 100000 in
theorem tr_mvsT {fuel : Nat} {cs : List Value} {x : DataW H × List MemPlace} (h : DataW.trod enc Try.prog w base spare held fuel 23 cs = some x) :
    ∃ A l cp, cs = [.slice A (l : List Mv).length cp] ∧ l.length ≤ cp ∧ cp ≤ maxLen ∧ SlAt w w.heap.size 5 A l.length (fMv l) := by
  obtain ⟨A, l, cp, h1, h2, h3, h4⟩ := tr_sl (sz := 5) (c := cMv) Try.underlying23 (by omega) (by kernel_rfl) (fun h => tr_mvT h) (fun _ => rfl) h
  refine ⟨A, l, cp, h1, h2, h3, h4 _ (fun k hk j hj => ?_)⟩
  have e := gMv_at hk
  match j, hj with
  | 0, _ => simp [cMv, fMv, e]
  | 1, _ => simp [cMv, fMv, e]
  | 2, _ => simp [cMv, fMv, e]
  | 3, _ => simp [cMv, fMv, e]
  | 4, _ => simp [cMv, fMv, e]
set_option maxRecDepth 100000 in
theorem tr_wgsT {fuel : Nat} {cs : List Value} {x : DataW H × List MemPlace} (h : DataW.trod enc Try.prog w base spare held fuel 24 cs = some x) :
    ∃ A l cp, cs = [.slice A (l : List Wg).length cp] ∧ l.length ≤ cp ∧ cp ≤ maxLen ∧ SlAt w w.heap.size 4 A l.length (fWg l) := by
  obtain ⟨A, l, cp, h1, h2, h3, h4⟩ := tr_sl (sz := 4) (c := cWg) Try.underlying24 (by omega) (by kernel_rfl) (fun h => tr_wgT h) (fun _ => rfl) h
  refine ⟨A, l, cp, h1, h2, h3, h4 _ (fun k hk j hj => ?_)⟩
  have e := gWg_at hk
  match j, hj with
  | 0, _ => simp [cWg, fWg, e]
  | 1, _ => simp [cWg, fWg, e]
  | 2, _ => simp [cWg, fWg, e]
  | 3, _ => simp [cWg, fWg, e]
/-- a list, and where it lies. -/
structure Lx where
  l : List Int
  A : Option Addr
  c : Nat
instance : Inhabited Lx := ⟨⟨[], none, 0⟩⟩
def cLx (x : Lx) : List Value := [.slice x.A x.l.length x.c]
set_option maxRecDepth 100000 in
theorem tr_lx {fuel : Nat} {cs : List Value} {x : DataW H × List MemPlace} (h : DataW.trod enc Try.prog w base spare held fuel 28 cs = some x) : ∃ b : Lx, cs = cLx b ∧ (SlAt w w.heap.size 1 b.A b.l.length (fI b.l) ∧ b.l.length ≤ maxLen) := by
  obtain ⟨A, l, cp, hb, hb1, hb2, hb3⟩ := tr_ints h
  exact ⟨⟨l, A, cp⟩, hb, hb3, Nat.le_trans hb1 hb2⟩
set_option maxRecDepth 100000 in
theorem tr_lists {fuel : Nat} {cs : List Value} {x : DataW H × List MemPlace} (h : DataW.trod enc Try.prog w base spare held fuel 29 cs = some x) :
    ∃ A L cp rA rc, cs = [.slice A (L : List (List Int)).length cp] ∧ (L.length ≤ maxLen ∧ ∀ k, k < L.length → (gL L k).length ≤ maxLen) ∧ LisIn w w.heap.size A L rA rc := by
  obtain ⟨A, lb, cb, hd1, hd2, hd3, hR, hd4⟩ := tr_slR (sz := 1) (c := cLx) (R := fun b : Lx => SlAt w w.heap.size 1 b.A b.l.length (fI b.l) ∧ b.l.length ≤ maxLen) Try.underlying29 (by omega) (by kernel_rfl) (fun h => tr_lx h) (fun _ => rfl) h
  have hlb : (lb.map (·.l)).length = lb.length := by simp
  have hg : ∀ k (hk : k < lb.length), gL (lb.map (·.l)) k = (lb[k]).l := fun k hk => by simp [gL, hk]
  have hgA : ∀ k (hk : k < lb.length), (lb.getD k default).A = (lb[k]).A := fun k hk => by simp [hk]
  refine ⟨A, lb.map (·.l), cb, fun k => (lb.getD k default).A, fun k => (lb.getD k default).c, by rw [hd1, hlb], ⟨by rw [hlb]; omega, fun b hb => ?_⟩, ⟨?_, fun b hb => ?_⟩⟩
  · rw [hlb] at hb
    rw [hg b hb]
    exact (hR _ (List.getElem_mem hb)).2
  · rw [hlb]
    refine hd4 _ (fun k hk j hj => ?_)
    match j, hj with
    | 0, _ => simp [cLx, hg k hk, hk]
  · rw [hlb] at hb
    show SlAt w w.heap.size 1 (lb.getD b default).A (gL (lb.map (·.l)) b).length (fI (gL (lb.map (·.l)) b))
    rw [hg b hb, hgA b hb]
    exact (hR _ (List.getElem_mem hb)).1
set_option maxRecDepth 100000 in
theorem open_worksT {v : Value} {d : DataW H} {p : List MemPlace} (hv : Value.okWide Try.prog w r b0 26 v) (h : DataW.Trod enc Try.prog w base spare held 26 v d p) :
    ∃ (s : Ws) (Ar Am Aw : Option Addr) (cr cm cw : Nat), v = .agg #[.slice Ar s.rooms.length cr, .int .i64 s.days, .slice Am s.moves.length cm, .slice Aw s.wgs.length cw] ∧ (s.rooms.length ≤ maxLen ∧ s.moves.length ≤ maxLen ∧ s.wgs.length ≤ maxLen) ∧ WsIn w w.heap.size s Ar Am Aw := by
  obtain ⟨cs, rfl, hsz⟩ := okWide_struct Try.underlying26 hv
  obtain ⟨l⟩ := cs
  obtain ⟨c0, c1, c2, c3, rfl⟩ := list4 (l := l) (hsz.trans (by kernel_rfl))
  obtain ⟨fuel, hfu⟩ := h
  obtain ⟨xs, n, _, _, hc, hxl, hf⟩ := DataW.trod_struct Try.underlying26 hfu
  have hl : xs.length = 4 := hxl.trans rfl
  obtain ⟨y0, e0⟩ := some_of (l := xs) (i := 0) (by omega)
  obtain ⟨y1, e1⟩ := some_of (l := xs) (i := 1) (by omega)
  obtain ⟨y2, e2⟩ := some_of (l := xs) (i := 2) (by omega)
  obtain ⟨y3, e3⟩ := some_of (l := xs) (i := 3) (by omega)
  have h0 := fld hf (i := 0) 22 0 1 rfl rfl rfl (by kernel_rfl) e0
  have h1 := fld hf (i := 1) 3 1 1 rfl rfl rfl (by kernel_rfl) e1
  have h2 := fld hf (i := 2) 23 2 1 rfl rfl rfl (by kernel_rfl) e2
  have h3 := fld hf (i := 3) 24 3 1 rfl rfl rfl (by kernel_rfl) e3
  simp only [Value.cells, List.drop_zero, List.drop_succ_cons, List.take_succ_cons, List.take_zero] at h0 h1 h2 h3
  obtain ⟨A0, l0, c0', g0, p0, p0', q0⟩ := tr_rmsT h0
  injection g0 with g0 _
  obtain ⟨u1, g1, _⟩ := tr_int Try.underlying3 h1
  injection g1 with g1 _
  obtain ⟨A2, l2, c2', g2, p2, p2', q2⟩ := tr_mvsT h2
  injection g2 with g2 _
  obtain ⟨A3, l3, c3', g3, p3, p3', q3⟩ := tr_wgsT h3
  injection g3 with g3 _
  exact ⟨⟨l0, u1, l2, l3⟩, A0, A2, A3, c0', c2', c3', by rw [g0, g1, g2, g3], ⟨Nat.le_trans p0 p0', Nat.le_trans p2 p2', Nat.le_trans p3 p3'⟩, ⟨q0, q2, q3⟩⟩
set_option maxRecDepth 100000 in
theorem open_truthT {v : Value} {d : DataW H} {p : List MemPlace} (hv : Value.okWide Try.prog w r b0 31 v) (h : DataW.Trod enc Try.prog w base spare held 31 v d p) :
    ∃ (t : Tt) (Af Av Ag : Option Addr) (cf cv cg : Nat) (rV : Nat → Option Addr) (rcV : Nat → Nat), v = .agg #[.slice Af t.fs.length cf, .slice Av t.vs.length cv, .slice Ag t.gs.length cg] ∧ (t.fs.length ≤ maxLen ∧ t.gs.length ≤ maxLen ∧ t.vs.length ≤ maxLen ∧ ∀ k, k < t.vs.length → (gL t.vs k).length ≤ maxLen) ∧ TtIn w w.heap.size t Af Av Ag rV rcV := by
  obtain ⟨cs, rfl, hsz⟩ := okWide_struct Try.underlying31 hv
  obtain ⟨l⟩ := cs
  obtain ⟨c0, c1, c2, rfl⟩ := list3 (l := l) (hsz.trans (by kernel_rfl))
  obtain ⟨fuel, hfu⟩ := h
  obtain ⟨xs, n, _, _, hc, hxl, hf⟩ := DataW.trod_struct Try.underlying31 hfu
  have hl : xs.length = 3 := hxl.trans rfl
  obtain ⟨y0, e0⟩ := some_of (l := xs) (i := 0) (by omega)
  obtain ⟨y1, e1⟩ := some_of (l := xs) (i := 1) (by omega)
  obtain ⟨y2, e2⟩ := some_of (l := xs) (i := 2) (by omega)
  have h0 := fld hf (i := 0) 28 0 1 rfl rfl rfl (by kernel_rfl) e0
  have h1 := fld hf (i := 1) 29 1 1 rfl rfl rfl (by kernel_rfl) e1
  have h2 := fld hf (i := 2) 28 2 1 rfl rfl rfl (by kernel_rfl) e2
  simp only [Value.cells, List.drop_zero, List.drop_succ_cons, List.take_succ_cons, List.take_zero] at h0 h1 h2
  obtain ⟨A0, l0, c0', g0, p0, p0', q0⟩ := tr_ints h0
  injection g0 with g0 _
  obtain ⟨A1, l1, c1', rA, rc, g1, p1, q1⟩ := tr_lists h1
  injection g1 with g1 _
  obtain ⟨A2, l2, c2', g2, p2, p2', q2⟩ := tr_ints h2
  injection g2 with g2 _
  exact ⟨⟨l0, l1, l2⟩, A0, A1, A2, c0', c1', c2', rA, rc, by rw [g0, g1, g2], ⟨Nat.le_trans p0 p0', Nat.le_trans p2 p2', p1.1, p1.2⟩, ⟨q0, q1.out, q1.row, q2⟩⟩
set_option maxRecDepth 100000 in
theorem open_bookT {v : Value} {d : DataW H} {p : List MemPlace} (hv : Value.okWide Try.prog w r b0 96 v) (h : DataW.Trod enc Try.prog w base spare held 96 v d p) :
    ∃ (b : Bk) (Af Ag : Option Addr) (cf cg : Nat), v = .agg #[.slice Af b.fs.length cf, .slice Ag b.gs.length cg] ∧ (b.fs.length ≤ maxLen ∧ b.gs.length ≤ maxLen) ∧ (SlAt w w.heap.size 1 Af b.fs.length (fI b.fs) ∧ SlAt w w.heap.size 1 Ag b.gs.length (fI b.gs)) := by
  obtain ⟨cs, rfl, hsz⟩ := okWide_struct Try.underlying96 hv
  obtain ⟨l⟩ := cs
  obtain ⟨c0, c1, rfl⟩ := list2 (l := l) (hsz.trans (by kernel_rfl))
  obtain ⟨fuel, hfu⟩ := h
  obtain ⟨xs, n, _, _, hc, hxl, hf⟩ := DataW.trod_struct Try.underlying96 hfu
  have hl : xs.length = 2 := hxl.trans rfl
  obtain ⟨y0, e0⟩ := some_of (l := xs) (i := 0) (by omega)
  obtain ⟨y1, e1⟩ := some_of (l := xs) (i := 1) (by omega)
  have h0 := fld hf (i := 0) 28 0 1 rfl rfl rfl (by kernel_rfl) e0
  have h1 := fld hf (i := 1) 28 1 1 rfl rfl rfl (by kernel_rfl) e1
  simp only [Value.cells, List.drop_zero, List.drop_succ_cons, List.take_succ_cons, List.take_zero] at h0 h1
  obtain ⟨A0, l0, c0', g0, p0, p0', q0⟩ := tr_ints h0
  injection g0 with g0 _
  obtain ⟨A1, l1, c1', g1, p1, p1', q1⟩ := tr_ints h1
  injection g1 with g1 _
  exact ⟨⟨l0, l1⟩, A0, A1, c0', c1', by rw [g0, g1], ⟨Nat.le_trans p0 p0', Nat.le_trans p1 p1'⟩, q0, q1⟩
set_option maxRecDepth 100000 in
theorem open_teamT {v : Value} {d : DataW H} {p : List MemPlace} (hv : Value.okWide Try.prog w r b0 55 v) (h : DataW.Trod enc Try.prog w base spare held 55 v d p) :
    ∃ (t : Tm) (Ar Ah : Option Addr) (cr ch : Nat), v = .agg #[.slice Ar t.rates.length cr, .slice Ah t.hours.length ch, .int .i64 t.limit, .int .i64 t.most] ∧ (t.rates.length ≤ maxLen ∧ t.hours.length ≤ maxLen) ∧ TmIn w w.heap.size t Ar Ah := by
  obtain ⟨cs, rfl, hsz⟩ := okWide_struct Try.underlying55 hv
  obtain ⟨l⟩ := cs
  obtain ⟨c0, c1, c2, c3, rfl⟩ := list4 (l := l) (hsz.trans (by kernel_rfl))
  obtain ⟨fuel, hfu⟩ := h
  obtain ⟨xs, n, _, _, hc, hxl, hf⟩ := DataW.trod_struct Try.underlying55 hfu
  have hl : xs.length = 4 := hxl.trans rfl
  obtain ⟨y0, e0⟩ := some_of (l := xs) (i := 0) (by omega)
  obtain ⟨y1, e1⟩ := some_of (l := xs) (i := 1) (by omega)
  obtain ⟨y2, e2⟩ := some_of (l := xs) (i := 2) (by omega)
  obtain ⟨y3, e3⟩ := some_of (l := xs) (i := 3) (by omega)
  have h0 := fld hf (i := 0) 53 0 1 rfl rfl rfl (by kernel_rfl) e0
  have h1 := fld hf (i := 1) 28 1 1 rfl rfl rfl (by kernel_rfl) e1
  have h2 := fld hf (i := 2) 3 2 1 rfl rfl rfl (by kernel_rfl) e2
  have h3 := fld hf (i := 3) 3 3 1 rfl rfl rfl (by kernel_rfl) e3
  simp only [Value.cells, List.drop_zero, List.drop_succ_cons, List.take_succ_cons, List.take_zero] at h0 h1 h2 h3
  obtain ⟨A0, l0, c0', g0, p0, p0', q0⟩ := tr_rgsT h0
  injection g0 with g0 _
  obtain ⟨A1, l1, c1', g1, p1, p1', q1⟩ := tr_ints h1
  injection g1 with g1 _
  obtain ⟨u2, g2, _⟩ := tr_int Try.underlying3 h2
  injection g2 with g2 _
  obtain ⟨u3, g3, _⟩ := tr_int Try.underlying3 h3
  injection g3 with g3 _
  exact ⟨⟨l0, l1, u2, u3⟩, A0, A1, c0', c1', by rw [g0, g1, g2, g3], ⟨Nat.le_trans p0 p0', Nat.le_trans p1 p1'⟩, ⟨q0, q1⟩⟩
set_option maxRecDepth 100000 in
theorem open_listsT {v : Value} {d : DataW H} {p : List MemPlace} (hv : Value.okWide Try.prog w r b0 29 v) (h : DataW.Trod enc Try.prog w base spare held 29 v d p) :
    ∃ (A : Option Addr) (L : List (List Int)) (cp : Nat) (rA : Nat → Option Addr) (rc : Nat → Nat), v = .slice A L.length cp ∧ (L.length ≤ maxLen ∧ ∀ k, k < L.length → (gL L k).length ≤ maxLen) ∧ LisIn w w.heap.size A L rA rc := by
  obtain ⟨a, len, cap, rfl⟩ := okWide_slice Try.underlying29 hv
  obtain ⟨fuel, hf⟩ := h
  obtain ⟨A, L, cp, rA, rc, h1, h2, h3⟩ := tr_lists hf
  exact ⟨A, L, cp, rA, rc, by injection h1, h2, h3⟩
end
end Go.Proofs.Ythihdiilokdidaa
end

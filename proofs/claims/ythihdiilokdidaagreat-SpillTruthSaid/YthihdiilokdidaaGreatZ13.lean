/- Spill's reference: Comes, Play (walks). · Spill's laws: Picked (walk): a truth by words. · Spill's outright laws (plain): other weighings, narrower ranges, a day more, what is left out. · Spill's laws: Weighed (walk): weighings by words, true of some stocks but for those of bits. · Spill's laws: thin works and truths (plain). -/
import Derived.Test.YthihdiilokdidaaGreatZ12
import Derived.Test.YthihdiilokdidaaGreatZ11
set_option linter.unusedVariables false
set_option linter.unusedSimpArgs false
set_option linter.unusedSectionVars false
section
namespace Go.Proofs.YthihdiilokdidaaGreat
open Go.RowKit
attribute [local go_sem] Ex.cell? Ex.frozen?

set_option maxRecDepth 100000 in
set_option maxHeartbeats 3200000 in
theorem Comes_ref (s : Ws) (Ar Am Aw : Option Addr) (cr cm cw : Nat) (w : World) (hs : WsIn w w.heap.size s Ar Am Aw) (hw : WoOk s.wo) (gs : List Int) (Ag : Option Addr) (n cg : Nat) (hg : SlAt w w.heap.size 1 Ag n (fI gs)) (hn : s.moves.length ≤ n) (hb : ∀ i, i < s.moves.length → 0 ≤ gI gs i ∧ gI gs i ≤ 2000) (r d : Int) :
    Calls Tryz.prog 44 #[.agg #[.slice Ar s.rooms.length cr, .int .i64 s.days, .slice Am s.moves.length cm, .slice Aw s.wgs.length cw], .slice Ag n cg, .int .i64 r, .int .i64 d] w fun e w' => e = .returned (.int .i64 (comes s.wo (gI gs) r d s.moves.length)) ∧ Below w.heap.size w w' := by
  have hml : s.moves.length ≤ 12 := hw.len.2.2.1
  have hgr := hg
  clear hg
  have hb1 := ex_alloc (Below.refl w.heap.size w) (.cells #[.slice Ar s.rooms.length cr, .int .i64 s.days, .slice Am s.moves.length cm, .slice Aw s.wgs.length cw] 26)
  have q0 : Blk (w.alloc (.cells #[.slice Ar s.rooms.length cr, .int .i64 s.days, .slice Am s.moves.length cm, .slice Aw s.wgs.length cw] 26)) w.heap.size 26 #[.slice Ar s.rooms.length cr, .int .i64 s.days, .slice Am s.moves.length cm, .slice Aw s.wgs.length cw] := Blk.new _ _ _
  have HW := Lib.hid hw
  clear hw
  go_enter Tryz.func44, Tryz.ntmps44
  go_wp2_with fail
  generalize w.alloc (.cells #[.slice Ar s.rooms.length cr, .int .i64 s.days, .slice Am s.moves.length cm, .slice Aw s.wgs.length cw] 26) = V at *
  refine wp_loop (fun a W => Rel (fun a W => ∃ (k : Nat) (cc : Int), k ≤ s.moves.length ∧ Below w.heap.size w W ∧ Blk W w.heap.size 26 #[.slice Ar s.rooms.length cr, .int .i64 s.days, .slice Am s.moves.length cm, .slice Aw s.wgs.length cw] ∧ Hid (comes s.wo (gI gs) r d k = cc) ∧ ∃ u : Nat → Value, a = ⟨List.toArray (u 0 :: .slice Ag n cg :: .int .i64 r :: .int .i64 d :: .pointer (some ⟨w.heap.size, 0, none⟩) :: u 5 :: u 6 :: u 7 :: u 8 :: .int .i64 cc :: .int .i64 (k : Int) :: u 11 :: u 12 :: u 13 :: u 14 :: u 15 :: u 16 :: u 17 :: u 18 :: u 19 :: u 20 :: u 21 :: u 22 :: u 23 :: u 24 :: u 25 :: u 26 :: u 27 :: u 28 :: u 29 :: u 30 :: u 31 :: u 32 :: u 33 :: u 34 :: u 35 :: u 36 :: u 37 :: u 38 :: u 39 :: u 40 :: u 41 :: u 42 :: u 43 :: u 44 :: u 45 :: u 46 :: u 47 :: u 48 :: u 49 :: u 50 :: u 51 :: u 52 :: u 53 :: u 54 :: []), []⟩) a W) (fun a _ => s.moves.length - (intOf (a.tmps.getD 10 undef)).toNat) ⟨⟨0, 0, by omega, hb1, q0, Lib.hid rfl, exFrame (by kernel_rfl)⟩⟩ ?_
  clear hb1 q0 V
  rintro a W ⟨⟨k, cc, hk, hb1, q0, HC, u, rfl⟩⟩
  have l0 := q0.lt
  by_cases hlt : k < s.moves.length
  · obtain ⟨br, orr, rfl, hbr, r0, r1, r2, r3, r4⟩ := IsMvs.at_ (hs.moves.below hb1) hlt
    obtain ⟨bg, og, rfl, hbg, g0⟩ := IsInts.at_ (hgr.below hb1) (show k < n by omega)
    have hkn : (k : Int) < (s.moves.length : Int) := by omega
    have hkg : (k : Int) < (n : Int) := by omega
    have hszW := hb1.size
    have lbr : br < W.heap.size := by omega
    have lbg : bg < W.heap.size := by omega
    have hcb := comes_bd s.wo (G := gI gs) r d k (fun i hi => hb i (by omega))
    rw [HC.out] at hcb
    have hgb := hb k hlt
    have hcs := comes_succ s.wo (gI gs) r d k
    rw [HC.out] at hcs
    obtain ⟨e0, he0⟩ : ∃ x, (gMv s.moves k).day = x := ⟨_, rfl⟩
    rw [he0] at r0
    obtain ⟨e1, he1⟩ : ∃ x, (gMv s.moves k).src = x := ⟨_, rfl⟩
    rw [he1] at r1
    obtain ⟨e2, he2⟩ : ∃ x, (gMv s.moves k).dst = x := ⟨_, rfl⟩
    rw [he2] at r2
    obtain ⟨e3, he3⟩ : ∃ x, (gMv s.moves k).g.lo = x := ⟨_, rfl⟩
    rw [he3] at r3
    obtain ⟨e4, he4⟩ : ∃ x, (gMv s.moves k).g.hi = x := ⟨_, rfl⟩
    rw [he4] at r4
    rw [show gMv s.wo.moves k = gMv s.moves k from rfl, he0, he1, he2] at hcs
    obtain ⟨gv, hgv⟩ : ∃ x, gI gs k = x := ⟨_, rfl⟩
    rw [hgv] at hcs g0 hgb
    have HCS := Lib.hid hcs
    clear hcs he0 he1 he2 he3 he4 hgv
    have a0 : W.cell? ⟨w.heap.size, 0, none⟩ = some (.slice Ar s.rooms.length cr) := q0.cell 0
    have a1 : W.cell? ⟨w.heap.size, 1, none⟩ = some (.int .i64 s.days) := q0.cell 1
    have a2 : W.cell? ⟨w.heap.size, 2, none⟩ = some (.slice (some ⟨br, orr, none⟩) s.moves.length cm) := q0.cell 2
    have a3 : W.cell? ⟨w.heap.size, 3, none⟩ = some (.slice Aw s.wgs.length cw) := q0.cell 3
    by_cases h1 : e0 = d
    · have bh1 : (e0 != d) = false := by simp [h1]
      have Hh1 := Lib.hid h1
      clear h1
      by_cases h2 : e2 = r
      · have bh2 : (e2 == r) = true := by simp [h2]
        have Hh2 := Lib.hid h2
        clear h2
        by_cases h3 : e1 = r
        · have bh3 : (e1 == r) = true := by simp [h3]
          have Hh3 := Lib.hid h3
          clear h3
          have HC2 : Hid (comes s.wo (gI gs) r d (k + 1) = cc) := Lib.hid (by rw [HCS.out]; rw [if_pos Hh1.out, if_pos Hh2.out, if_pos Hh3.out]; omega)
          go_wp2_with fail
          refine ⟨⟨⟨k + 1, cc, by omega, hb1, q0, HC2, exFrame (by kernel_rfl)⟩⟩, ?_⟩
          show s.moves.length - (intOf (.int .i64 ((k : Int) + 1))).toNat < s.moves.length - (intOf (.int .i64 (k : Int))).toNat
          simp [intOf]
          omega
        · have bh3 : (e1 == r) = false := by simp [h3]
          have Hh3 := Lib.hid h3
          clear h3
          have HC2 : Hid (comes s.wo (gI gs) r d (k + 1) = cc + gv) := Lib.hid (by rw [HCS.out]; rw [if_pos Hh1.out, if_pos Hh2.out, if_neg Hh3.out]; omega)
          go_wp2_with fail
          refine ⟨⟨⟨k + 1, cc + gv, by omega, hb1, q0, HC2, exFrame (by kernel_rfl)⟩⟩, ?_⟩
          show s.moves.length - (intOf (.int .i64 ((k : Int) + 1))).toNat < s.moves.length - (intOf (.int .i64 (k : Int))).toNat
          simp [intOf]
          omega
      · have bh2 : (e2 == r) = false := by simp [h2]
        have Hh2 := Lib.hid h2
        clear h2
        by_cases h3 : e1 = r
        · have bh3 : (e1 == r) = true := by simp [h3]
          have Hh3 := Lib.hid h3
          clear h3
          have HC2 : Hid (comes s.wo (gI gs) r d (k + 1) = cc - gv) := Lib.hid (by rw [HCS.out]; rw [if_pos Hh1.out, if_neg Hh2.out, if_pos Hh3.out]; omega)
          go_wp2_with fail
          refine ⟨⟨⟨k + 1, cc - gv, by omega, hb1, q0, HC2, exFrame (by kernel_rfl)⟩⟩, ?_⟩
          show s.moves.length - (intOf (.int .i64 ((k : Int) + 1))).toNat < s.moves.length - (intOf (.int .i64 (k : Int))).toNat
          simp [intOf]
          omega
        · have bh3 : (e1 == r) = false := by simp [h3]
          have Hh3 := Lib.hid h3
          clear h3
          have HC2 : Hid (comes s.wo (gI gs) r d (k + 1) = cc) := Lib.hid (by rw [HCS.out]; rw [if_pos Hh1.out, if_neg Hh2.out, if_neg Hh3.out]; omega)
          go_wp2_with fail
          refine ⟨⟨⟨k + 1, cc, by omega, hb1, q0, HC2, exFrame (by kernel_rfl)⟩⟩, ?_⟩
          show s.moves.length - (intOf (.int .i64 ((k : Int) + 1))).toNat < s.moves.length - (intOf (.int .i64 (k : Int))).toNat
          simp [intOf]
          omega
    · have bh1 : (e0 != d) = true := by simp [h1]
      have Hh1 := Lib.hid h1
      clear h1
      have HC2 : Hid (comes s.wo (gI gs) r d (k + 1) = cc) := Lib.hid (by rw [HCS.out]; rw [if_neg Hh1.out]; omega)
      go_wp2_with fail
      refine ⟨⟨⟨k + 1, cc, by omega, hb1, q0, HC2, exFrame (by kernel_rfl)⟩⟩, ?_⟩
      show s.moves.length - (intOf (.int .i64 ((k : Int) + 1))).toNat < s.moves.length - (intOf (.int .i64 (k : Int))).toNat
      simp [intOf]
      omega
  · have a0 : W.cell? ⟨w.heap.size, 0, none⟩ = some (.slice Ar s.rooms.length cr) := q0.cell 0
    have a1 : W.cell? ⟨w.heap.size, 1, none⟩ = some (.int .i64 s.days) := q0.cell 1
    have a2 : W.cell? ⟨w.heap.size, 2, none⟩ = some (.slice Am s.moves.length cm) := q0.cell 2
    have a3 : W.cell? ⟨w.heap.size, 3, none⟩ = some (.slice Aw s.wgs.length cw) := q0.cell 3
    obtain rfl : k = s.moves.length := by omega
    go_wp2
    go_ret
    exact ⟨ret_int HC.out.symm, hb1⟩
theorem NOwn.base {α : Type} {T1 T2 : TypeId} {s1 s2 : Nat} {c : α → List Value} {A : α → Option Addr} {n : α → Nat} {f : α → Nat → Nat → Value} {W : World} {B B' : Nat} {v : Value} {X : List α} (h : NOwn T1 s1 T2 s2 c A n f W B v X) (hB : B' ≤ B) : NOwn T1 s1 T2 s2 c A n f W B' v X := ⟨own_base h.own hB, fun x hx => (h.ins x hx).base hB⟩
set_option maxRecDepth 100000 in
set_option maxHeartbeats 6400000 in
theorem Play_own (s : Ws) (Ar Am Aw : Option Addr) (cr cm cw : Nat) (w : World) (hs : WsIn w w.heap.size s Ar Am Aw) (hw : WoOk s.wo) (hd : s.days = (s.wo.days : Int)) (t : Tt) (Af Av Ag : Option Addr) (cf cv cg : Nat) (rV : Nat → Option Addr) (rcV : Nat → Nat) (ht : TtIn w w.heap.size t Af Av Ag rV rcV) (hv : truT s t = true) :
    Calls Tryz.prog 20 #[.agg #[.slice Ar s.rooms.length cr, .int .i64 s.days, .slice Am s.moves.length cm, .slice Aw s.wgs.length cw], .agg #[.slice Af t.fs.length cf, .slice Av t.vs.length cv, .slice Ag t.gs.length cg]] w fun e w' => (∃ A c X, e = .returned (.tuple #[.slice A s.rooms.length c, .bool (canT s t)]) ∧ IOwn w' w.heap.size (.slice A s.rooms.length c) X ∧ X.map (fun x => x.2.2) = (List.range s.rooms.length).map fun r => (List.range s.wo.days).map (stk s.wo t.F t.V t.G r)) ∧ Below w.heap.size w w' := by
  obtain ⟨⟨hl1, hl2, hl3⟩, hrl, htf⟩ := (truT_iff hd).1 hv
  have HDs := Lib.hid hd
  clear hd hv
  obtain ⟨n1, hn1⟩ : ∃ n, t.fs.length = n := ⟨_, rfl⟩
  obtain ⟨n2, hn2⟩ : ∃ n, t.vs.length = n := ⟨_, rfl⟩
  obtain ⟨n3, hn3⟩ : ∃ n, t.gs.length = n := ⟨_, rfl⟩
  have hfs := ht.fs
  have hvs := ht.vs
  have hrow := ht.row
  have hgs := ht.gs
  rw [hn1] at hfs hl1 ⊢
  rw [hn2] at hvs hrow hl2 ⊢
  rw [hn3] at hgs hl3 ⊢
  have HL1 := Lib.hid hl1
  have HL2 := Lib.hid hl2
  have HL3 := Lib.hid hl3
  have HRL := Lib.hid hrl
  have HTF := Lib.hid htf
  clear hl1 hl2 hl3 hrl htf hn1 hn2 hn3 ht
  obtain ⟨D, hD⟩ : ∃ D, s.wo.days = D := ⟨_, rfl⟩
  have hD6 : 1 ≤ D ∧ D ≤ 6 := by have := hw.days; omega
  have hr3 : 0 < s.rooms.length ∧ s.rooms.length ≤ 3 := ⟨hw.len.1, hw.len.2.1⟩
  have HD := Lib.hid hD
  have HSD : Hid (s.days = (D : Int)) := Lib.hid (by rw [HDs.out, hD])
  clear hD
  obtain ⟨i1, hi1, hy0, hy1, hy2⟩ := info_parts ints_info2
  obtain ⟨i2, hi2, hz0, hz1, hz2⟩ := info_parts int_info
  have hb1 := ex_alloc (ex_alloc (Below.refl w.heap.size w) (.cells #[.slice Ar s.rooms.length cr, .int .i64 s.days, .slice Am s.moves.length cm, .slice Aw s.wgs.length cw] 26)) (.cells #[.slice Af n1 cf, .slice Av n2 cv, .slice Ag n3 cg] 31)
  have q0 : Blk ((w.alloc (.cells #[.slice Ar s.rooms.length cr, .int .i64 s.days, .slice Am s.moves.length cm, .slice Aw s.wgs.length cw] 26)).alloc (.cells #[.slice Af n1 cf, .slice Av n2 cv, .slice Ag n3 cg] 31)) w.heap.size 26 #[.slice Ar s.rooms.length cr, .int .i64 s.days, .slice Am s.moves.length cm, .slice Aw s.wgs.length cw] := (Blk.new _ _ _).alloc _
  have q1 : Blk ((w.alloc (.cells #[.slice Ar s.rooms.length cr, .int .i64 s.days, .slice Am s.moves.length cm, .slice Aw s.wgs.length cw] 26)).alloc (.cells #[.slice Af n1 cf, .slice Av n2 cv, .slice Ag n3 cg] 31)) (w.heap.size + 1) 31 #[.slice Af n1 cf, .slice Av n2 cv, .slice Ag n3 cg] := Blk.new' _ _ _ (by simp)
  go_enter Tryz.func20, Tryz.ntmps20
  go_upto_region 1 with fail
  show Code.wp _ _ _ _ ((w.alloc (.cells #[.slice Ar s.rooms.length cr, .int .i64 s.days, .slice Am s.moves.length cm, .slice Aw s.wgs.length cw] 26)).alloc (.cells #[.slice Af n1 cf, .slice Av n2 cv, .slice Ag n3 cg] 31))
  obtain ⟨p0, hp0⟩ : ∃ p, w.heap.size = p := ⟨_, rfl⟩
  rw [hp0] at q0 q1 ⊢
  have HP0 := Lib.hid hp0
  generalize (w.alloc (.cells #[.slice Ar s.rooms.length cr, .int .i64 s.days, .slice Am s.moves.length cm, .slice Aw s.wgs.length cw] 26)).alloc (.cells #[.slice Af n1 cf, .slice Av n2 cv, .slice Ag n3 cg] 31) = W1 at *
  clear hp0
  obtain ⟨B0, hB0⟩ : ∃ b, W1.heap.size = b := ⟨_, rfl⟩
  have hbs : p0 + 1 < B0 := by have := q1.lt; omega
  have hwb : w.heap.size ≤ B0 := by rw [HP0.out]; omega
  have a0 : W1.cell? ⟨p0, 0, none⟩ = some (.slice Ar s.rooms.length cr) := q0.cell 0
  have a1 : W1.cell? ⟨p0, 1, none⟩ = some (.int .i64 s.days) := q0.cell 1
  have a2 : W1.cell? ⟨p0, 2, none⟩ = some (.slice Am s.moves.length cm) := q0.cell 2
  have a3 : W1.cell? ⟨p0, 3, none⟩ = some (.slice Aw s.wgs.length cw) := q0.cell 3
  have l0 := q0.lt
  go_wp2_with fail
  refine wp_loop (fun a W => Rel (fun a W => ∃ k : Nat, k ≤ s.rooms.length ∧ (Below w.heap.size w W ∧ B0 ≤ W.heap.size ∧ Blk W p0 26 #[.slice Ar s.rooms.length cr, .int .i64 s.days, .slice Am s.moves.length cm, .slice Aw s.wgs.length cw] ∧ Blk W (p0 + 1) 31 #[.slice Af n1 cf, .slice Av n2 cv, .slice Ag n3 cg]) ∧ ∃ vo X, IOwn W B0 vo X ∧ Hid (X.map (fun x => x.2.2) = (List.range k).map fun r => (List.range D).map (stk s.wo t.F t.V t.G r)) ∧ ∃ u : Nat → Value, a = ⟨List.toArray (u 0 :: u 1 :: .pointer (some ⟨p0, 0, none⟩) :: .pointer (some ⟨p0 + 1, 0, none⟩) :: u 4 :: u 5 :: vo :: .bool (canTo s t k) :: .int .i64 (k : Int) :: u 9 :: u 10 :: u 11 :: u 12 :: u 13 :: u 14 :: u 15 :: u 16 :: u 17 :: u 18 :: u 19 :: u 20 :: u 21 :: u 22 :: u 23 :: u 24 :: u 25 :: u 26 :: u 27 :: u 28 :: u 29 :: u 30 :: u 31 :: u 32 :: u 33 :: u 34 :: u 35 :: u 36 :: u 37 :: u 38 :: u 39 :: u 40 :: u 41 :: u 42 :: u 43 :: u 44 :: u 45 :: u 46 :: u 47 :: u 48 :: u 49 :: u 50 :: u 51 :: u 52 :: u 53 :: u 54 :: u 55 :: u 56 :: u 57 :: u 58 :: u 59 :: u 60 :: u 61 :: []), []⟩) a W) (fun a _ => s.rooms.length - (intOf (a.tmps.getD 8 undef)).toNat) ⟨⟨0, by omega, ⟨hb1, by omega, q0, q1⟩, _, [], NOwn.nil, Lib.hid rfl, exFrame (by kernel_rfl)⟩⟩ ?_
  clear a0 a1 a2 a3 l0 q0 q1 hb1 hB0 W1
  rintro a Wk ⟨⟨k, hk, ⟨B1, hz1', q0, q1⟩, vo, X, hO, HX, u, rfl⟩⟩
  have a0 : Wk.cell? ⟨p0, 0, none⟩ = some (.slice Ar s.rooms.length cr) := q0.cell 0
  have a1 : Wk.cell? ⟨p0, 1, none⟩ = some (.int .i64 s.days) := q0.cell 1
  have a2 : Wk.cell? ⟨p0, 2, none⟩ = some (.slice Am s.moves.length cm) := q0.cell 2
  have a3 : Wk.cell? ⟨p0, 3, none⟩ = some (.slice Aw s.wgs.length cw) := q0.cell 3
  have l0 := q0.lt
  rw [HSD.out] at a1
  have b0 : Wk.cell? ⟨p0 + 1, 0, none⟩ = some (.slice Af n1 cf) := q1.cell 0
  have b1 : Wk.cell? ⟨p0 + 1, 1, none⟩ = some (.slice Av n2 cv) := q1.cell 1
  have b2 : Wk.cell? ⟨p0 + 1, 2, none⟩ = some (.slice Ag n3 cg) := q1.cell 2
  have l1 := q1.lt
  by_cases hlt : k < s.rooms.length
  · obtain ⟨bf, of, rfl, hbf, y0⟩ := IsInts.at_ (hfs.below B1) (show k < n1 by rw [HL1.out]; exact hlt)
    have hbfW : bf < Wk.heap.size := by have := B1.size; omega
    have hk1 : (k : Int) < (n1 : Int) := by rw [HL1.out]; omega
    have e7 : Hid (gI t.fs k = stk0 s.wo t.F t.V t.G k 0) := Lib.hid rfl
    have ec : Hid (canTo s t k = cBt s t k 0) := Lib.hid (cBt_zero s t k).symm
    go_wp2_with fail
    rw [e7.out, ec.out]
    obtain ⟨Bk, hBk⟩ : ∃ b, Wk.heap.size = b := ⟨_, rfl⟩
    have HBK := Lib.hid hBk
    rw [hBk] at hz1' hbfW
    clear hBk
    refine wp_loop (fun a W => Rel (fun a W => ∃ j : Nat, j ≤ D ∧ Below Wk.heap.size Wk W ∧ (∃ vl l, W.ownsRow Bk 3 1 vl l.length (l.flatMap cI1) ∧ Hid (l = (List.range j).map (stk s.wo t.F t.V t.G k)) ∧ ∃ u : Nat → Value, a = ⟨List.toArray (u 0 :: u 1 :: .pointer (some ⟨p0, 0, none⟩) :: .pointer (some ⟨p0 + 1, 0, none⟩) :: u 4 :: u 5 :: vo :: .bool (cBt s t k j) :: .int .i64 (k : Int) :: .int .i64 (stk0 s.wo t.F t.V t.G k j) :: vl :: .int .i64 (j : Int) :: u 12 :: u 13 :: u 14 :: u 15 :: u 16 :: u 17 :: u 18 :: u 19 :: u 20 :: u 21 :: u 22 :: u 23 :: u 24 :: u 25 :: u 26 :: u 27 :: u 28 :: u 29 :: u 30 :: u 31 :: u 32 :: u 33 :: u 34 :: u 35 :: u 36 :: u 37 :: u 38 :: u 39 :: u 40 :: u 41 :: u 42 :: u 43 :: u 44 :: u 45 :: u 46 :: u 47 :: u 48 :: u 49 :: u 50 :: u 51 :: u 52 :: u 53 :: u 54 :: u 55 :: u 56 :: u 57 :: u 58 :: u 59 :: u 60 :: u 61 :: []), []⟩)) a W) (fun a _ => D - (intOf (a.tmps.getD 11 undef)).toNat) ⟨⟨0, by omega, Below.refl _ _, _, [], ⟨rfl, .inl ⟨rfl, rfl⟩⟩, Lib.hid rfl, exFrame (by kernel_rfl)⟩⟩ ?_
    clear a0 a1 a2 a3 l0 b0 b1 b2 l1 y0
    rintro a W ⟨⟨j, hj, hfk, vl, l, ho, HL, u2, rfl⟩⟩
    have q0' := q0.below hfk q0.lt
    have q1' := q1.below hfk q1.lt
    have BW := ex_trans B1 hfk
    have hzW := hfk.size
    rw [HBK.out] at hzW
    have HLL : Hid (l.length = j) := Lib.hid (by rw [HL.out]; simp)
    rw [HLL.out] at ho
    have a0 : W.cell? ⟨p0, 0, none⟩ = some (.slice Ar s.rooms.length cr) := q0'.cell 0
    have a1 : W.cell? ⟨p0, 1, none⟩ = some (.int .i64 s.days) := q0'.cell 1
    have a2 : W.cell? ⟨p0, 2, none⟩ = some (.slice Am s.moves.length cm) := q0'.cell 2
    have a3 : W.cell? ⟨p0, 3, none⟩ = some (.slice Aw s.wgs.length cw) := q0'.cell 3
    have l0 := q0'.lt
    rw [HSD.out] at a1
    have b0 : W.cell? ⟨p0 + 1, 0, none⟩ = some (.slice (some ⟨bf, of, none⟩) n1 cf) := q1'.cell 0
    have b1 : W.cell? ⟨p0 + 1, 1, none⟩ = some (.slice Av n2 cv) := q1'.cell 1
    have b2 : W.cell? ⟨p0 + 1, 2, none⟩ = some (.slice Ag n3 cg) := q1'.cell 2
    have l1 := q1'.lt
    by_cases hlj : j < D
    · obtain ⟨bv, ov, rfl, hbv, z0⟩ := (hvs.below BW) (show 0 < n2 by rw [HL2.out]; omega)
      have z1 : W.cell? ⟨bv, ov + k, none⟩ = some (.slice (rV k) (gL t.vs k).length (rcV k)) := by have := z0 k 0 (by rw [HL2.out]; exact hlt) (by omega); rw [show ov + (k * 1 + 0) = ov + k by omega] at this; exact this
      rw [HRL.out k hlt, HD.out] at z1
      have hro := (hrow k (by rw [HL2.out]; exact hlt)).below BW
      rw [HRL.out k hlt, HD.out] at hro
      obtain ⟨bl, ol, hrv, hbl, v0⟩ := IsInts.at_ hro hlj
      rw [hrv] at z1
      have hbvW : bv < W.heap.size := by have := BW.size; omega
      have hblW : bl < W.heap.size := by have := BW.size; omega
      have hk2 : (k : Int) < (n2 : Int) := by rw [HL2.out]; omega
      clear z0 hro hrv
      obtain ⟨rc, hrc⟩ : ∃ x, rcV k = x := ⟨_, rfl⟩
      rw [hrc] at z1
      clear hrc
      have hsd := stk_day s.wo t.F t.V t.G k j
      have hb0 := stk0_bd hw HTF.out (r := k) hlt j (by rw [HD.out]; exact hj)
      have hb2 := stk0_bd hw HTF.out (r := k) hlt (j + 1) (by rw [HD.out]; omega)
      have hcb := comes_bd s.wo (G := t.G) k j s.moves.length (fun i hi => by have a := HTF.out.mov i hi; have b := hw.grams i hi; unfold inR at a; omega)
      have hm12 := hw.len.2.2.1
      have hm0 : s.wo.moves.length = s.moves.length := rfl
      have hvb := HTF.out.vap k j hlt (by rw [HD.out]; exact hlj)
      have hrb := hw.rooms k hlt
      unfold inR at hvb
      have hvq : t.V k j = gI (gL t.vs k) j := rfl
      rw [hvq] at hvb hsd
      rw [hm0] at hsd hm12
      have hb2' : stk0 s.wo t.F t.V t.G k (j + 1) = stk s.wo t.F t.V t.G k j := rfl
      rw [hb2'] at hb2
      obtain ⟨S0, hS0⟩ : ∃ x, stk0 s.wo t.F t.V t.G k j = x := ⟨_, rfl⟩
      obtain ⟨S1, hS1⟩ : ∃ x, stk s.wo t.F t.V t.G k j = x := ⟨_, rfl⟩
      obtain ⟨cc, hcc⟩ : ∃ x, comes s.wo t.G k j s.moves.length = x := ⟨_, rfl⟩
      obtain ⟨vv, hvv⟩ : ∃ x, gI (gL t.vs k) j = x := ⟨_, rfl⟩
      rw [hS0] at hsd hb0 ⊢
      rw [hS1] at hsd hb2
      rw [hcc] at hsd hcb
      rw [hvv] at hsd hvb v0
      have hvb2 : 0 ≤ vv ∧ vv ≤ 50 := by have a1 := hvb.1; have a2 := hvb.2; have b1 : s.wo.rooms = s.rooms := rfl; rw [b1] at hrb; rw [b1] at a1 a2; omega
      have hcb2 : -24000 ≤ cc ∧ cc ≤ 24000 := by omega
      have hjj : (j : Int) ≤ 6 := by omega
      have hS0b : -200000 ≤ S0 ∧ S0 ≤ 200000 := by omega
      have HSD2 := Lib.hid hsd
      have HS1 := Lib.hid hS1
      have HCC := Lib.hid hcc
      clear hvb hcb hsd hb2' hvq hb0 hb2 hrb hm0 hm12 hvv hS0 hS1 hcc
      go_upto_region 11 with fail
      have D0 := (Below.refl W.heap.size W).drew
      refine wp_region_ext_mix 17 [(false, 0), (false, 1), (false, 2), (false, 3), (false, 4), (false, 5), (false, 7), (false, 8), (false, 9), (false, 10), (false, 11), (false, 12), (false, 13), (false, 14), (true, 6), (false, 15), (false, 16)] (by kernel_rfl) (by kernel_rfl) (by intro d _ _ _ _ h; cases d <;> exact h) ?_
      repeat (refine mix_quiet rfl ?_; go_big_quiet_step (fail); refine wpQuiet_nil ?_)
      refine mix_loud rfl ?_
      go_wp2_with fail
      have hcm := Comes_ref s Ar Am Aw cr cm cw W.drew ((hs.below (ex_trans BW D0)).up (ex_trans BW D0).size) hw t.gs Ag n3 cg ((hgs.below (ex_trans BW D0)).up (ex_trans BW D0).size) (by rw [HL3.out]; exact Nat.le_refl _) (fun i hi => by have a := HTF.out.mov i hi; have b := hw.grams i hi; unfold inR at a; have e : t.G i = gI t.gs i := rfl; rw [← e]; omega) (k : Int) (j : Int)
      rw [HSD.out] at hcm
      refine hcm.mono ?_
      clear hcm
      rintro e Z1 ⟨rfl, hz1⟩
      rw [show comes s.wo (gI t.gs) k j s.moves.length = cc from HCC.out]
      have E1 := ex_trans D0 hz1
      go_wp2_with fail
      refine ⟨inEx E1, ?_⟩
      repeat (refine mix_quiet rfl ?_; go_big_quiet_step (fail); refine wpQuiet_nil ?_)
      refine mix_nil (r := [_]) rfl ?_
      have ho1 := own_below ho E1
      have hfk1 := ex_trans hfk E1
      clear D0 hz1 a0 a1 a2 a3 l0 b0 b1 b2 l1 z1 v0 q0' q1'
      have hS1e : S0 + (cc - vv) = S1 := HSD2.out.symm
      have hS1b : -300000 ≤ S1 ∧ S1 ≤ 300000 := by omega
      go_upto_region 12 with fail
      rw [hS1e]
      have HSE := Lib.hid hS1e
      clear hS1e
      have XI := ex_alloc (Below.refl Z1.heap.size Z1) (.cells #[.int .i64 S1] 3)
      have ho2 := own_below ho1 XI
      have c63 : j + 1 ≤ maxLen := by unfold maxLen; omega
      have cby : (j + 1) * 8 ≤ 140737488355328 := by omega
      have hbase : Bk ≤ (Z1.alloc (.cells #[.int .i64 S1] 3)).heap.size := by have := XI.size; have := E1.size; omega
      go_wp2_with (refine pause_at 50 rfl ?_)
      refine Paused.mk ?_
      refine wpList_append_lies _ rfl _ _ _ rfl Bk 3 i2 _ 1 8 Tryz.underlying28 hi2 hz0 hz1 hz2 rfl (by omega) vl _ _ rfl ho2 ⟨Z1.heap.size, 0, none⟩ 1 1 [.int .i64 S1] rfl rfl (World.news_of_block (heap_alloc_new Z1 _)) (by simp [Value.oneCell']) (by omega) c63 cby hbase (Z1.heap.size + 1) (by simp) ?_
      intro gg cap w1 hown' hgrow hat hlt'
      have hfw : Below Wk.heap.size Wk w1 := (ex_trans hfk1 XI).grown hgrow (ex_trans hfk1 XI).size (fun b hb => by have := own_ge ho2 hb; have := HBK.out; omega)
      have HOW := Lib.hid (own_push (f := cI1) (x := S1) (by rw [HLL.out]) hown')
      have HL2' : Hid (l ++ [S1] = (List.range (j + 1)).map (stk s.wo t.F t.V t.G k)) := Lib.hid (by rw [HL.out, List.range_succ, List.map_append, List.map_singleton, HS1.out])
      have HCS : Hid (cBt s t k (j + 1) = (cBt s t k j && decide (0 ≤ S1))) := Lib.hid (by rw [cBt_succ, HS1.out])
      have HSK : Hid (stk0 s.wo t.F t.V t.G k (j + 1) = S1) := Lib.hid HS1.out
      clear hown' hgrow hat hlt'
      cases hcb : cBt s t k j
      · have HCB := Lib.hid hcb
        clear hcb
        go_wp2_with fail
        refine ⟨⟨⟨j + 1, by omega, hfw, _, _, HOW.out, HL2', exFrame (by rw [HSK.out, HCS.out, HCB.out]; kernel_rfl)⟩⟩, ?_⟩
        show D - (intOf (.int .i64 ((j : Int) + 1))).toNat < D - (intOf (.int .i64 (j : Int))).toNat
        simp [intOf]
        omega
      · by_cases hS : 0 ≤ S1
        · have HCB := Lib.hid hcb
          clear hcb
          go_wp2_with fail
          refine ⟨⟨⟨j + 1, by omega, hfw, _, _, HOW.out, HL2', exFrame (by rw [HSK.out, HCS.out, HCB.out]; rw [decide_eq_true hS]; kernel_rfl)⟩⟩, ?_⟩
          show D - (intOf (.int .i64 ((j : Int) + 1))).toNat < D - (intOf (.int .i64 (j : Int))).toNat
          simp [intOf]
          omega
        · have HCB := Lib.hid hcb
          clear hcb
          go_wp2_with fail
          refine ⟨⟨⟨j + 1, by omega, hfw, _, _, HOW.out, HL2', exFrame (by rw [HSK.out, HCS.out, HCB.out]; rw [decide_eq_false (show ¬ (0 ≤ S1) by omega)]; kernel_rfl)⟩⟩, ?_⟩
          show D - (intOf (.int .i64 ((j : Int) + 1))).toNat < D - (intOf (.int .i64 (j : Int))).toNat
          simp [intOf]
          omega
    · obtain rfl : j = D := by omega
      have hO' := hO.below hfk
      have HXl : Hid (X.length = k) := Lib.hid (by have := congrArg List.length HX.out; simpa using this)
      rw [← HLL.out] at ho
      obtain ⟨A5, c5, rfl, _, _, hr5⟩ := lay_ints ho
      rw [HLL.out]
      have HCA : Hid (cBt s t k j = canTo s t (k + 1)) := Lib.hid (by rw [← HD.out]; exact cBt_all s t k)
      rw [HCA.out]
      have XL := ex_alloc (Below.refl W.heap.size W) (.cells #[.slice A5 j c5] 28)
      have y4 := own_below hO'.own XL
      have c63 : X.length + 1 ≤ maxLen := by rw [HXl.out]; unfold maxLen; omega
      have cby : (X.length + 1) * 24 ≤ 140737488355328 := by rw [HXl.out]; omega
      have hbase : B0 ≤ (W.alloc (.cells #[.slice A5 j c5] 28)).heap.size := by have := XL.size; omega
      clear a0 a2 a3 b0 b1 b2 l1
      go_wp2_with (refine pause_at 59 rfl ?_)
      refine Paused.mk ?_
      refine wpList_append_lies _ rfl _ _ _ rfl B0 28 i1 _ 1 24 Tryz.underlying29 hi1 hy0 hy1 hy2 rfl (by omega) vo _ _ rfl y4 ⟨W.heap.size, 0, none⟩ 1 1 [.slice A5 j c5] rfl rfl (World.news_of_block (heap_alloc_new W _)) (by simp [Value.oneCell']) (by omega) c63 cby hbase (W.heap.size + 1) (by simp) ?_
      intro gg cap w1 hown' hgrow hat hlt'
      have hgf := Fr.grown (R := fun b => B0 ≤ b) hgrow (fun b hb => .inl (own_ge y4 hb))
      have Bw : Below w.heap.size w w1 := (ex_trans BW XL).grown hgrow (ex_trans BW XL).size (fun b hb => by have := own_ge y4 hb; omega)
      have hN3 : IOwn w1 B0 (.slice (some ⟨gg, 0, none⟩) (X.length + 1) cap) (X ++ [((A5, c5, l) : IRow)]) := NOwn.push (hO'.below XL) hgrow (by decide) rfl (own_push (f := cIR) (x := ((A5, c5, l) : IRow)) rfl (by rw [show cIR ((A5, c5, l) : IRow) = [.slice A5 j c5] by unfold cIR; dsimp only; rw [HLL.out]]; exact hown')) (fun y hy => by
        obtain rfl := List.mem_singleton.1 hy
        exact (hr5.below XL).base (by omega))
      have HX2 : Hid ((X ++ [((A5, c5, l) : IRow)]).map (fun x => x.2.2) = (List.range (k + 1)).map fun r => (List.range j).map (stk s.wo t.F t.V t.G r)) := Lib.hid (by rw [List.map_append, HX.out, List.range_succ, List.map_append, List.map_singleton, List.map_singleton, HL.out])
      have q0w := (q0'.below XL q0'.lt).fr hgf (by omega)
      have q1w := (q1'.below XL q1'.lt).fr hgf (by omega)
      have hzw : B0 ≤ w1.heap.size := by have := hgrow.size; omega
      clear hown' hgrow hat hlt' hgf hr5 ho
      generalize X ++ [((A5, c5, l) : IRow)] = X2 at *
      go_wp2_with fail
      refine ⟨⟨⟨k + 1, by omega, ⟨Bw, hzw, q0w, q1w⟩, _, X2, hN3, HX2, exFrame (by kernel_rfl)⟩⟩, ?_⟩
      show s.rooms.length - (intOf (.int .i64 ((k : Int) + 1))).toNat < s.rooms.length - (intOf (.int .i64 (k : Int))).toNat
      simp [intOf]
      omega
  · obtain ⟨A, c, rA, rc, rfl, hR⟩ := hO.lays (n := k) HX.out
    obtain rfl : k = s.rooms.length := by omega
    go_wp2
    go_ret2
    exact ⟨⟨A, c, X, rfl, hO.base hwb, by rw [HD.out]; exact HX.out⟩, B1⟩
end Go.Proofs.YthihdiilokdidaaGreat
end

section
namespace Go.Proofs.YthihdiilokdidaaGreat
open Go.RowKit
attribute [local go_sem] Ex.cell? Ex.frozen? Gx.cell?

theorem own_grow {W W' : World} {base : Nat} {e : TypeId} {sz n : Nat} {v : Value} {xs : List Value} {row : Option Nat} (h : W.ownsRow base e sz v n xs) (hg : W.grownBy W' row) (hn : ∀ b, v.ownBlock = some b → row ≠ some b) : W'.ownsRow base e sz v n xs :=
  own_fr h (Fr.grown (R := fun b => row = some b) hg (fun b e => .inl e)) (fun b hb => hn b hb)
theorem RowAt.grownNe {W W' : World} {B sz n : Nat} {T : TypeId} {A : Option Addr} {f : Nat → Nat → Value} {row : Option Nat} (h : RowAt W B T sz A n f) (hg : W.grownBy W' row) (hn : ∀ g, A = some ⟨g, 0, none⟩ → n ≠ 0 → some g ≠ row) : RowAt W' B T sz A n f := by
  by_cases h0 : n = 0
  · exact .inl h0
  rcases h with h | ⟨g, cur, e, h1, h2, h3⟩
  · exact .inl h
  · exact .inr ⟨g, cur, e, h1, h2.grown hg (hn g e h0), h3⟩
def Apart (X : List IRow) (v : Value) : Prop := ∀ x ∈ X, ∀ g, x.1 = some ⟨g, 0, none⟩ → x.2.2.length ≠ 0 → v.ownBlock ≠ some g
theorem IOwn.grownA {W W' : World} {B B1 n : Nat} {v v1 : Value} {X : List IRow} {xs : List Value} (h : IOwn W B v X) (hg : W.grownBy W' v1.ownBlock) (o1 : W.ownsRow B1 3 1 v1 n xs) (ap : Apart X v1) : IOwn W' B v X :=
  ⟨own_grow h.own hg (fun b hb => own_ownne h.own o1 (by decide) hb), fun x hx => (h.ins x hx).grownNe hg (fun g e hn e2 => ap x hx g e hn e2.symm)⟩
theorem Apart.next {W : World} {B : Nat} {v v1 v1' : Value} {X : List IRow} {gg : Nat} (h : Apart X v1) (hN : IOwn W B v X) (he : v1'.ownBlock = some gg) (hat : v1.ownBlock = some gg ∨ W.heap.size ≤ gg) : Apart X v1' := fun x hx g e hn e2 => by
  rw [he] at e2
  injection e2 with e2
  subst e2
  rcases hat with h1 | h1
  · exact h x hx _ e hn h1
  · rcases hN.ins x hx with h3 | ⟨g, cur, e3, _, k2, _⟩
    · exact hn h3
    · rw [e] at e3
      injection e3 with e3
      injection e3 with e3
      have := k2.lt
      omega
theorem Apart.push {X : List IRow} {v : Value} {x : IRow} {B : Nat} (h : Apart X v) (hx : ∀ g, x.1 = some ⟨g, 0, none⟩ → x.2.2.length ≠ 0 → B ≤ g) (hv : ∀ b, v.ownBlock = some b → b < B) : Apart (X ++ [x]) v := fun y hy g e hn e2 => by
  rcases List.mem_append.1 hy with h1 | h1
  · exact h y h1 g e hn e2
  · obtain rfl := List.mem_singleton.1 h1
    have := hx g e hn
    have := hv g e2
    omega
structure PickOk (s : Ws) (n : Int) (l : List Int) (j : Nat) : Prop where
  fst : inR n (gRm s.rooms j).fst
  len : l.length = s.wo.days
  vap : ∀ d, d < s.wo.days → inR (gI l d) (gRm s.rooms j).vap
structure PickTo (s : Ws) (l1 : List Int) (L : List (List Int)) (k : Nat) : Prop where
  n1 : l1.length = k
  n2 : L.length = k
  ok : ∀ j, j < k → PickOk s (gI l1 j) (gL L j) j
theorem PickTo.snoc {s : Ws} {l1 : List Int} {L : List (List Int)} {k : Nat} (h : PickTo s l1 L k) {n : Int} {l : List Int} (hn : PickOk s n l k) : PickTo s (l1 ++ [n]) (L ++ [l]) (k + 1) where
  n1 := by simp [h.n1]
  n2 := by simp [h.n2]
  ok := fun j hj => by
    rcases Nat.lt_succ_iff_lt_or_eq.1 hj with hlt | rfl
    · have e1 : gI (l1 ++ [n]) j = gI l1 j := getD_l _ (by rw [h.n1]; exact hlt)
      have e2 : gL (L ++ [l]) j = gL L j := getD_l _ (by rw [h.n2]; exact hlt)
      rw [e1, e2]; exact h.ok j hlt
    · have e1 : gI (l1 ++ [n]) j = n := by rw [← h.n1]; exact getD_r _ _ _
      have e2 : gL (L ++ [l]) j = l := by rw [← h.n2]; exact getD_r _ _ _
      rw [e1, e2]; exact hn
theorem PickTo.tru {s : Ws} {t : Tt} (hd : s.days = (s.wo.days : Int)) (h : PickTo s t.fs t.vs s.rooms.length) (hg : t.gs.length = s.moves.length) (hm : ∀ i, i < s.moves.length → inR (gI t.gs i) (gMv s.moves i).g) : truT s t = true :=
  (truT_iff hd).2 ⟨⟨h.n1, h.n2, hg⟩, fun r hr => (h.ok r hr).len, ⟨fun r hr => (h.ok r hr).fst, fun r d hr hd => (h.ok r hr).vap d hd, hm⟩⟩
theorem gI_snoc' {l : List Int} {n : Int} {k : Nat} {P : Int → Nat → Prop} (hl : l.length = k) (h : ∀ j, j < k → P (gI l j) j) (hn : P n k) : ∀ j, j < k + 1 → P (gI (l ++ [n]) j) j := fun j hj => by
  rcases Nat.lt_succ_iff_lt_or_eq.1 hj with hlt | rfl
  · have e1 : gI (l ++ [n]) j = gI l j := getD_l _ (by rw [hl]; exact hlt)
    rw [e1]; exact h j hlt
  · have e1 : gI (l ++ [n]) j = n := by rw [← hl]; exact getD_r _ _ _
    rw [e1]; exact hn
structure TruP (s : Ws) (t : Tt) : Prop where
  pt : PickTo s t.fs t.vs s.rooms.length
  gl : t.gs.length = s.moves.length
  mv : ∀ i, i < s.moves.length → inR (gI t.gs i) (gMv s.moves i).g
theorem TruP.tru {s : Ws} {t : Tt} (h : TruP s t) (hd : s.days = (s.wo.days : Int)) : truT s t = true := PickTo.tru hd h.pt h.gl h.mv
structure PkA (s : Ws) (wc : Array Value) (w : World) (p0 B0 : Nat) (v1 : Value) (l1 : List Int) (v2 : Value) (X : List IRow) (W : World) : Prop where
  bw : Below w.heap.size w W
  sz : B0 ≤ W.heap.size
  q0 : Blk W p0 26 wc
  q1 : Blk W (p0 + 1) 31 #[.slice none 0 0, .slice none 0 0, .slice none 0 0]
  q2 : Blk W (p0 + 1 + 1) 31 #[v1, v2, .slice none 0 0]
  o1 : W.ownsRow B0 3 1 v1 l1.length (l1.flatMap cI1)
  o2 : IOwn W B0 v2 X
  ap : Apart X v1
theorem PkA.below {s : Ws} {wc : Array Value} {w W W' : World} {p0 B0 : Nat} {v1 : Value} {l1 : List Int} {v2 : Value} {X : List IRow} (h : PkA s wc w p0 B0 v1 l1 v2 X W) (hb : Below W.heap.size W W') : PkA s wc w p0 B0 v1 l1 v2 X W' :=
  ⟨ex_trans h.bw hb, Nat.le_trans h.sz hb.size, h.q0.below hb h.q0.lt, h.q1.below hb h.q1.lt, h.q2.below hb h.q2.lt, own_below h.o1 hb, h.o2.below hb, h.ap⟩
theorem PkA.fst {s : Ws} {wc : Array Value} {w W W' : World} {p0 B0 : Nat} {v1 : Value} {l1 : List Int} {v2 : Value} {X : List IRow} (h : PkA s wc w p0 B0 v1 l1 v2 X W) (hB : p0 + 1 + 1 < B0) (hw : w.heap.size ≤ p0) (hg : W.grownBy W' v1.ownBlock) {gg cap : Nat} {x : Int} (ho : W'.ownsRow B0 3 1 (.slice (some ⟨gg, 0, none⟩) (l1.length + 1) cap) (l1.length + 1) (l1.flatMap cI1 ++ [.int .i64 x])) (hat : v1.ownBlock = some gg ∨ W.heap.size ≤ gg) :
    PkA s wc w p0 B0 (.slice (some ⟨gg, 0, none⟩) (l1.length + 1) cap) (l1 ++ [x]) v2 X (W'.setCell ⟨p0 + 1 + 1, 0, none⟩ (.slice (some ⟨gg, 0, none⟩) (l1.length + 1) cap)) := by
  have hge := fun (j : Nat) (hj : v1.ownBlock = some j) => own_ge h.o1 hj
  have hne : ∀ p, p < B0 → some p ≠ v1.ownBlock := fun p hp e => by have := hge p e.symm; omega
  have q2' := h.q2.grown hg (hne _ hB)
  have hs2 : B0 ≤ W'.heap.size := by have := hg.size; have := h.sz; omega
  have q2s := q2'.set_ 0 (.slice (some ⟨gg, 0, none⟩) (l1.length + 1) cap)
  simp only [List.setIfInBounds_toArray, List.set_cons_zero, List.set_cons_succ] at q2s
  refine ⟨ex_set (h.bw.grown hg h.bw.size (fun b hb => by have := hge b hb; omega)) (by show w.heap.size ≤ p0 + 1 + 1; omega) _, by simpa using hs2, (h.q0.grown hg (hne _ (by omega))).far (by show p0 ≠ p0 + 1 + 1; omega) _, (h.q1.grown hg (hne _ (by omega))).far (by show p0 + 1 ≠ p0 + 1 + 1; omega) _, q2s, ?_, ?_, h.ap.next h.o2 rfl hat⟩
  · exact own_far (own_push (f := cI1) (x := x) rfl ho) (by show p0 + 1 + 1 < B0; omega) _
  · exact (h.o2.grownA hg h.o1 h.ap).set q2' (by decide) (by decide) 0 _
theorem PkA.vap {s : Ws} {wc : Array Value} {w W W' : World} {p0 B0 : Nat} {v1 : Value} {l1 : List Int} {v2 : Value} {X : List IRow} (h : PkA s wc w p0 B0 v1 l1 v2 X W) (hB : p0 + 1 + 1 < B0) (hw : w.heap.size ≤ p0) (hg : W.grownBy W' v2.ownBlock) {gg cap : Nat} {x : IRow} (ho : W'.ownsRow B0 28 1 (.slice (some ⟨gg, 0, none⟩) (X.length + 1) cap) (X.length + 1) (X.flatMap cIR ++ cIR x)) {B1 : Nat} (hx : RowAt W B1 3 1 x.1 x.2.2.length (fI x.2.2)) (hB1 : B0 ≤ B1) (hv : ∀ b, v1.ownBlock = some b → b < B1) :
    PkA s wc w p0 B0 v1 l1 (.slice (some ⟨gg, 0, none⟩) (X.length + 1) cap) (X ++ [x]) (W'.setCell ⟨p0 + 1 + 1, 1, none⟩ (.slice (some ⟨gg, 0, none⟩) (X.length + 1) cap)) := by
  have hge := fun (j : Nat) (hj : v2.ownBlock = some j) => own_ge h.o2.own hj
  have hne : ∀ p, p < B0 → some p ≠ v2.ownBlock := fun p hp e => by have := hge p e.symm; omega
  have q2' := h.q2.grown hg (hne _ hB)
  have hs2 : B0 ≤ W'.heap.size := by have := hg.size; have := h.sz; omega
  have q2s := q2'.set_ 1 (.slice (some ⟨gg, 0, none⟩) (X.length + 1) cap)
  simp only [List.setIfInBounds_toArray, List.set_cons_zero, List.set_cons_succ] at q2s
  have o2' : IOwn W' B0 (.slice (some ⟨gg, 0, none⟩) (X.length + 1) cap) (X ++ [x]) := NOwn.push h.o2 hg (by decide) rfl (own_push (f := cIR) (x := x) rfl ho) (fun y hy => by
    obtain rfl := List.mem_singleton.1 hy
    exact hx.base hB1)
  refine ⟨ex_set (h.bw.grown hg h.bw.size (fun b hb => by have := hge b hb; omega)) (by show w.heap.size ≤ p0 + 1 + 1; omega) _, by simpa using hs2, (h.q0.grown hg (hne _ (by omega))).far (by show p0 ≠ p0 + 1 + 1; omega) _, (h.q1.grown hg (hne _ (by omega))).far (by show p0 + 1 ≠ p0 + 1 + 1; omega) _, q2s, ?_, ?_, h.ap.push (B := B1) (fun g e hn => ?_) hv⟩
  · exact own_far (own_grow h.o1 hg (fun b hb => own_ownne h.o1 h.o2.own (by decide) hb)) (by show p0 + 1 + 1 < B0; omega) _
  · exact o2'.set q2' (by decide) (by decide) 1 _
  · rcases hx with h3 | ⟨g', cur, e3, k1, k2, _⟩
    · exact absurd h3 hn
    · rw [e] at e3
      injection e3 with e3
      injection e3 with e3
      omega
structure TtOwn (w : World) (B : Nat) (t : Tt) (A1 A2 A3 : Option Addr) (c2 : Nat) : Prop where
  fs : RowAt w B 3 1 A1 t.fs.length (fI t.fs)
  vs : ∃ X : List IRow, IOwn w B (.slice A2 t.vs.length c2) X ∧ X.map (fun x => x.2.2) = t.vs
  gs : RowAt w B 3 1 A3 t.gs.length (fI t.gs)
theorem TtOwn.below {w w' : World} {B : Nat} {t : Tt} {A1 A2 A3 : Option Addr} {c2 : Nat} (h : TtOwn w B t A1 A2 A3 c2) (hb : Below w.heap.size w w') : TtOwn w' B t A1 A2 A3 c2 := by
  obtain ⟨h1, ⟨X, h2, h3⟩, h4⟩ := h
  exact ⟨h1.below hb, ⟨X, h2.below hb, h3⟩, h4.below hb⟩
theorem TtOwn.fr {R : Nat → Prop} {w w' : World} {B : Nat} {t : Tt} {A1 A2 A3 : Option Addr} {c2 : Nat} (h : TtOwn w B t A1 A2 A3 c2) (hf : Fr R w w') (hn : ∀ g, B ≤ g → g < w.heap.size → ¬ R g) : TtOwn w' B t A1 A2 A3 c2 := by
  obtain ⟨h1, ⟨X, h2, h3⟩, h4⟩ := h
  exact ⟨h1.fr hf hn, ⟨X, h2.fr hf hn, h3⟩, h4.fr hf hn⟩
theorem TtOwn.base {w : World} {B B' : Nat} {t : Tt} {A1 A2 A3 : Option Addr} {c2 : Nat} (h : TtOwn w B t A1 A2 A3 c2) (hb : B' ≤ B) : TtOwn w B' t A1 A2 A3 c2 := by
  obtain ⟨h1, ⟨X, h2, h3⟩, h4⟩ := h
  exact ⟨h1.base hb, ⟨X, h2.base hb, h3⟩, h4.base hb⟩
theorem TtOwn.tt {w : World} {B : Nat} {t : Tt} {A1 A2 A3 : Option Addr} {c2 : Nat} (h : TtOwn w B t A1 A2 A3 c2) : ∃ rV rcV, TtIn w w.heap.size t A1 A2 A3 rV rcV := by
  obtain ⟨h1, ⟨X, h2, h3⟩, h4⟩ := h
  obtain ⟨A, c, rA, rc, e, hl⟩ := IOwn.lis h2 h3
  injection e with e1 _ e2
  subst e1 e2
  exact ⟨rA, rc, h1.sl, hl.out, hl.row, h4.sl⟩
structure PkV (s : Ws) (B : Nat) (w' : World) (e : Ending) : Prop where
  out : ∃ t : Tt, ∃ A1 A2 A3 c1 c2 c3, e = .returned (.agg #[.slice A1 t.fs.length c1, .slice A2 t.vs.length c2, .slice A3 t.gs.length c3]) ∧ truT s t = true ∧ TtOwn w' B t A1 A2 A3 c2
set_option maxRecDepth 100000 in
set_option maxHeartbeats 6400000 in
theorem Picked_any (s : Ws) (Ar Am Aw : Option Addr) (cr cm cw : Nat) (w : World) (hs : WsIn w w.heap.size s Ar Am Aw) (hw : WoOk s.wo) (hd : s.days = (s.wo.days : Int)) (AW : Option Addr) (cW : Nat) (ws : List Int) (hwd : SlAt w w.heap.size 1 AW ws.length (fU ws)) (hwb : ∀ k, k < ws.length → 0 ≤ gI ws k ∧ gI ws k ≤ 65535) (hwl : ws.length ≤ maxLen) :
    Calls Tryz.prog 19 #[.agg #[.slice Ar s.rooms.length cr, .int .i64 s.days, .slice Am s.moves.length cm, .slice Aw s.wgs.length cw], .slice AW ws.length cW] w fun e w' => PkV s w.heap.size w' e ∧ Below w.heap.size w w' := by
  obtain ⟨i1, hi1, hy0, hy1, hy2⟩ := info_parts ints_info2
  obtain ⟨i0, hi0, hz0, hz1, hz2⟩ := info_parts int_info
  have HI := Lib.hid hi0
  have HJ := Lib.hid hi1
  clear hi0 hi1
  obtain ⟨D, hD⟩ : ∃ D, s.wo.days = D := ⟨_, rfl⟩
  have hD6 : 1 ≤ D ∧ D ≤ 6 := by have := hw.days; omega
  have hr3 : 0 < s.rooms.length ∧ s.rooms.length ≤ 3 := ⟨hw.len.1, hw.len.2.1⟩
  have hm12 : s.moves.length ≤ 12 := hw.len.2.2.1
  have HD := Lib.hid hD
  have HSD : Hid (s.days = (D : Int)) := Lib.hid (by rw [hd, hD])
  clear hD hd
  have HRM : Hid (∀ r, r < s.rooms.length → 0 ≤ (gRm s.rooms r).fst.lo ∧ (gRm s.rooms r).fst.lo ≤ (gRm s.rooms r).fst.hi ∧ (gRm s.rooms r).fst.hi ≤ 2000 ∧ 0 ≤ (gRm s.rooms r).vap.lo ∧ (gRm s.rooms r).vap.lo ≤ (gRm s.rooms r).vap.hi ∧ (gRm s.rooms r).vap.hi ≤ 50) := Lib.hid hw.rooms
  have HMG : Hid (∀ i, i < s.moves.length → 0 ≤ (gMv s.moves i).g.lo ∧ (gMv s.moves i).g.lo ≤ (gMv s.moves i).g.hi ∧ (gMv s.moves i).g.hi ≤ 2000) := Lib.hid hw.grams
  clear hw
  have HWB := Lib.hid hwb
  clear hwb
  have hb1 := ex_alloc (ex_alloc (ex_alloc (Below.refl w.heap.size w) (.cells #[.slice Ar s.rooms.length cr, .int .i64 s.days, .slice Am s.moves.length cm, .slice Aw s.wgs.length cw] 26)) (.cells #[.slice none 0 0, .slice none 0 0, .slice none 0 0] 31)) (.cells #[.slice none 0 0, .slice none 0 0, .slice none 0 0] 31)
  have q0 : Blk (((w.alloc (.cells #[.slice Ar s.rooms.length cr, .int .i64 s.days, .slice Am s.moves.length cm, .slice Aw s.wgs.length cw] 26)).alloc (.cells #[.slice none 0 0, .slice none 0 0, .slice none 0 0] 31)).alloc (.cells #[.slice none 0 0, .slice none 0 0, .slice none 0 0] 31)) w.heap.size 26 #[.slice Ar s.rooms.length cr, .int .i64 s.days, .slice Am s.moves.length cm, .slice Aw s.wgs.length cw] := ((Blk.new _ _ _).alloc _).alloc _
  have q1 : Blk (((w.alloc (.cells #[.slice Ar s.rooms.length cr, .int .i64 s.days, .slice Am s.moves.length cm, .slice Aw s.wgs.length cw] 26)).alloc (.cells #[.slice none 0 0, .slice none 0 0, .slice none 0 0] 31)).alloc (.cells #[.slice none 0 0, .slice none 0 0, .slice none 0 0] 31)) (w.heap.size + 1) 31 #[.slice none 0 0, .slice none 0 0, .slice none 0 0] := (Blk.new' _ _ _ (by simp)).alloc _
  have q2 : Blk (((w.alloc (.cells #[.slice Ar s.rooms.length cr, .int .i64 s.days, .slice Am s.moves.length cm, .slice Aw s.wgs.length cw] 26)).alloc (.cells #[.slice none 0 0, .slice none 0 0, .slice none 0 0] 31)).alloc (.cells #[.slice none 0 0, .slice none 0 0, .slice none 0 0] 31)) (w.heap.size + 1 + 1) 31 #[.slice none 0 0, .slice none 0 0, .slice none 0 0] := Blk.new' _ _ _ (by simp)
  go_enter Tryz.func19, Tryz.ntmps19
  go_upto_region 2 with fail
  show Code.wp _ _ _ _ (((w.alloc (.cells #[.slice Ar s.rooms.length cr, .int .i64 s.days, .slice Am s.moves.length cm, .slice Aw s.wgs.length cw] 26)).alloc (.cells #[.slice none 0 0, .slice none 0 0, .slice none 0 0] 31)).alloc (.cells #[.slice none 0 0, .slice none 0 0, .slice none 0 0] 31))
  obtain ⟨p0, hp0⟩ : ∃ p, w.heap.size = p := ⟨_, rfl⟩
  have hwp : w.heap.size ≤ p0 := by omega
  rw [hp0] at q0 q1 q2 ⊢
  have HP0 := Lib.hid hp0
  generalize ((w.alloc (.cells #[.slice Ar s.rooms.length cr, .int .i64 s.days, .slice Am s.moves.length cm, .slice Aw s.wgs.length cw] 26)).alloc (.cells #[.slice none 0 0, .slice none 0 0, .slice none 0 0] 31)).alloc (.cells #[.slice none 0 0, .slice none 0 0, .slice none 0 0] 31) = W1 at *
  clear hp0
  obtain ⟨B0, hB0⟩ : ∃ b, W1.heap.size = b := ⟨_, rfl⟩
  have hbs : p0 + 1 + 1 < B0 := by have := q2.lt; omega
  have hwB : w.heap.size ≤ B0 := by omega
  have P0 : PkA s #[.slice Ar s.rooms.length cr, .int .i64 s.days, .slice Am s.moves.length cm, .slice Aw s.wgs.length cw] w p0 B0 (.slice none 0 0) [] (.slice none 0 0) [] W1 := ⟨hb1, by omega, q0, q1, q2, ⟨rfl, .inl ⟨rfl, rfl⟩⟩, NOwn.nil, fun x hx => by cases hx⟩
  clear hb1 q0 q1 q2 hB0
  have HPT : Hid (PickTo s [] [] 0) := Lib.hid ⟨rfl, rfl, fun j hj => by omega⟩
  go_wp2_with fail
  refine wp_loop (fun a W => Rel (fun a W => ∃ k : Nat, k ≤ s.rooms.length ∧ ∃ v1 l1 v2 X, PkA s #[.slice Ar s.rooms.length cr, .int .i64 s.days, .slice Am s.moves.length cm, .slice Aw s.wgs.length cw] w p0 B0 v1 l1 v2 X W ∧ Hid (PickTo s l1 (X.map (fun x => x.2.2)) k) ∧ ∃ u : Nat → Value, a = ⟨List.toArray (u 0 :: .slice AW ws.length cW :: .pointer (some ⟨p0, 0, none⟩) :: u 3 :: .pointer (some ⟨p0 + 1, 0, none⟩) :: .pointer (some ⟨p0 + 1 + 1, 0, none⟩) :: .int .i64 (k : Int) :: u 7 :: u 8 :: u 9 :: u 10 :: u 11 :: u 12 :: u 13 :: u 14 :: u 15 :: u 16 :: u 17 :: u 18 :: u 19 :: u 20 :: u 21 :: u 22 :: u 23 :: u 24 :: u 25 :: u 26 :: u 27 :: u 28 :: u 29 :: u 30 :: u 31 :: u 32 :: u 33 :: u 34 :: u 35 :: u 36 :: u 37 :: u 38 :: u 39 :: u 40 :: u 41 :: u 42 :: u 43 :: u 44 :: u 45 :: u 46 :: u 47 :: u 48 :: u 49 :: u 50 :: u 51 :: u 52 :: u 53 :: u 54 :: u 55 :: u 56 :: u 57 :: u 58 :: u 59 :: u 60 :: u 61 :: u 62 :: u 63 :: u 64 :: u 65 :: u 66 :: u 67 :: u 68 :: u 69 :: u 70 :: u 71 :: u 72 :: u 73 :: u 74 :: u 75 :: u 76 :: u 77 :: u 78 :: u 79 :: u 80 :: u 81 :: u 82 :: u 83 :: u 84 :: []), []⟩) a W) (fun a _ => s.rooms.length - (intOf (a.tmps.getD 6 undef)).toNat) ⟨⟨0, by omega, _, _, _, _, P0, HPT, exFrame (by kernel_rfl)⟩⟩ ?_
  clear P0 HPT W1
  rintro a W ⟨⟨k, hk, v1, l1, v2, X, P0, HPT, u, rfl⟩⟩
  have a0 : W.cell? ⟨p0, 0, none⟩ = some (.slice Ar s.rooms.length cr) := P0.q0.cell 0
  have a1 : W.cell? ⟨p0, 1, none⟩ = some (.int .i64 s.days) := P0.q0.cell 1
  have a2 : W.cell? ⟨p0, 2, none⟩ = some (.slice Am s.moves.length cm) := P0.q0.cell 2
  have a3 : W.cell? ⟨p0, 3, none⟩ = some (.slice Aw s.wgs.length cw) := P0.q0.cell 3
  have l0 := P0.q0.lt
  have c0 : W.cell? ⟨p0 + 1 + 1, 0, none⟩ = some v1 := P0.q2.cell 0
  have l2 := P0.q2.lt
  by_cases hlt : k < s.rooms.length
  · have hkn : (k : Int) < (s.rooms.length : Int) := by omega
    obtain ⟨br, orr, hAr, hbr, r0, r1, r2, r3⟩ := IsRms.at_ (hs.rooms.below P0.bw) hlt
    have lbr : br < W.heap.size := by have := P0.bw.size; omega
    have hrm := HRM.out k hlt
    have HL1 : Hid (l1.length = k) := Lib.hid HPT.out.n1
    rw [hAr] at a0
    obtain ⟨e0, he0⟩ : ∃ x, (gRm s.rooms k).fst.lo = x := ⟨_, rfl⟩
    rw [he0] at r0 hrm
    obtain ⟨e1, he1⟩ : ∃ x, (gRm s.rooms k).fst.hi = x := ⟨_, rfl⟩
    rw [he1] at r1 hrm
    obtain ⟨e2, he2⟩ : ∃ x, (gRm s.rooms k).vap.lo = x := ⟨_, rfl⟩
    rw [he2] at r2 hrm
    obtain ⟨e3, he3⟩ : ∃ x, (gRm s.rooms k).vap.hi = x := ⟨_, rfl⟩
    rw [he3] at r3 hrm
    have HE := Lib.hid (And.intro he0 (And.intro he1 (And.intro he2 he3)))
    clear he0 he1 he2 he3
    obtain ⟨row, hrow⟩ : ∃ row, v1.ownBlock = row := ⟨_, rfl⟩
    have hge := fun (j : Nat) (hj : v1.ownBlock = some j) => own_ge P0.o1 hj
    have hn0 : ¬ some (p0) = row := fun e => by have := hge _ (hrow.trans e.symm); omega
    have hn1 : ¬ some (p0 + 1) = row := fun e => by have := hge _ (hrow.trans e.symm); omega
    have hn2 : ¬ some (p0 + 1 + 1) = row := fun e => by have := hge _ (hrow.trans e.symm); omega
    have hnr : ¬ some br = row := fun e => by have := hge _ (hrow.trans e.symm); omega
    have hown := P0.o1
    skip
    have HROW := Lib.hid hrow
    clear hrow hge
    have HP := Lib.hid P0
    go_upto_region 5 with fail
    refine wp_region_gx_mix row 15 [(false, 0), (false, 1), (false, 2), (false, 3), (false, 4), (false, 5), (false, 6), (false, 7), (false, 8), (false, 9), (true, 10), (true, 11), (true, 12), (true, 13), (false, 14)] (by kernel_rfl) (by kernel_rfl) (by intro d _ _ _ _ h; cases d <;> exact h) ?_
    repeat (refine mix_quiet rfl ?_; go_big_quiet_step (fail); refine wpQuiet_nil ?_)
    have hX0 := (Below.refl W.heap.size W).drew
    refine mix_loud rfl ?_
    go_wp2_with fail
    refine (word_any AW cW ws (k : Int) W.drew ((hwd.below (ex_trans P0.bw hX0)).up (ex_trans P0.bw hX0).size) HWB.out (by omega) (by omega) hwl).mono ?_
    rintro e x1 ⟨⟨n, rfl, hn0', hn65⟩, hx1⟩
    have hX_x1 := ex_trans hX0 hx1
    go_wp2_with fail
    refine ⟨inGx (grown_row hX_x1), ?_⟩
    repeat (refine mix_quiet rfl ?_; go_big_quiet_step (fail); refine wpQuiet_nil ?_)
    refine mix_loud rfl ?_
    go_wp2_with fail
    refine (picked_any e0 e1 n x1 hn0' hn65 (by omega) (by omega) (by omega)).mono ?_
    rintro e x2 ⟨⟨y, rfl, hy1', hy2'⟩, hx2⟩
    have hX_x2 := ex_trans hX_x1 hx2
    go_wp2_with fail
    refine ⟨inGx (grown_row hX_x2), ?_⟩
    repeat (refine mix_quiet rfl ?_; go_big_quiet_step (fail); refine wpQuiet_nil ?_)
    refine mix_loud rfl ?_
    go_wp2_with fail
    have hX3 := ex_alloc hX_x2 (.cells #[.int .i64 y] 3)
    refine ⟨inGx (grown_row hX3), ?_⟩
    repeat (refine mix_quiet rfl ?_; go_big_quiet_step (fail); refine wpQuiet_nil ?_)
    have y4 := own_below hown hX3
    have c63 : l1.length + 1 ≤ maxLen := by rw [HL1.out]; unfold maxLen; omega
    have cby : (l1.length + 1) * 8 ≤ 140737488355328 := by rw [HL1.out]; omega
    have hbase : B0 ≤ (x2.alloc (.cells #[.int .i64 y] 3)).heap.size := by have := hX3.size; have := HP.out.sz; omega
    refine mix_loud rfl ?_
    go_wp2_with (at_builtin; refine wpList_append_lies _ rfl _ _ _ rfl (B0) 3 i0 _ 1 8 Tryz.underlying28 HI.out hz0 hz1 hz2 rfl (by omega) v1 _ _ rfl y4 ⟨x2.heap.size, 0, none⟩ 1 1 [.int .i64 y] rfl rfl (World.news_of_block (heap_alloc_new x2 _)) (by simp [Value.oneCell']) (by omega) c63 cby hbase (x2.heap.size + 1) (by simp) ?_; intro gg cap w1 hown' hgrow hat hlt')
    rw [HROW.out] at hgrow
    have hgB := (grown_row (r := row) hX3).andThen hgrow (fun j hj => .inr hj)
    refine ⟨inGx hgB, ?_⟩
    repeat (refine mix_quiet rfl ?_; go_big_quiet_step (fail); refine wpQuiet_nil ?_)
    refine mix_nil rfl ?_
    have hat' : v1.ownBlock = some gg ∨ W.heap.size ≤ gg := hat.imp id (fun e => by have := hX_x2.size; omega)
    rw [← HROW.out] at hgB
    have P1 := HP.out.fst hbs hwp hgB hown' hat'
    have qc := HP.out.q2.grown hgB (by rw [HROW.out]; exact hn2)
    have f0 : w1.cell? ⟨p0 + 1 + 1, 0, none⟩ = some v1 := qc.cell 0
    have ff := qc.frozen0
    have lq := qc.lt
    clear hown' hgB hgrow y4 hX3 hX_x2 hX_x1 hX0 hx1 hx2 hat hat' hlt' a0 a1 a2 a3 l0 c0 l2 r0 r1 r2 r3 hn0 hn1 hn2 hnr hown P0 HP qc
    go_upto_region 7 with fail
    generalize w1.setCell ⟨p0 + 1 + 1, 0, none⟩ (.slice (some ⟨gg, 0, none⟩) (l1.length + 1) cap) = V at *
    generalize Value.slice (some ⟨gg, 0, none⟩) (l1.length + 1) cap = v3 at *
    clear f0 ff lq hbase c63 cby
    obtain ⟨Bk, hBk⟩ : ∃ b, V.heap.size = b := ⟨_, rfl⟩
    have HBK := Lib.hid hBk
    have HY : Hid (e0 ≤ y ∧ y ≤ e1) := Lib.hid ⟨hy1', hy2'⟩
    have hszV := P1.sz
    have hv3 : Hid (∀ b, v3.ownBlock = some b → b < Bk) := Lib.hid (fun b hb => by have := (own_lt P1.o1 hb).2; omega)
    rw [hBk] at hszV
    clear hBk hy1' hy2' hn0' hn65
    go_wp2_with fail
    refine wp_loop (fun a W => Rel (fun a W => ∃ j : Nat, j ≤ D ∧ Below V.heap.size V W ∧ (∃ vl l, W.ownsRow Bk 3 1 vl l.length (l.flatMap cI1) ∧ Hid (l.length = j ∧ ∀ d, d < j → inR (gI l d) ⟨e2, e3⟩) ∧ ∃ u : Nat → Value, a = ⟨List.toArray (u 0 :: .slice AW ws.length cW :: .pointer (some ⟨p0, 0, none⟩) :: u 3 :: .pointer (some ⟨p0 + 1, 0, none⟩) :: .pointer (some ⟨p0 + 1 + 1, 0, none⟩) :: .int .i64 (k : Int) :: vl :: .int .i64 (j : Int) :: u 9 :: u 10 :: u 11 :: u 12 :: u 13 :: u 14 :: u 15 :: u 16 :: u 17 :: u 18 :: u 19 :: u 20 :: u 21 :: u 22 :: u 23 :: u 24 :: u 25 :: u 26 :: u 27 :: u 28 :: u 29 :: u 30 :: u 31 :: u 32 :: u 33 :: u 34 :: u 35 :: u 36 :: u 37 :: u 38 :: u 39 :: u 40 :: u 41 :: u 42 :: u 43 :: u 44 :: u 45 :: u 46 :: u 47 :: u 48 :: u 49 :: u 50 :: u 51 :: u 52 :: u 53 :: u 54 :: u 55 :: u 56 :: u 57 :: u 58 :: u 59 :: u 60 :: u 61 :: u 62 :: u 63 :: u 64 :: u 65 :: u 66 :: u 67 :: u 68 :: u 69 :: u 70 :: u 71 :: u 72 :: u 73 :: u 74 :: u 75 :: u 76 :: u 77 :: u 78 :: u 79 :: u 80 :: u 81 :: u 82 :: u 83 :: u 84 :: []), []⟩)) a W) (fun a _ => D - (intOf (a.tmps.getD 8 undef)).toNat) ⟨⟨0, by omega, Below.refl _ _, _, [], ⟨rfl, .inl ⟨rfl, rfl⟩⟩, Lib.hid ⟨rfl, fun d hd => by omega⟩, exFrame (by kernel_rfl)⟩⟩ ?_
    rintro a W ⟨⟨j, hj, hfk, vl, l, ho, HL, u2, rfl⟩⟩
    have P2 := P1.below hfk
    have a0 : W.cell? ⟨p0, 0, none⟩ = some (.slice Ar s.rooms.length cr) := P2.q0.cell 0
    have a1 : W.cell? ⟨p0, 1, none⟩ = some (.int .i64 s.days) := P2.q0.cell 1
    have a2 : W.cell? ⟨p0, 2, none⟩ = some (.slice Am s.moves.length cm) := P2.q0.cell 2
    have a3 : W.cell? ⟨p0, 3, none⟩ = some (.slice Aw s.wgs.length cw) := P2.q0.cell 3
    have l0 := P2.q0.lt
    rw [HSD.out] at a1
    have HLL : Hid (l.length = j) := Lib.hid HL.out.1
    by_cases hlj : j < D
    · obtain ⟨br, orr, hAr2, hbr, r0, r1, r2, r3⟩ := IsRms.at_ (hs.rooms.below P2.bw) hlt
      rw [hAr2] at a0
      have lbr : br < W.heap.size := by have := P2.bw.size; omega
      rw [HE.out.2.2.1] at r2
      rw [HE.out.2.2.2] at r3
      clear r0 r1
      have hjn : (j : Int) < (D : Int) := by omega
      have m1 : IntKind.i64.wrap (5 * (k : Int)) = 5 * (k : Int) := IntWalk.i64_in _ (by omega)
      have m2 : IntKind.i64.wrap (5 * (k : Int) + (j : Int)) = 5 * (k : Int) + (j : Int) := IntWalk.i64_in _ (by omega)
      have m3 : IntKind.i64.wrap (5 * (k : Int) + (j : Int) + 3) = 5 * (k : Int) + (j : Int) + 3 := IntWalk.i64_in _ (by omega)
      obtain ⟨row, hrow⟩ : ∃ row, vl.ownBlock = row := ⟨_, rfl⟩
      have hge := fun (j : Nat) (hj : vl.ownBlock = some j) => own_ge ho hj
      have hn0 : ¬ some p0 = row := fun e => by have := hge _ (hrow.trans e.symm); omega
      have hnr : ¬ some br = row := fun e => by have := hge _ (hrow.trans e.symm); omega
      have hVb := fun (b : Nat) (hb : row = some b) => hge b (hrow.trans hb)
      have HVB := Lib.hid hVb
      have HROW := Lib.hid hrow
      clear hrow hge hVb
      have HP := Lib.hid P2
      have hsW := hfk.size
      rw [HBK.out] at hsW
      go_upto_region 10 with fail
      refine wp_region_gx_mix row 17 [(false, 0), (false, 1), (false, 2), (false, 3), (false, 4), (false, 5), (false, 6), (false, 7), (false, 8), (false, 9), (false, 10), (false, 11), (false, 12), (true, 13), (true, 14), (true, 15), (true, 16)] (by kernel_rfl) (by kernel_rfl) (by intro d _ _ _ _ h; cases d <;> exact h) ?_
      repeat (refine mix_quiet rfl ?_; go_big_quiet_step (fail); refine wpQuiet_nil ?_)
      have hX0 := (Below.refl W.heap.size W).drew
      refine mix_loud rfl ?_
      go_wp2_with fail
      refine (word_any AW cW ws (5 * (k : Int) + (j : Int) + 3) W.drew ((hwd.below (ex_trans P2.bw hX0)).up (ex_trans P2.bw hX0).size) HWB.out (by omega) (by omega) hwl).mono ?_
      rintro e x1 ⟨⟨n, rfl, hn0', hn65⟩, hx1⟩
      have hX_x1 := ex_trans hX0 hx1
      go_wp2_with fail
      refine ⟨inGx (grown_row hX_x1), ?_⟩
      repeat (refine mix_quiet rfl ?_; go_big_quiet_step (fail); refine wpQuiet_nil ?_)
      refine mix_loud rfl ?_
      go_wp2_with fail
      refine (picked_any e2 e3 n x1 hn0' hn65 (by omega) (by omega) (by omega)).mono ?_
      rintro e x2 ⟨⟨z, rfl, hy1', hy2'⟩, hx2⟩
      have hX_x2 := ex_trans hX_x1 hx2
      go_wp2_with fail
      refine ⟨inGx (grown_row hX_x2), ?_⟩
      repeat (refine mix_quiet rfl ?_; go_big_quiet_step (fail); refine wpQuiet_nil ?_)
      refine mix_loud rfl ?_
      go_wp2_with fail
      have hX3 := ex_alloc hX_x2 (.cells #[.int .i64 z] 3)
      refine ⟨inGx (grown_row hX3), ?_⟩
      repeat (refine mix_quiet rfl ?_; go_big_quiet_step (fail); refine wpQuiet_nil ?_)
      have y4 := own_below ho hX3
      have c63 : l.length + 1 ≤ maxLen := by rw [HLL.out]; unfold maxLen; omega
      have cby : (l.length + 1) * 8 ≤ 140737488355328 := by rw [HLL.out]; omega
      have hbase : Bk ≤ (x2.alloc (.cells #[.int .i64 z] 3)).heap.size := by have := hX3.size; omega
      refine mix_loud rfl ?_
      go_wp2_with (at_builtin; refine wpList_append_lies _ rfl _ _ _ rfl (Bk) 3 i0 _ 1 8 Tryz.underlying28 HI.out hz0 hz1 hz2 rfl (by omega) vl _ _ rfl y4 ⟨x2.heap.size, 0, none⟩ 1 1 [.int .i64 z] rfl rfl (World.news_of_block (heap_alloc_new x2 _)) (by simp [Value.oneCell']) (by omega) c63 cby hbase (x2.heap.size + 1) (by simp) ?_; intro gg cap w1 hown' hgrow hat hlt')
      rw [HROW.out] at hgrow
      have hgB := (grown_row (r := row) hX3).andThen hgrow (fun j hj => .inr hj)
      refine ⟨inGx hgB, ?_⟩
      repeat (refine mix_quiet rfl ?_; go_big_quiet_step (fail); refine wpQuiet_nil ?_)
      refine mix_nil rfl ?_
      have hfw : Below V.heap.size V w1 := hfk.grown hgB hfk.size (fun b hb => by have := HVB.out b hb; have := HBK.out; omega)
      have HOW := Lib.hid (own_push (f := cI1) (x := z) rfl hown')
      have HL2 : Hid ((l ++ [z]).length = j + 1 ∧ ∀ d, d < j + 1 → inR (gI (l ++ [z]) d) ⟨e2, e3⟩) := Lib.hid ⟨by simp [HLL.out], gI_snoc' (P := fun n _ => inR n ⟨e2, e3⟩) HLL.out HL.out.2 ⟨hy1', hy2'⟩⟩
      clear hown' hgB hgrow y4 hX3 hX_x2 hX_x1 hX0 hx1 hx2 hat hlt' a0 a1 a2 a3 l0 r2 r3 hn0 hnr P2 HP
      go_wp2_with fail
      refine ⟨⟨⟨j + 1, by omega, hfw, _, _, HOW.out, HL2, exFrame (by kernel_rfl)⟩⟩, ?_⟩
      show D - (intOf (.int .i64 ((j : Int) + 1))).toNat < D - (intOf (.int .i64 (j : Int))).toNat
      simp [intOf]
      omega
    · obtain rfl : j = D := by omega
      obtain ⟨A5, c5, rfl, _, _, hr5⟩ := lay_ints ho
      rw [HLL.out]
      have hXl : Hid (X.length = k) := Lib.hid (by have := HPT.out.n2; simpa using this)
      have g1 : W.cell? ⟨p0 + 1 + 1, 1, none⟩ = some v2 := P2.q2.cell 1
      have l2 := P2.q2.lt
      have ff2 := P2.q2.frozen0
      have XL := ex_alloc (Below.refl W.heap.size W) (.cells #[.slice A5 j c5] 28)
      have P3 := P2.below XL
      have y4 := P3.o2.own
      have c63 : X.length + 1 ≤ maxLen := by rw [hXl.out]; unfold maxLen; omega
      have cby : (X.length + 1) * 24 ≤ 140737488355328 := by rw [hXl.out]; omega
      have hbase : B0 ≤ (W.alloc (.cells #[.slice A5 j c5] 28)).heap.size := P3.sz
      go_upto_region 11 with fail
      go_wp2_with (refine pause_at 59 rfl ?_)
      refine Paused.mk ?_
      refine wpList_append_lies _ rfl _ _ _ rfl B0 28 i1 _ 1 24 Tryz.underlying29 HJ.out hy0 hy1 hy2 rfl (by omega) v2 _ _ rfl y4 ⟨W.heap.size, 0, none⟩ 1 1 [.slice A5 j c5] rfl rfl (World.news_of_block (heap_alloc_new W _)) (by simp [Value.oneCell']) (by omega) c63 cby hbase (W.heap.size + 1) (by simp) ?_
      intro gg cap w1 hown' hgrow hat hlt'
      have hown2 : w1.ownsRow B0 28 1 (.slice (some ⟨gg, 0, none⟩) (X.length + 1) cap) (X.length + 1) (X.flatMap cIR ++ cIR ((A5, c5, l) : IRow)) := by rw [show cIR ((A5, c5, l) : IRow) = [.slice A5 j c5] by unfold cIR; dsimp only; rw [HLL.out]]; exact hown'
      have P4 := P3.vap hbs hwp hgrow hown2 (x := ((A5, c5, l) : IRow)) (hr5.below XL) (by omega) hv3.out
      have qc := P3.q2.grown hgrow (fun e => by have := own_ge y4 e.symm; omega)
      have f1 : w1.cell? ⟨p0 + 1 + 1, 1, none⟩ = some v2 := qc.cell 1
      have ff := qc.frozen0
      have lq := qc.lt
      have HP2 : Hid (PickTo s (l1 ++ [y]) ((X ++ [((A5, c5, l) : IRow)]).map (fun x => x.2.2)) (k + 1)) := Lib.hid (by
        rw [List.map_append, List.map_singleton]
        refine HPT.out.snoc ⟨?_, HLL.out.trans HD.out.symm, fun d hd => ?_⟩
        · have h1 := HE.out; have h2 := HY.out; unfold inR; omega
        · have h1 := HE.out; have h2 := HL.out.2 d (by rw [HD.out] at hd; exact hd); unfold inR at h2; dsimp only at h2; show (gRm s.rooms k).vap.lo ≤ gI l d ∧ gI l d ≤ (gRm s.rooms k).vap.hi; omega)
      clear hown' hown2 hgrow hat hlt' y4 qc P1 P2 P3 a0 a1 a2 a3 l0 g1 l2 ff2 ho hr5 XL hfk
      go_wp2_with fail
      refine ⟨⟨⟨k + 1, by omega, _, _, _, _, P4, HP2, exFrame (by kernel_rfl)⟩⟩, ?_⟩
      show s.rooms.length - (intOf (.int .i64 ((k : Int) + 1))).toNat < s.rooms.length - (intOf (.int .i64 (k : Int))).toNat
      simp [intOf]
      omega
  · have HK : Hid (k = s.rooms.length) := Lib.hid (by omega)
    have HP := Lib.hid P0
    obtain ⟨B3, hB3⟩ : ∃ b, W.heap.size = b := ⟨_, rfl⟩
    have HB3 := Lib.hid hB3
    have hB03 := P0.sz
    rw [hB3] at hB03
    clear hB3
    have hb3 := P0.bw
    have q2 := P0.q2
    clear P0
    go_wp2_with fail
    refine wp_loop (fun a V => Rel (fun a V => ∃ i : Nat, i ≤ s.moves.length ∧ Fr (fun b => b = p0 + 1 + 1) W V ∧ (∃ v l, Blk V (p0 + 1 + 1) 31 #[v1, v2, v] ∧ V.ownsRow B3 3 1 v l.length (l.flatMap cI1) ∧ Hid (l.length = i ∧ ∀ j, j < i → inR (gI l j) (gMv s.moves j).g) ∧ ∃ u : Nat → Value, a = ⟨List.toArray (u 0 :: .slice AW ws.length cW :: .pointer (some ⟨p0, 0, none⟩) :: u 3 :: .pointer (some ⟨p0 + 1, 0, none⟩) :: .pointer (some ⟨p0 + 1 + 1, 0, none⟩) :: u 6 :: u 7 :: u 8 :: .int .i64 (i : Int) :: u 10 :: u 11 :: u 12 :: u 13 :: u 14 :: u 15 :: u 16 :: u 17 :: u 18 :: u 19 :: u 20 :: u 21 :: u 22 :: u 23 :: u 24 :: u 25 :: u 26 :: u 27 :: u 28 :: u 29 :: u 30 :: u 31 :: u 32 :: u 33 :: u 34 :: u 35 :: u 36 :: u 37 :: u 38 :: u 39 :: u 40 :: u 41 :: u 42 :: u 43 :: u 44 :: u 45 :: u 46 :: u 47 :: u 48 :: u 49 :: u 50 :: u 51 :: u 52 :: u 53 :: u 54 :: u 55 :: u 56 :: u 57 :: u 58 :: u 59 :: u 60 :: u 61 :: u 62 :: u 63 :: u 64 :: u 65 :: u 66 :: u 67 :: u 68 :: u 69 :: u 70 :: u 71 :: u 72 :: u 73 :: u 74 :: u 75 :: u 76 :: u 77 :: u 78 :: u 79 :: u 80 :: u 81 :: u 82 :: u 83 :: u 84 :: []), []⟩)) a V) (fun a _ => s.moves.length - (intOf (a.tmps.getD 9 undef)).toNat) ⟨⟨0, by omega, Fr.refl _ _, _, [], q2, ⟨rfl, .inl ⟨rfl, rfl⟩⟩, Lib.hid ⟨rfl, fun j hj => by omega⟩, exFrame (by kernel_rfl)⟩⟩ ?_
    clear q2 a0 a1 a2 a3 l0 c0 l2
    rintro a V ⟨⟨i, hi, hF, v, l, q2, ho, HL, u2, rfl⟩⟩
    have bw := hF.toBelow HP.out.bw HP.out.bw.size (fun x hx => by omega)
    have q0 := HP.out.q0.fr hF (by omega)
    have hzV := hF.size
    rw [HB3.out] at hzV
    have a0 : V.cell? ⟨p0, 0, none⟩ = some (.slice Ar s.rooms.length cr) := q0.cell 0
    have a1 : V.cell? ⟨p0, 1, none⟩ = some (.int .i64 s.days) := q0.cell 1
    have a2 : V.cell? ⟨p0, 2, none⟩ = some (.slice Am s.moves.length cm) := q0.cell 2
    have a3 : V.cell? ⟨p0, 3, none⟩ = some (.slice Aw s.wgs.length cw) := q0.cell 3
    have l0 := q0.lt
    have HLL : Hid (l.length = i) := Lib.hid HL.out.1
    have d2 : V.cell? ⟨p0 + 1 + 1, 2, none⟩ = some v := q2.cell 2
    have l2 := q2.lt
    by_cases hli : i < s.moves.length
    · have hin : (i : Int) < (s.moves.length : Int) := by omega
      obtain ⟨br, orr, hAm, hbr, r0, r1, r2, r3, r4⟩ := IsMvs.at_ (hs.moves.below bw) hli
      rw [hAm] at a2
      have lbr : br < V.heap.size := by have := bw.size; omega
      have hmg := HMG.out i hli
      obtain ⟨e3, he3⟩ : ∃ x, (gMv s.moves i).g.lo = x := ⟨_, rfl⟩
      rw [he3] at r3 hmg
      obtain ⟨e4, he4⟩ : ∃ x, (gMv s.moves i).g.hi = x := ⟨_, rfl⟩
      rw [he4] at r4 hmg
      have HE := Lib.hid (And.intro he3 he4)
      clear he3 he4 r0 r1 r2
      have m1 : IntKind.i64.wrap ((i : Int) + 7) = (i : Int) + 7 := IntWalk.i64_in _ (by omega)
      obtain ⟨row, hrow⟩ : ∃ row, v.ownBlock = row := ⟨_, rfl⟩
      have hge := fun (j : Nat) (hj : v.ownBlock = some j) => own_ge ho hj
      have hn0 : ¬ some (p0) = row := fun e => by have := hge _ (hrow.trans e.symm); omega
      have hn1 : ¬ some (p0 + 1) = row := fun e => by have := hge _ (hrow.trans e.symm); omega
      have hn2 : ¬ some (p0 + 1 + 1) = row := fun e => by have := hge _ (hrow.trans e.symm); omega
      have hnr : ¬ some br = row := fun e => by have := hge _ (hrow.trans e.symm); omega
      have hVb := fun (b : Nat) (hb : row = some b) => hge b (hrow.trans hb)
      have HVB := Lib.hid hVb
      have HROW := Lib.hid hrow
      clear hrow hge hVb
      go_upto_region 15 with fail
      refine wp_region_gx_mix row 16 [(false, 0), (false, 1), (false, 2), (false, 3), (false, 4), (false, 5), (false, 6), (false, 7), (false, 8), (false, 9), (false, 10), (true, 11), (true, 12), (true, 13), (true, 14), (false, 15)] (by kernel_rfl) (by kernel_rfl) (by intro d _ _ _ _ h; cases d <;> exact h) ?_
      repeat (refine mix_quiet rfl ?_; go_big_quiet_step (fail); refine wpQuiet_nil ?_)
      have hX0 := (Below.refl V.heap.size V).drew
      refine mix_loud rfl ?_
      go_wp2_with fail
      refine (word_any AW cW ws ((i : Int) + 7) V.drew ((hwd.below (ex_trans bw hX0)).up (ex_trans bw hX0).size) HWB.out (by omega) (by omega) hwl).mono ?_
      rintro e x1 ⟨⟨n, rfl, hn0', hn65⟩, hx1⟩
      have hX_x1 := ex_trans hX0 hx1
      go_wp2_with fail
      refine ⟨inGx (grown_row hX_x1), ?_⟩
      repeat (refine mix_quiet rfl ?_; go_big_quiet_step (fail); refine wpQuiet_nil ?_)
      refine mix_loud rfl ?_
      go_wp2_with fail
      refine (picked_any e3 e4 n x1 hn0' hn65 (by omega) (by omega) (by omega)).mono ?_
      rintro e x2 ⟨⟨z, rfl, hy1', hy2'⟩, hx2⟩
      have hX_x2 := ex_trans hX_x1 hx2
      go_wp2_with fail
      refine ⟨inGx (grown_row hX_x2), ?_⟩
      repeat (refine mix_quiet rfl ?_; go_big_quiet_step (fail); refine wpQuiet_nil ?_)
      refine mix_loud rfl ?_
      go_wp2_with fail
      have hX3 := ex_alloc hX_x2 (.cells #[.int .i64 z] 3)
      refine ⟨inGx (grown_row hX3), ?_⟩
      repeat (refine mix_quiet rfl ?_; go_big_quiet_step (fail); refine wpQuiet_nil ?_)
      have y4 := own_below ho hX3
      have c63 : l.length + 1 ≤ maxLen := by rw [HLL.out]; unfold maxLen; omega
      have cby : (l.length + 1) * 8 ≤ 140737488355328 := by rw [HLL.out]; omega
      have hbase : B3 ≤ (x2.alloc (.cells #[.int .i64 z] 3)).heap.size := by have := hX3.size; omega
      refine mix_loud rfl ?_
      go_wp2_with (at_builtin; refine wpList_append_lies _ rfl _ _ _ rfl (B3) 3 i0 _ 1 8 Tryz.underlying28 HI.out hz0 hz1 hz2 rfl (by omega) v _ _ rfl y4 ⟨x2.heap.size, 0, none⟩ 1 1 [.int .i64 z] rfl rfl (World.news_of_block (heap_alloc_new x2 _)) (by simp [Value.oneCell']) (by omega) c63 cby hbase (x2.heap.size + 1) (by simp) ?_; intro gg cap w1 hown' hgrow hat hlt')
      rw [HROW.out] at hgrow
      have hgB := (grown_row (r := row) hX3).andThen hgrow (fun j hj => .inr hj)
      refine ⟨inGx hgB, ?_⟩
      repeat (refine mix_quiet rfl ?_; go_big_quiet_step (fail); refine wpQuiet_nil ?_)
      refine mix_nil rfl ?_
      have hgF := Fr.grown (R := fun b => B3 ≤ b ∨ b = p0 + 1 + 1) hgB (fun b hb => .inl (.inl (HVB.out b hb)))
      have p2 := q2.grown hgB hn2
      have f2 : w1.cell? ⟨p0 + 1 + 1, 2, none⟩ = some v := p2.cell 2
      have ff := p2.frozen0
      have lp2 := p2.lt
      have p2s := p2.set_ 2 (.slice (some ⟨gg, 0, none⟩) (l.length + 1) cap)
      simp only [List.setIfInBounds_toArray, List.set_cons_zero, List.set_cons_succ] at p2s
      have own8 := own_far (own_push (f := cI1) (x := z) rfl hown') (p := ⟨p0 + 1 + 1, 2, none⟩) (by show p0 + 1 + 1 < B3; omega) (.slice (some ⟨gg, 0, none⟩) (l.length + 1) cap)
      have hfr : Fr (fun b => b = p0 + 1 + 1) W (w1.setCell ⟨p0 + 1 + 1, 2, none⟩ (.slice (some ⟨gg, 0, none⟩) (l.length + 1) cap)) := hF.trans (hgF.andSet (b := p0 + 1 + 1) (i := 2) (v := (.slice (some ⟨gg, 0, none⟩) (l.length + 1) cap)) (.inr rfl)) (fun x hx h => by rw [HB3.out] at hx; rcases h with h | h; omega; exact h)
      have HL3 : Hid ((l ++ [z]).length = i + 1 ∧ ∀ j, j < i + 1 → inR (gI (l ++ [z]) j) (gMv s.moves j).g) := Lib.hid ⟨by simp [HLL.out], gI_snoc' (P := fun n j => inR n (gMv s.moves j).g) HLL.out HL.out.2 (by have h := HE.out; unfold inR; omega)⟩
      clear hown' hgB hgrow y4 hX3 hX_x2 hX_x1 hX0 hx1 hx2 hat hlt' a0 a1 a2 a3 l0 d2 l2 r3 r4 hn0 hn1 hn2 hnr ho q0 q2 p2 hgF
      go_wp2_with fail
      refine ⟨⟨⟨i + 1, by omega, hfr, _, _, p2s, own8, HL3, exFrame (by kernel_rfl)⟩⟩, ?_⟩
      show s.moves.length - (intOf (.int .i64 ((i : Int) + 1))).toNat < s.moves.length - (intOf (.int .i64 (i : Int))).toNat
      simp [intOf]
      omega
    · have HI2 : Hid (i = s.moves.length) := Lib.hid (by omega)
      have q1 := HP.out.q1.fr hF (by omega)
      have o1 := own_fr HP.out.o1 hF (fun b hb e => by have := own_ge HP.out.o1 hb; omega)
      have o2 := HP.out.o2.fr hF (fun g hg _ e => by omega)
      obtain ⟨A3, c3, rfl, _, _, ro3⟩ := lay_ints ho
      obtain ⟨A1, c1, rfl, _, _, ro1⟩ := lay_ints o1
      obtain ⟨A2, c2, rA, rc, rfl, hL2⟩ := IOwn.lis o2 rfl
      have T1 : TruP s ⟨l1, X.map (fun x => x.2.2), l⟩ := ⟨HK.out ▸ HPT.out, HLL.out.trans HI2.out, fun i hi => HL.out.2 i (by rw [HI2.out]; exact hi)⟩
      obtain ⟨n1, hn1⟩ : ∃ n, l1.length = n := ⟨_, rfl⟩
      obtain ⟨n2, hn2⟩ : ∃ n, (X.map (fun x => x.2.2)).length = n := ⟨_, rfl⟩
      obtain ⟨n3, hn3⟩ : ∃ n, l.length = n := ⟨_, rfl⟩
      clear d2
      rw [hn1, hn2, hn3] at q2
      have HN := Lib.hid (And.intro hn1 (And.intro hn2 hn3))
      have HTP := Lib.hid T1
      have HR := Lib.hid (And.intro ro1 (And.intro hL2 ro3))
      clear hn1 hn2 hn3 T1 ro1 hL2 ro3 ho o1 o2
      have b0 : V.cell? ⟨p0 + 1 + 1, 0, none⟩ = some (.slice A1 n1 c1) := q2.cell 0
      have b1 : V.cell? ⟨p0 + 1 + 1, 1, none⟩ = some (.slice A2 n2 c2) := q2.cell 1
      have b2 : V.cell? ⟨p0 + 1 + 1, 2, none⟩ = some (.slice A3 n3 c3) := q2.cell 2
      have z0 : V.cell? ⟨p0 + 1, 0, none⟩ = some (.slice none 0 0) := q1.cell 0
      have z1 : V.cell? ⟨p0 + 1, 1, none⟩ = some (.slice none 0 0) := q1.cell 1
      have z2 : V.cell? ⟨p0 + 1, 2, none⟩ = some (.slice none 0 0) := q1.cell 2
      have l1q := q1.lt
      have ff := q1.frozen0
      have qz := ((q1.set_ 0 (.slice A1 n1 c1)).set_ 1 (.slice A2 n2 c2)).set_ 2 (.slice A3 n3 c3)
      simp only [List.setIfInBounds_toArray, List.set_cons_zero, List.set_cons_succ] at qz
      have frz : Fr (fun b => b = p0 + 1) V (((V.setCell ⟨p0 + 1, 0, none⟩ (.slice A1 n1 c1)).setCell ⟨p0 + 1, 1, none⟩ (.slice A2 n2 c2)).setCell ⟨p0 + 1, 2, none⟩ (.slice A3 n3 c3)) := (((Fr.refl (fun b => b = p0 + 1) V).andSet rfl).andSet rfl).andSet rfl
      have Bz := frz.toBelow bw bw.size (fun x hx => by omega)
      skip
      have o2 := (HP.out.o2.fr hF (fun g hg _ e => by omega)).fr frz (fun g hg _ e => by omega)
      have HTT : Hid (TtOwn (((V.setCell ⟨p0 + 1, 0, none⟩ (.slice A1 n1 c1)).setCell ⟨p0 + 1, 1, none⟩ (.slice A2 n2 c2)).setCell ⟨p0 + 1, 2, none⟩ (.slice A3 n3 c3)) w.heap.size ⟨l1, X.map (fun x => x.2.2), l⟩ A1 A2 A3 c2) := Lib.hid ⟨(HR.out.1.fr frz (fun g hg _ e => by omega)).base (by omega), ⟨X, o2.base (by omega), rfl⟩, (HR.out.2.2.fr frz (fun g hg _ e => by omega)).base (by omega)⟩
      clear o2 frz q0 HP hF
      go_wp2
      refine bodyPost_ret (results_cell_row rfl _ _ (p0 + 1) 31 _ (0, 0) _ rfl qz rfl rfl rfl) rfl ?_
      exact ⟨⟨⟨l1, X.map (fun x => x.2.2), l⟩, A1, A2, A3, c1, c2, c3, by rw [← HN.out.1, ← HN.out.2.1, ← HN.out.2.2], HTP.out.tru (by rw [HSD.out, HD.out]), HTT.out⟩, Bz⟩
end Go.Proofs.YthihdiilokdidaaGreat
end

section
namespace Go.Proofs.YthihdiilokdidaaGreat

section
variable {x y : Wo} {F : Nat → Int} {V : Nat → Nat → Int} {G : Nat → Int} {out : Nat → Bool}
structure SameMv (x y : Wo) : Prop where
  nr : y.rooms.length = x.rooms.length
  nm : y.moves.length = x.moves.length
  mv : ∀ i, i < x.moves.length → (gMv y.moves i).day = (gMv x.moves i).day ∧ (gMv y.moves i).src = (gMv x.moves i).src ∧ (gMv y.moves i).dst = (gMv x.moves i).dst
theorem SameMv.comes (h : SameMv x y) (G : Nat → Int) (r d : Int) : ∀ k, k ≤ x.moves.length → comes y G r d k = comes x G r d k := by
  intro k hk
  unfold Proofs.YthihdiilokdidaaGreat.comes
  refine esum_congr (fun i hi => ?_)
  have hi : i < k := by simpa using hi
  obtain ⟨h1, h2, h3⟩ := h.mv i (by omega)
  rw [h1, h2, h3]
theorem SameMv.stk (h : SameMv x y) (F : Nat → Int) (V : Nat → Nat → Int) (G : Nat → Int) (r : Nat) : ∀ d, stk y F V G r d = stk x F V G r d
  | 0 => by
    show F r + (Proofs.YthihdiilokdidaaGreat.comes y G r 0 y.moves.length - V r 0) = F r + (Proofs.YthihdiilokdidaaGreat.comes x G r 0 x.moves.length - V r 0)
    rw [h.nm, h.comes G _ _ _ (Nat.le_refl _)]
  | d + 1 => by
    show Proofs.YthihdiilokdidaaGreat.stk y F V G r d + (Proofs.YthihdiilokdidaaGreat.comes y G r ((d : Int) + 1) y.moves.length - V r (d + 1)) = Proofs.YthihdiilokdidaaGreat.stk x F V G r d + (Proofs.YthihdiilokdidaaGreat.comes x G r ((d : Int) + 1) x.moves.length - V r (d + 1))
    rw [h.nm, h.comes G _ _ _ (Nat.le_refl _), h.stk F V G r d]
structure Finer (x y : Wo) : Prop extends SameMv x y where
  days : y.days = x.days
  fst : ∀ r, r < x.rooms.length → ∀ n, inR n (gRm y.rooms r).fst → inR n (gRm x.rooms r).fst
  vap : ∀ r, r < x.rooms.length → ∀ n, inR n (gRm y.rooms r).vap → inR n (gRm x.rooms r).vap
  mov : ∀ i, i < x.moves.length → ∀ n, inR n (gMv y.moves i).g → inR n (gMv x.moves i).g
  nw : x.wgs.length ≤ y.wgs.length
  wg : ∀ i, i < x.wgs.length → (gWg y.wgs i).room = (gWg x.wgs i).room ∧ (gWg y.wgs i).day = (gWg x.wgs i).day ∧ ∀ n, inR n (gWg y.wgs i).g → inR n (gWg x.wgs i).g
theorem Finer.good (h : Finer x y) (hg : GoodF y out F V G) : GoodF x out F V G where
  tru := ⟨fun r hr => h.fst r hr _ (hg.tru.fst r (by rw [h.nr]; exact hr)), fun r d hr hd => h.vap r hr _ (hg.tru.vap r d (by rw [h.nr]; exact hr) (by rw [h.days]; exact hd)), fun i hi => h.mov i hi _ (hg.tru.mov i (by rw [h.nm]; exact hi))⟩
  can := fun r d hr hd => by rw [← h.stk]; exact hg.can r d (by rw [h.nr]; exact hr) (by rw [h.days]; exact hd)
  agr := fun i hi ho => by
    obtain ⟨h1, h2, h3⟩ := h.wg i hi
    have := h3 _ (hg.agr i (by have := h.nw; omega) ho)
    rw [h1, h2, h.stk] at this
    exact this
def Wo.wg (w : Wo) (l : List Wg) : Wo := ⟨w.rooms, w.days, w.moves, l⟩
theorem SameMv.wgs (w : Wo) (l m : List Wg) : SameMv (w.wg l) (w.wg m) := ⟨rfl, rfl, fun _ _ => ⟨rfl, rfl, rfl⟩⟩
theorem gWg_l {l m : List Wg} {k : Nat} (h : k < l.length) : gWg (l ++ m) k = gWg l k := getD_l _ h
theorem gWg_r (l : List Wg) (x : Wg) : gWg (l ++ [x]) l.length = x := getD_r _ _ _
end

section
variable {x y : Wo}
structure Later (x y : Wo) : Prop where
  rooms : y.rooms = x.rooms
  days : y.days = x.days + 1
  moves : y.moves = x.moves
  wgs : y.wgs = x.wgs
theorem Later.same (h : Later x y) : SameMv x y := ⟨by rw [h.rooms], by rw [h.moves], fun i _ => by rw [h.moves]; exact ⟨rfl, rfl, rfl⟩⟩
end

section
variable {w : Wo} {F : Nat → Int} {V : Nat → Nat → Int} {G : Nat → Int}
theorem esum_last (n : Nat) (f : Nat → Int) (c : Int) (hn : 0 < n) : esum (fun d => (if d + 1 = n then f d else 0) + c * 0) (List.range n) = f (n - 1) := by
  obtain ⟨m, rfl⟩ : ∃ m, n = m + 1 := ⟨n - 1, by omega⟩
  rw [List.range_succ, esum_app, esum_congr (h := fun _ => 0), esum_zero]
  · simp [esum]
  · intro d hd
    have hd : d < m := by simpa using hd
    rw [if_neg (by omega)]; omega
theorem conserve (hm : MovesOk w) : esum F (List.range w.rooms.length) + esum (fun i : Nat => if (gMv w.moves i).src < 0 then G i else 0) (List.range w.moves.length) =
    esum (fun r : Nat => stk w F V G r (w.days - 1) + esum (V r) (List.range w.days)) (List.range w.rooms.length) + esum (fun i : Nat => if (gMv w.moves i).dst < 0 then G i else 0) (List.range w.moves.length) := by
  have hb := bal_out w hm (fun b => match b with | .fst r => F r | .stk r d => stk w F V G r d | .vap r d => V r d | .mov i => G i) (fun r d hr hd => by
    rw [bal_at w hm _ hr hd]
    cases d with
    | zero => simp only [if_true, stk]; simp; rw [show comes w (fun i => G i) r 0 w.moves.length = comes w G r 0 w.moves.length from rfl]; omega
    | succ d => simp only [stk]; simp; rw [show comes w (fun i => G i) r (d + 1) w.moves.length = comes w G r (d + 1) w.moves.length from rfl]; omega)
  unfold bal at hb
  rw [esum_labels] at hb
  have h1 : esum (fun r : Nat => sinn (Lb.U w (.fst r)) (Lb.V w (.fst r)) (F r) outS + esum (fun d => sinn (Lb.U w (.stk r d)) (Lb.V w (.stk r d)) (stk w F V G r d) outS + sinn (Lb.U w (.vap r d)) (Lb.V w (.vap r d)) (V r d) outS) (List.range w.days)) (List.range w.rooms.length) = esum (fun r : Nat => (stk w F V G r (w.days - 1) + esum (V r) (List.range w.days)) - F r) (List.range w.rooms.length) := by
    refine esum_congr (fun r _ => ?_)
    have h2 : esum (fun d => sinn (Lb.U w (.stk r d)) (Lb.V w (.stk r d)) (stk w F V G r d) outS + sinn (Lb.U w (.vap r d)) (Lb.V w (.vap r d)) (V r d) outS) (List.range w.days) = esum (fun d => ((if d + 1 = w.days then stk w F V G r d else 0) + 0 * 0) + V r d) (List.range w.days) := by
      refine esum_congr (fun d _ => ?_)
      simp only [Lb.U, Lb.V, outS]
      rw [sinn_lit (r : Int) (d : Int) (-1) 0 (V r d), if_pos (show (-1 : Int) = -1 ∧ (0 : Int) = 0 from ⟨rfl, rfl⟩), if_neg (show ¬ ((r : Int) = -1 ∧ (d : Int) = 0) by omega)]
      by_cases h : d + 1 = w.days
      · rw [if_pos h, if_pos h, sinn_lit, if_pos (show (-1 : Int) = -1 ∧ (0 : Int) = 0 from ⟨rfl, rfl⟩), if_neg (show ¬ ((r : Int) = -1 ∧ (d : Int) = 0) by omega)]; omega
      · rw [if_neg h, if_neg h, sinn_lit, if_neg (show ¬ ((r : Int) = -1 ∧ (d : Int) + 1 = 0) by omega), if_neg (show ¬ ((r : Int) = -1 ∧ (d : Int) = 0) by omega)]; omega
    rw [h2, esum_add, esum_last _ _ _ hm.pos]
    simp only [Lb.U, Lb.V, outS]
    rw [sinn_lit, if_neg (show ¬ ((r : Int) = -1 ∧ (0 : Int) = 0) by omega), if_pos (show (-1 : Int) = -1 ∧ (0 : Int) = 0 from ⟨rfl, rfl⟩)]
    omega
  have h3 : esum (fun i : Nat => sinn (Lb.U w (.mov i)) (Lb.V w (.mov i)) (G i) outS) (List.range w.moves.length) = esum (fun i : Nat => (if (gMv w.moves i).dst < 0 then G i else 0) - (if (gMv w.moves i).src < 0 then G i else 0)) (List.range w.moves.length) := by
    refine esum_congr (fun i hi => ?_)
    have hi : i < w.moves.length := by simpa using hi
    have hs := hm.src i hi
    have hd := hm.dst i hi
    have at_out : ∀ k c : Int, -1 ≤ k → (atS k c = outS ↔ k < 0) := fun k c hk => by
      unfold atS
      by_cases h : k = -1
      · rw [if_pos h]; simp; omega
      · rw [if_neg h]; simp only [outS, Prod.mk.injEq]; omega
    show (if atS (gMv w.moves i).dst (gMv w.moves i).day = outS then G i else 0) - (if atS (gMv w.moves i).src (gMv w.moves i).day = outS then G i else 0) = _
    simp only [at_out _ _ hs.1, at_out _ _ hd.1]
  have hb' : esum (fun r : Nat => sinn (Lb.U w (.fst r)) (Lb.V w (.fst r)) (F r) outS + esum (fun d => sinn (Lb.U w (.stk r d)) (Lb.V w (.stk r d)) (stk w F V G r d) outS + sinn (Lb.U w (.vap r d)) (Lb.V w (.vap r d)) (V r d) outS) (List.range w.days)) (List.range w.rooms.length) + esum (fun i : Nat => sinn (Lb.U w (.mov i)) (Lb.V w (.mov i)) (G i) outS) (List.range w.moves.length) = 0 := hb
  rw [h1, h3, esum_sub, esum_sub] at hb'
  omega
end
end Go.Proofs.YthihdiilokdidaaGreat
end

section
namespace Go.Proofs.YthihdiilokdidaaGreat
open Go.RowKit
attribute [local go_sem] Ex.cell? Ex.frozen? Gx.cell?

structure WgTo (s : Ws) (S : Nat → Nat → Int) (m : Nat) (L : List Wg) (i : Nat) : Prop where
  len : L.length = i
  ok : ∀ j, j < i → (gWg L j).room = (gWg s.wgs j).room ∧ (gWg L j).day = (gWg s.wgs j).day ∧ (m / 2 ^ j % 2 = 0 → inR (S (gWg s.wgs j).room.toNat (gWg s.wgs j).day.toNat) (gWg L j).g)
theorem WgTo.snoc {s : Ws} {S : Nat → Nat → Int} {m : Nat} {L : List Wg} {i : Nat} (h : WgTo s S m L i) {x : Wg} (h1 : x.room = (gWg s.wgs i).room) (h2 : x.day = (gWg s.wgs i).day) (h3 : m / 2 ^ i % 2 = 0 → inR (S (gWg s.wgs i).room.toNat (gWg s.wgs i).day.toNat) x.g) : WgTo s S m (L ++ [x]) (i + 1) where
  len := by simp [h.len]
  ok := fun j hj => by
    rcases Nat.lt_succ_iff_lt_or_eq.1 hj with hlt | rfl
    · rw [gWg_l (by rw [h.len]; exact hlt)]; exact h.ok j hlt
    · have e : gWg (L ++ [x]) j = x := by rw [← h.len]; exact gWg_r _ _
      rw [e]; exact ⟨h1, h2, h3⟩
theorem wgR_info : (Tryz.prog.info? 96).map (fun i => (i.zero, i.size, i.bytes)) = some (some (.agg #[.int .i64 0, .int .i64 0, .int .i64 0, .int .i64 0]), 4, 32) := by kernel_rfl
theorem bit_z {m k : Nat} (x : Bool) (h : decide (m / 2 ^ k % 2 = 1) = x) : (((m : Int) / 2 ^ k).tmod 2 == 1) = x := by
  have e : (m : Int) / 2 ^ k = ((m / 2 ^ k : Nat) : Int) := by simp
  rw [e, Int.tmod_eq_emod_of_nonneg (Int.natCast_nonneg _)]
  subst h
  generalize m / 2 ^ k = a
  rcases Nat.mod_two_eq_zero_or_one a with h2 | h2
  · rw [decide_eq_false (by omega)]; rw [beq_eq_false_iff_ne]; omega
  · rw [decide_eq_true h2]; rw [beq_iff_eq]; omega
structure WdV (s : Ws) (S : Nat → Nat → Int) (m : Nat) (Ar Am : Option Addr) (cr cm : Nat) (B : Nat) (w' : World) (e : Ending) : Prop where
  out : ∃ L A c, e = .returned (.agg #[.slice Ar s.rooms.length cr, .int .i64 s.days, .slice Am s.moves.length cm, .slice A L.length c]) ∧ WgTo s S m L s.wgs.length ∧ RowAt w' B 96 4 A L.length (fWg L)
set_option maxRecDepth 100000 in
set_option maxHeartbeats 6400000 in
theorem Weighed_any (s : Ws) (Ar Am Aw : Option Addr) (cr cm cw : Nat) (w : World) (hs : WsIn w w.heap.size s Ar Am Aw) (hw : WoOk s.wo) (S : Nat → Nat → Int) (AS : Option Addr) (cS : Nat) (rA : Nat → Option Addr) (rc : Nat → Nat) (hS : MatIn w w.heap.size AS s.rooms.length s.wo.days S rA rc) (hbS : ∀ r d, r < s.rooms.length → d < s.wo.days → 0 ≤ S r d ∧ S r d ≤ 1000000) (AW : Option Addr) (cW : Nat) (ws : List Int) (hwd : SlAt w w.heap.size 1 AW ws.length (fU ws)) (hwb : ∀ k, k < ws.length → 0 ≤ gI ws k ∧ gI ws k ≤ 65535) (hwl : ws.length ≤ maxLen) (m : Nat) (hm : (m : Int) ≤ 255) :
    Calls Tryz.prog 21 #[.agg #[.slice Ar s.rooms.length cr, .int .i64 s.days, .slice Am s.moves.length cm, .slice Aw s.wgs.length cw], .slice AS s.rooms.length cS, .slice AW ws.length cW, .int .u8 (m : Int)] w fun e w' => WdV s S m Ar Am cr cm w.heap.size w' e ∧ Below w.heap.size w w' := by
  obtain ⟨i2, hi2, hz0, hz1, hz2⟩ := info_parts wgR_info
  have HI := Lib.hid hi2
  clear hi2
  have hr3 : 0 < s.rooms.length ∧ s.rooms.length ≤ 3 := ⟨hw.len.1, hw.len.2.1⟩
  have hw8 : s.wgs.length ≤ 8 := hw.len.2.2.2
  obtain ⟨D, hD⟩ : ∃ D, s.wo.days = D := ⟨_, rfl⟩
  have hD6 : 1 ≤ D ∧ D ≤ 6 := by have := hw.days; omega
  have HWG : Hid (∀ i, i < s.wgs.length → 0 ≤ (gWg s.wgs i).room ∧ (gWg s.wgs i).room < (s.rooms.length : Int) ∧ 0 ≤ (gWg s.wgs i).day ∧ (gWg s.wgs i).day < (D : Int)) := Lib.hid (fun i hi => by have := hw.wgs i hi; rw [← hD]; exact ⟨this.1, this.2.1, this.2.2.1, this.2.2.2.1⟩)
  rw [hD] at hS hbS
  clear hD hw
  have HSB := Lib.hid hbS
  have HWB := Lib.hid hwb
  have hSo := hS.out
  have hSr := hS.row
  clear hS hwb hbS
  have hb1 := ex_alloc (ex_alloc (ex_alloc (Below.refl w.heap.size w) (.cells #[.slice Ar s.rooms.length cr, .int .i64 s.days, .slice Am s.moves.length cm, .slice Aw s.wgs.length cw] 26)) (.cells #[.slice none 0 0, .int .i64 0, .slice none 0 0, .slice none 0 0] 26)) (.cells #[.slice Ar s.rooms.length cr, .int .i64 s.days, .slice Am s.moves.length cm, .slice Aw s.wgs.length cw] 26)
  have q0 : Blk (((w.alloc (.cells #[.slice Ar s.rooms.length cr, .int .i64 s.days, .slice Am s.moves.length cm, .slice Aw s.wgs.length cw] 26)).alloc (.cells #[.slice none 0 0, .int .i64 0, .slice none 0 0, .slice none 0 0] 26)).alloc (.cells #[.slice Ar s.rooms.length cr, .int .i64 s.days, .slice Am s.moves.length cm, .slice Aw s.wgs.length cw] 26)) w.heap.size 26 #[.slice Ar s.rooms.length cr, .int .i64 s.days, .slice Am s.moves.length cm, .slice Aw s.wgs.length cw] := ((Blk.new _ _ _).alloc _).alloc _
  have q1 : Blk (((w.alloc (.cells #[.slice Ar s.rooms.length cr, .int .i64 s.days, .slice Am s.moves.length cm, .slice Aw s.wgs.length cw] 26)).alloc (.cells #[.slice none 0 0, .int .i64 0, .slice none 0 0, .slice none 0 0] 26)).alloc (.cells #[.slice Ar s.rooms.length cr, .int .i64 s.days, .slice Am s.moves.length cm, .slice Aw s.wgs.length cw] 26)) (w.heap.size + 1) 26 #[.slice none 0 0, .int .i64 0, .slice none 0 0, .slice none 0 0] := (Blk.new' _ _ _ (by simp)).alloc _
  have q2 : Blk (((w.alloc (.cells #[.slice Ar s.rooms.length cr, .int .i64 s.days, .slice Am s.moves.length cm, .slice Aw s.wgs.length cw] 26)).alloc (.cells #[.slice none 0 0, .int .i64 0, .slice none 0 0, .slice none 0 0] 26)).alloc (.cells #[.slice Ar s.rooms.length cr, .int .i64 s.days, .slice Am s.moves.length cm, .slice Aw s.wgs.length cw] 26)) (w.heap.size + 1 + 1) 26 #[.slice Ar s.rooms.length cr, .int .i64 s.days, .slice Am s.moves.length cm, .slice Aw s.wgs.length cw] := Blk.new' _ _ _ (by simp)
  go_enter Tryz.func21, Tryz.ntmps21
  go_upto_region 2 with fail
  show Code.wp _ _ _ _ (((w.alloc (.cells #[.slice Ar s.rooms.length cr, .int .i64 s.days, .slice Am s.moves.length cm, .slice Aw s.wgs.length cw] 26)).alloc (.cells #[.slice none 0 0, .int .i64 0, .slice none 0 0, .slice none 0 0] 26)).alloc (.cells #[.slice Ar s.rooms.length cr, .int .i64 s.days, .slice Am s.moves.length cm, .slice Aw s.wgs.length cw] 26))
  obtain ⟨p0, hp0⟩ : ∃ p, w.heap.size = p := ⟨_, rfl⟩
  have hwp : w.heap.size ≤ p0 := by omega
  rw [hp0] at q0 q1 q2 ⊢
  generalize ((w.alloc (.cells #[.slice Ar s.rooms.length cr, .int .i64 s.days, .slice Am s.moves.length cm, .slice Aw s.wgs.length cw] 26)).alloc (.cells #[.slice none 0 0, .int .i64 0, .slice none 0 0, .slice none 0 0] 26)).alloc (.cells #[.slice Ar s.rooms.length cr, .int .i64 s.days, .slice Am s.moves.length cm, .slice Aw s.wgs.length cw] 26) = W1 at *
  clear hp0
  have f0 : W1.cell? ⟨p0 + 1 + 1, 3, none⟩ = some (.slice Aw s.wgs.length cw) := q2.cell 3
  have ff := q2.frozen0
  have l2 := q2.lt
  have q3 := q2.set_ 3 (.slice none 0 0)
  simp only [List.setIfInBounds_toArray, List.set_cons_zero, List.set_cons_succ] at q3
  have q03 := q0.far (p := ⟨p0 + 1 + 1, 3, none⟩) (by show p0 ≠ p0 + 1 + 1; omega) (.slice none 0 0)
  have q13 := q1.far (p := ⟨p0 + 1 + 1, 3, none⟩) (by show p0 + 1 ≠ p0 + 1 + 1; omega) (.slice none 0 0)
  have hb3 := ex_set hb1 (p := ⟨p0 + 1 + 1, 3, none⟩) (by show w.heap.size ≤ p0 + 1 + 1; omega) (.slice none 0 0)
  go_upto_region 3 with fail
  generalize W1.setCell ⟨p0 + 1 + 1, 3, none⟩ (.slice none 0 0) = W2 at *
  clear f0 ff l2 q0 q1 q2 hb1
  obtain ⟨B0, hB0⟩ : ∃ b, W2.heap.size = b := ⟨_, rfl⟩
  have hbs : p0 + 1 + 1 < B0 := by have := q3.lt; omega
  have hzB : B0 ≤ W2.heap.size := by omega
  clear hB0
  go_wp2_with fail
  refine wp_loop (fun a W => Rel (fun a W => ∃ i : Nat, i ≤ s.wgs.length ∧ Below w.heap.size w W ∧ B0 ≤ W.heap.size ∧ Blk W p0 26 #[.slice Ar s.rooms.length cr, .int .i64 s.days, .slice Am s.moves.length cm, .slice Aw s.wgs.length cw] ∧ Blk W (p0 + 1) 26 #[.slice none 0 0, .int .i64 0, .slice none 0 0, .slice none 0 0] ∧ ∃ v, ∃ L : List Wg, Blk W (p0 + 1 + 1) 26 #[.slice Ar s.rooms.length cr, .int .i64 s.days, .slice Am s.moves.length cm, v] ∧ W.ownsRow B0 96 4 v L.length (L.flatMap cWg) ∧ Hid (WgTo s S m L i) ∧ ∃ u : Nat → Value, a = ⟨List.toArray (u 0 :: .slice AS s.rooms.length cS :: .slice AW ws.length cW :: .int .u8 (m : Int) :: .pointer (some ⟨p0, 0, none⟩) :: u 5 :: u 6 :: u 7 :: .pointer (some ⟨p0 + 1, 0, none⟩) :: .pointer (some ⟨p0 + 1 + 1, 0, none⟩) :: .int .i64 (i : Int) :: u 11 :: u 12 :: u 13 :: u 14 :: u 15 :: u 16 :: u 17 :: u 18 :: u 19 :: u 20 :: u 21 :: u 22 :: u 23 :: u 24 :: u 25 :: u 26 :: u 27 :: u 28 :: u 29 :: u 30 :: u 31 :: u 32 :: u 33 :: u 34 :: u 35 :: u 36 :: u 37 :: u 38 :: u 39 :: u 40 :: u 41 :: u 42 :: u 43 :: u 44 :: u 45 :: u 46 :: u 47 :: u 48 :: u 49 :: u 50 :: u 51 :: u 52 :: u 53 :: u 54 :: u 55 :: u 56 :: u 57 :: u 58 :: u 59 :: u 60 :: u 61 :: u 62 :: u 63 :: u 64 :: u 65 :: u 66 :: u 67 :: u 68 :: u 69 :: u 70 :: u 71 :: []), []⟩) a W) (fun a _ => s.wgs.length - (intOf (a.tmps.getD 10 undef)).toNat) ⟨⟨0, by omega, hb3, hzB, q03, q13, .slice none 0 0, [], q3, ⟨rfl, .inl ⟨rfl, rfl⟩⟩, Lib.hid ⟨rfl, fun j hj => by omega⟩, exFrame (by kernel_rfl)⟩⟩ ?_
  clear hb3 hzB q03 q13 q3 W1 W2
  rintro a W ⟨⟨i, hi, hb, hsz, q0, q1, v, L, q2, hown, HL, u, rfl⟩⟩
  have a3 : W.cell? ⟨p0, 3, none⟩ = some (.slice Aw s.wgs.length cw) := q0.cell 3
  have l0 := q0.lt
  have HLL : Hid (L.length = i) := Lib.hid HL.out.len
  by_cases hlt : i < s.wgs.length
  · have hin : (i : Int) < (s.wgs.length : Int) := by omega
    obtain ⟨br, orr, hAw, hbr, r0, r1, r2, r3⟩ := IsWgs.at_ (hs.wgs.below hb) hlt
    rw [hAw] at a3
    have lbr : br < W.heap.size := by have := hb.size; omega
    have hwk := HWG.out i hlt
    obtain ⟨e0, he0⟩ : ∃ x, (gWg s.wgs i).room = x := ⟨_, rfl⟩
    rw [he0] at r0 hwk
    obtain ⟨e1, he1⟩ : ∃ x, (gWg s.wgs i).day = x := ⟨_, rfl⟩
    rw [he1] at r1 hwk
    obtain ⟨e2, he2⟩ : ∃ x, (gWg s.wgs i).g.lo = x := ⟨_, rfl⟩
    rw [he2] at r2
    obtain ⟨e3, he3⟩ : ∃ x, (gWg s.wgs i).g.hi = x := ⟨_, rfl⟩
    rw [he3] at r3
    obtain ⟨r, rfl⟩ : ∃ r : Nat, e0 = r := ⟨e0.toNat, by omega⟩
    obtain ⟨d, rfl⟩ : ∃ d : Nat, e1 = d := ⟨e1.toNat, by omega⟩
    have hrN : r < s.rooms.length := by omega
    have hdD : d < D := by omega
    have hrI : (r : Int) < (s.rooms.length : Int) := by omega
    have hdI : (d : Int) < (D : Int) := by omega
    have HE : Hid ((gWg s.wgs i).room = (r : Int) ∧ (gWg s.wgs i).day = (d : Int)) := Lib.hid ⟨he0, he1⟩
    clear hwk he0 he1 he2 he3
    have qm : Blk (W.alloc (.cells #[.int .i64 (r : Int), .int .i64 (d : Int), .int .i64 e2, .int .i64 e3] 96)) W.heap.size 96 #[.int .i64 (r : Int), .int .i64 (d : Int), .int .i64 e2, .int .i64 e3] := Blk.new _ _ _
    have N_V := ex_alloc (Below.refl W.heap.size W) (.cells #[.int .i64 (r : Int), .int .i64 (d : Int), .int .i64 e2, .int .i64 e3] 96)
    have hdis : v.ownBlock ≠ some W.heap.size := fun e => by have := (own_lt hown e).2; omega
    replace q0 := q0.below N_V l0
    replace q1 := q1.below N_V q1.lt
    replace q2 := q2.below N_V q2.lt
    replace hown := own_below hown N_V
    go_upto_region 7 with fail
    have hszV : B0 ≤ (W.alloc (.cells #[.int .i64 (r : Int), .int .i64 (d : Int), .int .i64 e2, .int .i64 e3] 96)).heap.size := by have := N_V.size; omega
    replace hb := ex_trans hb N_V
    have hpW : B0 ≤ W.heap.size := hsz
    obtain ⟨pm, hpm⟩ : ∃ p, W.heap.size = p := ⟨_, rfl⟩
    rw [hpm] at qm hdis hpW ⊢
    clear a3 l0 r0 r1 r2 r3 lbr N_V hpm hsz
    generalize W.alloc (.cells #[.int .i64 (r : Int), .int .i64 (d : Int), .int .i64 e2, .int .i64 e3] 96) = V at *
    have D0 := (Below.refl V.heap.size V).drew
    obtain ⟨bS, oS, rfl, hbS, xS⟩ := (hSo.below hb) (show 0 < s.rooms.length by omega)
    have y0 : V.cell? ⟨bS, oS + r, none⟩ = some (.slice (rA r) D (rc r)) := by have := xS r 0 hrN (by omega); rw [show oS + (r * 1 + 0) = oS + r by omega] at this; exact this
    obtain ⟨bR, oR, hRA, hbR, xR⟩ := ((hSr r hrN).below hb) (show 0 < D by omega)
    have y1 : V.cell? ⟨bR, oR + d, none⟩ = some (.int .i64 (S r d)) := by have := xR d 0 hdD (by omega); rw [show oR + (d * 1 + 0) = oR + d by omega] at this; exact this
    rw [hRA] at y0
    clear xS xR hRA
    have lbS : bS < V.heap.size := by have := hb.size; omega
    have lbR : bR < V.heap.size := by have := hb.size; omega
    have hsb := HSB.out r d hrN hdD
    obtain ⟨sv, hsv⟩ : ∃ x, S r d = x := ⟨_, rfl⟩
    rw [hsv] at y1 hsb
    have HSV := Lib.hid hsv
    clear hsv
    obtain ⟨rck, hrck⟩ : ∃ x, rc r = x := ⟨_, rfl⟩
    rw [hrck] at y0
    clear hrck
    have m0 : V.cell? ⟨pm, 0, none⟩ = some (.int .i64 (r : Int)) := qm.cell 0
    have m1 : V.cell? ⟨pm, 1, none⟩ = some (.int .i64 (d : Int)) := qm.cell 1
    have m2 : V.cell? ⟨pm, 2, none⟩ = some (.int .i64 e2) := qm.cell 2
    have m3 : V.cell? ⟨pm, 3, none⟩ = some (.int .i64 e3) := qm.cell 3
    have lm := qm.lt
    have g1 : IntKind.i64.wrap ((i : Int) + 11) = (i : Int) + 11 := IntWalk.i64_in _ (by omega)
    refine wp_region_ext_mix 14 [(false, 0), (false, 1), (false, 2), (false, 3), (false, 4), (false, 5), (false, 6), (false, 7), (false, 8), (false, 9), (false, 10), (false, 11), (true, 12), (false, 13)] (by kernel_rfl) (by kernel_rfl) (by intro d _ _ _ _ h; cases d <;> exact h) ?_
    repeat (refine mix_quiet rfl ?_; go_big_quiet_step (fail); refine wpQuiet_nil ?_)
    refine mix_loud rfl ?_
    go_wp2_with fail
    refine (word_any AW cW ws ((i : Int) + 11) V.drew ((hwd.below (ex_trans hb D0)).up (ex_trans hb D0).size) HWB.out (by omega) (by omega) hwl).mono ?_
    rintro e Y ⟨⟨kw, rfl, hk0, hk65⟩, hY⟩
    have X2 := ex_trans D0 hY
    have B2 := ex_trans hb X2
    replace q0 := q0.below X2 q0.lt
    replace q1 := q1.below X2 q1.lt
    replace q2 := q2.below X2 q2.lt
    replace hown := own_below hown X2
    replace qm := qm.below X2 qm.lt
    have hszY : B0 ≤ Y.heap.size := by have := X2.size; omega
    go_wp2_with fail
    refine ⟨inEx X2, ?_⟩
    repeat (refine mix_quiet rfl ?_; go_big_quiet_step (fail); refine wpQuiet_nil ?_)
    refine mix_nil (r := [_]) rfl ?_
    clear y0 y1 m0 m1 m2 m3 lm D0 hY X2 hszV lbS lbR g1 hb
    have hi8 : (i : Int) ≤ 64 := by omega
    have t1 := bit_z (m := m) (k := i) _ rfl
    obtain ⟨tb, htb⟩ : ∃ b, decide (m / 2 ^ i % 2 = 1) = b := ⟨_, rfl⟩
    rw [htb] at t1
    have HTB := Lib.hid htb
    clear htb
    go_upto_region 8 with fail
    cases tb
    · have hk5 : 0 ≤ kw % 5 ∧ kw % 5 < 5 := ⟨Int.emod_nonneg _ (by omega), Int.emod_lt_of_pos _ (by omega)⟩
      have hk8 : 0 ≤ kw / 8 % 5 ∧ kw / 8 % 5 < 5 := ⟨Int.emod_nonneg _ (by omega), Int.emod_lt_of_pos _ (by omega)⟩
      have m0 : Y.cell? ⟨pm, 0, none⟩ = some (.int .i64 (r : Int)) := qm.cell 0
      have m1 : Y.cell? ⟨pm, 1, none⟩ = some (.int .i64 (d : Int)) := qm.cell 1
      have m2 : Y.cell? ⟨pm, 2, none⟩ = some (.int .i64 e2) := qm.cell 2
      have m3 : Y.cell? ⟨pm, 3, none⟩ = some (.int .i64 e3) := qm.cell 3
      have lm := qm.lt
      have fm := qm.frozen0
      have qs := (qm.set_ 2 (.int .i64 (max 0 (sv - kw % 5)))).set_ 3 (.int .i64 (sv + kw / 8 % 5))
      simp only [List.setIfInBounds_toArray, List.set_cons_zero, List.set_cons_succ] at qs
      have hF : Fr (fun b => b = pm) Y ((Y.setCell ⟨pm, 2, none⟩ (.int .i64 (max 0 (sv - kw % 5)))).setCell ⟨pm, 3, none⟩ (.int .i64 (sv + kw / 8 % 5))) := ((Fr.refl (fun b => b = pm) Y).andSet rfl).andSet rfl
      have B3 := hF.toBelow B2 B2.size (fun x hx => by omega)
      replace q0 := q0.fr hF (by omega)
      replace q1 := q1.fr hF (by omega)
      replace q2 := q2.fr hF (by omega)
      replace hown := own_fr hown hF (fun b hb e => hdis (e ▸ hb))
      have hszZ := hF.size
      go_upto_region 11 with fail
      generalize (Y.setCell ⟨pm, 2, none⟩ (.int .i64 (max 0 (sv - kw % 5)))).setCell ⟨pm, 3, none⟩ (.int .i64 (sv + kw / 8 % 5)) = Z at *
      have HG : Hid (m / 2 ^ i % 2 = 0 → inR (S r d) ⟨max 0 (sv - kw % 5), sv + kw / 8 % 5⟩) := Lib.hid (fun h0 => by rw [HSV.out]; unfold inR; dsimp only; omega)
      generalize max 0 (sv - kw % 5) = glo at *
      generalize sv + kw / 8 % 5 = ghi at *
      clear m0 m1 m2 m3 lm fm hF qm hk5 hk8 hsb t1
      have s3 : Z.cell? ⟨p0 + 1 + 1, 3, none⟩ = some v := q2.cell 3
      have m0 : Z.cell? ⟨pm, 0, none⟩ = some (.int .i64 (r : Int)) := qs.cell 0
      have m1 : Z.cell? ⟨pm, 1, none⟩ = some (.int .i64 (d : Int)) := qs.cell 1
      have m2 : Z.cell? ⟨pm, 2, none⟩ = some (.int .i64 glo) := qs.cell 2
      have m3 : Z.cell? ⟨pm, 3, none⟩ = some (.int .i64 ghi) := qs.cell 3
      have lm := qs.lt
      have l2 := q2.lt
      have ff := q2.frozen0
      have XL := ex_alloc (Below.refl Z.heap.size Z) (.cells #[.int .i64 (r : Int), .int .i64 (d : Int), .int .i64 glo, .int .i64 ghi] 96)
      have y4 := own_below hown XL
      have c63 : L.length + 1 ≤ maxLen := by rw [HLL.out]; unfold maxLen; omega
      have cby : (L.length + 1) * 32 ≤ 140737488355328 := by rw [HLL.out]; omega
      have hbase : B0 ≤ (Z.alloc (.cells #[.int .i64 (r : Int), .int .i64 (d : Int), .int .i64 glo, .int .i64 ghi] 96)).heap.size := by have := XL.size; omega
      go_wp2_with (refine pause_at 69 rfl ?_)
      refine Paused.mk ?_
      refine wpList_append_lies _ rfl _ _ _ rfl B0 96 i2 _ 4 32 Tryz.underlying24 HI.out hz0 hz1 hz2 rfl (by omega) v _ _ rfl y4 ⟨Z.heap.size, 0, none⟩ 1 1 [.int .i64 (r : Int), .int .i64 (d : Int), .int .i64 glo, .int .i64 ghi] rfl rfl (World.news_of_block (heap_alloc_new Z _)) (by simp [Value.oneCell']) (by omega) c63 cby hbase (Z.heap.size + 1) (by simp) ?_
      intro gg cap w1 hown' hgrow hat hlt'
      have hne : ∀ p, p < B0 → some p ≠ v.ownBlock := fun p hp e => by have := own_ge y4 e.symm; omega
      have B5 := (ex_trans B3 XL).grown hgrow (ex_trans B3 XL).size (fun b hb => by have := own_ge y4 hb; omega)
      have p2 := (q2.below XL l2).grown hgrow (hne _ hbs)
      have t3 : w1.cell? ⟨p0 + 1 + 1, 3, none⟩ = some v := p2.cell 3
      have ff2 := p2.frozen0
      have lp2 := p2.lt
      have p2s := p2.set_ 3 (.slice (some ⟨gg, 0, none⟩) (L.length + 1) cap)
      simp only [List.setIfInBounds_toArray, List.set_cons_zero, List.set_cons_succ] at p2s
      have p0' := ((q0.below XL q0.lt).grown hgrow (hne _ (by omega))).far (p := ⟨p0 + 1 + 1, 3, none⟩) (by show p0 ≠ p0 + 1 + 1; omega) (.slice (some ⟨gg, 0, none⟩) (L.length + 1) cap)
      have p1' := ((q1.below XL q1.lt).grown hgrow (hne _ (by omega))).far (p := ⟨p0 + 1 + 1, 3, none⟩) (by show p0 + 1 ≠ p0 + 1 + 1; omega) (.slice (some ⟨gg, 0, none⟩) (L.length + 1) cap)
      have own8 := own_far (own_push (f := cWg) (x := (⟨(r : Int), (d : Int), ⟨glo, ghi⟩⟩ : Wg)) rfl hown') (p := ⟨p0 + 1 + 1, 3, none⟩) (by show p0 + 1 + 1 < B0; omega) (.slice (some ⟨gg, 0, none⟩) (L.length + 1) cap)
      have B8 := ex_set B5 (p := ⟨p0 + 1 + 1, 3, none⟩) (by show w.heap.size ≤ p0 + 1 + 1; omega) (.slice (some ⟨gg, 0, none⟩) (L.length + 1) cap)
      have hz8 : B0 ≤ (w1.setCell ⟨p0 + 1 + 1, 3, none⟩ (.slice (some ⟨gg, 0, none⟩) (L.length + 1) cap)).heap.size := by have := hgrow.size; have := XL.size; simp; omega
      have HL2 : Hid (WgTo s S m (L ++ [(⟨(r : Int), (d : Int), ⟨glo, ghi⟩⟩ : Wg)]) (i + 1)) := Lib.hid (HL.out.snoc HE.out.1.symm HE.out.2.symm (fun h => by rw [HE.out.1, HE.out.2]; exact HG.out h))
      clear hown' hgrow hat hlt' y4 XL hown s3 m0 m1 m2 m3 lm l2 ff q0 q1 q2 p2 hne
      go_wp2_with fail
      refine ⟨⟨⟨i + 1, by omega, B8, hz8, p0', p1', _, _, p2s, own8, HL2, exFrame (by kernel_rfl)⟩⟩, ?_⟩
      show s.wgs.length - (intOf (.int .i64 ((i : Int) + 1))).toNat < s.wgs.length - (intOf (.int .i64 (i : Int))).toNat
      simp [intOf]
      omega
    · have hk5 : 0 ≤ kw % 5 ∧ kw % 5 < 5 := ⟨Int.emod_nonneg _ (by omega), Int.emod_lt_of_pos _ (by omega)⟩
      have hk8 : 0 ≤ kw / 8 % 5 ∧ kw / 8 % 5 < 5 := ⟨Int.emod_nonneg _ (by omega), Int.emod_lt_of_pos _ (by omega)⟩
      have hk4 : 0 ≤ kw / 64 % 40 ∧ kw / 64 % 40 < 40 := ⟨Int.emod_nonneg _ (by omega), Int.emod_lt_of_pos _ (by omega)⟩
      have m0 : Y.cell? ⟨pm, 0, none⟩ = some (.int .i64 (r : Int)) := qm.cell 0
      have m1 : Y.cell? ⟨pm, 1, none⟩ = some (.int .i64 (d : Int)) := qm.cell 1
      have m2 : Y.cell? ⟨pm, 2, none⟩ = some (.int .i64 e2) := qm.cell 2
      have m3 : Y.cell? ⟨pm, 3, none⟩ = some (.int .i64 e3) := qm.cell 3
      have lm := qm.lt
      have fm := qm.frozen0
      have qs := (qm.set_ 2 (.int .i64 (max 0 (sv + (7 + kw / 64 % 40) - kw % 5)))).set_ 3 (.int .i64 (sv + (7 + kw / 64 % 40) + kw / 8 % 5))
      simp only [List.setIfInBounds_toArray, List.set_cons_zero, List.set_cons_succ] at qs
      have hF : Fr (fun b => b = pm) Y ((Y.setCell ⟨pm, 2, none⟩ (.int .i64 (max 0 (sv + (7 + kw / 64 % 40) - kw % 5)))).setCell ⟨pm, 3, none⟩ (.int .i64 (sv + (7 + kw / 64 % 40) + kw / 8 % 5))) := ((Fr.refl (fun b => b = pm) Y).andSet rfl).andSet rfl
      have B3 := hF.toBelow B2 B2.size (fun x hx => by omega)
      replace q0 := q0.fr hF (by omega)
      replace q1 := q1.fr hF (by omega)
      replace q2 := q2.fr hF (by omega)
      replace hown := own_fr hown hF (fun b hb e => hdis (e ▸ hb))
      have hszZ := hF.size
      go_upto_region 11 with fail
      generalize (Y.setCell ⟨pm, 2, none⟩ (.int .i64 (max 0 (sv + (7 + kw / 64 % 40) - kw % 5)))).setCell ⟨pm, 3, none⟩ (.int .i64 (sv + (7 + kw / 64 % 40) + kw / 8 % 5)) = Z at *
      have HG : Hid (m / 2 ^ i % 2 = 0 → inR (S r d) ⟨max 0 (sv + (7 + kw / 64 % 40) - kw % 5), sv + (7 + kw / 64 % 40) + kw / 8 % 5⟩) := Lib.hid (fun h0 => by have := of_decide_eq_true HTB.out; omega)
      generalize max 0 (sv + (7 + kw / 64 % 40) - kw % 5) = glo at *
      generalize sv + (7 + kw / 64 % 40) + kw / 8 % 5 = ghi at *
      clear m0 m1 m2 m3 lm fm hF qm hk5 hk8 hsb hk4 t1
      have s3 : Z.cell? ⟨p0 + 1 + 1, 3, none⟩ = some v := q2.cell 3
      have m0 : Z.cell? ⟨pm, 0, none⟩ = some (.int .i64 (r : Int)) := qs.cell 0
      have m1 : Z.cell? ⟨pm, 1, none⟩ = some (.int .i64 (d : Int)) := qs.cell 1
      have m2 : Z.cell? ⟨pm, 2, none⟩ = some (.int .i64 glo) := qs.cell 2
      have m3 : Z.cell? ⟨pm, 3, none⟩ = some (.int .i64 ghi) := qs.cell 3
      have lm := qs.lt
      have l2 := q2.lt
      have ff := q2.frozen0
      have XL := ex_alloc (Below.refl Z.heap.size Z) (.cells #[.int .i64 (r : Int), .int .i64 (d : Int), .int .i64 glo, .int .i64 ghi] 96)
      have y4 := own_below hown XL
      have c63 : L.length + 1 ≤ maxLen := by rw [HLL.out]; unfold maxLen; omega
      have cby : (L.length + 1) * 32 ≤ 140737488355328 := by rw [HLL.out]; omega
      have hbase : B0 ≤ (Z.alloc (.cells #[.int .i64 (r : Int), .int .i64 (d : Int), .int .i64 glo, .int .i64 ghi] 96)).heap.size := by have := XL.size; omega
      go_wp2_with (refine pause_at 69 rfl ?_)
      refine Paused.mk ?_
      refine wpList_append_lies _ rfl _ _ _ rfl B0 96 i2 _ 4 32 Tryz.underlying24 HI.out hz0 hz1 hz2 rfl (by omega) v _ _ rfl y4 ⟨Z.heap.size, 0, none⟩ 1 1 [.int .i64 (r : Int), .int .i64 (d : Int), .int .i64 glo, .int .i64 ghi] rfl rfl (World.news_of_block (heap_alloc_new Z _)) (by simp [Value.oneCell']) (by omega) c63 cby hbase (Z.heap.size + 1) (by simp) ?_
      intro gg cap w1 hown' hgrow hat hlt'
      have hne : ∀ p, p < B0 → some p ≠ v.ownBlock := fun p hp e => by have := own_ge y4 e.symm; omega
      have B5 := (ex_trans B3 XL).grown hgrow (ex_trans B3 XL).size (fun b hb => by have := own_ge y4 hb; omega)
      have p2 := (q2.below XL l2).grown hgrow (hne _ hbs)
      have t3 : w1.cell? ⟨p0 + 1 + 1, 3, none⟩ = some v := p2.cell 3
      have ff2 := p2.frozen0
      have lp2 := p2.lt
      have p2s := p2.set_ 3 (.slice (some ⟨gg, 0, none⟩) (L.length + 1) cap)
      simp only [List.setIfInBounds_toArray, List.set_cons_zero, List.set_cons_succ] at p2s
      have p0' := ((q0.below XL q0.lt).grown hgrow (hne _ (by omega))).far (p := ⟨p0 + 1 + 1, 3, none⟩) (by show p0 ≠ p0 + 1 + 1; omega) (.slice (some ⟨gg, 0, none⟩) (L.length + 1) cap)
      have p1' := ((q1.below XL q1.lt).grown hgrow (hne _ (by omega))).far (p := ⟨p0 + 1 + 1, 3, none⟩) (by show p0 + 1 ≠ p0 + 1 + 1; omega) (.slice (some ⟨gg, 0, none⟩) (L.length + 1) cap)
      have own8 := own_far (own_push (f := cWg) (x := (⟨(r : Int), (d : Int), ⟨glo, ghi⟩⟩ : Wg)) rfl hown') (p := ⟨p0 + 1 + 1, 3, none⟩) (by show p0 + 1 + 1 < B0; omega) (.slice (some ⟨gg, 0, none⟩) (L.length + 1) cap)
      have B8 := ex_set B5 (p := ⟨p0 + 1 + 1, 3, none⟩) (by show w.heap.size ≤ p0 + 1 + 1; omega) (.slice (some ⟨gg, 0, none⟩) (L.length + 1) cap)
      have hz8 : B0 ≤ (w1.setCell ⟨p0 + 1 + 1, 3, none⟩ (.slice (some ⟨gg, 0, none⟩) (L.length + 1) cap)).heap.size := by have := hgrow.size; have := XL.size; simp; omega
      have HL2 : Hid (WgTo s S m (L ++ [(⟨(r : Int), (d : Int), ⟨glo, ghi⟩⟩ : Wg)]) (i + 1)) := Lib.hid (HL.out.snoc HE.out.1.symm HE.out.2.symm (fun h => by rw [HE.out.1, HE.out.2]; exact HG.out h))
      clear hown' hgrow hat hlt' y4 XL hown s3 m0 m1 m2 m3 lm l2 ff q0 q1 q2 p2 hne
      go_wp2_with fail
      refine ⟨⟨⟨i + 1, by omega, B8, hz8, p0', p1', _, _, p2s, own8, HL2, exFrame (by kernel_rfl)⟩⟩, ?_⟩
      show s.wgs.length - (intOf (.int .i64 ((i : Int) + 1))).toNat < s.wgs.length - (intOf (.int .i64 (i : Int))).toNat
      simp [intOf]
      omega
  · obtain rfl : i = s.wgs.length := by omega
    obtain ⟨A, cA, rfl, _, _, ro⟩ := lay_Wg 96 hown
    have b0 : W.cell? ⟨p0 + 1 + 1, 0, none⟩ = some (.slice Ar s.rooms.length cr) := q2.cell 0
    have b1 : W.cell? ⟨p0 + 1 + 1, 1, none⟩ = some (.int .i64 s.days) := q2.cell 1
    have b2 : W.cell? ⟨p0 + 1 + 1, 2, none⟩ = some (.slice Am s.moves.length cm) := q2.cell 2
    have b3 : W.cell? ⟨p0 + 1 + 1, 3, none⟩ = some (.slice A L.length cA) := q2.cell 3
    have z0 : W.cell? ⟨p0 + 1, 0, none⟩ = some (.slice none 0 0) := q1.cell 0
    have z1 : W.cell? ⟨p0 + 1, 1, none⟩ = some (.int .i64 0) := q1.cell 1
    have z2 : W.cell? ⟨p0 + 1, 2, none⟩ = some (.slice none 0 0) := q1.cell 2
    have z3 : W.cell? ⟨p0 + 1, 3, none⟩ = some (.slice none 0 0) := q1.cell 3
    have l1q := q1.lt
    have l2q := q2.lt
    have ff := q1.frozen0
    have qz := (((q1.set_ 0 (.slice Ar s.rooms.length cr)).set_ 1 (.int .i64 s.days)).set_ 2 (.slice Am s.moves.length cm)).set_ 3 (.slice A L.length cA)
    simp only [List.setIfInBounds_toArray, List.set_cons_zero, List.set_cons_succ] at qz
    have frz : Fr (fun b => b = p0 + 1) W ((((W.setCell ⟨p0 + 1, 0, none⟩ (.slice Ar s.rooms.length cr)).setCell ⟨p0 + 1, 1, none⟩ (.int .i64 s.days)).setCell ⟨p0 + 1, 2, none⟩ (.slice Am s.moves.length cm)).setCell ⟨p0 + 1, 3, none⟩ (.slice A L.length cA)) := ((((Fr.refl (fun b => b = p0 + 1) W).andSet rfl).andSet rfl).andSet rfl).andSet rfl
    have Bz := frz.toBelow hb hb.size (fun x hx => by omega)
    have hsl := Lib.hid ((ro.fr frz (fun g hg _ e => by omega)).base (B' := w.heap.size) (by omega))
    clear frz ro hown hsz
    go_wp2
    refine bodyPost_ret (results_cell_row rfl _ _ (p0 + 1) 26 _ (0, 0) _ rfl qz rfl rfl rfl) rfl ?_
    exact ⟨⟨⟨L, A, cA, rfl, HL.out, hsl.out⟩⟩, Bz⟩
end Go.Proofs.YthihdiilokdidaaGreat
end

section
namespace Go.Proofs.YthihdiilokdidaaGreat
theorem shortB_iff {L : List (List Int)} : shortB L = true ↔ L.length ≤ 9 ∧ ∀ k, k < L.length → (gL L k).length ≤ 9 := by
  unfold shortB
  rw [Bool.and_eq_true, decide_eq_true_eq, allTo_iff]
  constructor
  · rintro ⟨a, b⟩; exact ⟨a, fun k hk => of_decide_eq_true (b k hk)⟩
  · rintro ⟨a, b⟩; exact ⟨a, fun k hk => decide_eq_true (b k hk)⟩
structure Thn (s : Ws) (t : Tt) : Prop where
  nr : s.rooms.length ≤ 6
  nm : s.moves.length ≤ 15
  nw : s.wgs.length ≤ 11
  nf : t.fs.length ≤ 9
  ng : t.gs.length ≤ 18
  nv : t.vs.length ≤ 9
  row : ∀ k, k < t.vs.length → (gL t.vs k).length ≤ 9
theorem thinB_iff {s : Ws} {t : Tt} : thinB s t = true ↔ Thn s t := by
  unfold thinB
  simp only [Bool.and_eq_true, decide_eq_true_eq, shortB_iff]
  constructor
  · rintro ⟨a, b, c, d, e, f, g⟩; exact ⟨a, b, c, d, e, f, g⟩
  · intro h; exact ⟨h.nr, h.nm, h.nw, h.nf, h.ng, h.nv, h.row⟩
theorem sameB_self (n : Nat) (N : Nat → Nat) (L : Nat → Nat → Int) : sameB n n N N L L = true := by
  unfold sameB
  rw [decide_eq_true (rfl : n = n), allTo_iff.2 (fun k hk => ?_)]
  · rfl
  · unfold rowS
    rw [decide_eq_true (rfl : N k = N k), allTo_iff.2 (fun i _ => decide_eq_true rfl)]
    rfl
end Go.Proofs.YthihdiilokdidaaGreat
end

/- Spill's reference: Comes, Play (walks). · Spill's laws: Picked (walk): a truth by words. · Spill's outright laws (plain): other weighings, narrower ranges, a day more, what is left out. · Spill: Fewest and Blame (plain): the lists that are tried. · Spill's reference (plain): all truths by number. -/
import Derived.Test.YthihdiilokdidaaT11
import Derived.Test.YthihdiilokdidaaT10
set_option linter.unusedVariables false
set_option linter.unusedSimpArgs false
set_option linter.unusedSectionVars false
section
namespace Go.Proofs.Ythihdiilokdidaa
open Go.RowKit
attribute [local go_sem] Ex.cell? Ex.frozen?

set_option maxRecDepth 100000 in
set_option maxHeartbeats 3200000 in
theorem Comes_ref (s : Ws) (Ar Am Aw : Option Addr) (cr cm cw : Nat) (w : World) (hs : WsIn w w.heap.size s Ar Am Aw) (hw : WoOk s.wo) (gs : List Int) (Ag : Option Addr) (n cg : Nat) (hg : SlAt w w.heap.size 1 Ag n (fI gs)) (hn : s.moves.length ≤ n) (hb : ∀ i, i < s.moves.length → 0 ≤ gI gs i ∧ gI gs i ≤ 2000) (r d : Int) :
    Calls Try.prog 86 #[.agg #[.slice Ar s.rooms.length cr, .int .i64 s.days, .slice Am s.moves.length cm, .slice Aw s.wgs.length cw], .slice Ag n cg, .int .i64 r, .int .i64 d] w fun e w' => e = .returned (.int .i64 (comes s.wo (gI gs) r d s.moves.length)) ∧ Below w.heap.size w w' := by
  have hml : s.moves.length ≤ 12 := hw.len.2.2.1
  have hgr := hg
  clear hg
  have hb1 := ex_alloc (Below.refl w.heap.size w) (.cells #[.slice Ar s.rooms.length cr, .int .i64 s.days, .slice Am s.moves.length cm, .slice Aw s.wgs.length cw] 26)
  have q0 : Blk (w.alloc (.cells #[.slice Ar s.rooms.length cr, .int .i64 s.days, .slice Am s.moves.length cm, .slice Aw s.wgs.length cw] 26)) w.heap.size 26 #[.slice Ar s.rooms.length cr, .int .i64 s.days, .slice Am s.moves.length cm, .slice Aw s.wgs.length cw] := Blk.new _ _ _
  have HW := Lib.hid hw
  clear hw
  go_enter Try.func86, Try.ntmps86
  go_wp2_with fail
  generalize w.alloc (.cells #[.slice Ar s.rooms.length cr, .int .i64 s.days, .slice Am s.moves.length cm, .slice Aw s.wgs.length cw] 26) = V at *
  refine wp_loop (fun a W => Rel (fun a W => ∃ (k : Nat) (cc : Int), k ≤ s.moves.length ∧ Below w.heap.size w W ∧ Blk W w.heap.size 26 #[.slice Ar s.rooms.length cr, .int .i64 s.days, .slice Am s.moves.length cm, .slice Aw s.wgs.length cw] ∧ Hid (comes s.wo (gI gs) r d k = cc) ∧ ∃ u : Nat → Value, a = ⟨List.toArray (u 0 :: .slice Ag n cg :: .int .i64 r :: .int .i64 d :: .pointer (some ⟨w.heap.size, 0, none⟩) :: u 5 :: u 6 :: u 7 :: u 8 :: .int .i64 cc :: .int .i64 (k : Int) :: u 11 :: u 12 :: u 13 :: u 14 :: u 15 :: u 16 :: u 17 :: u 18 :: u 19 :: u 20 :: u 21 :: u 22 :: u 23 :: u 24 :: u 25 :: u 26 :: u 27 :: u 28 :: u 29 :: u 30 :: u 31 :: u 32 :: u 33 :: u 34 :: u 35 :: u 36 :: u 37 :: u 38 :: u 39 :: u 40 :: u 41 :: u 42 :: u 43 :: u 44 :: u 45 :: u 46 :: u 47 :: u 48 :: u 49 :: u 50 :: u 51 :: u 52 :: u 53 :: u 54 :: []), []⟩) a W) (fun a _ => s.moves.length - (intOf (a.tmps.getD 10 undef)).toNat) ⟨⟨0, 0, by omega, hb1, q0, Lib.hid rfl, exFrame (by kernel_rfl)⟩⟩ ?_
  clear hb1 q0 V
  rintro a W ⟨⟨k, cc, hk, hb1, q0, HC, u, rfl⟩⟩
  have l0 := q0.lt
  by_cases hlt : k < s.moves.length
  · obtain ⟨br, orr, rfl, hbr, r0, r1, r2, r3, r4⟩ := IsMvs.at_ (hs.moves.below hb1) hlt
    obtain ⟨bg, og, rfl, hbg, g0⟩ := IsInts.at_ (hgr.below hb1) (show k < n by omega)
    have hkn : (k : Int) < (s.moves.length : Int) := by omega
    have hkg : (k : Int) < (n : Int) := by omega
    have hszW := hb1.size
    have lbr : br < W.heap.size := by omega
    have lbg : bg < W.heap.size := by omega
    have hcb := comes_bd s.wo (G := gI gs) r d k (fun i hi => hb i (by omega))
    rw [HC.out] at hcb
    have hgb := hb k hlt
    have hcs := comes_succ s.wo (gI gs) r d k
    rw [HC.out] at hcs
    obtain ⟨e0, he0⟩ : ∃ x, (gMv s.moves k).day = x := ⟨_, rfl⟩
    rw [he0] at r0
    obtain ⟨e1, he1⟩ : ∃ x, (gMv s.moves k).src = x := ⟨_, rfl⟩
    rw [he1] at r1
    obtain ⟨e2, he2⟩ : ∃ x, (gMv s.moves k).dst = x := ⟨_, rfl⟩
    rw [he2] at r2
    obtain ⟨e3, he3⟩ : ∃ x, (gMv s.moves k).g.lo = x := ⟨_, rfl⟩
    rw [he3] at r3
    obtain ⟨e4, he4⟩ : ∃ x, (gMv s.moves k).g.hi = x := ⟨_, rfl⟩
    rw [he4] at r4
    rw [show gMv s.wo.moves k = gMv s.moves k from rfl, he0, he1, he2] at hcs
    obtain ⟨gv, hgv⟩ : ∃ x, gI gs k = x := ⟨_, rfl⟩
    rw [hgv] at hcs g0 hgb
    have HCS := Lib.hid hcs
    clear hcs he0 he1 he2 he3 he4 hgv
    have a0 : W.cell? ⟨w.heap.size, 0, none⟩ = some (.slice Ar s.rooms.length cr) := q0.cell 0
    have a1 : W.cell? ⟨w.heap.size, 1, none⟩ = some (.int .i64 s.days) := q0.cell 1
    have a2 : W.cell? ⟨w.heap.size, 2, none⟩ = some (.slice (some ⟨br, orr, none⟩) s.moves.length cm) := q0.cell 2
    have a3 : W.cell? ⟨w.heap.size, 3, none⟩ = some (.slice Aw s.wgs.length cw) := q0.cell 3
    by_cases h1 : e0 = d
    · have bh1 : (e0 != d) = false := by simp [h1]
      have Hh1 := Lib.hid h1
      clear h1
      by_cases h2 : e2 = r
      · have bh2 : (e2 == r) = true := by simp [h2]
        have Hh2 := Lib.hid h2
        clear h2
        by_cases h3 : e1 = r
        · have bh3 : (e1 == r) = true := by simp [h3]
          have Hh3 := Lib.hid h3
          clear h3
          have HC2 : Hid (comes s.wo (gI gs) r d (k + 1) = cc) := Lib.hid (by rw [HCS.out]; rw [if_pos Hh1.out, if_pos Hh2.out, if_pos Hh3.out]; omega)
          go_wp2_with fail
          refine ⟨⟨⟨k + 1, cc, by omega, hb1, q0, HC2, exFrame (by kernel_rfl)⟩⟩, ?_⟩
          show s.moves.length - (intOf (.int .i64 ((k : Int) + 1))).toNat < s.moves.length - (intOf (.int .i64 (k : Int))).toNat
          simp [intOf]
          omega
        · have bh3 : (e1 == r) = false := by simp [h3]
          have Hh3 := Lib.hid h3
          clear h3
          have HC2 : Hid (comes s.wo (gI gs) r d (k + 1) = cc + gv) := Lib.hid (by rw [HCS.out]; rw [if_pos Hh1.out, if_pos Hh2.out, if_neg Hh3.out]; omega)
          go_wp2_with fail
          refine ⟨⟨⟨k + 1, cc + gv, by omega, hb1, q0, HC2, exFrame (by kernel_rfl)⟩⟩, ?_⟩
          show s.moves.length - (intOf (.int .i64 ((k : Int) + 1))).toNat < s.moves.length - (intOf (.int .i64 (k : Int))).toNat
          simp [intOf]
          omega
      · have bh2 : (e2 == r) = false := by simp [h2]
        have Hh2 := Lib.hid h2
        clear h2
        by_cases h3 : e1 = r
        · have bh3 : (e1 == r) = true := by simp [h3]
          have Hh3 := Lib.hid h3
          clear h3
          have HC2 : Hid (comes s.wo (gI gs) r d (k + 1) = cc - gv) := Lib.hid (by rw [HCS.out]; rw [if_pos Hh1.out, if_neg Hh2.out, if_pos Hh3.out]; omega)
          go_wp2_with fail
          refine ⟨⟨⟨k + 1, cc - gv, by omega, hb1, q0, HC2, exFrame (by kernel_rfl)⟩⟩, ?_⟩
          show s.moves.length - (intOf (.int .i64 ((k : Int) + 1))).toNat < s.moves.length - (intOf (.int .i64 (k : Int))).toNat
          simp [intOf]
          omega
        · have bh3 : (e1 == r) = false := by simp [h3]
          have Hh3 := Lib.hid h3
          clear h3
          have HC2 : Hid (comes s.wo (gI gs) r d (k + 1) = cc) := Lib.hid (by rw [HCS.out]; rw [if_pos Hh1.out, if_neg Hh2.out, if_neg Hh3.out]; omega)
          go_wp2_with fail
          refine ⟨⟨⟨k + 1, cc, by omega, hb1, q0, HC2, exFrame (by kernel_rfl)⟩⟩, ?_⟩
          show s.moves.length - (intOf (.int .i64 ((k : Int) + 1))).toNat < s.moves.length - (intOf (.int .i64 (k : Int))).toNat
          simp [intOf]
          omega
    · have bh1 : (e0 != d) = true := by simp [h1]
      have Hh1 := Lib.hid h1
      clear h1
      have HC2 : Hid (comes s.wo (gI gs) r d (k + 1) = cc) := Lib.hid (by rw [HCS.out]; rw [if_neg Hh1.out]; omega)
      go_wp2_with fail
      refine ⟨⟨⟨k + 1, cc, by omega, hb1, q0, HC2, exFrame (by kernel_rfl)⟩⟩, ?_⟩
      show s.moves.length - (intOf (.int .i64 ((k : Int) + 1))).toNat < s.moves.length - (intOf (.int .i64 (k : Int))).toNat
      simp [intOf]
      omega
  · have a0 : W.cell? ⟨w.heap.size, 0, none⟩ = some (.slice Ar s.rooms.length cr) := q0.cell 0
    have a1 : W.cell? ⟨w.heap.size, 1, none⟩ = some (.int .i64 s.days) := q0.cell 1
    have a2 : W.cell? ⟨w.heap.size, 2, none⟩ = some (.slice Am s.moves.length cm) := q0.cell 2
    have a3 : W.cell? ⟨w.heap.size, 3, none⟩ = some (.slice Aw s.wgs.length cw) := q0.cell 3
    obtain rfl : k = s.moves.length := by omega
    go_wp2
    go_ret
    exact ⟨ret_int HC.out.symm, hb1⟩
theorem NOwn.base {α : Type} {T1 T2 : TypeId} {s1 s2 : Nat} {c : α → List Value} {A : α → Option Addr} {n : α → Nat} {f : α → Nat → Nat → Value} {W : World} {B B' : Nat} {v : Value} {X : List α} (h : NOwn T1 s1 T2 s2 c A n f W B v X) (hB : B' ≤ B) : NOwn T1 s1 T2 s2 c A n f W B' v X := ⟨own_base h.own hB, fun x hx => (h.ins x hx).base hB⟩
set_option maxRecDepth 100000 in
set_option maxHeartbeats 6400000 in
theorem Play_own (s : Ws) (Ar Am Aw : Option Addr) (cr cm cw : Nat) (w : World) (hs : WsIn w w.heap.size s Ar Am Aw) (hw : WoOk s.wo) (hd : s.days = (s.wo.days : Int)) (t : Tt) (Af Av Ag : Option Addr) (cf cv cg : Nat) (rV : Nat → Option Addr) (rcV : Nat → Nat) (ht : TtIn w w.heap.size t Af Av Ag rV rcV) (hv : truT s t = true) :
    Calls Try.prog 55 #[.agg #[.slice Ar s.rooms.length cr, .int .i64 s.days, .slice Am s.moves.length cm, .slice Aw s.wgs.length cw], .agg #[.slice Af t.fs.length cf, .slice Av t.vs.length cv, .slice Ag t.gs.length cg]] w fun e w' => (∃ A c X, e = .returned (.tuple #[.slice A s.rooms.length c, .bool (canT s t)]) ∧ IOwn w' w.heap.size (.slice A s.rooms.length c) X ∧ X.map (fun x => x.2.2) = (List.range s.rooms.length).map fun r => (List.range s.wo.days).map (stk s.wo t.F t.V t.G r)) ∧ Below w.heap.size w w' := by
  obtain ⟨⟨hl1, hl2, hl3⟩, hrl, htf⟩ := (truT_iff hd).1 hv
  have HDs := Lib.hid hd
  clear hd hv
  obtain ⟨n1, hn1⟩ : ∃ n, t.fs.length = n := ⟨_, rfl⟩
  obtain ⟨n2, hn2⟩ : ∃ n, t.vs.length = n := ⟨_, rfl⟩
  obtain ⟨n3, hn3⟩ : ∃ n, t.gs.length = n := ⟨_, rfl⟩
  have hfs := ht.fs
  have hvs := ht.vs
  have hrow := ht.row
  have hgs := ht.gs
  rw [hn1] at hfs hl1 ⊢
  rw [hn2] at hvs hrow hl2 ⊢
  rw [hn3] at hgs hl3 ⊢
  have HL1 := Lib.hid hl1
  have HL2 := Lib.hid hl2
  have HL3 := Lib.hid hl3
  have HRL := Lib.hid hrl
  have HTF := Lib.hid htf
  clear hl1 hl2 hl3 hrl htf hn1 hn2 hn3 ht
  obtain ⟨D, hD⟩ : ∃ D, s.wo.days = D := ⟨_, rfl⟩
  have hD6 : 1 ≤ D ∧ D ≤ 6 := by have := hw.days; omega
  have hr3 : 0 < s.rooms.length ∧ s.rooms.length ≤ 3 := ⟨hw.len.1, hw.len.2.1⟩
  have HD := Lib.hid hD
  have HSD : Hid (s.days = (D : Int)) := Lib.hid (by rw [HDs.out, hD])
  clear hD
  obtain ⟨i1, hi1, hy0, hy1, hy2⟩ := info_parts ints_info2
  obtain ⟨i2, hi2, hz0, hz1, hz2⟩ := info_parts int_info
  have hb1 := ex_alloc (ex_alloc (Below.refl w.heap.size w) (.cells #[.slice Ar s.rooms.length cr, .int .i64 s.days, .slice Am s.moves.length cm, .slice Aw s.wgs.length cw] 26)) (.cells #[.slice Af n1 cf, .slice Av n2 cv, .slice Ag n3 cg] 31)
  have q0 : Blk ((w.alloc (.cells #[.slice Ar s.rooms.length cr, .int .i64 s.days, .slice Am s.moves.length cm, .slice Aw s.wgs.length cw] 26)).alloc (.cells #[.slice Af n1 cf, .slice Av n2 cv, .slice Ag n3 cg] 31)) w.heap.size 26 #[.slice Ar s.rooms.length cr, .int .i64 s.days, .slice Am s.moves.length cm, .slice Aw s.wgs.length cw] := (Blk.new _ _ _).alloc _
  have q1 : Blk ((w.alloc (.cells #[.slice Ar s.rooms.length cr, .int .i64 s.days, .slice Am s.moves.length cm, .slice Aw s.wgs.length cw] 26)).alloc (.cells #[.slice Af n1 cf, .slice Av n2 cv, .slice Ag n3 cg] 31)) (w.heap.size + 1) 31 #[.slice Af n1 cf, .slice Av n2 cv, .slice Ag n3 cg] := Blk.new' _ _ _ (by simp)
  go_enter Try.func55, Try.ntmps55
  go_upto_region 1 with fail
  show Code.wp _ _ _ _ ((w.alloc (.cells #[.slice Ar s.rooms.length cr, .int .i64 s.days, .slice Am s.moves.length cm, .slice Aw s.wgs.length cw] 26)).alloc (.cells #[.slice Af n1 cf, .slice Av n2 cv, .slice Ag n3 cg] 31))
  obtain ⟨p0, hp0⟩ : ∃ p, w.heap.size = p := ⟨_, rfl⟩
  rw [hp0] at q0 q1 ⊢
  have HP0 := Lib.hid hp0
  generalize (w.alloc (.cells #[.slice Ar s.rooms.length cr, .int .i64 s.days, .slice Am s.moves.length cm, .slice Aw s.wgs.length cw] 26)).alloc (.cells #[.slice Af n1 cf, .slice Av n2 cv, .slice Ag n3 cg] 31) = W1 at *
  clear hp0
  obtain ⟨B0, hB0⟩ : ∃ b, W1.heap.size = b := ⟨_, rfl⟩
  have hbs : p0 + 1 < B0 := by have := q1.lt; omega
  have hwb : w.heap.size ≤ B0 := by rw [HP0.out]; omega
  have a0 : W1.cell? ⟨p0, 0, none⟩ = some (.slice Ar s.rooms.length cr) := q0.cell 0
  have a1 : W1.cell? ⟨p0, 1, none⟩ = some (.int .i64 s.days) := q0.cell 1
  have a2 : W1.cell? ⟨p0, 2, none⟩ = some (.slice Am s.moves.length cm) := q0.cell 2
  have a3 : W1.cell? ⟨p0, 3, none⟩ = some (.slice Aw s.wgs.length cw) := q0.cell 3
  have l0 := q0.lt
  go_wp2_with fail
  refine wp_loop (fun a W => Rel (fun a W => ∃ k : Nat, k ≤ s.rooms.length ∧ (Below w.heap.size w W ∧ B0 ≤ W.heap.size ∧ Blk W p0 26 #[.slice Ar s.rooms.length cr, .int .i64 s.days, .slice Am s.moves.length cm, .slice Aw s.wgs.length cw] ∧ Blk W (p0 + 1) 31 #[.slice Af n1 cf, .slice Av n2 cv, .slice Ag n3 cg]) ∧ ∃ vo X, IOwn W B0 vo X ∧ Hid (X.map (fun x => x.2.2) = (List.range k).map fun r => (List.range D).map (stk s.wo t.F t.V t.G r)) ∧ ∃ u : Nat → Value, a = ⟨List.toArray (u 0 :: u 1 :: .pointer (some ⟨p0, 0, none⟩) :: .pointer (some ⟨p0 + 1, 0, none⟩) :: u 4 :: u 5 :: vo :: .bool (canTo s t k) :: .int .i64 (k : Int) :: u 9 :: u 10 :: u 11 :: u 12 :: u 13 :: u 14 :: u 15 :: u 16 :: u 17 :: u 18 :: u 19 :: u 20 :: u 21 :: u 22 :: u 23 :: u 24 :: u 25 :: u 26 :: u 27 :: u 28 :: u 29 :: u 30 :: u 31 :: u 32 :: u 33 :: u 34 :: u 35 :: u 36 :: u 37 :: u 38 :: u 39 :: u 40 :: u 41 :: u 42 :: u 43 :: u 44 :: u 45 :: u 46 :: u 47 :: u 48 :: u 49 :: u 50 :: u 51 :: u 52 :: u 53 :: u 54 :: u 55 :: u 56 :: u 57 :: u 58 :: u 59 :: u 60 :: u 61 :: []), []⟩) a W) (fun a _ => s.rooms.length - (intOf (a.tmps.getD 8 undef)).toNat) ⟨⟨0, by omega, ⟨hb1, by omega, q0, q1⟩, _, [], NOwn.nil, Lib.hid rfl, exFrame (by kernel_rfl)⟩⟩ ?_
  clear a0 a1 a2 a3 l0 q0 q1 hb1 hB0 W1
  rintro a Wk ⟨⟨k, hk, ⟨B1, hz1', q0, q1⟩, vo, X, hO, HX, u, rfl⟩⟩
  have a0 : Wk.cell? ⟨p0, 0, none⟩ = some (.slice Ar s.rooms.length cr) := q0.cell 0
  have a1 : Wk.cell? ⟨p0, 1, none⟩ = some (.int .i64 s.days) := q0.cell 1
  have a2 : Wk.cell? ⟨p0, 2, none⟩ = some (.slice Am s.moves.length cm) := q0.cell 2
  have a3 : Wk.cell? ⟨p0, 3, none⟩ = some (.slice Aw s.wgs.length cw) := q0.cell 3
  have l0 := q0.lt
  rw [HSD.out] at a1
  have b0 : Wk.cell? ⟨p0 + 1, 0, none⟩ = some (.slice Af n1 cf) := q1.cell 0
  have b1 : Wk.cell? ⟨p0 + 1, 1, none⟩ = some (.slice Av n2 cv) := q1.cell 1
  have b2 : Wk.cell? ⟨p0 + 1, 2, none⟩ = some (.slice Ag n3 cg) := q1.cell 2
  have l1 := q1.lt
  by_cases hlt : k < s.rooms.length
  · obtain ⟨bf, of, rfl, hbf, y0⟩ := IsInts.at_ (hfs.below B1) (show k < n1 by rw [HL1.out]; exact hlt)
    have hbfW : bf < Wk.heap.size := by have := B1.size; omega
    have hk1 : (k : Int) < (n1 : Int) := by rw [HL1.out]; omega
    have e7 : Hid (gI t.fs k = stk0 s.wo t.F t.V t.G k 0) := Lib.hid rfl
    have ec : Hid (canTo s t k = cBt s t k 0) := Lib.hid (cBt_zero s t k).symm
    go_wp2_with fail
    rw [e7.out, ec.out]
    obtain ⟨Bk, hBk⟩ : ∃ b, Wk.heap.size = b := ⟨_, rfl⟩
    have HBK := Lib.hid hBk
    rw [hBk] at hz1' hbfW
    clear hBk
    refine wp_loop (fun a W => Rel (fun a W => ∃ j : Nat, j ≤ D ∧ Below Wk.heap.size Wk W ∧ (∃ vl l, W.ownsRow Bk 3 1 vl l.length (l.flatMap cI1) ∧ Hid (l = (List.range j).map (stk s.wo t.F t.V t.G k)) ∧ ∃ u : Nat → Value, a = ⟨List.toArray (u 0 :: u 1 :: .pointer (some ⟨p0, 0, none⟩) :: .pointer (some ⟨p0 + 1, 0, none⟩) :: u 4 :: u 5 :: vo :: .bool (cBt s t k j) :: .int .i64 (k : Int) :: .int .i64 (stk0 s.wo t.F t.V t.G k j) :: vl :: .int .i64 (j : Int) :: u 12 :: u 13 :: u 14 :: u 15 :: u 16 :: u 17 :: u 18 :: u 19 :: u 20 :: u 21 :: u 22 :: u 23 :: u 24 :: u 25 :: u 26 :: u 27 :: u 28 :: u 29 :: u 30 :: u 31 :: u 32 :: u 33 :: u 34 :: u 35 :: u 36 :: u 37 :: u 38 :: u 39 :: u 40 :: u 41 :: u 42 :: u 43 :: u 44 :: u 45 :: u 46 :: u 47 :: u 48 :: u 49 :: u 50 :: u 51 :: u 52 :: u 53 :: u 54 :: u 55 :: u 56 :: u 57 :: u 58 :: u 59 :: u 60 :: u 61 :: []), []⟩)) a W) (fun a _ => D - (intOf (a.tmps.getD 11 undef)).toNat) ⟨⟨0, by omega, Below.refl _ _, _, [], ⟨rfl, .inl ⟨rfl, rfl⟩⟩, Lib.hid rfl, exFrame (by kernel_rfl)⟩⟩ ?_
    clear a0 a1 a2 a3 l0 b0 b1 b2 l1 y0
    rintro a W ⟨⟨j, hj, hfk, vl, l, ho, HL, u2, rfl⟩⟩
    have q0' := q0.below hfk q0.lt
    have q1' := q1.below hfk q1.lt
    have BW := ex_trans B1 hfk
    have hzW := hfk.size
    rw [HBK.out] at hzW
    have HLL : Hid (l.length = j) := Lib.hid (by rw [HL.out]; simp)
    rw [HLL.out] at ho
    have a0 : W.cell? ⟨p0, 0, none⟩ = some (.slice Ar s.rooms.length cr) := q0'.cell 0
    have a1 : W.cell? ⟨p0, 1, none⟩ = some (.int .i64 s.days) := q0'.cell 1
    have a2 : W.cell? ⟨p0, 2, none⟩ = some (.slice Am s.moves.length cm) := q0'.cell 2
    have a3 : W.cell? ⟨p0, 3, none⟩ = some (.slice Aw s.wgs.length cw) := q0'.cell 3
    have l0 := q0'.lt
    rw [HSD.out] at a1
    have b0 : W.cell? ⟨p0 + 1, 0, none⟩ = some (.slice (some ⟨bf, of, none⟩) n1 cf) := q1'.cell 0
    have b1 : W.cell? ⟨p0 + 1, 1, none⟩ = some (.slice Av n2 cv) := q1'.cell 1
    have b2 : W.cell? ⟨p0 + 1, 2, none⟩ = some (.slice Ag n3 cg) := q1'.cell 2
    have l1 := q1'.lt
    by_cases hlj : j < D
    · obtain ⟨bv, ov, rfl, hbv, z0⟩ := (hvs.below BW) (show 0 < n2 by rw [HL2.out]; omega)
      have z1 : W.cell? ⟨bv, ov + k, none⟩ = some (.slice (rV k) (gL t.vs k).length (rcV k)) := by have := z0 k 0 (by rw [HL2.out]; exact hlt) (by omega); rw [show ov + (k * 1 + 0) = ov + k by omega] at this; exact this
      rw [HRL.out k hlt, HD.out] at z1
      have hro := (hrow k (by rw [HL2.out]; exact hlt)).below BW
      rw [HRL.out k hlt, HD.out] at hro
      obtain ⟨bl, ol, hrv, hbl, v0⟩ := IsInts.at_ hro hlj
      rw [hrv] at z1
      have hbvW : bv < W.heap.size := by have := BW.size; omega
      have hblW : bl < W.heap.size := by have := BW.size; omega
      have hk2 : (k : Int) < (n2 : Int) := by rw [HL2.out]; omega
      clear z0 hro hrv
      obtain ⟨rc, hrc⟩ : ∃ x, rcV k = x := ⟨_, rfl⟩
      rw [hrc] at z1
      clear hrc
      have hsd := stk_day s.wo t.F t.V t.G k j
      have hb0 := stk0_bd hw HTF.out (r := k) hlt j (by rw [HD.out]; exact hj)
      have hb2 := stk0_bd hw HTF.out (r := k) hlt (j + 1) (by rw [HD.out]; omega)
      have hcb := comes_bd s.wo (G := t.G) k j s.moves.length (fun i hi => by have a := HTF.out.mov i hi; have b := hw.grams i hi; unfold inR at a; omega)
      have hm12 := hw.len.2.2.1
      have hm0 : s.wo.moves.length = s.moves.length := rfl
      have hvb := HTF.out.vap k j hlt (by rw [HD.out]; exact hlj)
      have hrb := hw.rooms k hlt
      unfold inR at hvb
      have hvq : t.V k j = gI (gL t.vs k) j := rfl
      rw [hvq] at hvb hsd
      rw [hm0] at hsd hm12
      have hb2' : stk0 s.wo t.F t.V t.G k (j + 1) = stk s.wo t.F t.V t.G k j := rfl
      rw [hb2'] at hb2
      obtain ⟨S0, hS0⟩ : ∃ x, stk0 s.wo t.F t.V t.G k j = x := ⟨_, rfl⟩
      obtain ⟨S1, hS1⟩ : ∃ x, stk s.wo t.F t.V t.G k j = x := ⟨_, rfl⟩
      obtain ⟨cc, hcc⟩ : ∃ x, comes s.wo t.G k j s.moves.length = x := ⟨_, rfl⟩
      obtain ⟨vv, hvv⟩ : ∃ x, gI (gL t.vs k) j = x := ⟨_, rfl⟩
      rw [hS0] at hsd hb0 ⊢
      rw [hS1] at hsd hb2
      rw [hcc] at hsd hcb
      rw [hvv] at hsd hvb v0
      have hvb2 : 0 ≤ vv ∧ vv ≤ 50 := by have a1 := hvb.1; have a2 := hvb.2; have b1 : s.wo.rooms = s.rooms := rfl; rw [b1] at hrb; rw [b1] at a1 a2; omega
      have hcb2 : -24000 ≤ cc ∧ cc ≤ 24000 := by omega
      have hjj : (j : Int) ≤ 6 := by omega
      have hS0b : -200000 ≤ S0 ∧ S0 ≤ 200000 := by omega
      have HSD2 := Lib.hid hsd
      have HS1 := Lib.hid hS1
      have HCC := Lib.hid hcc
      clear hvb hcb hsd hb2' hvq hb0 hb2 hrb hm0 hm12 hvv hS0 hS1 hcc
      go_upto_region 11 with fail
      have D0 := (Below.refl W.heap.size W).drew
      refine wp_region_ext_mix 17 [(false, 0), (false, 1), (false, 2), (false, 3), (false, 4), (false, 5), (false, 7), (false, 8), (false, 9), (false, 10), (false, 11), (false, 12), (false, 13), (false, 14), (true, 6), (false, 15), (false, 16)] (by kernel_rfl) (by kernel_rfl) (by intro d _ _ _ _ h; cases d <;> exact h) ?_
      repeat (refine mix_quiet rfl ?_; go_big_quiet_step (fail); refine wpQuiet_nil ?_)
      refine mix_loud rfl ?_
      go_wp2_with fail
      have hcm := Comes_ref s Ar Am Aw cr cm cw W.drew ((hs.below (ex_trans BW D0)).up (ex_trans BW D0).size) hw t.gs Ag n3 cg ((hgs.below (ex_trans BW D0)).up (ex_trans BW D0).size) (by rw [HL3.out]; exact Nat.le_refl _) (fun i hi => by have a := HTF.out.mov i hi; have b := hw.grams i hi; unfold inR at a; have e : t.G i = gI t.gs i := rfl; rw [← e]; omega) (k : Int) (j : Int)
      rw [HSD.out] at hcm
      refine hcm.mono ?_
      clear hcm
      rintro e Z1 ⟨rfl, hz1⟩
      rw [show comes s.wo (gI t.gs) k j s.moves.length = cc from HCC.out]
      have E1 := ex_trans D0 hz1
      go_wp2_with fail
      refine ⟨inEx E1, ?_⟩
      repeat (refine mix_quiet rfl ?_; go_big_quiet_step (fail); refine wpQuiet_nil ?_)
      refine mix_nil (r := [_]) rfl ?_
      have ho1 := own_below ho E1
      have hfk1 := ex_trans hfk E1
      clear D0 hz1 a0 a1 a2 a3 l0 b0 b1 b2 l1 z1 v0 q0' q1'
      have hS1e : S0 + (cc - vv) = S1 := HSD2.out.symm
      have hS1b : -300000 ≤ S1 ∧ S1 ≤ 300000 := by omega
      go_upto_region 12 with fail
      rw [hS1e]
      have HSE := Lib.hid hS1e
      clear hS1e
      have XI := ex_alloc (Below.refl Z1.heap.size Z1) (.cells #[.int .i64 S1] 3)
      have ho2 := own_below ho1 XI
      have c63 : j + 1 ≤ maxLen := by unfold maxLen; omega
      have cby : (j + 1) * 8 ≤ 140737488355328 := by omega
      have hbase : Bk ≤ (Z1.alloc (.cells #[.int .i64 S1] 3)).heap.size := by have := XI.size; have := E1.size; omega
      go_wp2_with (refine pause_at 50 rfl ?_)
      refine Paused.mk ?_
      refine wpList_append_lies _ rfl _ _ _ rfl Bk 3 i2 _ 1 8 Try.underlying28 hi2 hz0 hz1 hz2 rfl (by omega) vl _ _ rfl ho2 ⟨Z1.heap.size, 0, none⟩ 1 1 [.int .i64 S1] rfl rfl (World.news_of_block (heap_alloc_new Z1 _)) (by simp [Value.oneCell']) (by omega) c63 cby hbase (Z1.heap.size + 1) (by simp) ?_
      intro gg cap w1 hown' hgrow hat hlt'
      have hfw : Below Wk.heap.size Wk w1 := (ex_trans hfk1 XI).grown hgrow (ex_trans hfk1 XI).size (fun b hb => by have := own_ge ho2 hb; have := HBK.out; omega)
      have HOW := Lib.hid (own_push (f := cI1) (x := S1) (by rw [HLL.out]) hown')
      have HL2' : Hid (l ++ [S1] = (List.range (j + 1)).map (stk s.wo t.F t.V t.G k)) := Lib.hid (by rw [HL.out, List.range_succ, List.map_append, List.map_singleton, HS1.out])
      have HCS : Hid (cBt s t k (j + 1) = (cBt s t k j && decide (0 ≤ S1))) := Lib.hid (by rw [cBt_succ, HS1.out])
      have HSK : Hid (stk0 s.wo t.F t.V t.G k (j + 1) = S1) := Lib.hid HS1.out
      clear hown' hgrow hat hlt'
      cases hcb : cBt s t k j
      · have HCB := Lib.hid hcb
        clear hcb
        go_wp2_with fail
        refine ⟨⟨⟨j + 1, by omega, hfw, _, _, HOW.out, HL2', exFrame (by rw [HSK.out, HCS.out, HCB.out]; kernel_rfl)⟩⟩, ?_⟩
        show D - (intOf (.int .i64 ((j : Int) + 1))).toNat < D - (intOf (.int .i64 (j : Int))).toNat
        simp [intOf]
        omega
      · by_cases hS : 0 ≤ S1
        · have HCB := Lib.hid hcb
          clear hcb
          go_wp2_with fail
          refine ⟨⟨⟨j + 1, by omega, hfw, _, _, HOW.out, HL2', exFrame (by rw [HSK.out, HCS.out, HCB.out]; rw [decide_eq_true hS]; kernel_rfl)⟩⟩, ?_⟩
          show D - (intOf (.int .i64 ((j : Int) + 1))).toNat < D - (intOf (.int .i64 (j : Int))).toNat
          simp [intOf]
          omega
        · have HCB := Lib.hid hcb
          clear hcb
          go_wp2_with fail
          refine ⟨⟨⟨j + 1, by omega, hfw, _, _, HOW.out, HL2', exFrame (by rw [HSK.out, HCS.out, HCB.out]; rw [decide_eq_false (show ¬ (0 ≤ S1) by omega)]; kernel_rfl)⟩⟩, ?_⟩
          show D - (intOf (.int .i64 ((j : Int) + 1))).toNat < D - (intOf (.int .i64 (j : Int))).toNat
          simp [intOf]
          omega
    · obtain rfl : j = D := by omega
      have hO' := hO.below hfk
      have HXl : Hid (X.length = k) := Lib.hid (by have := congrArg List.length HX.out; simpa using this)
      rw [← HLL.out] at ho
      obtain ⟨A5, c5, rfl, _, _, hr5⟩ := lay_ints ho
      rw [HLL.out]
      have HCA : Hid (cBt s t k j = canTo s t (k + 1)) := Lib.hid (by rw [← HD.out]; exact cBt_all s t k)
      rw [HCA.out]
      have XL := ex_alloc (Below.refl W.heap.size W) (.cells #[.slice A5 j c5] 28)
      have y4 := own_below hO'.own XL
      have c63 : X.length + 1 ≤ maxLen := by rw [HXl.out]; unfold maxLen; omega
      have cby : (X.length + 1) * 24 ≤ 140737488355328 := by rw [HXl.out]; omega
      have hbase : B0 ≤ (W.alloc (.cells #[.slice A5 j c5] 28)).heap.size := by have := XL.size; omega
      clear a0 a2 a3 b0 b1 b2 l1
      go_wp2_with (refine pause_at 59 rfl ?_)
      refine Paused.mk ?_
      refine wpList_append_lies _ rfl _ _ _ rfl B0 28 i1 _ 1 24 Try.underlying29 hi1 hy0 hy1 hy2 rfl (by omega) vo _ _ rfl y4 ⟨W.heap.size, 0, none⟩ 1 1 [.slice A5 j c5] rfl rfl (World.news_of_block (heap_alloc_new W _)) (by simp [Value.oneCell']) (by omega) c63 cby hbase (W.heap.size + 1) (by simp) ?_
      intro gg cap w1 hown' hgrow hat hlt'
      have hgf := Fr.grown (R := fun b => B0 ≤ b) hgrow (fun b hb => .inl (own_ge y4 hb))
      have Bw : Below w.heap.size w w1 := (ex_trans BW XL).grown hgrow (ex_trans BW XL).size (fun b hb => by have := own_ge y4 hb; omega)
      have hN3 : IOwn w1 B0 (.slice (some ⟨gg, 0, none⟩) (X.length + 1) cap) (X ++ [((A5, c5, l) : IRow)]) := NOwn.push (hO'.below XL) hgrow (by decide) rfl (own_push (f := cIR) (x := ((A5, c5, l) : IRow)) rfl (by rw [show cIR ((A5, c5, l) : IRow) = [.slice A5 j c5] by unfold cIR; dsimp only; rw [HLL.out]]; exact hown')) (fun y hy => by
        obtain rfl := List.mem_singleton.1 hy
        exact (hr5.below XL).base (by omega))
      have HX2 : Hid ((X ++ [((A5, c5, l) : IRow)]).map (fun x => x.2.2) = (List.range (k + 1)).map fun r => (List.range j).map (stk s.wo t.F t.V t.G r)) := Lib.hid (by rw [List.map_append, HX.out, List.range_succ, List.map_append, List.map_singleton, List.map_singleton, HL.out])
      have q0w := (q0'.below XL q0'.lt).fr hgf (by omega)
      have q1w := (q1'.below XL q1'.lt).fr hgf (by omega)
      have hzw : B0 ≤ w1.heap.size := by have := hgrow.size; omega
      clear hown' hgrow hat hlt' hgf hr5 ho
      generalize X ++ [((A5, c5, l) : IRow)] = X2 at *
      go_wp2_with fail
      refine ⟨⟨⟨k + 1, by omega, ⟨Bw, hzw, q0w, q1w⟩, _, X2, hN3, HX2, exFrame (by kernel_rfl)⟩⟩, ?_⟩
      show s.rooms.length - (intOf (.int .i64 ((k : Int) + 1))).toNat < s.rooms.length - (intOf (.int .i64 (k : Int))).toNat
      simp [intOf]
      omega
  · obtain ⟨A, c, rA, rc, rfl, hR⟩ := hO.lays (n := k) HX.out
    obtain rfl : k = s.rooms.length := by omega
    go_wp2
    go_ret2
    exact ⟨⟨A, c, X, rfl, hO.base hwb, by rw [HD.out]; exact HX.out⟩, B1⟩
end Go.Proofs.Ythihdiilokdidaa
end

section
namespace Go.Proofs.Ythihdiilokdidaa
open Go.RowKit
attribute [local go_sem] Ex.cell? Ex.frozen? Gx.cell?

theorem own_grow {W W' : World} {base : Nat} {e : TypeId} {sz n : Nat} {v : Value} {xs : List Value} {row : Option Nat} (h : W.ownsRow base e sz v n xs) (hg : W.grownBy W' row) (hn : ∀ b, v.ownBlock = some b → row ≠ some b) : W'.ownsRow base e sz v n xs :=
  own_fr h (Fr.grown (R := fun b => row = some b) hg (fun b e => .inl e)) (fun b hb => hn b hb)
theorem RowAt.grownNe {W W' : World} {B sz n : Nat} {T : TypeId} {A : Option Addr} {f : Nat → Nat → Value} {row : Option Nat} (h : RowAt W B T sz A n f) (hg : W.grownBy W' row) (hn : ∀ g, A = some ⟨g, 0, none⟩ → n ≠ 0 → some g ≠ row) : RowAt W' B T sz A n f := by
  by_cases h0 : n = 0
  · exact .inl h0
  rcases h with h | ⟨g, cur, e, h1, h2, h3⟩
  · exact .inl h
  · exact .inr ⟨g, cur, e, h1, h2.grown hg (hn g e h0), h3⟩
/-- no row of these lies in the block of another. -/
def Apart (X : List IRow) (v : Value) : Prop := ∀ x ∈ X, ∀ g, x.1 = some ⟨g, 0, none⟩ → x.2.2.length ≠ 0 → v.ownBlock ≠ some g
theorem IOwn.grownA {W W' : World} {B B1 n : Nat} {v v1 : Value} {X : List IRow} {xs : List Value} (h : IOwn W B v X) (hg : W.grownBy W' v1.ownBlock) (o1 : W.ownsRow B1 3 1 v1 n xs) (ap : Apart X v1) : IOwn W' B v X :=
  ⟨own_grow h.own hg (fun b hb => own_ownne h.own o1 (by decide) hb), fun x hx => (h.ins x hx).grownNe hg (fun g e hn e2 => ap x hx g e hn e2.symm)⟩
theorem Apart.next {W : World} {B : Nat} {v v1 v1' : Value} {X : List IRow} {gg : Nat} (h : Apart X v1) (hN : IOwn W B v X) (he : v1'.ownBlock = some gg) (hat : v1.ownBlock = some gg ∨ W.heap.size ≤ gg) : Apart X v1' := fun x hx g e hn e2 => by
  rw [he] at e2
  injection e2 with e2
  subst e2
  rcases hat with h1 | h1
  · exact h x hx _ e hn h1
  · rcases hN.ins x hx with h3 | ⟨g, cur, e3, _, k2, _⟩
    · exact hn h3
    · rw [e] at e3
      injection e3 with e3
      injection e3 with e3
      have := k2.lt
      omega
theorem Apart.push {X : List IRow} {v : Value} {x : IRow} {B : Nat} (h : Apart X v) (hx : ∀ g, x.1 = some ⟨g, 0, none⟩ → x.2.2.length ≠ 0 → B ≤ g) (hv : ∀ b, v.ownBlock = some b → b < B) : Apart (X ++ [x]) v := fun y hy g e hn e2 => by
  rcases List.mem_append.1 hy with h1 | h1
  · exact h y h1 g e hn e2
  · obtain rfl := List.mem_singleton.1 h1
    have := hx g e hn
    have := hv g e2
    omega
/-- a room's first and vapours. -/
structure PickOk (s : Ws) (n : Int) (l : List Int) (j : Nat) : Prop where
  fst : inR n (gRm s.rooms j).fst
  len : l.length = s.wo.days
  vap : ∀ d, d < s.wo.days → inR (gI l d) (gRm s.rooms j).vap
structure PickTo (s : Ws) (l1 : List Int) (L : List (List Int)) (k : Nat) : Prop where
  n1 : l1.length = k
  n2 : L.length = k
  ok : ∀ j, j < k → PickOk s (gI l1 j) (gL L j) j
theorem PickTo.snoc {s : Ws} {l1 : List Int} {L : List (List Int)} {k : Nat} (h : PickTo s l1 L k) {n : Int} {l : List Int} (hn : PickOk s n l k) : PickTo s (l1 ++ [n]) (L ++ [l]) (k + 1) where
  n1 := by simp [h.n1]
  n2 := by simp [h.n2]
  ok := fun j hj => by
    rcases Nat.lt_succ_iff_lt_or_eq.1 hj with hlt | rfl
    · have e1 : gI (l1 ++ [n]) j = gI l1 j := getD_l _ (by rw [h.n1]; exact hlt)
      have e2 : gL (L ++ [l]) j = gL L j := getD_l _ (by rw [h.n2]; exact hlt)
      rw [e1, e2]; exact h.ok j hlt
    · have e1 : gI (l1 ++ [n]) j = n := by rw [← h.n1]; exact getD_r _ _ _
      have e2 : gL (L ++ [l]) j = l := by rw [← h.n2]; exact getD_r _ _ _
      rw [e1, e2]; exact hn
theorem PickTo.tru {s : Ws} {t : Tt} (hd : s.days = (s.wo.days : Int)) (h : PickTo s t.fs t.vs s.rooms.length) (hg : t.gs.length = s.moves.length) (hm : ∀ i, i < s.moves.length → inR (gI t.gs i) (gMv s.moves i).g) : truT s t = true :=
  (truT_iff hd).2 ⟨⟨h.n1, h.n2, hg⟩, fun r hr => (h.ok r hr).len, ⟨fun r hr => (h.ok r hr).fst, fun r d hr hd => (h.ok r hr).vap d hd, hm⟩⟩
theorem gI_snoc' {l : List Int} {n : Int} {k : Nat} {P : Int → Nat → Prop} (hl : l.length = k) (h : ∀ j, j < k → P (gI l j) j) (hn : P n k) : ∀ j, j < k + 1 → P (gI (l ++ [n]) j) j := fun j hj => by
  rcases Nat.lt_succ_iff_lt_or_eq.1 hj with hlt | rfl
  · have e1 : gI (l ++ [n]) j = gI l j := getD_l _ (by rw [hl]; exact hlt)
    rw [e1]; exact h j hlt
  · have e1 : gI (l ++ [n]) j = n := by rw [← hl]; exact getD_r _ _ _
    rw [e1]; exact hn
/-- a truth of these. -/
structure TruP (s : Ws) (t : Tt) : Prop where
  pt : PickTo s t.fs t.vs s.rooms.length
  gl : t.gs.length = s.moves.length
  mv : ∀ i, i < s.moves.length → inR (gI t.gs i) (gMv s.moves i).g
theorem TruP.tru {s : Ws} {t : Tt} (h : TruP s t) (hd : s.days = (s.wo.days : Int)) : truT s t = true := PickTo.tru hd h.pt h.gl h.mv
/-- what lies in the midst of Picked. -/
structure PkA (s : Ws) (wc : Array Value) (w : World) (p0 B0 : Nat) (v1 : Value) (l1 : List Int) (v2 : Value) (X : List IRow) (W : World) : Prop where
  bw : Below w.heap.size w W
  sz : B0 ≤ W.heap.size
  q0 : Blk W p0 26 wc
  q1 : Blk W (p0 + 1) 31 #[.slice none 0 0, .slice none 0 0, .slice none 0 0]
  q2 : Blk W (p0 + 1 + 1) 31 #[v1, v2, .slice none 0 0]
  o1 : W.ownsRow B0 3 1 v1 l1.length (l1.flatMap cI1)
  o2 : IOwn W B0 v2 X
  ap : Apart X v1
/-- behind what only makes memory. -/
theorem PkA.below {s : Ws} {wc : Array Value} {w W W' : World} {p0 B0 : Nat} {v1 : Value} {l1 : List Int} {v2 : Value} {X : List IRow} (h : PkA s wc w p0 B0 v1 l1 v2 X W) (hb : Below W.heap.size W W') : PkA s wc w p0 B0 v1 l1 v2 X W' :=
  ⟨ex_trans h.bw hb, Nat.le_trans h.sz hb.size, h.q0.below hb h.q0.lt, h.q1.below hb h.q1.lt, h.q2.below hb h.q2.lt, own_below h.o1 hb, h.o2.below hb, h.ap⟩
/-- behind an append to the firsts. -/
theorem PkA.fst {s : Ws} {wc : Array Value} {w W W' : World} {p0 B0 : Nat} {v1 : Value} {l1 : List Int} {v2 : Value} {X : List IRow} (h : PkA s wc w p0 B0 v1 l1 v2 X W) (hB : p0 + 1 + 1 < B0) (hw : w.heap.size ≤ p0) (hg : W.grownBy W' v1.ownBlock) {gg cap : Nat} {x : Int} (ho : W'.ownsRow B0 3 1 (.slice (some ⟨gg, 0, none⟩) (l1.length + 1) cap) (l1.length + 1) (l1.flatMap cI1 ++ [.int .i64 x])) (hat : v1.ownBlock = some gg ∨ W.heap.size ≤ gg) :
    PkA s wc w p0 B0 (.slice (some ⟨gg, 0, none⟩) (l1.length + 1) cap) (l1 ++ [x]) v2 X (W'.setCell ⟨p0 + 1 + 1, 0, none⟩ (.slice (some ⟨gg, 0, none⟩) (l1.length + 1) cap)) := by
  have hge := fun (j : Nat) (hj : v1.ownBlock = some j) => own_ge h.o1 hj
  have hne : ∀ p, p < B0 → some p ≠ v1.ownBlock := fun p hp e => by have := hge p e.symm; omega
  have q2' := h.q2.grown hg (hne _ hB)
  have hs2 : B0 ≤ W'.heap.size := by have := hg.size; have := h.sz; omega
  have q2s := q2'.set_ 0 (.slice (some ⟨gg, 0, none⟩) (l1.length + 1) cap)
  simp only [List.setIfInBounds_toArray, List.set_cons_zero, List.set_cons_succ] at q2s
  refine ⟨ex_set (h.bw.grown hg h.bw.size (fun b hb => by have := hge b hb; omega)) (by show w.heap.size ≤ p0 + 1 + 1; omega) _, by simpa using hs2, (h.q0.grown hg (hne _ (by omega))).far (by show p0 ≠ p0 + 1 + 1; omega) _, (h.q1.grown hg (hne _ (by omega))).far (by show p0 + 1 ≠ p0 + 1 + 1; omega) _, q2s, ?_, ?_, h.ap.next h.o2 rfl hat⟩
  · exact own_far (own_push (f := cI1) (x := x) rfl ho) (by show p0 + 1 + 1 < B0; omega) _
  · exact (h.o2.grownA hg h.o1 h.ap).set q2' (by decide) (by decide) 0 _
/-- behind an append to the vapours. -/
theorem PkA.vap {s : Ws} {wc : Array Value} {w W W' : World} {p0 B0 : Nat} {v1 : Value} {l1 : List Int} {v2 : Value} {X : List IRow} (h : PkA s wc w p0 B0 v1 l1 v2 X W) (hB : p0 + 1 + 1 < B0) (hw : w.heap.size ≤ p0) (hg : W.grownBy W' v2.ownBlock) {gg cap : Nat} {x : IRow} (ho : W'.ownsRow B0 28 1 (.slice (some ⟨gg, 0, none⟩) (X.length + 1) cap) (X.length + 1) (X.flatMap cIR ++ cIR x)) {B1 : Nat} (hx : RowAt W B1 3 1 x.1 x.2.2.length (fI x.2.2)) (hB1 : B0 ≤ B1) (hv : ∀ b, v1.ownBlock = some b → b < B1) :
    PkA s wc w p0 B0 v1 l1 (.slice (some ⟨gg, 0, none⟩) (X.length + 1) cap) (X ++ [x]) (W'.setCell ⟨p0 + 1 + 1, 1, none⟩ (.slice (some ⟨gg, 0, none⟩) (X.length + 1) cap)) := by
  have hge := fun (j : Nat) (hj : v2.ownBlock = some j) => own_ge h.o2.own hj
  have hne : ∀ p, p < B0 → some p ≠ v2.ownBlock := fun p hp e => by have := hge p e.symm; omega
  have q2' := h.q2.grown hg (hne _ hB)
  have hs2 : B0 ≤ W'.heap.size := by have := hg.size; have := h.sz; omega
  have q2s := q2'.set_ 1 (.slice (some ⟨gg, 0, none⟩) (X.length + 1) cap)
  simp only [List.setIfInBounds_toArray, List.set_cons_zero, List.set_cons_succ] at q2s
  have o2' : IOwn W' B0 (.slice (some ⟨gg, 0, none⟩) (X.length + 1) cap) (X ++ [x]) := NOwn.push h.o2 hg (by decide) rfl (own_push (f := cIR) (x := x) rfl ho) (fun y hy => by
    obtain rfl := List.mem_singleton.1 hy
    exact hx.base hB1)
  refine ⟨ex_set (h.bw.grown hg h.bw.size (fun b hb => by have := hge b hb; omega)) (by show w.heap.size ≤ p0 + 1 + 1; omega) _, by simpa using hs2, (h.q0.grown hg (hne _ (by omega))).far (by show p0 ≠ p0 + 1 + 1; omega) _, (h.q1.grown hg (hne _ (by omega))).far (by show p0 + 1 ≠ p0 + 1 + 1; omega) _, q2s, ?_, ?_, h.ap.push (B := B1) (fun g e hn => ?_) hv⟩
  · exact own_far (own_grow h.o1 hg (fun b hb => own_ownne h.o1 h.o2.own (by decide) hb)) (by show p0 + 1 + 1 < B0; omega) _
  · exact o2'.set q2' (by decide) (by decide) 1 _
  · rcases hx with h3 | ⟨g', cur, e3, k1, k2, _⟩
    · exact absurd h3 hn
    · rw [e] at e3
      injection e3 with e3
      injection e3 with e3
      omega
/-- a truth that Picked tells. -/
structure TtOwn (w : World) (B : Nat) (t : Tt) (A1 A2 A3 : Option Addr) (c2 : Nat) : Prop where
  fs : RowAt w B 3 1 A1 t.fs.length (fI t.fs)
  vs : ∃ X : List IRow, IOwn w B (.slice A2 t.vs.length c2) X ∧ X.map (fun x => x.2.2) = t.vs
  gs : RowAt w B 3 1 A3 t.gs.length (fI t.gs)
theorem TtOwn.below {w w' : World} {B : Nat} {t : Tt} {A1 A2 A3 : Option Addr} {c2 : Nat} (h : TtOwn w B t A1 A2 A3 c2) (hb : Below w.heap.size w w') : TtOwn w' B t A1 A2 A3 c2 := by
  obtain ⟨h1, ⟨X, h2, h3⟩, h4⟩ := h
  exact ⟨h1.below hb, ⟨X, h2.below hb, h3⟩, h4.below hb⟩
theorem TtOwn.fr {R : Nat → Prop} {w w' : World} {B : Nat} {t : Tt} {A1 A2 A3 : Option Addr} {c2 : Nat} (h : TtOwn w B t A1 A2 A3 c2) (hf : Fr R w w') (hn : ∀ g, B ≤ g → g < w.heap.size → ¬ R g) : TtOwn w' B t A1 A2 A3 c2 := by
  obtain ⟨h1, ⟨X, h2, h3⟩, h4⟩ := h
  exact ⟨h1.fr hf hn, ⟨X, h2.fr hf hn, h3⟩, h4.fr hf hn⟩
theorem TtOwn.base {w : World} {B B' : Nat} {t : Tt} {A1 A2 A3 : Option Addr} {c2 : Nat} (h : TtOwn w B t A1 A2 A3 c2) (hb : B' ≤ B) : TtOwn w B' t A1 A2 A3 c2 := by
  obtain ⟨h1, ⟨X, h2, h3⟩, h4⟩ := h
  exact ⟨h1.base hb, ⟨X, h2.base hb, h3⟩, h4.base hb⟩
theorem TtOwn.tt {w : World} {B : Nat} {t : Tt} {A1 A2 A3 : Option Addr} {c2 : Nat} (h : TtOwn w B t A1 A2 A3 c2) : ∃ rV rcV, TtIn w w.heap.size t A1 A2 A3 rV rcV := by
  obtain ⟨h1, ⟨X, h2, h3⟩, h4⟩ := h
  obtain ⟨A, c, rA, rc, e, hl⟩ := IOwn.lis h2 h3
  injection e with e1 _ e2
  subst e1 e2
  exact ⟨rA, rc, h1.sl, hl.out, hl.row, h4.sl⟩
structure PkV (s : Ws) (B : Nat) (w' : World) (e : Ending) : Prop where
  out : ∃ t : Tt, ∃ A1 A2 A3 c1 c2 c3, e = .returned (.agg #[.slice A1 t.fs.length c1, .slice A2 t.vs.length c2, .slice A3 t.gs.length c3]) ∧ truT s t = true ∧ TtOwn w' B t A1 A2 A3 c2
end Go.Proofs.Ythihdiilokdidaa
end

section
namespace Go.Proofs.Ythihdiilokdidaa

section
variable {x y : Wo} {F : Nat → Int} {V : Nat → Nat → Int} {G : Nat → Int} {out : Nat → Bool}
/-- two works in which the same is moved. -/
structure SameMv (x y : Wo) : Prop where
  nr : y.rooms.length = x.rooms.length
  nm : y.moves.length = x.moves.length
  mv : ∀ i, i < x.moves.length → (gMv y.moves i).day = (gMv x.moves i).day ∧ (gMv y.moves i).src = (gMv x.moves i).src ∧ (gMv y.moves i).dst = (gMv x.moves i).dst
theorem SameMv.comes (h : SameMv x y) (G : Nat → Int) (r d : Int) : ∀ k, k ≤ x.moves.length → comes y G r d k = comes x G r d k := by
  intro k hk
  unfold Proofs.Ythihdiilokdidaa.comes
  refine esum_congr (fun i hi => ?_)
  have hi : i < k := by simpa using hi
  obtain ⟨h1, h2, h3⟩ := h.mv i (by omega)
  rw [h1, h2, h3]
theorem SameMv.stk (h : SameMv x y) (F : Nat → Int) (V : Nat → Nat → Int) (G : Nat → Int) (r : Nat) : ∀ d, stk y F V G r d = stk x F V G r d
  | 0 => by
    show F r + (Proofs.Ythihdiilokdidaa.comes y G r 0 y.moves.length - V r 0) = F r + (Proofs.Ythihdiilokdidaa.comes x G r 0 x.moves.length - V r 0)
    rw [h.nm, h.comes G _ _ _ (Nat.le_refl _)]
  | d + 1 => by
    show Proofs.Ythihdiilokdidaa.stk y F V G r d + (Proofs.Ythihdiilokdidaa.comes y G r ((d : Int) + 1) y.moves.length - V r (d + 1)) = Proofs.Ythihdiilokdidaa.stk x F V G r d + (Proofs.Ythihdiilokdidaa.comes x G r ((d : Int) + 1) x.moves.length - V r (d + 1))
    rw [h.nm, h.comes G _ _ _ (Nat.le_refl _), h.stk F V G r d]
/-- all ranges are as narrow, and the weighings of the first are among those of the second. -/
structure Finer (x y : Wo) : Prop extends SameMv x y where
  days : y.days = x.days
  fst : ∀ r, r < x.rooms.length → ∀ n, inR n (gRm y.rooms r).fst → inR n (gRm x.rooms r).fst
  vap : ∀ r, r < x.rooms.length → ∀ n, inR n (gRm y.rooms r).vap → inR n (gRm x.rooms r).vap
  mov : ∀ i, i < x.moves.length → ∀ n, inR n (gMv y.moves i).g → inR n (gMv x.moves i).g
  nw : x.wgs.length ≤ y.wgs.length
  wg : ∀ i, i < x.wgs.length → (gWg y.wgs i).room = (gWg x.wgs i).room ∧ (gWg y.wgs i).day = (gWg x.wgs i).day ∧ ∀ n, inR n (gWg y.wgs i).g → inR n (gWg x.wgs i).g
theorem Finer.good (h : Finer x y) (hg : GoodF y out F V G) : GoodF x out F V G where
  tru := ⟨fun r hr => h.fst r hr _ (hg.tru.fst r (by rw [h.nr]; exact hr)), fun r d hr hd => h.vap r hr _ (hg.tru.vap r d (by rw [h.nr]; exact hr) (by rw [h.days]; exact hd)), fun i hi => h.mov i hi _ (hg.tru.mov i (by rw [h.nm]; exact hi))⟩
  can := fun r d hr hd => by rw [← h.stk]; exact hg.can r d (by rw [h.nr]; exact hr) (by rw [h.days]; exact hd)
  agr := fun i hi ho => by
    obtain ⟨h1, h2, h3⟩ := h.wg i hi
    have := h3 _ (hg.agr i (by have := h.nw; omega) ho)
    rw [h1, h2, h.stk] at this
    exact this
/-- a works with other weighings. -/
def Wo.wg (w : Wo) (l : List Wg) : Wo := ⟨w.rooms, w.days, w.moves, l⟩
theorem SameMv.wgs (w : Wo) (l m : List Wg) : SameMv (w.wg l) (w.wg m) := ⟨rfl, rfl, fun _ _ => ⟨rfl, rfl, rfl⟩⟩
theorem gWg_l {l m : List Wg} {k : Nat} (h : k < l.length) : gWg (l ++ m) k = gWg l k := getD_l _ h
theorem gWg_r (l : List Wg) (x : Wg) : gWg (l ++ [x]) l.length = x := getD_r _ _ _
end

section
variable {x y : Wo}
/-- one day more, on which nothing is moved or weighed. -/
structure Later (x y : Wo) : Prop where
  rooms : y.rooms = x.rooms
  days : y.days = x.days + 1
  moves : y.moves = x.moves
  wgs : y.wgs = x.wgs
theorem Later.same (h : Later x y) : SameMv x y := ⟨by rw [h.rooms], by rw [h.moves], fun i _ => by rw [h.moves]; exact ⟨rfl, rfl, rfl⟩⟩
end

section
variable {w : Wo} {F : Nat → Int} {V : Nat → Nat → Int} {G : Nat → Int}
end
end Go.Proofs.Ythihdiilokdidaa
end

section
namespace Go.Proofs.Ythihdiilokdidaa

/-- how many of f numbers from n on are left out. -/
def cnt (O : Nat → Bool) (n : Nat) : Nat → Nat
  | 0 => 0
  | f + 1 => (if O n then 1 else 0) + cnt O (n + 1) f
theorem cnt_zero {O : Nat → Bool} : ∀ {f n : Nat}, cnt O n f = 0 → ∀ j, n ≤ j → j < n + f → O j = false
  | 0, n, _, j, h1, h2 => by omega
  | f + 1, n, h, j, h1, h2 => by
    rw [cnt] at h
    cases ho : O n
    · rw [ho] at h
      rcases Nat.eq_or_lt_of_le h1 with he | hlt
      · subst he; exact ho
      · exact cnt_zero (f := f) (n := n + 1) (by simpa using h) j hlt (by omega)
    · rw [ho] at h; simp at h
theorem setO_self {o : Nat → Bool} {n : Nat} : setO o n n = true := by simp [setO]
theorem setO_ne {o : Nat → Bool} {n j : Nat} (h : j ≠ n) : setO o n j = o j := by simp [setO, h]
/-- whatever numbers, so many, may be left out: they are among those that are tried. -/
theorem pick_ne {A : (Nat → Bool) → Bool} {N many : Nat} {O : Nat → Bool} (hA : ∀ o, (∀ j, j < N → o j = O j) → A o = true) : ∀ (f n : Nat) (lv : List Int) (o : Nat → Bool), n + f = N → (∀ j, j < n → o j = O j) → (∀ j, n ≤ j → o j = false) → lv.length + cnt O n f = many → pickL A many f lv o n ≠ [] := by
  intro f
  induction f with
  | zero =>
    intro n lv o h1 h2 h3 h4
    unfold pickL
    rw [cnt] at h4
    rw [if_pos (by omega), if_pos (hA o (fun j hj => h2 j (by omega)))]
    simp
  | succ f ih =>
    intro n lv o h1 h2 h3 h4
    by_cases hm : lv.length = many
    · unfold pickL
      have hz := cnt_zero (show cnt O n (f + 1) = 0 by omega)
      rw [if_pos hm, if_pos (hA o (fun j hj => by
        rcases Nat.lt_or_ge j n with h | h
        · exact h2 j h
        · rw [h3 j h, hz j h (by omega)]))]
      simp
    · unfold pickL
      rw [if_neg hm, loopL_succ]
      rw [cnt] at h4
      cases ho : O n
      · rw [ho] at h4
        have := ih (n + 1) lv o (by omega) (fun j hj => by
          rcases Nat.lt_succ_iff_lt_or_eq.1 hj with h | h
          · exact h2 j h
          · subst h; rw [h3 j (Nat.le_refl _), ho]) (fun j hj => h3 j (by omega)) (by simpa using h4)
        unfold pickL at this
        rw [if_neg hm] at this
        simp [this]
      · rw [ho] at h4
        have := ih (n + 1) (lv ++ [(n : Int)]) (setO o n) (by omega) (fun j hj => by
          rcases Nat.lt_succ_iff_lt_or_eq.1 hj with h | h
          · rw [setO_ne (by omega)]; exact h2 j h
          · subst h; rw [setO_self, ho]) (fun j hj => by rw [setO_ne (by omega)]; exact h3 j (by omega)) (by simp at h4 ⊢; omega)
        simp [this]
/-- those that are told may be left out. -/
theorem pick_mem {A : (Nat → Bool) → Bool} {many : Nat} {L : List Int} : ∀ (f n : Nat) (lv : List Int) (o : Nat → Bool), (∀ j : Nat, o j = true ↔ (j : Int) ∈ lv) → L ∈ pickL A many f lv o n → ∃ o', A o' = true ∧ (∀ j : Nat, o' j = true ↔ (j : Int) ∈ L) := by
  have hset : ∀ (n : Nat) (lv : List Int) (o : Nat → Bool), (∀ j : Nat, o j = true ↔ (j : Int) ∈ lv) → ∀ j : Nat, setO o n j = true ↔ (j : Int) ∈ lv ++ [(n : Int)] := fun n lv o h j => by
    by_cases hj : j = n
    · subst hj; simp [setO_self]
    · rw [setO_ne hj, h j]; simp; omega
  intro f
  induction f with
  | zero =>
    intro n lv o h hL
    unfold pickL at hL
    split at hL
    · split at hL
      · rename_i ha
        rw [List.mem_singleton] at hL
        subst hL; exact ⟨o, ha, h⟩
      · cases hL
    · simp [loopL] at hL
  | succ f ih =>
    intro n lv o h hL
    unfold pickL at hL
    split at hL
    · split at hL
      · rename_i ha
        rw [List.mem_singleton] at hL
        subst hL; exact ⟨o, ha, h⟩
      · cases hL
    · rename_i hm
      rw [loopL_succ, List.mem_append] at hL
      rcases hL with hL | hL
      · exact ih (n + 1) _ _ (hset n lv o h) hL
      · exact ih (n + 1) lv o h (by unfold pickL; rw [if_neg hm]; exact hL)

/-- those that are told: some numbers more, one greater than the other. -/
theorem pick_up {A : (Nat → Bool) → Bool} {many : Nat} {L : List Int} : ∀ (f n : Nat) (lv : List Int) (o : Nat → Bool), L ∈ pickL A many f lv o n → ∃ m : List Int, L = lv ++ m ∧ m.Pairwise (· < ·) ∧ ∀ x ∈ m, (n : Int) ≤ x ∧ x < (n : Int) + f := by
  intro f
  induction f with
  | zero =>
    intro n lv o hL
    unfold pickL at hL
    split at hL
    · split at hL
      · rw [List.mem_singleton] at hL
        exact ⟨[], by simp [hL], List.Pairwise.nil, fun x hx => by cases hx⟩
      · cases hL
    · simp [loopL] at hL
  | succ f ih =>
    intro n lv o hL
    unfold pickL at hL
    split at hL
    · split at hL
      · rw [List.mem_singleton] at hL
        exact ⟨[], by simp [hL], List.Pairwise.nil, fun x hx => by cases hx⟩
      · cases hL
    · rename_i hm
      rw [loopL_succ, List.mem_append] at hL
      rcases hL with hL | hL
      · obtain ⟨m, e, h1, h2⟩ := ih (n + 1) _ _ hL
        refine ⟨(n : Int) :: m, by rw [e]; simp, List.pairwise_cons.2 ⟨fun x hx => by have := h2 x hx; omega, h1⟩, fun x hx => ?_⟩
        rcases List.mem_cons.1 hx with rfl | hx
        · omega
        · have := h2 x hx; omega
      · obtain ⟨m, e, h1, h2⟩ := ih (n + 1) lv o (by unfold pickL; rw [if_neg hm]; exact hL)
        exact ⟨m, e, h1, fun x hx => by have := h2 x hx; omega⟩
/-- the numbers of a list, as those that are left out. -/
def outL (L : List Int) : Nat → Bool := fun j => decide ((j : Int) ∈ L)
theorem good_off {w : Wo} {o o' : Nat → Bool} (h : ∀ j, j < w.wgs.length → o j = o' j) : Good w o ↔ Good w o' := by
  have key : ∀ o o' : Nat → Bool, (∀ j, j < w.wgs.length → o j = o' j) → Good w o → Good w o' := fun o o' h ⟨F, V, G, hg⟩ => ⟨F, V, G, hg.tru, hg.can, fun i hi ho => hg.agr i hi (by rw [h i hi]; exact ho)⟩
  exact ⟨key o o' h, key o' o (fun j hj => (h j hj).symm)⟩
/-- a list that is told: it may be left out, and goes up. -/
structure Told (s : Ws) (L : List Int) : Prop where
  good : Good s.wo (outL L)
  up : L.Pairwise (· < ·)
  bd : ∀ x ∈ L, 0 ≤ x ∧ x < (s.wgs.length : Int)
theorem listsL_told {s : Ws} {many : Nat} {L : List Int} (h : L ∈ listsL s many) : Told s L ∧ L.length = many := by
  unfold listsL at h
  obtain ⟨m, e, h1, h2⟩ := pick_up _ _ _ _ h
  obtain ⟨o', ha, ho⟩ := pick_mem s.wgs.length 0 [] off0 (fun j => by simp [off0]) h
  simp only [List.nil_append] at e
  subst e
  refine ⟨⟨?_, h1, fun x hx => by have := h2 x hx; omega⟩, listsL_mem (s := s) (by unfold listsL; exact h)⟩
  refine (good_off (fun j _ => ?_)).1 (truB_iff.1 ha)
  unfold outL
  cases hj : o' j
  · symm; rw [decide_eq_false_iff_not]
    intro hm; rw [(ho j).2 hm] at hj; cases hj
  · symm; rw [decide_eq_true_eq]; exact (ho j).1 hj
theorem listsL_ne {s : Ws} {O : Nat → Bool} (h : Good s.wo O) : listsL s (cnt O 0 s.wgs.length) ≠ [] := by
  unfold listsL
  refine pick_ne (N := s.wgs.length) (O := O) (fun o ho => truB_iff.2 ((good_off (fun j hj => ho j hj)).2 h)) s.wgs.length 0 [] off0 (by omega) (fun j hj => by omega) (fun _ _ => rfl) (by simp)
theorem cnt_le (O : Nat → Bool) : ∀ f n, cnt O n f ≤ f
  | 0, _ => Nat.le_refl _
  | f + 1, n => by
    have := cnt_le O f (n + 1)
    rw [cnt]; split <;> omega
theorem fewK_le {s : Ws} {O : Nat → Bool} (h : Good s.wo O) : 0 ≤ fewK s ∧ fewK s ≤ (cnt O 0 s.wgs.length : Nat) := by
  have hc := cnt_le O s.wgs.length 0
  have hne := listsL_ne h
  have hpos : decide (0 < (listsL s (cnt O 0 s.wgs.length)).length) = true := by
    rw [decide_eq_true_eq]; exact List.length_pos_iff.2 hne
  have key : ∀ n k : Nat, k < n → (fun k => decide (0 < (listsL s k).length)) k = true → 0 ≤ firstOf (fun k => decide (0 < (listsL s k).length)) n ∧ firstOf (fun k => decide (0 < (listsL s k).length)) n ≤ k := by
    intro n
    induction n with
    | zero => intro k hk; omega
    | succ n ih =>
      intro k hk hf
      rw [firstOf]
      rcases Nat.lt_succ_iff_lt_or_eq.1 hk with hlt | rfl
      · have := ih k hlt hf
        rw [if_neg (by omega)]; exact this
      · by_cases hn : firstOf (fun k => decide (0 < (listsL s k).length)) k < 0
        · rw [if_pos hn, if_pos hf]; omega
        · rw [if_neg hn]
          refine ⟨by omega, ?_⟩
          have hb : ∀ n, firstOf (fun k => decide (0 < (listsL s k).length)) n < (n : Int) := by
            intro n
            induction n with
            | zero => simp [firstOf]
            | succ n ih => rw [firstOf]; split <;> (try split) <;> omega
          have := hb k; omega
  exact key _ _ (by omega) hpos
theorem firstOf_hit {f : Nat → Bool} : ∀ {n : Nat}, 0 ≤ firstOf f n → f (firstOf f n).toNat = true ∧ (firstOf f n).toNat < n
  | 0, h => by simp [firstOf] at h
  | n + 1, h => by
    rw [firstOf] at h ⊢
    by_cases hn : firstOf f n < 0
    · rw [if_pos hn] at h ⊢
      by_cases hf : f n = true
      · rw [if_pos hf]; simp [hf]
      · rw [if_neg hf] at h; omega
    · rw [if_neg hn] at h ⊢
      have := firstOf_hit (f := f) (n := n) (by omega)
      exact ⟨this.1, by omega⟩
theorem firstOf_min {f : Nat → Bool} {k : Nat} : ∀ {n : Nat}, k < n → f k = true → 0 ≤ firstOf f n ∧ firstOf f n ≤ k
  | 0, hk, _ => by omega
  | n + 1, hk, hf => by
    rw [firstOf]
    rcases Nat.lt_succ_iff_lt_or_eq.1 hk with hlt | rfl
    · have := firstOf_min (n := n) hlt hf
      rw [if_neg (by omega)]; exact this
    · by_cases hn : firstOf f k < 0
      · rw [if_pos hn, if_pos hf]; omega
      · rw [if_neg hn]
        have := (firstOf_hit (f := f) (n := k) (by omega)).2
        omega
theorem headD_mem {α : Type} {l : List α} (z : α) (h : l ≠ []) : l.headD z ∈ l := by cases l with
  | nil => exact absurd rfl h
  | cons a l => simp
/-- what Fewest tells. -/
structure FwIs (s : Ws) : Prop where
  told : Told s (fwL s)
  min : ∀ O, Good s.wo O → (fwL s).length ≤ cnt O 0 s.wgs.length
theorem fw_ok {s : Ws} (hc : ckWs s = 0) (h : fwE s = 0) : FwIs s := by
  have hk : 0 ≤ fewK s := by
    unfold fwE at h
    rw [if_pos hc] at h
    by_cases hk : 0 ≤ fewK s
    · exact hk
    · rw [if_neg hk] at h; cases h
  have hh := (firstOf_hit (f := fun k => decide (0 < (listsL s k).length)) (n := s.wgs.length + 1) hk).1
  have hh' : 0 < (listsL s (fewK s).toNat).length := of_decide_eq_true hh
  have hm : fwL s ∈ listsL s (fewK s).toNat := by
    unfold fwL
    rw [if_pos h]
    exact headD_mem _ (List.length_pos_iff.1 hh')
  obtain ⟨ht, hl⟩ := listsL_told hm
  refine ⟨ht, fun O hO => ?_⟩
  have := fewK_le hO
  omega
theorem fw_yes {s : Ws} {O : Nat → Bool} (hc : ckWs s = 0) (h : Good s.wo O) : fwE s = 0 := by
  unfold fwE
  rw [if_pos hc, if_pos (fewK_le h).1]
theorem fw_no {s : Ws} (hc : ckWs s = 0) (h : ¬ fwE s = 0) : fwE s = 9 ∧ ∀ O, ¬ Good s.wo O := by
  refine ⟨?_, fun O hO => h (fw_yes hc hO)⟩
  unfold fwE at h ⊢
  rw [if_pos hc] at h ⊢
  by_cases hk : 0 ≤ fewK s
  · rw [if_pos hk] at h; exact absurd rfl h
  · rw [if_neg hk]
theorem cnt_off0 : ∀ f n, cnt off0 n f = 0
  | 0, _ => rfl
  | f + 1, n => by rw [cnt, cnt_off0 f]; rfl
theorem fw_nil {s : Ws} (hc : ckWs s = 0) : (fwE s = 0 ∧ (fwL s).length = 0) ↔ Good s.wo off0 := by
  constructor
  · rintro ⟨h, h0⟩
    have := (fw_ok hc h).told.good
    rw [List.length_eq_zero_iff.1 h0] at this
    exact (good_off (fun j _ => by simp [outL, off0])).1 this
  · intro h
    have hf := fw_yes hc h
    have := (fw_ok hc hf).min off0 h
    rw [cnt_off0] at this
    exact ⟨hf, by omega⟩
theorem lt_of_nil {s : Ws} (h : ¬ Good s.wo off0) : listsL s 0 = [] := by
  cases hl : listsL s 0 with
  | nil => rfl
  | cons L M =>
    obtain ⟨ht, h0⟩ := listsL_told (s := s) (many := 0) (L := L) (by rw [hl]; simp)
    rw [List.length_eq_zero_iff.1 h0] at ht
    exact absurd ((good_off (fun j _ => by simp [outL, off0])).1 ht.good) h
/-- what Blame tells is what Fewest does. -/
theorem bm_ok {s : Ws} (hc : ckWs s = 0) (h : bmE s = 0) : fwE s = 0 ∧ fwL s = [bmV s] := by
  have hv : bmV s = ((listsL s 1).headD []).headD 0 := by unfold bmV; rw [if_pos h]
  unfold bmE at h
  rw [if_pos hc] at h
  by_cases hb : (listsL s 1).length = 1 ∧ agrO s off0 = false
  · obtain ⟨h1, h2⟩ := hb
    have hng : ¬ Good s.wo off0 := fun hg => by rw [show agrO s off0 = true from truB_iff.2 hg] at h2; cases h2
    have hm1 : (listsL s 1).headD [] ∈ listsL s 1 := headD_mem _ (fun e => by rw [e] at h1; cases h1)
    obtain ⟨ht, hl⟩ := listsL_told hm1
    have hk := firstOf_min (f := fun k => decide (0 < (listsL s k).length)) (k := 1) (n := s.wgs.length + 1) (by
      cases hL : (listsL s 1).headD [] with
      | nil => rw [hL] at hl; cases hl
      | cons x M => have := ht.bd x (by rw [hL]; simp); omega) (by rw [decide_eq_true_eq]; omega)
    have hk0 : fewK s ≠ 0 := fun e => by
      have hh := (firstOf_hit (f := fun k => decide (0 < (listsL s k).length)) (n := s.wgs.length + 1) hk.1).1
      rw [show firstOf (fun k => decide (0 < (listsL s k).length)) (s.wgs.length + 1) = 0 from e] at hh
      have : 0 < (listsL s 0).length := of_decide_eq_true hh
      rw [lt_of_nil hng] at this
      cases this
    have hk1 : fewK s = 1 := by
      have : 0 ≤ fewK s ∧ fewK s ≤ 1 := hk
      omega
    have hf : fwE s = 0 := by unfold fwE; rw [if_pos hc, hk1]; rfl
    refine ⟨hf, ?_⟩
    unfold fwL
    rw [if_pos hf, hk1, hv]
    show (listsL s 1).headD [] = _
    cases hL : (listsL s 1).headD [] with
    | nil => rw [hL] at hl; cases hl
    | cons x M =>
      rw [hL] at hl
      cases M with
      | nil => rfl
      | cons y M => simp at hl
  · rw [if_neg hb] at h; cases h
theorem bm_cases {s : Ws} (hc : ckWs s = 0) : bmE s = 0 ∨ bmE s = 7 := by
  unfold bmE
  rw [if_pos hc]
  split
  · exact .inl rfl
  · exact .inr rfl
end Go.Proofs.Ythihdiilokdidaa
end

section
namespace Go.Proofs.Ythihdiilokdidaa

/-- the product of the first so many widths. -/
def prodW (wd : Nat → Nat) : Nat → Nat
  | 0 => 1
  | k + 1 => prodW wd k * wd k
/-- what is left of a number after so many places. -/
def remW (wd : Nat → Nat) (n : Nat) : Nat → Nat
  | 0 => n
  | k + 1 => remW wd n k / wd k
theorem remW_div (wd : Nat → Nat) (n : Nat) : ∀ k, remW wd n k = n / prodW wd k
  | 0 => by simp [remW, prodW]
  | k + 1 => by rw [remW, remW_div wd n k, prodW, Nat.div_div_eq_div_mul]
theorem prodW_pos {wd : Nat → Nat} : ∀ {K : Nat}, (∀ k, k < K → 0 < wd k) → 0 < prodW wd K
  | 0, _ => Nat.one_pos
  | K + 1, h => Nat.mul_pos (prodW_pos (fun k hk => h k (by omega))) (h K (by omega))
theorem prodW_dvd (wd : Nat → Nat) {k : Nat} : ∀ {K : Nat}, k < K → ∃ q, prodW wd K = prodW wd k * (wd k * q)
  | 0, h => by omega
  | K + 1, h => by
    rcases Nat.lt_succ_iff_lt_or_eq.1 h with h | rfl
    · obtain ⟨q, hq⟩ := prodW_dvd wd h
      exact ⟨q * wd K, by rw [prodW, hq, Nat.mul_assoc, Nat.mul_assoc]⟩
    · exact ⟨1, by rw [prodW, Nat.mul_one]⟩
/-- any places are those of a number. -/
theorem remW_ex {wd c : Nat → Nat} : ∀ {K : Nat}, (∀ k, k < K → c k < wd k) → ∃ n, n < prodW wd K ∧ ∀ k, k < K → remW wd n k % wd k = c k
  | 0, _ => ⟨0, Nat.one_pos, fun k hk => by omega⟩
  | K + 1, h => by
    obtain ⟨n, hn, hk⟩ := remW_ex (K := K) (fun k hk => h k (by omega))
    have hc := h K (by omega)
    have hp : 0 < prodW wd K := by omega
    refine ⟨n + prodW wd K * c K, ?_, fun k hkK => ?_⟩
    · rw [prodW]
      calc n + prodW wd K * c K < prodW wd K + prodW wd K * c K := by omega
        _ = prodW wd K * (c K + 1) := by rw [Nat.mul_add, Nat.mul_one, Nat.add_comm]
        _ ≤ prodW wd K * wd K := Nat.mul_le_mul_left _ hc
    · rw [remW_div]
      rcases Nat.lt_succ_iff_lt_or_eq.1 hkK with hlt | rfl
      · obtain ⟨q, hq⟩ := prodW_dvd wd hlt
        have hpk : 0 < prodW wd k := prodW_pos (fun j hj => by have := h j (by omega); omega)
        rw [hq, Nat.mul_assoc, Nat.add_mul_div_left _ _ hpk, Nat.mul_assoc, Nat.add_mul_mod_self_left, ← remW_div]
        exact hk k hlt
      · rw [Nat.add_mul_div_left _ _ hp, Nat.div_eq_of_lt hn, Nat.zero_add, Nat.mod_eq_of_lt hc]
/-- the product, but at most a great number. -/
def wideTo (wd : Nat → Nat) : Nat → Nat
  | 0 => 1
  | k + 1 => min 1048576 (wideTo wd k * wd k)
theorem wideTo_eq {wd : Nat → Nat} : ∀ {K : Nat}, (∀ k, k < K → 0 < wd k) → wideTo wd K = min 1048576 (prodW wd K)
  | 0, _ => by simp [wideTo, prodW]
  | K + 1, h => by
    rw [wideTo, wideTo_eq (fun k hk => h k (by omega)), prodW]
    have hw := h K (by omega)
    rcases Nat.le_total (prodW wd K) 1048576 with hle | hle
    · rw [Nat.min_eq_right hle]
    · rw [Nat.min_eq_left hle]
      have h1 : 1048576 ≤ 1048576 * wd K := Nat.le_mul_of_pos_right _ hw
      have h2 : prodW wd K ≤ prodW wd K * wd K := Nat.le_mul_of_pos_right _ hw
      omega
theorem wideTo_le {wd : Nat → Nat} {K : Nat} (h : ∀ k, k < K → 0 < wd k) (hk : wideTo wd K < 1048576) : wideTo wd K = prodW wd K := by
  have := wideTo_eq h
  omega
theorem wideTo_bd {wd : Nat → Nat} {K : Nat} (h : ∀ k, k < K → 0 < wd k) : 1 ≤ wideTo wd K ∧ wideTo wd K ≤ 1048576 := by
  have := wideTo_eq h
  have := prodW_pos h
  omega

/-- how wide a range is. -/
def wdR (r : Rg) : Nat := (r.hi - r.lo + 1).toNat
/-- the range at a place: of each room its first and the vapours of all days, then the moves. -/
def rgP (w : Wo) (k : Nat) : Rg :=
  if k < w.rooms.length * (w.days + 1) then (if k % (w.days + 1) = 0 then (gRm w.rooms (k / (w.days + 1))).fst else (gRm w.rooms (k / (w.days + 1))).vap) else (gMv w.moves (k - w.rooms.length * (w.days + 1))).g
def wdP (w : Wo) (k : Nat) : Nat := wdR (rgP w k)
def placesP (w : Wo) : Nat := w.rooms.length * (w.days + 1) + w.moves.length
section
variable {w : Wo}
theorem place_lt {R D i j : Nat} (hi : i < R) (hj : j < D) : i * D + j < R * D := by
  have : (i + 1) * D ≤ R * D := Nat.mul_le_mul_right _ hi
  rw [Nat.add_mul, Nat.one_mul] at this
  omega
theorem rgP_fst {i : Nat} (hi : i < w.rooms.length) : rgP w (i * (w.days + 1)) = (gRm w.rooms i).fst := by
  unfold rgP
  rw [if_pos (by have := place_lt (D := w.days + 1) (j := 0) hi (by omega); omega), if_pos (by simp), Nat.mul_div_cancel _ (by omega)]
theorem rgP_vap {i d : Nat} (hi : i < w.rooms.length) (hd : d < w.days) : rgP w (i * (w.days + 1) + 1 + d) = (gRm w.rooms i).vap := by
  have hm : (i * (w.days + 1) + 1 + d) % (w.days + 1) = 1 + d := by rw [Nat.add_assoc, Nat.mul_comm, Nat.mul_add_mod, Nat.mod_eq_of_lt (by omega)]
  have hq : (i * (w.days + 1) + 1 + d) / (w.days + 1) = i := by rw [Nat.add_assoc, Nat.mul_comm, Nat.mul_add_div (by omega), Nat.div_eq_of_lt (by omega), Nat.add_zero]
  unfold rgP
  rw [if_pos (by have := place_lt (D := w.days + 1) (j := 1 + d) hi (by omega); omega), hm, if_neg (by omega), hq]
theorem rgP_mov (i : Nat) : rgP w (w.rooms.length * (w.days + 1) + i) = (gMv w.moves i).g := by
  unfold rgP
  rw [if_neg (by omega), Nat.add_sub_cancel_left]
theorem wdP_pos (hw : WoOk w) {k : Nat} (hk : k < placesP w) : 0 < wdP w k := by
  have key : ∀ r : Rg, r.lo ≤ r.hi → 0 < wdR r := fun r h => by unfold wdR; omega
  unfold wdP
  refine key _ ?_
  unfold rgP
  split
  · rename_i h
    have hq : k / (w.days + 1) < w.rooms.length := Nat.div_lt_of_lt_mul (by rw [Nat.mul_comm]; exact h)
    have := hw.rooms _ hq
    split <;> omega
  · have := hw.grams (k - w.rooms.length * (w.days + 1)) (by unfold placesP at hk; omega)
    omega
/-- the truth with a number. -/
def valP (w : Wo) (n k : Nat) : Int := (rgP w k).lo + ((remW (wdP w) n k % wdP w k : Nat) : Int)
def nthF (w : Wo) (n : Nat) : Nat → Int := fun i => valP w n (i * (w.days + 1))
def nthV (w : Wo) (n : Nat) : Nat → Nat → Int := fun i d => valP w n (i * (w.days + 1) + 1 + d)
def nthG (w : Wo) (n : Nat) : Nat → Int := fun i => valP w n (w.rooms.length * (w.days + 1) + i)
theorem valP_in (hw : WoOk w) (n : Nat) {k : Nat} (hk : k < placesP w) : inR (valP w n k) (rgP w k) := by
  have h1 := wdP_pos hw hk
  have h2 := Nat.mod_lt (remW (wdP w) n k) h1
  unfold valP inR
  unfold wdP wdR at h1
  have : wdP w k = ((rgP w k).hi - (rgP w k).lo + 1).toNat := rfl
  omega
theorem nth_tru (hw : WoOk w) (n : Nat) : TruF w (nthF w n) (nthV w n) (nthG w n) where
  fst := fun r hr => by
    have := valP_in hw n (k := r * (w.days + 1)) (by unfold placesP; have := place_lt (D := w.days + 1) (j := 0) hr (by omega); omega)
    rwa [rgP_fst hr] at this
  vap := fun r d hr hd => by
    have := valP_in hw n (k := r * (w.days + 1) + 1 + d) (by unfold placesP; have := place_lt (D := w.days + 1) (j := 1 + d) hr (by omega); omega)
    rwa [rgP_vap hr hd] at this
  mov := fun i hi => by
    have := valP_in hw n (k := w.rooms.length * (w.days + 1) + i) (by unfold placesP; omega)
    rwa [rgP_mov] at this
/-- a number's truth is the same in these. -/
structure SameT (w : Wo) (F : Nat → Int) (V : Nat → Nat → Int) (G : Nat → Int) (F' : Nat → Int) (V' : Nat → Nat → Int) (G' : Nat → Int) : Prop where
  fst : ∀ r, r < w.rooms.length → F r = F' r
  vap : ∀ r d, r < w.rooms.length → d < w.days → V r d = V' r d
  mov : ∀ i, i < w.moves.length → G i = G' i
theorem SameT.stk {F : Nat → Int} {V : Nat → Nat → Int} {G : Nat → Int} {F' : Nat → Int} {V' : Nat → Nat → Int} {G' : Nat → Int} (h : SameT w F V G F' V' G') {r : Nat} (hr : r < w.rooms.length) : ∀ d, d < w.days → stk w F V G r d = stk w F' V' G' r d := by
  have hc : ∀ d : Int, comes w G r d w.moves.length = comes w G' r d w.moves.length := fun d => by
    unfold comes
    refine esum_congr (fun i hi => ?_)
    rw [h.mov i (by simpa using hi)]
  intro d
  induction d with
  | zero =>
    intro hd
    show F r + (comes w G r 0 w.moves.length - V r 0) = F' r + (comes w G' r 0 w.moves.length - V' r 0)
    rw [h.fst r hr, h.vap r 0 hr hd, hc]
  | succ d ih =>
    intro hd
    show Proofs.Ythihdiilokdidaa.stk w F V G r d + (comes w G r ((d : Int) + 1) w.moves.length - V r (d + 1)) = Proofs.Ythihdiilokdidaa.stk w F' V' G' r d + (comes w G' r ((d : Int) + 1) w.moves.length - V' r (d + 1))
    rw [ih (by omega), h.vap r (d + 1) hr hd, hc]
theorem SameT.good {F : Nat → Int} {V : Nat → Nat → Int} {G : Nat → Int} {F' : Nat → Int} {V' : Nat → Nat → Int} {G' : Nat → Int} {out : Nat → Bool} (h : SameT w F V G F' V' G') (hw : WoOk w) (hg : GoodF w out F V G) : GoodF w out F' V' G' where
  tru := ⟨fun r hr => by rw [← h.fst r hr]; exact hg.tru.fst r hr, fun r d hr hd => by rw [← h.vap r d hr hd]; exact hg.tru.vap r d hr hd, fun i hi => by rw [← h.mov i hi]; exact hg.tru.mov i hi⟩
  can := fun r d hr hd => by rw [← h.stk hr d hd]; exact hg.can r d hr hd
  agr := fun i hi ho => by
    have := hw.wgs i hi
    rw [← h.stk (by omega) _ (by omega)]
    exact hg.agr i hi ho
/-- EACH TRUTH HAS A NUMBER. -/
theorem nth_ex (hw : WoOk w) {F : Nat → Int} {V : Nat → Nat → Int} {G : Nat → Int} (ht : TruF w F V G) : ∃ n, n < prodW (wdP w) (placesP w) ∧ SameT w F V G (nthF w n) (nthV w n) (nthG w n) := by
  have hD : 0 < w.days + 1 := by omega
  let C : Nat → Int := fun k => if k < w.rooms.length * (w.days + 1) then (if k % (w.days + 1) = 0 then F (k / (w.days + 1)) else V (k / (w.days + 1)) (k % (w.days + 1) - 1)) else G (k - w.rooms.length * (w.days + 1))
  have hC : ∀ k, k < placesP w → inR (C k) (rgP w k) := fun k hk => by
    show inR (if k < w.rooms.length * (w.days + 1) then (if k % (w.days + 1) = 0 then F (k / (w.days + 1)) else V (k / (w.days + 1)) (k % (w.days + 1) - 1)) else G (k - w.rooms.length * (w.days + 1))) (rgP w k)
    unfold rgP
    by_cases h : k < w.rooms.length * (w.days + 1)
    · have hq : k / (w.days + 1) < w.rooms.length := Nat.div_lt_of_lt_mul (by rw [Nat.mul_comm]; exact h)
      rw [if_pos h, if_pos h]
      by_cases h0 : k % (w.days + 1) = 0
      · rw [if_pos h0, if_pos h0]; exact ht.fst _ hq
      · rw [if_neg h0, if_neg h0]
        have := Nat.mod_lt k hD
        exact ht.vap _ _ hq (by omega)
    · rw [if_neg h, if_neg h]
      exact ht.mov _ (by unfold placesP at hk; omega)
  obtain ⟨n, hn, hd⟩ := remW_ex (wd := wdP w) (c := fun k => (C k - (rgP w k).lo).toNat) (K := placesP w) (fun k hk => by
    have h1 := hC k hk
    unfold inR at h1
    show (C k - (rgP w k).lo).toNat < ((rgP w k).hi - (rgP w k).lo + 1).toNat
    omega)
  have hv : ∀ k, k < placesP w → valP w n k = C k := fun k hk => by
    have h1 := hC k hk
    have h2 := hd k hk
    unfold inR at h1
    unfold valP
    rw [h2]
    omega
  refine ⟨n, hn, fun r hr => ?_, fun r d hr hdd => ?_, fun i hi => ?_⟩
  · have hlt := place_lt (D := w.days + 1) (j := 0) hr hD
    show F r = valP w n (r * (w.days + 1))
    rw [hv _ (by unfold placesP; omega)]
    show F r = if r * (w.days + 1) < w.rooms.length * (w.days + 1) then _ else _
    rw [if_pos (by omega), if_pos (by simp), Nat.mul_div_cancel _ hD]
  · have hlt := place_lt (D := w.days + 1) (j := 1 + d) hr (by omega)
    have hm : (r * (w.days + 1) + 1 + d) % (w.days + 1) = 1 + d := by rw [Nat.add_assoc, Nat.mul_comm, Nat.mul_add_mod, Nat.mod_eq_of_lt (by omega)]
    have hq : (r * (w.days + 1) + 1 + d) / (w.days + 1) = r := by rw [Nat.add_assoc, Nat.mul_comm, Nat.mul_add_div (by omega), Nat.div_eq_of_lt (by omega), Nat.add_zero]
    show V r d = valP w n (r * (w.days + 1) + 1 + d)
    rw [hv _ (by unfold placesP; omega)]
    show V r d = if r * (w.days + 1) + 1 + d < w.rooms.length * (w.days + 1) then _ else _
    rw [if_pos (by omega), hm, if_neg (by omega), hq, Nat.add_sub_cancel_left]
  · show G i = valP w n (w.rooms.length * (w.days + 1) + i)
    rw [hv _ (by unfold placesP; omega)]
    show G i = if w.rooms.length * (w.days + 1) + i < w.rooms.length * (w.days + 1) then _ else _
    rw [if_neg (by omega), Nat.add_sub_cancel_left]
/-- a truth with a number that can be, and agrees with all weighings but some. -/
def goodN (w : Wo) (out : Nat → Bool) (n : Nat) : Prop := GoodF w out (nthF w n) (nthV w n) (nthG w n)
def stkN (w : Wo) (n : Nat) : Nat → Nat → Int := stk w (nthF w n) (nthV w n) (nthG w n)
theorem good_iff (hw : WoOk w) (out : Nat → Bool) : Good w out ↔ ∃ n, n < prodW (wdP w) (placesP w) ∧ goodN w out n := by
  constructor
  · rintro ⟨F, V, G, hg⟩
    obtain ⟨n, hn, hs⟩ := nth_ex hw hg.tru
    exact ⟨n, hn, hs.good hw hg⟩
  · rintro ⟨n, _, hg⟩; exact ⟨_, _, _, hg⟩
theorem stkZ_iff (hw : WoOk w) (out : Nat → Bool) {r d : Nat} (hr : r < w.rooms.length) (hd : d < w.days) (z : Int) : StkZ w out r d z ↔ ∃ n, n < prodW (wdP w) (placesP w) ∧ goodN w out n ∧ stkN w n r d = z := by
  constructor
  · rintro ⟨F, V, G, hg, e⟩
    obtain ⟨n, hn, hs⟩ := nth_ex hw hg.tru
    exact ⟨n, hn, hs.good hw hg, by rw [← e]; exact (hs.stk hr d hd).symm⟩
  · rintro ⟨n, _, hg, e⟩; exact ⟨_, _, _, hg, e⟩
end
end Go.Proofs.Ythihdiilokdidaa
end

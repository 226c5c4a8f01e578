/- Spill: the stocks in a truth (walk). · Spill: Play, ProveTruth (walks). · Spill: Stocks, Missing, Lost (walks). · Spill: Lost (walk). -/
import Derived.Test.YthihdiilokdidaaV9
import Derived.Test.YthihdiilokdidaaV8
set_option linter.unusedVariables false
set_option linter.unusedSimpArgs false
set_option linter.unusedSectionVars false
section
namespace Go.Proofs.Ythihdiilokdidaa
open Go.RowKit
attribute [local go_sem] Ex.cell? Ex.frozen?

def stk0 (w : Wo) (F : Nat → Int) (V : Nat → Nat → Int) (G : Nat → Int) (r : Nat) : Nat → Int
  | 0 => F r
  | d + 1 => stk w F V G r d
theorem stk_day (w : Wo) (F : Nat → Int) (V : Nat → Nat → Int) (G : Nat → Int) (r d : Nat) : stk w F V G r d = stk0 w F V G r d + (comes w G r d w.moves.length - V r d) := by
  cases d with
  | zero => simp [stk, stk0]
  | succ d => simp [stk, stk0]
theorem stk0_bd {w : Wo} {F : Nat → Int} {V : Nat → Nat → Int} {G : Nat → Int} (hw : WoOk w) (ht : TruF w F V G) {r : Nat} (hr : r < w.rooms.length) : ∀ d : Nat, d ≤ w.days → -(24050 * (d : Int)) ≤ stk0 w F V G r d ∧ stk0 w F V G r d ≤ 2000 + 24000 * d
  | 0, _ => by
    have h1 := ht.fst r hr
    have h2 := hw.rooms r hr
    unfold inR at h1
    simp only [stk0]
    omega
  | d + 1, hd => by
    have ih := stk0_bd hw ht hr d (by omega)
    have h1 := ht.vap r d hr (by omega)
    have h2 := hw.rooms r hr
    have h3 := comes_bd w (G := G) r d w.moves.length (fun i hi => by have a := ht.mov i hi; have b := hw.grams i hi; unfold inR at a; omega)
    have h4 := hw.len
    unfold inR at h1
    show _ ≤ stk w F V G r d ∧ stk w F V G r d ≤ _
    rw [stk_day]
    omega
def dayB (s : Ws) (t : Tt) (r : Nat) (j : Nat) : Bool := allTo (fun d => decide (0 ≤ stk s.wo t.F t.V t.G r d)) j
def canTo (s : Ws) (t : Tt) (k : Nat) : Bool := allTo (fun r => dayB s t r s.wo.days) k
def cBt (s : Ws) (t : Tt) (k j : Nat) : Bool := canTo s t k && dayB s t k j
def canT (s : Ws) (t : Tt) : Bool := canTo s t s.rooms.length
theorem cBt_succ (s : Ws) (t : Tt) (k j : Nat) : cBt s t k (j + 1) = (cBt s t k j && decide (0 ≤ stk s.wo t.F t.V t.G k j)) := by
  unfold cBt dayB
  rw [allTo, Bool.and_assoc]
theorem cBt_all (s : Ws) (t : Tt) (k : Nat) : cBt s t k s.wo.days = canTo s t (k + 1) := rfl
theorem cBt_zero (s : Ws) (t : Tt) (k : Nat) : cBt s t k 0 = canTo s t k := by simp [cBt, dayB, allTo]
theorem canT_iff {s : Ws} {t : Tt} : canT s t = true ↔ ∀ r d, r < s.rooms.length → d < s.wo.days → 0 ≤ stk s.wo t.F t.V t.G r d := by
  unfold canT canTo dayB
  rw [allTo_iff]
  constructor
  · intro h r d hr hd
    exact of_decide_eq_true (allTo_iff.1 (h r hr) d hd)
  · intro h r hr
    exact allTo_iff.2 fun d hd => decide_eq_true (h r d hr hd)
theorem ints_info2 : (Try.prog.info? 28).map (fun i => (i.zero, i.size, i.bytes)) = some (some (.slice none 0 0), 1, 24) := by kernel_rfl
set_option maxRecDepth 100000 in
set_option maxHeartbeats 6400000 in
theorem stocks_any (s : Ws) (Ar Am Aw : Option Addr) (cr cm cw : Nat) (w : World) (hs : WsIn w w.heap.size s Ar Am Aw) (hw : WoOk s.wo) (hd : s.days = (s.wo.days : Int)) (t : Tt) (Af Av Ag : Option Addr) (cf cv cg : Nat) (rV : Nat → Option Addr) (rcV : Nat → Nat) (ht : TtIn w w.heap.size t Af Av Ag rV rcV) (hv : truT s t = true) :
    Calls Try.prog 94 #[.agg #[.slice Ar s.rooms.length cr, .int .i64 s.days, .slice Am s.moves.length cm, .slice Aw s.wgs.length cw], .agg #[.slice Af t.fs.length cf, .slice Av t.vs.length cv, .slice Ag t.gs.length cg]] w fun e w' => (∃ A c rA rc, e = .returned (.tuple #[.slice A s.rooms.length c, .bool (canT s t)]) ∧ MatIn w' w'.heap.size A s.rooms.length s.wo.days (stk s.wo t.F t.V t.G) rA rc) ∧ Below w.heap.size w w' := by
  obtain ⟨⟨hl1, hl2, hl3⟩, hrl, htf⟩ := (truT_iff hd).1 hv
  have HDs := Lib.hid hd
  clear hd hv
  obtain ⟨n1, hn1⟩ : ∃ n, t.fs.length = n := ⟨_, rfl⟩
  obtain ⟨n2, hn2⟩ : ∃ n, t.vs.length = n := ⟨_, rfl⟩
  obtain ⟨n3, hn3⟩ : ∃ n, t.gs.length = n := ⟨_, rfl⟩
  have hfs := ht.fs
  have hvs := ht.vs
  have hrow := ht.row
  have hgs := ht.gs
  rw [hn1] at hfs hl1 ⊢
  rw [hn2] at hvs hrow hl2 ⊢
  rw [hn3] at hgs hl3 ⊢
  have HL1 := Lib.hid hl1
  have HL2 := Lib.hid hl2
  have HL3 := Lib.hid hl3
  have HRL := Lib.hid hrl
  have HTF := Lib.hid htf
  clear hl1 hl2 hl3 hrl htf hn1 hn2 hn3 ht
  obtain ⟨D, hD⟩ : ∃ D, s.wo.days = D := ⟨_, rfl⟩
  have hD6 : 1 ≤ D ∧ D ≤ 6 := by have := hw.days; omega
  have hr3 : 0 < s.rooms.length ∧ s.rooms.length ≤ 3 := ⟨hw.len.1, hw.len.2.1⟩
  have HD := Lib.hid hD
  have HSD : Hid (s.days = (D : Int)) := Lib.hid (by rw [HDs.out, hD])
  clear hD
  obtain ⟨i1, hi1, hy0, hy1, hy2⟩ := info_parts ints_info2
  obtain ⟨i2, hi2, hz0, hz1, hz2⟩ := info_parts int_info
  have hb1 := ex_alloc (ex_alloc (Below.refl w.heap.size w) (.cells #[.slice Ar s.rooms.length cr, .int .i64 s.days, .slice Am s.moves.length cm, .slice Aw s.wgs.length cw] 42)) (.cells #[.slice Af n1 cf, .slice Av n2 cv, .slice Ag n3 cg] 112)
  have q0 : Blk ((w.alloc (.cells #[.slice Ar s.rooms.length cr, .int .i64 s.days, .slice Am s.moves.length cm, .slice Aw s.wgs.length cw] 42)).alloc (.cells #[.slice Af n1 cf, .slice Av n2 cv, .slice Ag n3 cg] 112)) w.heap.size 42 #[.slice Ar s.rooms.length cr, .int .i64 s.days, .slice Am s.moves.length cm, .slice Aw s.wgs.length cw] := (Blk.new _ _ _).alloc _
  have q1 : Blk ((w.alloc (.cells #[.slice Ar s.rooms.length cr, .int .i64 s.days, .slice Am s.moves.length cm, .slice Aw s.wgs.length cw] 42)).alloc (.cells #[.slice Af n1 cf, .slice Av n2 cv, .slice Ag n3 cg] 112)) (w.heap.size + 1) 112 #[.slice Af n1 cf, .slice Av n2 cv, .slice Ag n3 cg] := Blk.new' _ _ _ (by simp)
  go_enter Try.func94, Try.ntmps94
  go_upto_region 2 with fail
  show Code.wp _ _ _ _ ((w.alloc (.cells #[.slice Ar s.rooms.length cr, .int .i64 s.days, .slice Am s.moves.length cm, .slice Aw s.wgs.length cw] 42)).alloc (.cells #[.slice Af n1 cf, .slice Av n2 cv, .slice Ag n3 cg] 112))
  obtain ⟨p0, hp0⟩ : ∃ p, w.heap.size = p := ⟨_, rfl⟩
  rw [hp0] at q0 q1 ⊢
  have HP0 := Lib.hid hp0
  generalize (w.alloc (.cells #[.slice Ar s.rooms.length cr, .int .i64 s.days, .slice Am s.moves.length cm, .slice Aw s.wgs.length cw] 42)).alloc (.cells #[.slice Af n1 cf, .slice Av n2 cv, .slice Ag n3 cg] 112) = W1 at *
  clear hp0
  obtain ⟨B0, hB0⟩ : ∃ b, W1.heap.size = b := ⟨_, rfl⟩
  have hbs : p0 + 1 < B0 := by have := q1.lt; omega
  have hwb : w.heap.size ≤ B0 := by rw [HP0.out]; omega
  have a0 : W1.cell? ⟨p0, 0, none⟩ = some (.slice Ar s.rooms.length cr) := q0.cell 0
  have a1 : W1.cell? ⟨p0, 1, none⟩ = some (.int .i64 s.days) := q0.cell 1
  have a2 : W1.cell? ⟨p0, 2, none⟩ = some (.slice Am s.moves.length cm) := q0.cell 2
  have a3 : W1.cell? ⟨p0, 3, none⟩ = some (.slice Aw s.wgs.length cw) := q0.cell 3
  have l0 := q0.lt
  go_wp2_with fail
  refine wp_loop (fun a W => Rel (fun a W => ∃ k : Nat, k ≤ s.rooms.length ∧ (Below w.heap.size w W ∧ B0 ≤ W.heap.size ∧ Blk W p0 42 #[.slice Ar s.rooms.length cr, .int .i64 s.days, .slice Am s.moves.length cm, .slice Aw s.wgs.length cw] ∧ Blk W (p0 + 1) 112 #[.slice Af n1 cf, .slice Av n2 cv, .slice Ag n3 cg]) ∧ ∃ vo X, IOwn W B0 vo X ∧ Hid (X.map (fun x => x.2.2) = (List.range k).map fun r => (List.range D).map (stk s.wo t.F t.V t.G r)) ∧ ∃ u : Nat → Value, a = ⟨List.toArray (u 0 :: u 1 :: .pointer (some ⟨p0, 0, none⟩) :: .pointer (some ⟨p0 + 1, 0, none⟩) :: vo :: .bool (canTo s t k) :: u 6 :: u 7 :: u 8 :: u 9 :: u 10 :: u 11 :: .int .i64 (s.rooms.length : Int) :: .int .i64 (k : Int) :: u 14 :: u 15 :: u 16 :: u 17 :: u 18 :: u 19 :: u 20 :: u 21 :: u 22 :: u 23 :: u 24 :: u 25 :: u 26 :: u 27 :: u 28 :: u 29 :: u 30 :: u 31 :: u 32 :: u 33 :: u 34 :: u 35 :: u 36 :: u 37 :: u 38 :: u 39 :: u 40 :: u 41 :: u 42 :: u 43 :: u 44 :: u 45 :: u 46 :: u 47 :: u 48 :: u 49 :: u 50 :: u 51 :: u 52 :: u 53 :: u 54 :: u 55 :: u 56 :: u 57 :: u 58 :: u 59 :: []), []⟩) a W) (fun a _ => s.rooms.length - (intOf (a.tmps.getD 13 undef)).toNat) ⟨⟨0, by omega, ⟨hb1, by omega, q0, q1⟩, _, [], NOwn.nil, Lib.hid rfl, exFrame (by kernel_rfl)⟩⟩ ?_
  clear a0 a1 a2 a3 l0 q0 q1 hb1 hB0 W1
  rintro a Wk ⟨⟨k, hk, ⟨B1, hz1', q0, q1⟩, vo, X, hO, HX, u, rfl⟩⟩
  have a0 : Wk.cell? ⟨p0, 0, none⟩ = some (.slice Ar s.rooms.length cr) := q0.cell 0
  have a1 : Wk.cell? ⟨p0, 1, none⟩ = some (.int .i64 s.days) := q0.cell 1
  have a2 : Wk.cell? ⟨p0, 2, none⟩ = some (.slice Am s.moves.length cm) := q0.cell 2
  have a3 : Wk.cell? ⟨p0, 3, none⟩ = some (.slice Aw s.wgs.length cw) := q0.cell 3
  have l0 := q0.lt
  have b0 : Wk.cell? ⟨p0 + 1, 0, none⟩ = some (.slice Af n1 cf) := q1.cell 0
  have b1 : Wk.cell? ⟨p0 + 1, 1, none⟩ = some (.slice Av n2 cv) := q1.cell 1
  have b2 : Wk.cell? ⟨p0 + 1, 2, none⟩ = some (.slice Ag n3 cg) := q1.cell 2
  have l1 := q1.lt
  by_cases hlt : k < s.rooms.length
  · obtain ⟨bf, of, rfl, hbf, y0⟩ := IsInts.at_ (hfs.below B1) (show k < n1 by rw [HL1.out]; exact hlt)
    have hbfW : bf < Wk.heap.size := by have := B1.size; omega
    have hk1 : (k : Int) < (n1 : Int) := by rw [HL1.out]; omega
    have e7 : Hid (gI t.fs k = stk0 s.wo t.F t.V t.G k 0) := Lib.hid rfl
    have ec : Hid (canTo s t k = cBt s t k 0) := Lib.hid (cBt_zero s t k).symm
    go_wp2_with fail
    rw [HSD.out, e7.out, ec.out]
    obtain ⟨Bk, hBk⟩ : ∃ b, Wk.heap.size = b := ⟨_, rfl⟩
    have HBK := Lib.hid hBk
    rw [hBk] at hz1' hbfW
    clear hBk
    refine wp_loop (fun a W => Rel (fun a W => ∃ j : Nat, j ≤ D ∧ Below Wk.heap.size Wk W ∧ (∃ vl l, W.ownsRow Bk 3 1 vl l.length (l.flatMap cI1) ∧ Hid (l = (List.range j).map (stk s.wo t.F t.V t.G k)) ∧ ∃ u : Nat → Value, a = ⟨List.toArray (u 0 :: u 1 :: .pointer (some ⟨p0, 0, none⟩) :: .pointer (some ⟨p0 + 1, 0, none⟩) :: vo :: .bool (cBt s t k j) :: .int .i64 (k : Int) :: .int .i64 (stk0 s.wo t.F t.V t.G k j) :: vl :: u 9 :: u 10 :: u 11 :: .int .i64 (s.rooms.length : Int) :: .int .i64 (k : Int) :: u 14 :: u 15 :: u 16 :: u 17 :: u 18 :: u 19 :: u 20 :: u 21 :: .int .i64 (D : Int) :: .int .i64 (j : Int) :: u 24 :: u 25 :: u 26 :: u 27 :: u 28 :: u 29 :: u 30 :: u 31 :: u 32 :: u 33 :: u 34 :: u 35 :: u 36 :: u 37 :: u 38 :: u 39 :: u 40 :: u 41 :: u 42 :: u 43 :: u 44 :: u 45 :: u 46 :: u 47 :: u 48 :: u 49 :: u 50 :: u 51 :: u 52 :: u 53 :: u 54 :: u 55 :: u 56 :: u 57 :: u 58 :: u 59 :: []), []⟩)) a W) (fun a _ => D - (intOf (a.tmps.getD 23 undef)).toNat) ⟨⟨0, by omega, Below.refl _ _, _, [], ⟨rfl, .inl ⟨rfl, rfl⟩⟩, Lib.hid rfl, exFrame (by kernel_rfl)⟩⟩ ?_
    clear a0 a1 a2 a3 l0 b0 b1 b2 l1 y0
    rintro a W ⟨⟨j, hj, hfk, vl, l, ho, HL, u2, rfl⟩⟩
    have q0' := q0.below hfk q0.lt
    have q1' := q1.below hfk q1.lt
    have BW := ex_trans B1 hfk
    have hzW := hfk.size
    rw [HBK.out] at hzW
    have HLL : Hid (l.length = j) := Lib.hid (by rw [HL.out]; simp)
    rw [HLL.out] at ho
    have a0 : W.cell? ⟨p0, 0, none⟩ = some (.slice Ar s.rooms.length cr) := q0'.cell 0
    have a1 : W.cell? ⟨p0, 1, none⟩ = some (.int .i64 s.days) := q0'.cell 1
    have a2 : W.cell? ⟨p0, 2, none⟩ = some (.slice Am s.moves.length cm) := q0'.cell 2
    have a3 : W.cell? ⟨p0, 3, none⟩ = some (.slice Aw s.wgs.length cw) := q0'.cell 3
    have l0 := q0'.lt
    have b0 : W.cell? ⟨p0 + 1, 0, none⟩ = some (.slice (some ⟨bf, of, none⟩) n1 cf) := q1'.cell 0
    have b1 : W.cell? ⟨p0 + 1, 1, none⟩ = some (.slice Av n2 cv) := q1'.cell 1
    have b2 : W.cell? ⟨p0 + 1, 2, none⟩ = some (.slice Ag n3 cg) := q1'.cell 2
    have l1 := q1'.lt
    by_cases hlj : j < D
    · obtain ⟨bv, ov, rfl, hbv, z0⟩ := (hvs.below BW) (show 0 < n2 by rw [HL2.out]; omega)
      have z1 : W.cell? ⟨bv, ov + k, none⟩ = some (.slice (rV k) (gL t.vs k).length (rcV k)) := by have := z0 k 0 (by rw [HL2.out]; exact hlt) (by omega); rw [show ov + (k * 1 + 0) = ov + k by omega] at this; exact this
      rw [HRL.out k hlt, HD.out] at z1
      have hro := (hrow k (by rw [HL2.out]; exact hlt)).below BW
      rw [HRL.out k hlt, HD.out] at hro
      obtain ⟨bl, ol, hrv, hbl, v0⟩ := IsInts.at_ hro hlj
      rw [hrv] at z1
      have hbvW : bv < W.heap.size := by have := BW.size; omega
      have hblW : bl < W.heap.size := by have := BW.size; omega
      have hk2 : (k : Int) < (n2 : Int) := by rw [HL2.out]; omega
      clear z0 hro hrv
      obtain ⟨rc, hrc⟩ : ∃ x, rcV k = x := ⟨_, rfl⟩
      rw [hrc] at z1
      clear hrc
      have hsd := stk_day s.wo t.F t.V t.G k j
      have hb0 := stk0_bd hw HTF.out (r := k) hlt j (by rw [HD.out]; exact hj)
      have hb2 := stk0_bd hw HTF.out (r := k) hlt (j + 1) (by rw [HD.out]; omega)
      have hcb := comes_bd s.wo (G := t.G) k j s.moves.length (fun i hi => by have a := HTF.out.mov i hi; have b := hw.grams i hi; unfold inR at a; omega)
      have hm12 := hw.len.2.2.1
      have hm0 : s.wo.moves.length = s.moves.length := rfl
      have hvb := HTF.out.vap k j hlt (by rw [HD.out]; exact hlj)
      have hrb := hw.rooms k hlt
      unfold inR at hvb
      have hvq : t.V k j = gI (gL t.vs k) j := rfl
      rw [hvq] at hvb hsd
      rw [hm0] at hsd hm12
      have hb2' : stk0 s.wo t.F t.V t.G k (j + 1) = stk s.wo t.F t.V t.G k j := rfl
      rw [hb2'] at hb2
      obtain ⟨S0, hS0⟩ : ∃ x, stk0 s.wo t.F t.V t.G k j = x := ⟨_, rfl⟩
      obtain ⟨S1, hS1⟩ : ∃ x, stk s.wo t.F t.V t.G k j = x := ⟨_, rfl⟩
      obtain ⟨cc, hcc⟩ : ∃ x, comes s.wo t.G k j s.moves.length = x := ⟨_, rfl⟩
      obtain ⟨vv, hvv⟩ : ∃ x, gI (gL t.vs k) j = x := ⟨_, rfl⟩
      rw [hS0] at hsd hb0 ⊢
      rw [hS1] at hsd hb2
      rw [hcc] at hsd hcb
      rw [hvv] at hsd hvb v0
      have hvb2 : 0 ≤ vv ∧ vv ≤ 50 := by have a1 := hvb.1; have a2 := hvb.2; have b1 : s.wo.rooms = s.rooms := rfl; rw [b1] at hrb; rw [b1] at a1 a2; omega
      have hcb2 : -24000 ≤ cc ∧ cc ≤ 24000 := by omega
      have hjj : (j : Int) ≤ 6 := by omega
      have hS0b : -200000 ≤ S0 ∧ S0 ≤ 200000 := by omega
      have HSD2 := Lib.hid hsd
      have HS1 := Lib.hid hS1
      have HCC := Lib.hid hcc
      clear hvb hcb hsd hb2' hvq hb0 hb2 hrb hm0 hm12 hvv hS0 hS1 hcc
      go_upto_region 10 with fail
      have D0 := (Below.refl W.heap.size W).drew
      refine wp_region_ext_mix 17 [(false, 0), (false, 1), (false, 2), (false, 3), (false, 4), (false, 5), (false, 7), (false, 8), (false, 9), (false, 10), (false, 11), (false, 12), (false, 13), (false, 14), (true, 6), (false, 15), (false, 16)] (by kernel_rfl) (by kernel_rfl) (by intro d _ _ _ _ h; cases d <;> exact h) ?_
      repeat (refine mix_quiet rfl ?_; go_big_quiet_step (fail); refine wpQuiet_nil ?_)
      refine mix_loud rfl ?_
      go_wp2_with fail
      have hcm := comes_any s Ar Am Aw cr cm cw W.drew ((hs.below (ex_trans BW D0)).up (ex_trans BW D0).size) hw t.gs Ag n3 cg ((hgs.below (ex_trans BW D0)).up (ex_trans BW D0).size) (by rw [HL3.out]; exact Nat.le_refl _) (fun i hi => by have a := HTF.out.mov i hi; have b := hw.grams i hi; unfold inR at a; have e : t.G i = gI t.gs i := rfl; rw [← e]; omega) (k : Int) (j : Int)
      refine hcm.mono ?_
      clear hcm
      rintro e Z1 ⟨rfl, hz1⟩
      rw [show comes s.wo (gI t.gs) k j s.moves.length = cc from HCC.out]
      have E1 := ex_trans D0 hz1
      go_wp2_with fail
      refine ⟨inEx E1, ?_⟩
      repeat (refine mix_quiet rfl ?_; go_big_quiet_step (fail); refine wpQuiet_nil ?_)
      refine mix_nil (r := [_]) rfl ?_
      have ho1 := own_below ho E1
      have hfk1 := ex_trans hfk E1
      clear D0 hz1 a0 a1 a2 a3 l0 b0 b1 b2 l1 z1 v0 q0' q1'
      have hS1e : S0 + (cc - vv) = S1 := HSD2.out.symm
      have hS1b : -300000 ≤ S1 ∧ S1 ≤ 300000 := by omega
      go_upto_region 11 with fail
      rw [hS1e]
      have HSE := Lib.hid hS1e
      clear hS1e
      have XI := ex_alloc (Below.refl Z1.heap.size Z1) (.cells #[.int .i64 S1] 3)
      have ho2 := own_below ho1 XI
      have c63 : j + 1 ≤ maxLen := by unfold maxLen; omega
      have cby : (j + 1) * 8 ≤ 140737488355328 := by omega
      have hbase : Bk ≤ (Z1.alloc (.cells #[.int .i64 S1] 3)).heap.size := by have := XI.size; have := E1.size; omega
      go_wp2_with (refine pause_at 46 rfl ?_)
      refine Paused.mk ?_
      refine wpList_append_lies _ rfl _ _ _ rfl Bk 3 i2 _ 1 8 Try.underlying28 hi2 hz0 hz1 hz2 rfl (by omega) vl _ _ rfl ho2 ⟨Z1.heap.size, 0, none⟩ 1 1 [.int .i64 S1] rfl rfl (World.news_of_block (heap_alloc_new Z1 _)) (by simp [Value.oneCell']) (by omega) c63 cby hbase (Z1.heap.size + 1) (by simp) ?_
      intro gg cap w1 hown' hgrow hat hlt'
      have hfw : Below Wk.heap.size Wk w1 := (ex_trans hfk1 XI).grown hgrow (ex_trans hfk1 XI).size (fun b hb => by have := own_ge ho2 hb; have := HBK.out; omega)
      have HOW := Lib.hid (own_push (f := cI1) (x := S1) (by rw [HLL.out]) hown')
      have HL2' : Hid (l ++ [S1] = (List.range (j + 1)).map (stk s.wo t.F t.V t.G k)) := Lib.hid (by rw [HL.out, List.range_succ, List.map_append, List.map_singleton, HS1.out])
      have HCS : Hid (cBt s t k (j + 1) = (cBt s t k j && decide (0 ≤ S1))) := Lib.hid (by rw [cBt_succ, HS1.out])
      have HSK : Hid (stk0 s.wo t.F t.V t.G k (j + 1) = S1) := Lib.hid HS1.out
      clear hown' hgrow hat hlt'
      cases hcb : cBt s t k j
      · have HCB := Lib.hid hcb
        clear hcb
        go_wp2_with fail
        refine ⟨⟨⟨j + 1, by omega, hfw, _, _, HOW.out, HL2', exFrame (by rw [HSK.out, HCS.out, HCB.out]; kernel_rfl)⟩⟩, ?_⟩
        show D - (intOf (.int .i64 ((j : Int) + 1))).toNat < D - (intOf (.int .i64 (j : Int))).toNat
        simp [intOf]
        omega
      · by_cases hS : 0 ≤ S1
        · have HCB := Lib.hid hcb
          clear hcb
          go_wp2_with fail
          refine ⟨⟨⟨j + 1, by omega, hfw, _, _, HOW.out, HL2', exFrame (by rw [HSK.out, HCS.out, HCB.out]; rw [decide_eq_true hS]; kernel_rfl)⟩⟩, ?_⟩
          show D - (intOf (.int .i64 ((j : Int) + 1))).toNat < D - (intOf (.int .i64 (j : Int))).toNat
          simp [intOf]
          omega
        · have HCB := Lib.hid hcb
          clear hcb
          go_wp2_with fail
          refine ⟨⟨⟨j + 1, by omega, hfw, _, _, HOW.out, HL2', exFrame (by rw [HSK.out, HCS.out, HCB.out]; rw [decide_eq_false (show ¬ (0 ≤ S1) by omega)]; kernel_rfl)⟩⟩, ?_⟩
          show D - (intOf (.int .i64 ((j : Int) + 1))).toNat < D - (intOf (.int .i64 (j : Int))).toNat
          simp [intOf]
          omega
    · obtain rfl : j = D := by omega
      have hO' := hO.below hfk
      have HXl : Hid (X.length = k) := Lib.hid (by have := congrArg List.length HX.out; simpa using this)
      rw [← HLL.out] at ho
      obtain ⟨A5, c5, rfl, _, _, hr5⟩ := lay_ints ho
      rw [HLL.out]
      have HCA : Hid (cBt s t k j = canTo s t (k + 1)) := Lib.hid (by rw [← HD.out]; exact cBt_all s t k)
      rw [HCA.out]
      have XL := ex_alloc (Below.refl W.heap.size W) (.cells #[.slice A5 j c5] 28)
      have y4 := own_below hO'.own XL
      have c63 : X.length + 1 ≤ maxLen := by rw [HXl.out]; unfold maxLen; omega
      have cby : (X.length + 1) * 24 ≤ 140737488355328 := by rw [HXl.out]; omega
      have hbase : B0 ≤ (W.alloc (.cells #[.slice A5 j c5] 28)).heap.size := by have := XL.size; omega
      clear a0 a1 a2 a3 l0 b0 b1 b2 l1
      go_wp2_with (refine pause_at 56 rfl ?_)
      refine Paused.mk ?_
      refine wpList_append_lies _ rfl _ _ _ rfl B0 28 i1 _ 1 24 Try.underlying29 hi1 hy0 hy1 hy2 rfl (by omega) vo _ _ rfl y4 ⟨W.heap.size, 0, none⟩ 1 1 [.slice A5 j c5] rfl rfl (World.news_of_block (heap_alloc_new W _)) (by simp [Value.oneCell']) (by omega) c63 cby hbase (W.heap.size + 1) (by simp) ?_
      intro gg cap w1 hown' hgrow hat hlt'
      have hgf := Fr.grown (R := fun b => B0 ≤ b) hgrow (fun b hb => .inl (own_ge y4 hb))
      have Bw : Below w.heap.size w w1 := (ex_trans BW XL).grown hgrow (ex_trans BW XL).size (fun b hb => by have := own_ge y4 hb; omega)
      have hN3 : IOwn w1 B0 (.slice (some ⟨gg, 0, none⟩) (X.length + 1) cap) (X ++ [((A5, c5, l) : IRow)]) := NOwn.push (hO'.below XL) hgrow (by decide) rfl (own_push (f := cIR) (x := ((A5, c5, l) : IRow)) rfl (by rw [show cIR ((A5, c5, l) : IRow) = [.slice A5 j c5] by unfold cIR; dsimp only; rw [HLL.out]]; exact hown')) (fun y hy => by
        obtain rfl := List.mem_singleton.1 hy
        exact (hr5.below XL).base (by omega))
      have HX2 : Hid ((X ++ [((A5, c5, l) : IRow)]).map (fun x => x.2.2) = (List.range (k + 1)).map fun r => (List.range j).map (stk s.wo t.F t.V t.G r)) := Lib.hid (by rw [List.map_append, HX.out, List.range_succ, List.map_append, List.map_singleton, List.map_singleton, HL.out])
      have q0w := (q0'.below XL q0'.lt).fr hgf (by omega)
      have q1w := (q1'.below XL q1'.lt).fr hgf (by omega)
      have hzw : B0 ≤ w1.heap.size := by have := hgrow.size; omega
      clear hown' hgrow hat hlt' hgf hr5 ho
      generalize X ++ [((A5, c5, l) : IRow)] = X2 at *
      go_wp2_with fail
      refine ⟨⟨⟨k + 1, by omega, ⟨Bw, hzw, q0w, q1w⟩, _, X2, hN3, HX2, exFrame (by kernel_rfl)⟩⟩, ?_⟩
      show s.rooms.length - (intOf (.int .i64 ((k : Int) + 1))).toNat < s.rooms.length - (intOf (.int .i64 (k : Int))).toNat
      simp [intOf]
      omega
  · obtain ⟨A, c, rA, rc, rfl, hR⟩ := hO.lays (n := k) HX.out
    obtain rfl : k = s.rooms.length := by omega
    go_wp2
    go_ret2
    exact ⟨⟨A, c, rA, rc, rfl, by rw [HD.out]; exact hR⟩, B1⟩
end Go.Proofs.Ythihdiilokdidaa
end

section
namespace Go.Proofs.Ythihdiilokdidaa
open Go.RowKit
attribute [local go_sem] Ex.cell? Ex.frozen?

def playE (s : Ws) (t : Tt) : Int := if ckWs s = 0 then (if truT s t = true then 0 else 2) else ckWs s
def playB (s : Ws) (t : Tt) : Bool := decide (playE s t = 0) && canT s t
structure PlyV (s : Ws) (t : Tt) (w' : World) (n : Nat) (A : Option Addr) (c : Nat) (rA : Nat → Option Addr) (rc : Nat → Nat) : Prop where
 yes : playE s t = 0 → n = s.rooms.length ∧ MatIn w' w'.heap.size A n s.wo.days (stk s.wo t.F t.V t.G) rA rc
 no : playE s t ≠ 0 → n = 0 ∧ A = none ∧ c = 0
def agrB (L : Nat → Nat → Int) (x : Wg) : Bool := inB (L x.room.toNat x.day.toNat) x.g.lo x.g.hi
def proveT (s : Ws) (t : Tt) : Bool := playB s t && allTo (fun k => agrB (stk s.wo t.F t.V t.G) (gWg s.wgs k)) s.wgs.length
theorem MatIn.at_ {w : World} {B : Nat} {A : Option Addr} {n D : Nat} {L : Nat → Nat → Int} {rA : Nat → Option Addr} {rc : Nat → Nat} (h : MatIn w B A n D L rA rc) {r d : Nat} (hr : r < n) (hd : d < D) : ∃ b o b2 o2, A = some ⟨b, o, none⟩ ∧ b < B ∧ w.cell? ⟨b, o + r, none⟩ = some (.slice (some ⟨b2, o2, none⟩) D (rc r)) ∧ b2 < B ∧ w.cell? ⟨b2, o2 + d, none⟩ = some (.int .i64 (L r d)) := by
 obtain ⟨b, o, e, hb, hc⟩ := h.out (by omega)
 obtain ⟨b2, o2, e2, hb2, hc2⟩ := h.row r hr (by omega)
 refine ⟨b, o, b2, o2, e, hb, ?_, hb2, ?_⟩
 ·
  have := hc r 0 hr (by omega)
  rw [show o + (r * 1 + 0) = o + r by omega] at this
  rw [this]; show some (Value.slice (rA r) D (rc r)) = _; rw [e2]
 ·
  have := hc2 d 0 hd (by omega)
  rw [show o2 + (d * 1 + 0) = o2 + d by omega] at this
  exact this
set_option maxRecDepth 100000 in
set_option maxHeartbeats 3200000 in
theorem agr_any (pq : Nat) (A : Option Addr) (cA R D : Nat) (L : Nat → Nat → Int) (rA : Nat → Option Addr) (rc : Nat → Nat) (x : Wg) (hx : 0 ≤ x.room ∧ x.room < (R : Int) ∧ 0 ≤ x.day ∧ x.day < (D : Int)) (w : World) (hq : Blk w pq 29 #[.slice A R cA]) (hM : MatIn w w.heap.size A R D L rA rc) :
  Calls Try.prog 95 #[.agg #[.int .i64 x.room, .int .i64 x.day, .int .i64 x.g.lo, .int .i64 x.g.hi], .pointer (some ⟨pq, 0, none⟩)] w fun e w' => e = .returned (.bool (agrB L x)) ∧ Below w.heap.size w w' := by
 obtain ⟨rm, dy, ⟨glo, ghi⟩⟩ := x
 dsimp only at hx ⊢
 obtain ⟨r, rfl⟩ : ∃ r : Nat, rm = (r : Int) := ⟨rm.toNat, by omega⟩
 obtain ⟨d, rfl⟩ : ∃ r : Nat, dy = (r : Int) := ⟨dy.toNat, by omega⟩
 have hr : r < R := by omega
 have hd : d < D := by omega
 obtain ⟨b, o, b2, o2, rfl, hb, x1, hb2, x2⟩ := hM.at_ hr hd
 have hb1 := ex_alloc (Below.refl w.heap.size w) (.cells #[.int .i64 (r : Int), .int .i64 (d : Int), .int .i64 glo, .int .i64 ghi] 128)
 have q2 : Blk (w.alloc (.cells #[.int .i64 (r : Int), .int .i64 (d : Int), .int .i64 glo, .int .i64 ghi] 128)) w.heap.size 128 #[.int .i64 (r : Int), .int .i64 (d : Int), .int .i64 glo, .int .i64 ghi] := Blk.new _ _ _
 have q1 := hq.below hb1 hq.lt
 have y1 : (w.alloc (.cells #[.int .i64 (r : Int), .int .i64 (d : Int), .int .i64 glo, .int .i64 ghi] 128)).cell? ⟨b, o + r, none⟩ = _ := (hb1.cell (p := ⟨b, o + r, none⟩) hb).trans x1
 have y2 : (w.alloc (.cells #[.int .i64 (r : Int), .int .i64 (d : Int), .int .i64 glo, .int .i64 ghi] 128)).cell? ⟨b2, o2 + d, none⟩ = _ := (hb1.cell (p := ⟨b2, o2 + d, none⟩) hb2).trans x2
 have hbY : b < (w.alloc (.cells #[.int .i64 (r : Int), .int .i64 (d : Int), .int .i64 glo, .int .i64 ghi] 128)).heap.size := by have := hb1.size; omega
 have hb2Y : b2 < (w.alloc (.cells #[.int .i64 (r : Int), .int .i64 (d : Int), .int .i64 glo, .int .i64 ghi] 128)).heap.size := by have := hb1.size; omega
 go_enter Try.func95, Try.ntmps95
 go_upto_region 1 with fail
 obtain ⟨p2, hp2⟩ : ∃ p, w.heap.size = p := ⟨_, rfl⟩
 rw [hp2] at q2 ⊢
 generalize w.alloc (.cells #[.int .i64 (r : Int), .int .i64 (d : Int), .int .i64 glo, .int .i64 ghi] 128) = Y at *
 clear x1 x2 hp2
 have z0 : Y.cell? ⟨p2, 0, none⟩ = some (.int .i64 (r : Int)) := q2.cell 0
 have z1 : Y.cell? ⟨p2, 1, none⟩ = some (.int .i64 (d : Int)) := q2.cell 1
 have z2 : Y.cell? ⟨p2, 2, none⟩ = some (.int .i64 glo) := q2.cell 2
 have z3 : Y.cell? ⟨p2, 3, none⟩ = some (.int .i64 ghi) := q2.cell 3
 have l2 := q2.lt
 have l1 := q1.lt
 have c1 : Y.cell? ⟨pq, 0, none⟩ = some (.slice (some ⟨b, o, none⟩) R cA) := q1.cell 0
 have hrR : (r : Int) < (R : Int) := by omega
 have hdD : (d : Int) < (D : Int) := by omega
 have D0 := (Below.refl Y.heap.size Y).drew
 refine wp_region_ext_mix 12 [(false, 0), (false, 1), (false, 2), (false, 3), (false, 4), (false, 5), (false, 6), (false, 7), (false, 8), (false, 9), (false, 10), (true, 11)] (by kernel_rfl) (by kernel_rfl) (by intro d _ _ _ _ h; cases d <;> exact h) ?_
 repeat (refine mix_quiet rfl ?_; go_big_quiet_step (fail); refine wpQuiet_nil ?_)
 refine mix_loud rfl ?_
 go_wp2_with fail
 refine (has_any glo ghi (L r d) Y.drew).mono ?_
 rintro e Z ⟨rfl, hz⟩
 have E := ex_trans D0 hz
 go_wp2_with fail
 refine ⟨inEx E, ?_⟩
 repeat (refine mix_quiet rfl ?_; go_big_quiet_step (fail); refine wpQuiet_nil ?_)
 refine mix_nil (r := [_]) rfl ?_
 go_wp2
 go_ret
 exact ⟨rfl, ex_trans hb1 E⟩

set_option maxHeartbeats 1600000 in
theorem all1_agr (pq : Nat) (Am : Option Addr) (cA R D : Nat) (L : Nat → Nat → Int) (rA : Nat → Option Addr) (rc : Nat → Nat) (n : Nat) (l : List Wg) (hin : ∀ k, k < n → 0 ≤ (gWg l k).room ∧ (gWg l k).room < (R : Int) ∧ 0 ≤ (gWg l k).day ∧ (gWg l k).day < (D : Int)) (w : World) (hq : Blk w pq 29 #[.slice Am R cA]) (hM : MatIn w w.heap.size Am R D L rA rc) (k pb : Nat) (hk : k < n) (hp : pb < w.heap.size) (hc : w.cell? ⟨pb, 0, none⟩ = some (.func (.func 95) #[] #[.pointer (some ⟨pq, 0, none⟩)])) :
  Calls Try.prog 119 #[.agg #[.int .i64 (gWg l k).room, .int .i64 (gWg l k).day, .int .i64 (gWg l k).g.lo, .int .i64 (gWg l k).g.hi], .pointer (some ⟨pb, 0, none⟩)] w fun e w' => e = .returned (.bool (!(agrB L (gWg l k)))) ∧ Below w.heap.size w w' := by
 go_enter Try.func119, Try.ntmps119
 go_wp2_with fail
 have X9 := ex_alloc (Below.refl w.heap.size w) (.cells #[.int .i64 (gWg l k).room, .int .i64 (gWg l k).day, .int .i64 (gWg l k).g.lo, .int .i64 (gWg l k).g.hi] 128)
 refine (agr_any pq Am cA R D L rA rc (gWg l k) (hin k hk) _ (hq.below X9 hq.lt) (hM.go X9)).mono ?_
 rintro e w2 ⟨rfl, hb2⟩
 go_wp2
 go_ret
 exact ⟨rfl, ex_trans X9 hb2⟩

set_option maxHeartbeats 1600000 in
theorem index_agr (pq : Nat) (Am : Option Addr) (cA R D : Nat) (L : Nat → Nat → Int) (rA : Nat → Option Addr) (rc : Nat → Nat) (n : Nat) (l : List Wg) (hin : ∀ k, k < n → 0 ≤ (gWg l k).room ∧ (gWg l k).room < (R : Int) ∧ 0 ≤ (gWg l k).day ∧ (gWg l k).day < (D : Int)) (A : Option Addr) (c : Nat) (w : World) (hq : Blk w pq 29 #[.slice Am R cA]) (hM : MatIn w w.heap.size Am R D L rA rc) (hA : SlAt w w.heap.size 4 A n (fWg l)) (hl : n ≤ 1000000) (pb : Nat) (hp : pb < w.heap.size) (hc : w.cell? ⟨pb, 0, none⟩ = some (.func (.func 95) #[] #[.pointer (some ⟨pq, 0, none⟩)])) :
  Calls Try.prog 131 #[.slice A n c, .func (.func 119) #[] #[.pointer (some ⟨pb, 0, none⟩)]] w fun e w' => e = .returned (.int .i64 (firstOf (fun k => !(agrB L (gWg l k))) n)) ∧ Below w.heap.size w w' := by
 go_enter Try.func131, Try.ntmps131
 go_wp2
 go_loopw [8] (fun i wr => ∃ k : Nat, k ≤ n ∧ i = .int .i64 k ∧ (∀ k', k' < k → (agrB L (gWg l k')) = true) ∧ Below w.heap.size w wr)
  (fun i _ => n - (intOf i).toNat)
 case atStart => exact ⟨0, by omega, rfl, fun j hj => by omega, Below.refl _ _⟩
 case round =>
  obtain ⟨k, hk, rfl, hok, hbl⟩ := hrel
  by_cases hlt : k < n
  ·
   have hAW := (hA.below hbl).up hbl.size
   obtain ⟨bi, oi, rfl, hbi, g0, g1, g2, g3⟩ := IsWgs.at_ hAW hlt
   have hcr : wr.cell? ⟨pb, 0, none⟩ = some (.func (.func 95) #[] #[.pointer (some ⟨pq, 0, none⟩)]) := (hbl.cell (p := ⟨pb, 0, none⟩) hp).trans hc
   have hpr : pb < wr.heap.size := by have := hbl.size; omega
   have HOK := Lib.hid hok
   clear hok
   cases ht : (agrB L (gWg l k))
   ·
    have HT := Lib.hid ht
    have HF : Hid (firstOf (fun k => !(agrB L (gWg l k))) n = (k : Int)) := Lib.hid (firstOf_at hlt (fun j hj => by have := HOK.out j hj; simp only [this]; rfl) (by simp only [ht]; rfl))
    clear ht
    go_wp2_with fail
    refine (all1_agr pq Am cA R D L rA rc n l hin wr (hq.below hbl hq.lt) (hM.go hbl) k pb hlt hpr hcr).mono ?_
    rintro e w2 ⟨rfl, hb2⟩
    rw [HT.out]
    go_wp2
    go_ret
    exact ⟨ret_int HF.out.symm, ex_trans hbl hb2⟩
   ·
    have HT := Lib.hid ht
    clear ht
    go_wp2_with fail
    refine (all1_agr pq Am cA R D L rA rc n l hin wr (hq.below hbl hq.lt) (hM.go hbl) k pb hlt hpr hcr).mono ?_
    rintro e w2 ⟨rfl, hb2⟩
    rw [HT.out]
    go_wp2
    go_roundw
    case rel => exact ⟨k + 1, by omega, by go_num, fun j hj => by rcases Nat.lt_succ_iff_lt_or_eq.1 hj with h | h; exact HOK.out j h; exact h ▸ HT.out, ex_trans hbl hb2⟩
    case measure => simp [intOf]; omega
  ·
   obtain rfl : k = n := by omega
   have HF : Hid (firstOf (fun k => !(agrB L (gWg l k))) k = -1) := Lib.hid (firstOf_neg fun j hj => by have := hok j hj; simp only [this]; rfl)
   go_wp2
   go_ret
   exact ⟨ret_int HF.out.symm, hbl⟩

theorem contains_agr (pq : Nat) (Am : Option Addr) (cA R D : Nat) (L : Nat → Nat → Int) (rA : Nat → Option Addr) (rc : Nat → Nat) (n : Nat) (l : List Wg) (hin : ∀ k, k < n → 0 ≤ (gWg l k).room ∧ (gWg l k).room < (R : Int) ∧ 0 ≤ (gWg l k).day ∧ (gWg l k).day < (D : Int)) (A : Option Addr) (c : Nat) (w : World) (hq : Blk w pq 29 #[.slice Am R cA]) (hM : MatIn w w.heap.size Am R D L rA rc) (hA : SlAt w w.heap.size 4 A n (fWg l)) (hl : n ≤ 1000000) (pb : Nat) (hp : pb < w.heap.size) (hc : w.cell? ⟨pb, 0, none⟩ = some (.func (.func 95) #[] #[.pointer (some ⟨pq, 0, none⟩)])) :
  Calls Try.prog 118 #[.slice A n c, .func (.func 119) #[] #[.pointer (some ⟨pb, 0, none⟩)]] w fun e w' => e = .returned (.bool (!allTo (fun k => (agrB L (gWg l k))) n)) ∧ Below w.heap.size w w' := by
 have HF : Hid (decide (0 ≤ firstOf (fun k => !(agrB L (gWg l k))) n) = !allTo (fun k => (agrB L (gWg l k))) n) := Lib.hid (by rw [firstOf_nonneg]; simp)
 go_enter Try.func118, Try.ntmps118
 go_wp2_with fail
 refine (index_agr pq Am cA R D L rA rc n l hin A c w hq hM hA hl pb hp hc).mono ?_
 rintro e w2 ⟨rfl, hb2⟩
 go_wp2
 go_ret
 exact ⟨ret_bool HF.out, hb2⟩

theorem all_agr (pq : Nat) (Am : Option Addr) (cA R D : Nat) (L : Nat → Nat → Int) (rA : Nat → Option Addr) (rc : Nat → Nat) (n : Nat) (l : List Wg) (hin : ∀ k, k < n → 0 ≤ (gWg l k).room ∧ (gWg l k).room < (R : Int) ∧ 0 ≤ (gWg l k).day ∧ (gWg l k).day < (D : Int)) (A : Option Addr) (c : Nat) (w : World) (hq : Blk w pq 29 #[.slice Am R cA]) (hM : MatIn w w.heap.size Am R D L rA rc) (hA : SlAt w w.heap.size 4 A n (fWg l)) (hl : n ≤ 1000000) :
  Calls Try.prog 91 #[.slice A n c, .func (.func 95) #[] #[.pointer (some ⟨pq, 0, none⟩)]] w fun e w' => e = .returned (.bool (allTo (fun k => (agrB L (gWg l k))) n)) ∧ Below w.heap.size w w' := by
 have hb1 := ex_alloc (Below.refl w.heap.size w) (.cells #[.func (.func 95) #[] #[.pointer (some ⟨pq, 0, none⟩)]] 165)
 have hA1 := (hA.below hb1).up hb1.size
 go_enter Try.func91, Try.ntmps91
 go_wp2_with fail
 refine (contains_agr pq Am cA R D L rA rc n l hin A c _ (hq.below hb1 hq.lt) (hM.go hb1) hA1 hl w.heap.size (by simp) (by simp [go_sem])).mono ?_
 rintro e w2 ⟨rfl, hb2⟩
 go_wp2
 go_ret
 exact ⟨by simp, ex_trans hb1 hb2⟩
set_option maxRecDepth 100000 in
set_option maxHeartbeats 3200000 in
theorem play_any (s : Ws) (Ar Am Aw : Option Addr) (cr cm cw : Nat) (w : World) (hs : WsIn w w.heap.size s Ar Am Aw) (t : Tt) (Af Av Ag : Option Addr) (cf cv cg : Nat) (rV : Nat → Option Addr) (rcV : Nat → Nat) (ht : TtIn w w.heap.size t Af Av Ag rV rcV) (hsm : SmT t) (hsw : s.rooms.length ≤ 1000 ∧ s.moves.length ≤ 1000) :
  Calls Try.prog 51 #[.agg #[.slice Ar s.rooms.length cr, .int .i64 s.days, .slice Am s.moves.length cm, .slice Aw s.wgs.length cw], .agg #[.slice Af t.fs.length cf, .slice Av t.vs.length cv, .slice Ag t.gs.length cg]] w fun e w' => (∃ n A c rA rc, e = .returned (.tuple #[.slice A n c, .bool (playB s t), .int .i64 (playE s t)]) ∧ PlyV s t w' n A c rA rc) ∧ Below w.heap.size w w' := by
 have hb1 := ex_alloc (ex_alloc (Below.refl w.heap.size w) (.cells #[.slice Ar s.rooms.length cr, .int .i64 s.days, .slice Am s.moves.length cm, .slice Aw s.wgs.length cw] 42)) (.cells #[.slice Af t.fs.length cf, .slice Av t.vs.length cv, .slice Ag t.gs.length cg] 112)
 have q0 : Blk ((w.alloc (.cells #[.slice Ar s.rooms.length cr, .int .i64 s.days, .slice Am s.moves.length cm, .slice Aw s.wgs.length cw] 42)).alloc (.cells #[.slice Af t.fs.length cf, .slice Av t.vs.length cv, .slice Ag t.gs.length cg] 112)) w.heap.size 42 #[.slice Ar s.rooms.length cr, .int .i64 s.days, .slice Am s.moves.length cm, .slice Aw s.wgs.length cw] := (Blk.new _ _ _).alloc _
 have q1 : Blk ((w.alloc (.cells #[.slice Ar s.rooms.length cr, .int .i64 s.days, .slice Am s.moves.length cm, .slice Aw s.wgs.length cw] 42)).alloc (.cells #[.slice Af t.fs.length cf, .slice Av t.vs.length cv, .slice Ag t.gs.length cg] 112)) (w.heap.size + 1) 112 #[.slice Af t.fs.length cf, .slice Av t.vs.length cv, .slice Ag t.gs.length cg] := Blk.new' _ _ _ (by simp)
 have hs1 := hs.go hb1
 have ht1 := ht.go hb1
 go_enter Try.func51, Try.ntmps51
 go_upto_region 1 with fail
 show Code.wp _ _ _ _ ((w.alloc (.cells #[.slice Ar s.rooms.length cr, .int .i64 s.days, .slice Am s.moves.length cm, .slice Aw s.wgs.length cw] 42)).alloc (.cells #[.slice Af t.fs.length cf, .slice Av t.vs.length cv, .slice Ag t.gs.length cg] 112))
 obtain ⟨p0, hp0⟩ : ∃ p, w.heap.size = p := ⟨_, rfl⟩
 rw [hp0] at q0 q1 ⊢
 have HP0 := Lib.hid hp0
 generalize (w.alloc (.cells #[.slice Ar s.rooms.length cr, .int .i64 s.days, .slice Am s.moves.length cm, .slice Aw s.wgs.length cw] 42)).alloc (.cells #[.slice Af t.fs.length cf, .slice Av t.vs.length cv, .slice Ag t.gs.length cg] 112) = W1 at *
 clear hp0
 have a0 : W1.cell? ⟨p0, 0, none⟩ = some (.slice Ar s.rooms.length cr) := q0.cell 0
 have a1 : W1.cell? ⟨p0, 1, none⟩ = some (.int .i64 s.days) := q0.cell 1
 have a2 : W1.cell? ⟨p0, 2, none⟩ = some (.slice Am s.moves.length cm) := q0.cell 2
 have a3 : W1.cell? ⟨p0, 3, none⟩ = some (.slice Aw s.wgs.length cw) := q0.cell 3
 have l0 := q0.lt
 have b0 : W1.cell? ⟨p0 + 1, 0, none⟩ = some (.slice Af t.fs.length cf) := q1.cell 0
 have b1 : W1.cell? ⟨p0 + 1, 1, none⟩ = some (.slice Av t.vs.length cv) := q1.cell 1
 have b2 : W1.cell? ⟨p0 + 1, 2, none⟩ = some (.slice Ag t.gs.length cg) := q1.cell 2
 have l1 := q1.lt
 go_wp2_with fail
 refine (check_any s Ar Am Aw cr cm cw W1 hs1).mono ?_
 rintro e W2 ⟨rfl, h2⟩
 have B2 := ex_trans hb1 h2
 have q02 := q0.below h2 q0.lt
 have q12 := q1.below h2 q1.lt
 have hs2 := hs1.go h2
 have ht2 := ht1.go h2
 clear a0 a1 a2 a3 l0 b0 b1 b2 l1
 have a0 : W2.cell? ⟨p0, 0, none⟩ = some (.slice Ar s.rooms.length cr) := q02.cell 0
 have a1 : W2.cell? ⟨p0, 1, none⟩ = some (.int .i64 s.days) := q02.cell 1
 have a2 : W2.cell? ⟨p0, 2, none⟩ = some (.slice Am s.moves.length cm) := q02.cell 2
 have a3 : W2.cell? ⟨p0, 3, none⟩ = some (.slice Aw s.wgs.length cw) := q02.cell 3
 have l0 := q02.lt
 have b0 : W2.cell? ⟨p0 + 1, 0, none⟩ = some (.slice Af t.fs.length cf) := q12.cell 0
 have b1 : W2.cell? ⟨p0 + 1, 1, none⟩ = some (.slice Av t.vs.length cv) := q12.cell 1
 have b2 : W2.cell? ⟨p0 + 1, 2, none⟩ = some (.slice Ag t.gs.length cg) := q12.cell 2
 have l1 := q12.lt
 by_cases hc : ckWs s = 0
 ·
  obtain ⟨hw, hd⟩ := ckWs_iff.1 hc
  have HC := Lib.hid hc
  have HDs := Lib.hid hd
  rw [hc]
  clear hc hd
  go_wp2_with fail
  refine (truth_any s Ar Am Aw cr cm cw W2 hs2 t Af Av Ag cf cv cg rV rcV ht2 hsm hsw).mono ?_
  rintro e W3 ⟨rfl, h3⟩
  have B3 := ex_trans B2 h3
  have q03 := q02.below h3 q02.lt
  have q13 := q12.below h3 q12.lt
  clear a0 a1 a2 a3 l0 b0 b1 b2 l1
  have a0 : W3.cell? ⟨p0, 0, none⟩ = some (.slice Ar s.rooms.length cr) := q03.cell 0
  have a1 : W3.cell? ⟨p0, 1, none⟩ = some (.int .i64 s.days) := q03.cell 1
  have a2 : W3.cell? ⟨p0, 2, none⟩ = some (.slice Am s.moves.length cm) := q03.cell 2
  have a3 : W3.cell? ⟨p0, 3, none⟩ = some (.slice Aw s.wgs.length cw) := q03.cell 3
  have l0 := q03.lt
  have b0 : W3.cell? ⟨p0 + 1, 0, none⟩ = some (.slice Af t.fs.length cf) := q13.cell 0
  have b1 : W3.cell? ⟨p0 + 1, 1, none⟩ = some (.slice Av t.vs.length cv) := q13.cell 1
  have b2 : W3.cell? ⟨p0 + 1, 2, none⟩ = some (.slice Ag t.gs.length cg) := q13.cell 2
  have l1 := q13.lt
  cases hv : truT s t
  ·
   have HE : Hid (playE s t = 2) := Lib.hid (by unfold playE; rw [if_pos HC.out, hv]; rfl)
   clear hv
   go_wp2
   go_ret3
   exact ⟨⟨0, none, 0, fun _ => none, fun _ => 0, by unfold playB; rw [HE.out]; rfl, fun h => (by rw [HE.out] at h; cases h), fun _ => ⟨rfl, rfl, rfl⟩⟩, B3⟩
  ·
   have HE : Hid (playE s t = 0) := Lib.hid (by unfold playE; rw [if_pos HC.out, hv]; rfl)
   have HV := Lib.hid hv
   clear hv
   go_wp2_with fail
   refine (stocks_any s Ar Am Aw cr cm cw W3 (hs2.go h3) hw HDs.out t Af Av Ag cf cv cg rV rcV (ht2.go h3) HV.out).mono ?_
   rintro e W4 ⟨⟨A, cA, rA, rc, rfl, hM⟩, h4⟩
   have HM := Lib.hid hM
   clear hM
   go_wp2
   go_ret3
   exact ⟨⟨_, A, cA, rA, rc, by unfold playB; rw [HE.out]; rfl, fun _ => ⟨rfl, HM.out⟩, fun h => (h HE.out).elim⟩, ex_trans B3 h4⟩
 ·
  have HE : Hid (playE s t = ckWs s) := Lib.hid (by unfold playE; rw [if_neg hc])
  have HP : Hid (playB s t = false) := Lib.hid (by unfold playB; rw [HE.out]; simp [hc])
  go_wp2
  go_ret3
  exact ⟨⟨0, none, 0, fun _ => none, fun _ => 0, by rw [HE.out, HP.out]; rfl, fun h => (hc (HE.out ▸ h)).elim, fun _ => ⟨rfl, rfl, rfl⟩⟩, B2⟩
set_option maxRecDepth 100000 in
set_option maxHeartbeats 3200000 in
theorem proveT_any (s : Ws) (Ar Am Aw : Option Addr) (cr cm cw : Nat) (w : World) (hs : WsIn w w.heap.size s Ar Am Aw) (t : Tt) (Af Av Ag : Option Addr) (cf cv cg : Nat) (rV : Nat → Option Addr) (rcV : Nat → Nat) (ht : TtIn w w.heap.size t Af Av Ag rV rcV) (hsm : SmT t) (hsw : s.rooms.length ≤ 1000 ∧ s.moves.length ≤ 1000) :
  Calls Try.prog 53 #[.agg #[.slice Ar s.rooms.length cr, .int .i64 s.days, .slice Am s.moves.length cm, .slice Aw s.wgs.length cw], .agg #[.slice Af t.fs.length cf, .slice Av t.vs.length cv, .slice Ag t.gs.length cg]] w fun e w' => e = .returned (.bool (proveT s t)) ∧ Below w.heap.size w w' := by
 have hb1 := ex_alloc (ex_alloc (Below.refl w.heap.size w) (.cells #[.slice Ar s.rooms.length cr, .int .i64 s.days, .slice Am s.moves.length cm, .slice Aw s.wgs.length cw] 42)) (.cells #[.slice Af t.fs.length cf, .slice Av t.vs.length cv, .slice Ag t.gs.length cg] 112)
 have q0 : Blk ((w.alloc (.cells #[.slice Ar s.rooms.length cr, .int .i64 s.days, .slice Am s.moves.length cm, .slice Aw s.wgs.length cw] 42)).alloc (.cells #[.slice Af t.fs.length cf, .slice Av t.vs.length cv, .slice Ag t.gs.length cg] 112)) w.heap.size 42 #[.slice Ar s.rooms.length cr, .int .i64 s.days, .slice Am s.moves.length cm, .slice Aw s.wgs.length cw] := (Blk.new _ _ _).alloc _
 have q1 : Blk ((w.alloc (.cells #[.slice Ar s.rooms.length cr, .int .i64 s.days, .slice Am s.moves.length cm, .slice Aw s.wgs.length cw] 42)).alloc (.cells #[.slice Af t.fs.length cf, .slice Av t.vs.length cv, .slice Ag t.gs.length cg] 112)) (w.heap.size + 1) 112 #[.slice Af t.fs.length cf, .slice Av t.vs.length cv, .slice Ag t.gs.length cg] := Blk.new' _ _ _ (by simp)
 have hs1 := hs.go hb1
 have ht1 := ht.go hb1
 go_enter Try.func53, Try.ntmps53
 go_upto_region 1 with fail
 show Code.wp _ _ _ _ ((w.alloc (.cells #[.slice Ar s.rooms.length cr, .int .i64 s.days, .slice Am s.moves.length cm, .slice Aw s.wgs.length cw] 42)).alloc (.cells #[.slice Af t.fs.length cf, .slice Av t.vs.length cv, .slice Ag t.gs.length cg] 112))
 obtain ⟨p0, hp0⟩ : ∃ p, w.heap.size = p := ⟨_, rfl⟩
 rw [hp0] at q0 q1 ⊢
 have HP0 := Lib.hid hp0
 generalize (w.alloc (.cells #[.slice Ar s.rooms.length cr, .int .i64 s.days, .slice Am s.moves.length cm, .slice Aw s.wgs.length cw] 42)).alloc (.cells #[.slice Af t.fs.length cf, .slice Av t.vs.length cv, .slice Ag t.gs.length cg] 112) = W1 at *
 clear hp0
 have a0 : W1.cell? ⟨p0, 0, none⟩ = some (.slice Ar s.rooms.length cr) := q0.cell 0
 have a1 : W1.cell? ⟨p0, 1, none⟩ = some (.int .i64 s.days) := q0.cell 1
 have a2 : W1.cell? ⟨p0, 2, none⟩ = some (.slice Am s.moves.length cm) := q0.cell 2
 have a3 : W1.cell? ⟨p0, 3, none⟩ = some (.slice Aw s.wgs.length cw) := q0.cell 3
 have l0 := q0.lt
 have b0 : W1.cell? ⟨p0 + 1, 0, none⟩ = some (.slice Af t.fs.length cf) := q1.cell 0
 have b1 : W1.cell? ⟨p0 + 1, 1, none⟩ = some (.slice Av t.vs.length cv) := q1.cell 1
 have b2 : W1.cell? ⟨p0 + 1, 2, none⟩ = some (.slice Ag t.gs.length cg) := q1.cell 2
 have l1 := q1.lt
 go_wp2_with fail
 refine (play_any s Ar Am Aw cr cm cw W1 hs1 t Af Av Ag cf cv cg rV rcV ht1 hsm hsw).mono ?_
 rintro e W2 ⟨⟨n, A, cA, rA, rc, rfl, hP⟩, h2⟩
 have B2 := ex_trans hb1 h2
 have q02 := q0.below h2 q0.lt
 have hs2 := hs1.go h2
 have HPV := Lib.hid hP
 clear hP
 clear a0 a1 a2 a3 l0 b0 b1 b2 l1
 have X3 := ex_alloc (Below.refl W2.heap.size W2) (.cells #[.slice A n cA] 29)
 have q5 : Blk (W2.alloc (.cells #[.slice A n cA] 29)) W2.heap.size 29 #[.slice A n cA] := Blk.new _ _ _
 have B3 := ex_trans B2 X3
 have q03 := q02.below X3 q02.lt
 have hs3 := hs2.go X3
 go_upto_region 2 with fail
 obtain ⟨p5, hp5⟩ : ∃ p, W2.heap.size = p := ⟨_, rfl⟩
 rw [hp5] at q5 ⊢
 have HP5 := Lib.hid hp5
 generalize W2.alloc (.cells #[.slice A n cA] 29) = W3 at *
 clear hp5
 have a0 : W3.cell? ⟨p0, 0, none⟩ = some (.slice Ar s.rooms.length cr) := q03.cell 0
 have a1 : W3.cell? ⟨p0, 1, none⟩ = some (.int .i64 s.days) := q03.cell 1
 have a2 : W3.cell? ⟨p0, 2, none⟩ = some (.slice Am s.moves.length cm) := q03.cell 2
 have a3 : W3.cell? ⟨p0, 3, none⟩ = some (.slice Aw s.wgs.length cw) := q03.cell 3
 have l0 := q03.lt
 by_cases he : playE s t = 0
 ·
  have HE := Lib.hid he
  rw [he]
  clear he
  cases hb : playB s t
  ·
   have HF : Hid (proveT s t = false) := Lib.hid (by unfold proveT; rw [hb]; rfl)
   clear hb
   go_wp2
   go_ret
   exact ⟨by rw [HF.out]; rfl, B3⟩
  ·
   have HB := Lib.hid hb
   clear hb
   have hck : ckWs s = 0 := by
    have h := HE.out
    unfold playE at h
    split at h
    ·
     assumption
    ·
     exact h
   obtain ⟨hw, hd⟩ := ckWs_iff.1 hck
   have HDs := Lib.hid hd
   clear hd hck
   obtain ⟨hn, hM⟩ := HPV.out.yes HE.out
   subst hn
   have HM := Lib.hid (hM.go X3)
   clear hM
   go_wp2_with fail
   refine (all_agr p5 A cA s.rooms.length s.wo.days (stk s.wo t.F t.V t.G) rA rc s.wgs.length s.wgs (fun k hk => by have := hw.wgs k hk; exact ⟨this.1, this.2.1, this.2.2.1, this.2.2.2.1⟩) Aw cw W3 q5 HM.out hs3.wgs (by have := hw.len.2.2.2; have e : s.wo.wgs.length = s.wgs.length := rfl; omega)).mono ?_
   rintro e W4 ⟨rfl, h4⟩
   have HF : Hid (proveT s t = allTo (fun k => agrB (stk s.wo t.F t.V t.G) (gWg s.wgs k)) s.wgs.length) := Lib.hid (by unfold proveT; rw [HB.out]; rfl)
   go_wp2
   go_ret
   exact ⟨by rw [HF.out]; rfl, ex_trans B3 h4⟩
 ·
  have HF : Hid (proveT s t = false) := Lib.hid (by unfold proveT playB; simp [he])
  go_wp2
  go_ret
  exact ⟨by rw [HF.out]; rfl, B3⟩
end Go.Proofs.Ythihdiilokdidaa
end

section
namespace Go.Proofs.Ythihdiilokdidaa
open Go.RowKit
attribute [local go_sem] Ex.cell? Ex.frozen?

theorem results_ct_row {P : Program} {fn : Func} {p t : Tmp} {ty : TypeId} (h : fn.results = #[.cell p ty, .tmp t]) (tmps : Array Value) (w : World) (g : Nat) (ty' : TypeId) (cs : Array Value) (fr : Nat × Nat) (d : TypeDesc)
  (hp : tmps.getD p undef = .pointer (some ⟨g, 0, none⟩)) (hg : w.heap[g]? = some (.cells cs ty' fr))
  (hu : P.underlying ty = some d) (hd : (match d with | .struct _ | .array _ _ => true | _ => false) = true) (hi : (P.info? ty).map (·.size) = some cs.size) :
  (results fn tmps).run P w = .ok (.tuple #[.agg cs, tmps.getD t undef]) w := by
 have hp' : tmps[p]?.getD undef = .pointer (some ⟨g, 0, none⟩) := by simpa using hp
 simp [results, h, hp', asAddr, run_loadVar_row w g ty' ty cs fr d hg hu hd hi]
noncomputable def stE (s : Ws) : Int := if ckWs s = 0 then (if truB (Good s.wo off0) = true then 0 else 9) else ckWs s
structure StkV (s : Ws) (w' : World) (n : Nat) (A : Option Addr) (c : Nat) (rA : Nat → Option Addr) (rc : Nat → Nat) : Prop where
 yes : stE s = 0 → n = s.rooms.length ∧ RgsIn w' w'.heap.size A n s.wo.days (stkR s.wo off0) rA rc
 no : stE s ≠ 0 → n = 0 ∧ A = none ∧ c = 0
theorem stE_zero {s : Ws} : stE s = 0 ↔ ckWs s = 0 ∧ Good s.wo off0 := by
 unfold stE
 by_cases h : ckWs s = 0
 ·
  rw [if_pos h]
  by_cases hg : Good s.wo off0
  ·
   rw [truB_iff.2 hg]; simp [h, hg]
  ·
   rw [truB_false hg]; simp [hg]
 ·
  rw [if_neg h]; simp [h]
noncomputable def misE (s : Ws) (b : Bk) (r d : Int) : Int := if ckWs s = 0 then (if bookB s b && (inB r 0 ((s.rooms.length : Int) - 1) && inB d 0 (s.days - 1)) then (if truB (Good s.wo off0) = true then 0 else 9) else 2) else ckWs s
noncomputable def misR (s : Ws) (b : Bk) (r d : Int) : Rg := if misE s b r d = 0 then ⟨saysF s.wo b r.toNat d.toNat - (stkR s.wo off0 r.toNat d.toNat).hi, saysF s.wo b r.toNat d.toNat - (stkR s.wo off0 r.toNat d.toNat).lo⟩ else ⟨0, 0⟩
noncomputable def lostB (s : Ws) (b : Bk) (d r : Nat) : Bool := decide ((stkR s.wo off0 r d).hi < saysF s.wo b r d)
noncomputable def losR (s : Ws) (b : Bk) (d : Nat) : Int := firstOf (lostB s b d) s.rooms.length
noncomputable def losD (s : Ws) (b : Bk) : Int := firstOf (fun d => decide (0 ≤ losR s b d)) s.wo.days
noncomputable def losE (s : Ws) (b : Bk) : Int := if ckWs s = 0 then (if bookB s b then (if truB (Good s.wo off0) = true then (if 0 ≤ losD s b then 0 else 7) else 9) else 2) else ckWs s
noncomputable def losV (s : Ws) (b : Bk) : Int × Int := if losE s b = 0 then (losR s b (losD s b).toNat, losD s b) else (0, 0)
theorem RgsIn.at_ {w : World} {B : Nat} {A : Option Addr} {n D : Nat} {L : Nat → Nat → Rg} {rA : Nat → Option Addr} {rc : Nat → Nat} (h : RgsIn w B A n D L rA rc) {r d : Nat} (hr : r < n) (hd : d < D) : ∃ b o b2 o2, A = some ⟨b, o, none⟩ ∧ b < B ∧ w.cell? ⟨b, o + r, none⟩ = some (.slice (some ⟨b2, o2, none⟩) D (rc r)) ∧ b2 < B ∧ w.cell? ⟨b2, o2 + d * 2, none⟩ = some (.int .i64 (L r d).lo) ∧ w.cell? ⟨b2, o2 + d * 2 + 1, none⟩ = some (.int .i64 (L r d).hi) := by
 obtain ⟨b, o, e, hb, hc⟩ := h.out (by omega)
 obtain ⟨b2, o2, e2, hb2, hc2⟩ := h.row r hr (by omega)
 refine ⟨b, o, b2, o2, e, hb, ?_, hb2, ?_, ?_⟩
 ·
  have := hc r 0 hr (by omega)
  rw [show o + (r * 1 + 0) = o + r by omega] at this
  rw [this]; show some (Value.slice (rA r) D (rc r)) = _; rw [e2]
 ·
  exact hc2 d 0 hd (by omega)
 ·
  exact hc2 d 1 hd (by omega)
set_option maxRecDepth 100000 in
set_option maxHeartbeats 3200000 in
theorem Stocks_any (s : Ws) (Ar Am Aw : Option Addr) (cr cm cw : Nat) (w : World) (hs : WsIn w w.heap.size s Ar Am Aw) :
  Calls Try.prog 18 #[.agg #[.slice Ar s.rooms.length cr, .int .i64 s.days, .slice Am s.moves.length cm, .slice Aw s.wgs.length cw]] w fun e w' => (∃ n A c rA rc, e = .returned (.tuple #[.slice A n c, .int .i64 (stE s)]) ∧ StkV s w' n A c rA rc) ∧ Below w.heap.size w w' := by
 have hb1 := ex_alloc (Below.refl w.heap.size w) (.cells #[.slice Ar s.rooms.length cr, .int .i64 s.days, .slice Am s.moves.length cm, .slice Aw s.wgs.length cw] 42)
 have q0 : Blk (w.alloc (.cells #[.slice Ar s.rooms.length cr, .int .i64 s.days, .slice Am s.moves.length cm, .slice Aw s.wgs.length cw] 42)) w.heap.size 42 #[.slice Ar s.rooms.length cr, .int .i64 s.days, .slice Am s.moves.length cm, .slice Aw s.wgs.length cw] := Blk.new _ _ _
 have hs1 := hs.go hb1
 go_enter Try.func18, Try.ntmps18
 go_upto_region 1 with fail
 obtain ⟨p0, hp0⟩ : ∃ p, w.heap.size = p := ⟨_, rfl⟩
 rw [hp0] at q0 ⊢
 generalize w.alloc (.cells #[.slice Ar s.rooms.length cr, .int .i64 s.days, .slice Am s.moves.length cm, .slice Aw s.wgs.length cw] 42) = W1 at *
 clear hp0
 have a0 : W1.cell? ⟨p0, 0, none⟩ = some (.slice Ar s.rooms.length cr) := q0.cell 0
 have a1 : W1.cell? ⟨p0, 1, none⟩ = some (.int .i64 s.days) := q0.cell 1
 have a2 : W1.cell? ⟨p0, 2, none⟩ = some (.slice Am s.moves.length cm) := q0.cell 2
 have a3 : W1.cell? ⟨p0, 3, none⟩ = some (.slice Aw s.wgs.length cw) := q0.cell 3
 have l0 := q0.lt
 go_wp2_with fail
 refine (check_any s Ar Am Aw cr cm cw W1 hs1).mono ?_
 rintro e W2 ⟨rfl, h2⟩
 have B2 := ex_trans hb1 h2
 have q02 := q0.below h2 q0.lt
 have hs2 := hs1.go h2
 clear a0 a1 a2 a3 l0
 have a0 : W2.cell? ⟨p0, 0, none⟩ = some (.slice Ar s.rooms.length cr) := q02.cell 0
 have a1 : W2.cell? ⟨p0, 1, none⟩ = some (.int .i64 s.days) := q02.cell 1
 have a2 : W2.cell? ⟨p0, 2, none⟩ = some (.slice Am s.moves.length cm) := q02.cell 2
 have a3 : W2.cell? ⟨p0, 3, none⟩ = some (.slice Aw s.wgs.length cw) := q02.cell 3
 have l0 := q02.lt
 by_cases hc : ckWs s = 0
 ·
  obtain ⟨hw, hd⟩ := ckWs_iff.1 hc
  have HC := Lib.hid hc
  rw [hc]
  clear hc
  have hr2 := ranges_any s Ar Am Aw cr cm cw W2 hs2 hw hd
  clear hd
  go_wp2_with fail
  refine hr2.mono ?_
  clear hr2
  rintro e W3 ⟨⟨n, A, cA, rA, rc, rfl, hR⟩, h3⟩
  have B3 := ex_trans B2 h3
  have HR := Lib.hid hR
  clear hR
  cases hg : truB (Good s.wo off0)
  ·
   have HG : Hid (¬ Good s.wo off0) := Lib.hid (fun h => by rw [truB_iff.2 h] at hg; cases hg)
   have HE : Hid (stE s = 9) := Lib.hid (by unfold stE; rw [if_pos HC.out, hg]; rfl)
   clear hg
   go_wp2
   go_ret2
   exact ⟨⟨0, none, 0, rA, rc, by rw [HE.out]; rfl, fun h => (by rw [HE.out] at h; cases h), fun _ => ⟨rfl, rfl, rfl⟩⟩, B3⟩
  ·
   have HG : Hid (Good s.wo off0) := Lib.hid (truB_iff.1 hg)
   have HE : Hid (stE s = 0) := Lib.hid (by unfold stE; rw [if_pos HC.out, hg]; rfl)
   clear hg
   go_wp2
   go_ret2
   exact ⟨⟨n, A, cA, rA, rc, by rw [HE.out]; rfl, fun _ => HR.out.yes HG.out, fun h => (h HE.out).elim⟩, B3⟩
 ·
  have HE : Hid (stE s = ckWs s) := Lib.hid (by unfold stE; rw [if_neg hc])
  go_wp2
  go_ret2
  exact ⟨⟨0, none, 0, fun _ => none, fun _ => 0, by rw [HE.out]; rfl, fun h => (hc (HE.out ▸ h)).elim, fun _ => ⟨rfl, rfl, rfl⟩⟩, B2⟩
theorem saysF_bd (w : Wo) (b : Bk) {nr nm : Nat} (hB : b.fs.length = nr ∧ b.gs.length = nm ∧ (∀ k, k < nr → 0 ≤ gI b.fs k ∧ gI b.fs k ≤ 2000) ∧ ∀ k, k < nm → 0 ≤ gI b.gs k ∧ gI b.gs k ≤ 2000) (hw : WoOk w) (hnm : w.moves.length = nm) (r d : Nat) (hr : r < nr) (hd : d < w.days) : -200000 ≤ saysF w b r d ∧ saysF w b r d ≤ 200000 := by
 have h0 := hB.2.2.1 r hr
 have hs : ∀ k : Nat, -(24000 * (k : Int)) ≤ esum (fun e : Nat => comes w (gI b.gs) r e w.moves.length) (List.range k) ∧ esum (fun e : Nat => comes w (gI b.gs) r e w.moves.length) (List.range k) ≤ 24000 * k := by
  intro k
  induction k with
  | zero => simp [esum]
  | succ k ih =>
   have hc := comes_bd w (G := gI b.gs) r k w.moves.length (fun i hi => hB.2.2.2 i (by omega))
   have := hw.len
   rw [List.range_succ, esum_app]
   simp only [esum]
   omega
 have := hs (d + 1)
 have := hw.days
 unfold saysF
 omega
set_option maxRecDepth 100000 in
set_option maxHeartbeats 6400000 in
theorem Missing_any (s : Ws) (Ar Am Aw : Option Addr) (cr cm cw : Nat) (w : World) (hs : WsIn w w.heap.size s Ar Am Aw) (b : Bk) (Af Ag : Option Addr) (cf cg : Nat) (hAf0 : SlAt w w.heap.size 1 Af b.fs.length (fI b.fs)) (hAg0 : SlAt w w.heap.size 1 Ag b.gs.length (fI b.gs)) (hsw : s.rooms.length ≤ 1000 ∧ s.moves.length ≤ 1000) (hsb : b.fs.length ≤ 1000 ∧ b.gs.length ≤ 1000) (r d : Int) :
  Calls Try.prog 43 #[.agg #[.slice Ar s.rooms.length cr, .int .i64 s.days, .slice Am s.moves.length cm, .slice Aw s.wgs.length cw], .agg #[.slice Af b.fs.length cf, .slice Ag b.gs.length cg], .int .i64 r, .int .i64 d] w fun e w' => e = .returned (.tuple #[.agg #[.int .i64 (misR s b r d).lo, .int .i64 (misR s b r d).hi], .int .i64 (misE s b r d)]) ∧ Below w.heap.size w w' := by
 have hb1 := ex_alloc (ex_alloc (ex_alloc (Below.refl w.heap.size w) (.cells #[.slice Ar s.rooms.length cr, .int .i64 s.days, .slice Am s.moves.length cm, .slice Aw s.wgs.length cw] 42)) (.cells #[.slice Af b.fs.length cf, .slice Ag b.gs.length cg] 99)) (.cells #[.int .i64 0, .int .i64 0] 50)
 have q0 : Blk (((w.alloc (.cells #[.slice Ar s.rooms.length cr, .int .i64 s.days, .slice Am s.moves.length cm, .slice Aw s.wgs.length cw] 42)).alloc (.cells #[.slice Af b.fs.length cf, .slice Ag b.gs.length cg] 99)).alloc (.cells #[.int .i64 0, .int .i64 0] 50)) w.heap.size 42 #[.slice Ar s.rooms.length cr, .int .i64 s.days, .slice Am s.moves.length cm, .slice Aw s.wgs.length cw] := ((Blk.new _ _ _).alloc _).alloc _
 have q1 : Blk (((w.alloc (.cells #[.slice Ar s.rooms.length cr, .int .i64 s.days, .slice Am s.moves.length cm, .slice Aw s.wgs.length cw] 42)).alloc (.cells #[.slice Af b.fs.length cf, .slice Ag b.gs.length cg] 99)).alloc (.cells #[.int .i64 0, .int .i64 0] 50)) (w.heap.size + 1) 99 #[.slice Af b.fs.length cf, .slice Ag b.gs.length cg] := (Blk.new' _ _ _ (by simp)).alloc _
 have q8 : Blk (((w.alloc (.cells #[.slice Ar s.rooms.length cr, .int .i64 s.days, .slice Am s.moves.length cm, .slice Aw s.wgs.length cw] 42)).alloc (.cells #[.slice Af b.fs.length cf, .slice Ag b.gs.length cg] 99)).alloc (.cells #[.int .i64 0, .int .i64 0] 50)) (w.heap.size + 1 + 1) 50 #[.int .i64 0, .int .i64 0] := Blk.new' _ _ _ (by simp)
 have hs1 := hs.go hb1
 have hf1 := (hAf0.below hb1).up hb1.size
 have hg1 := (hAg0.below hb1).up hb1.size
 go_enter Try.func43, Try.ntmps43
 go_upto_region 1 with fail
 show Code.wp _ _ _ _ (((w.alloc (.cells #[.slice Ar s.rooms.length cr, .int .i64 s.days, .slice Am s.moves.length cm, .slice Aw s.wgs.length cw] 42)).alloc (.cells #[.slice Af b.fs.length cf, .slice Ag b.gs.length cg] 99)).alloc (.cells #[.int .i64 0, .int .i64 0] 50))
 obtain ⟨p0, hp0⟩ : ∃ p, w.heap.size = p := ⟨_, rfl⟩
 rw [hp0] at q0 q1 q8 ⊢
 have HP0 := Lib.hid hp0
 generalize ((w.alloc (.cells #[.slice Ar s.rooms.length cr, .int .i64 s.days, .slice Am s.moves.length cm, .slice Aw s.wgs.length cw] 42)).alloc (.cells #[.slice Af b.fs.length cf, .slice Ag b.gs.length cg] 99)).alloc (.cells #[.int .i64 0, .int .i64 0] 50) = W1 at *
 clear hp0
 have a0 : W1.cell? ⟨p0, 0, none⟩ = some (.slice Ar s.rooms.length cr) := q0.cell 0
 have a1 : W1.cell? ⟨p0, 1, none⟩ = some (.int .i64 s.days) := q0.cell 1
 have a2 : W1.cell? ⟨p0, 2, none⟩ = some (.slice Am s.moves.length cm) := q0.cell 2
 have a3 : W1.cell? ⟨p0, 3, none⟩ = some (.slice Aw s.wgs.length cw) := q0.cell 3
 have l0 := q0.lt
 have b0 : W1.cell? ⟨p0 + 1, 0, none⟩ = some (.slice Af b.fs.length cf) := q1.cell 0
 have b1 : W1.cell? ⟨p0 + 1, 1, none⟩ = some (.slice Ag b.gs.length cg) := q1.cell 1
 have l1 := q1.lt
 have r0 : W1.cell? ⟨p0 + 1 + 1, 0, none⟩ = some (.int .i64 0) := q8.cell 0
 have r1 : W1.cell? ⟨p0 + 1 + 1, 1, none⟩ = some (.int .i64 0) := q8.cell 1
 have l8 := q8.lt
 have rf := q8.frozen0
 go_wp2_with fail
 refine (check_any s Ar Am Aw cr cm cw W1 hs1).mono ?_
 rintro e W2 ⟨rfl, h2⟩
 have B2 := ex_trans hb1 h2
 have q02 := q0.below h2 q0.lt
 have q12 := q1.below h2 q1.lt
 have q82 := q8.below h2 q8.lt
 have hs2 := hs1.go h2
 have hf2 := (hf1.below h2).up h2.size
 have hg2 := (hg1.below h2).up h2.size
 clear a0 a1 a2 a3 l0
 clear b0 b1 l1
 clear r0 r1 l8 rf
 have a0 : W2.cell? ⟨p0, 0, none⟩ = some (.slice Ar s.rooms.length cr) := q02.cell 0
 have a1 : W2.cell? ⟨p0, 1, none⟩ = some (.int .i64 s.days) := q02.cell 1
 have a2 : W2.cell? ⟨p0, 2, none⟩ = some (.slice Am s.moves.length cm) := q02.cell 2
 have a3 : W2.cell? ⟨p0, 3, none⟩ = some (.slice Aw s.wgs.length cw) := q02.cell 3
 have l0 := q02.lt
 have b0 : W2.cell? ⟨p0 + 1, 0, none⟩ = some (.slice Af b.fs.length cf) := q12.cell 0
 have b1 : W2.cell? ⟨p0 + 1, 1, none⟩ = some (.slice Ag b.gs.length cg) := q12.cell 1
 have l1 := q12.lt
 have r0 : W2.cell? ⟨p0 + 1 + 1, 0, none⟩ = some (.int .i64 0) := q82.cell 0
 have r1 : W2.cell? ⟨p0 + 1 + 1, 1, none⟩ = some (.int .i64 0) := q82.cell 1
 have l8 := q82.lt
 have rf := q82.frozen0
 by_cases hc : ckWs s = 0
 ·
  obtain ⟨hw, hd⟩ := ckWs_iff.1 hc
  have hd6 : 1 ≤ s.days ∧ s.days ≤ 6 := by have := hw.days; omega
  have HC := Lib.hid hc
  have HDs := Lib.hid hd
  rw [hc]
  clear hc hd
  go_wp2_with fail
  refine (book_any s Ar Am Aw cr cm cw W2 hs2 b Af Ag cf cg hf2 hg2 hsw hsb).mono ?_
  rintro e W3 ⟨rfl, h3⟩
  have B3 := ex_trans B2 h3
  have q03 := q02.below h3 q02.lt
  have q13 := q12.below h3 q12.lt
  have q83 := q82.below h3 q82.lt
  have hs3 := hs2.go h3
  have hf3 := (hf2.below h3).up h3.size
  have hg3 := (hg2.below h3).up h3.size
  clear a0 a1 a2 a3 l0
  clear b0 b1 l1
  clear r0 r1 l8 rf
  have a0 : W3.cell? ⟨p0, 0, none⟩ = some (.slice Ar s.rooms.length cr) := q03.cell 0
  have a1 : W3.cell? ⟨p0, 1, none⟩ = some (.int .i64 s.days) := q03.cell 1
  have a2 : W3.cell? ⟨p0, 2, none⟩ = some (.slice Am s.moves.length cm) := q03.cell 2
  have a3 : W3.cell? ⟨p0, 3, none⟩ = some (.slice Aw s.wgs.length cw) := q03.cell 3
  have l0 := q03.lt
  have b0 : W3.cell? ⟨p0 + 1, 0, none⟩ = some (.slice Af b.fs.length cf) := q13.cell 0
  have b1 : W3.cell? ⟨p0 + 1, 1, none⟩ = some (.slice Ag b.gs.length cg) := q13.cell 1
  have l1 := q13.lt
  have r0 : W3.cell? ⟨p0 + 1 + 1, 0, none⟩ = some (.int .i64 0) := q83.cell 0
  have r1 : W3.cell? ⟨p0 + 1 + 1, 1, none⟩ = some (.int .i64 0) := q83.cell 1
  have l8 := q83.lt
  have rf := q83.frozen0
  cases hbk : bookB s b
  ·
   have HBK := Lib.hid hbk
   clear hbk
   have qz := (q83.set_ 0 (.int .i64 (0))).set_ 1 (.int .i64 (0))
   simp only [List.setIfInBounds_toArray, List.set_cons_zero, List.set_cons_succ] at qz
   have Bz := ex_set (ex_set B3 (p := ⟨p0 + 1 + 1, 0, none⟩) (by show w.heap.size ≤ p0 + 1 + 1; rw [HP0.out]; omega) (.int .i64 (0))) (p := ⟨p0 + 1 + 1, 1, none⟩) (by show w.heap.size ≤ p0 + 1 + 1; rw [HP0.out]; omega) (.int .i64 (0))
   have HE : Hid (misE s b r d = 2) := Lib.hid (by unfold misE; rw [if_pos HC.out, if_neg (by rw [HBK.out]; simp)])
   have HR : Hid (misR s b r d = ⟨0, 0⟩) := Lib.hid (by unfold misR; rw [if_neg (by rw [HE.out]; decide)])
   go_wp2_with fail
   refine bodyPost_ret (results_ct_row rfl _ _ (p0 + 1 + 1) 50 _ (0, 0) _ rfl qz rfl rfl rfl) rfl ?_
   exact ⟨by rw [HR.out, HE.out]; rfl, Bz⟩
  ·
   have HBK := Lib.hid hbk
   clear hbk
   go_wp2_with fail
   refine (roomN_any s Ar Am Aw cr cm cw r W3 (by omega)).mono ?_
   rintro e W4 ⟨rfl, h4⟩
   have B4 := ex_trans B3 h4
   have q04 := q03.below h4 q03.lt
   have q14 := q13.below h4 q13.lt
   have q84 := q83.below h4 q83.lt
   have hs4 := hs3.go h4
   have hf4 := (hf3.below h4).up h4.size
   have hg4 := (hg3.below h4).up h4.size
   clear a0 a1 a2 a3 l0
   clear b0 b1 l1
   clear r0 r1 l8 rf
   have a0 : W4.cell? ⟨p0, 0, none⟩ = some (.slice Ar s.rooms.length cr) := q04.cell 0
   have a1 : W4.cell? ⟨p0, 1, none⟩ = some (.int .i64 s.days) := q04.cell 1
   have a2 : W4.cell? ⟨p0, 2, none⟩ = some (.slice Am s.moves.length cm) := q04.cell 2
   have a3 : W4.cell? ⟨p0, 3, none⟩ = some (.slice Aw s.wgs.length cw) := q04.cell 3
   have l0 := q04.lt
   have b0 : W4.cell? ⟨p0 + 1, 0, none⟩ = some (.slice Af b.fs.length cf) := q14.cell 0
   have b1 : W4.cell? ⟨p0 + 1, 1, none⟩ = some (.slice Ag b.gs.length cg) := q14.cell 1
   have l1 := q14.lt
   have r0 : W4.cell? ⟨p0 + 1 + 1, 0, none⟩ = some (.int .i64 0) := q84.cell 0
   have r1 : W4.cell? ⟨p0 + 1 + 1, 1, none⟩ = some (.int .i64 0) := q84.cell 1
   have l8 := q84.lt
   have rf := q84.frozen0
   cases hrm : inB r 0 ((s.rooms.length : Int) - 1)
   ·
    have HRM := Lib.hid hrm
    clear hrm
    have qz := (q84.set_ 0 (.int .i64 (0))).set_ 1 (.int .i64 (0))
    simp only [List.setIfInBounds_toArray, List.set_cons_zero, List.set_cons_succ] at qz
    have Bz := ex_set (ex_set B4 (p := ⟨p0 + 1 + 1, 0, none⟩) (by show w.heap.size ≤ p0 + 1 + 1; rw [HP0.out]; omega) (.int .i64 (0))) (p := ⟨p0 + 1 + 1, 1, none⟩) (by show w.heap.size ≤ p0 + 1 + 1; rw [HP0.out]; omega) (.int .i64 (0))
    have HE : Hid (misE s b r d = 2) := Lib.hid (by unfold misE; rw [if_pos HC.out, if_neg (by rw [HBK.out, HRM.out]; simp)])
    have HR : Hid (misR s b r d = ⟨0, 0⟩) := Lib.hid (by unfold misR; rw [if_neg (by rw [HE.out]; decide)])
    go_wp2_with fail
    refine bodyPost_ret (results_ct_row rfl _ _ (p0 + 1 + 1) 50 _ (0, 0) _ rfl qz rfl rfl rfl) rfl ?_
    exact ⟨by rw [HR.out, HE.out]; rfl, Bz⟩
   ·
    have HRM := Lib.hid hrm
    clear hrm
    go_wp2_with fail
    refine (dayN_any s Ar Am Aw cr cm cw d W4 hd6).mono ?_
    rintro e W5 ⟨rfl, h5⟩
    have B5 := ex_trans B4 h5
    have q05 := q04.below h5 q04.lt
    have q15 := q14.below h5 q14.lt
    have q85 := q84.below h5 q84.lt
    have hs5 := hs4.go h5
    have hf5 := (hf4.below h5).up h5.size
    have hg5 := (hg4.below h5).up h5.size
    clear a0 a1 a2 a3 l0
    clear b0 b1 l1
    clear r0 r1 l8 rf
    have a0 : W5.cell? ⟨p0, 0, none⟩ = some (.slice Ar s.rooms.length cr) := q05.cell 0
    have a1 : W5.cell? ⟨p0, 1, none⟩ = some (.int .i64 s.days) := q05.cell 1
    have a2 : W5.cell? ⟨p0, 2, none⟩ = some (.slice Am s.moves.length cm) := q05.cell 2
    have a3 : W5.cell? ⟨p0, 3, none⟩ = some (.slice Aw s.wgs.length cw) := q05.cell 3
    have l0 := q05.lt
    have b0 : W5.cell? ⟨p0 + 1, 0, none⟩ = some (.slice Af b.fs.length cf) := q15.cell 0
    have b1 : W5.cell? ⟨p0 + 1, 1, none⟩ = some (.slice Ag b.gs.length cg) := q15.cell 1
    have l1 := q15.lt
    have r0 : W5.cell? ⟨p0 + 1 + 1, 0, none⟩ = some (.int .i64 0) := q85.cell 0
    have r1 : W5.cell? ⟨p0 + 1 + 1, 1, none⟩ = some (.int .i64 0) := q85.cell 1
    have l8 := q85.lt
    have rf := q85.frozen0
    cases hdy : inB d 0 (s.days - 1)
    ·
     have HDY := Lib.hid hdy
     clear hdy
     have qz := (q85.set_ 0 (.int .i64 (0))).set_ 1 (.int .i64 (0))
     simp only [List.setIfInBounds_toArray, List.set_cons_zero, List.set_cons_succ] at qz
     have Bz := ex_set (ex_set B5 (p := ⟨p0 + 1 + 1, 0, none⟩) (by show w.heap.size ≤ p0 + 1 + 1; rw [HP0.out]; omega) (.int .i64 (0))) (p := ⟨p0 + 1 + 1, 1, none⟩) (by show w.heap.size ≤ p0 + 1 + 1; rw [HP0.out]; omega) (.int .i64 (0))
     have HE : Hid (misE s b r d = 2) := Lib.hid (by unfold misE; rw [if_pos HC.out, if_neg (by rw [HBK.out, HRM.out, HDY.out]; simp)])
     have HR : Hid (misR s b r d = ⟨0, 0⟩) := Lib.hid (by unfold misR; rw [if_neg (by rw [HE.out]; decide)])
     go_wp2_with fail
     refine bodyPost_ret (results_ct_row rfl _ _ (p0 + 1 + 1) 50 _ (0, 0) _ rfl qz rfl rfl rfl) rfl ?_
     exact ⟨by rw [HR.out, HE.out]; rfl, Bz⟩
    ·
     have HDY := Lib.hid hdy
     clear hdy
     go_wp2_with fail
     refine (ranges_any s Ar Am Aw cr cm cw W5 hs5 hw HDs.out).mono ?_
     rintro e W6 ⟨⟨n, A, cA, rA, rc, rfl, hR⟩, h6⟩
     have B6 := ex_trans B5 h6
     have HRV := Lib.hid hR
     clear hR
     have q06 := q05.below h6 q05.lt
     have q16 := q15.below h6 q15.lt
     have q86 := q85.below h6 q85.lt
     have hs6 := hs5.go h6
     have hf6 := (hf5.below h6).up h6.size
     have hg6 := (hg5.below h6).up h6.size
     clear a0 a1 a2 a3 l0
     clear b0 b1 l1
     clear r0 r1 l8 rf
     have a0 : W6.cell? ⟨p0, 0, none⟩ = some (.slice Ar s.rooms.length cr) := q06.cell 0
     have a1 : W6.cell? ⟨p0, 1, none⟩ = some (.int .i64 s.days) := q06.cell 1
     have a2 : W6.cell? ⟨p0, 2, none⟩ = some (.slice Am s.moves.length cm) := q06.cell 2
     have a3 : W6.cell? ⟨p0, 3, none⟩ = some (.slice Aw s.wgs.length cw) := q06.cell 3
     have l0 := q06.lt
     have b0 : W6.cell? ⟨p0 + 1, 0, none⟩ = some (.slice Af b.fs.length cf) := q16.cell 0
     have b1 : W6.cell? ⟨p0 + 1, 1, none⟩ = some (.slice Ag b.gs.length cg) := q16.cell 1
     have l1 := q16.lt
     have r0 : W6.cell? ⟨p0 + 1 + 1, 0, none⟩ = some (.int .i64 0) := q86.cell 0
     have r1 : W6.cell? ⟨p0 + 1 + 1, 1, none⟩ = some (.int .i64 0) := q86.cell 1
     have l8 := q86.lt
     have rf := q86.frozen0
     have HMO : Hid (misE s b r d = if truB (Good s.wo off0) = true then 0 else 9) := Lib.hid (by unfold misE; rw [if_pos HC.out, if_pos (by rw [HBK.out, HRM.out, HDY.out]; rfl)])
     cases hg : truB (Good s.wo off0)
     ·
      have HG := Lib.hid hg
      clear hg
      have qz := (q86.set_ 0 (.int .i64 (0))).set_ 1 (.int .i64 (0))
      simp only [List.setIfInBounds_toArray, List.set_cons_zero, List.set_cons_succ] at qz
      have Bz := ex_set (ex_set B6 (p := ⟨p0 + 1 + 1, 0, none⟩) (by show w.heap.size ≤ p0 + 1 + 1; rw [HP0.out]; omega) (.int .i64 (0))) (p := ⟨p0 + 1 + 1, 1, none⟩) (by show w.heap.size ≤ p0 + 1 + 1; rw [HP0.out]; omega) (.int .i64 (0))
      have HE : Hid (misE s b r d = 9) := Lib.hid (by rw [HMO.out, HG.out]; rfl)
      have HR : Hid (misR s b r d = ⟨0, 0⟩) := Lib.hid (by unfold misR; rw [if_neg (by rw [HE.out]; decide)])
      go_wp2_with fail
      refine bodyPost_ret (results_ct_row rfl _ _ (p0 + 1 + 1) 50 _ (0, 0) _ rfl qz rfl rfl rfl) rfl ?_
      exact ⟨by rw [HR.out, HE.out]; rfl, Bz⟩
     ·
      have HG : Hid (Good s.wo off0) := Lib.hid (truB_iff.1 hg)
      have HE : Hid (misE s b r d = 0) := Lib.hid (by rw [HMO.out, hg]; rfl)
      clear hg
      obtain ⟨hn, hM⟩ := HRV.out.yes HG.out
      subst hn
      have hrb := inB_iff.1 HRM.out
      have hdb := inB_iff.1 HDY.out
      obtain ⟨rn, rfl⟩ : ∃ x : Nat, r = (x : Int) := ⟨r.toNat, by omega⟩
      obtain ⟨dn, rfl⟩ : ∃ x : Nat, d = (x : Int) := ⟨d.toNat, by omega⟩
      have hrl : rn < s.rooms.length := by omega
      have hdl : dn < s.wo.days := by have := HDs.out; omega
      obtain ⟨bo, oo, b2, o2, rfl, hbo, x1, hb2, x2, x3⟩ := hM.at_ hrl hdl
      have hEnd := good_ends hw HG.out (r := rn) (d := dn) hrl hdl
      have hin1 := stk_in hw hrl hdl hEnd.1
      have hin2 := stk_in hw hrl hdl hEnd.2.1
      have hok := stW_ok hw off0 s.wo.wgs.length (Nat.le_refl _) rn dn
      unfold inR at hin1 hin2
      clear hEnd
      have HR : Hid (misR s b (rn : Int) (dn : Int) = ⟨saysF s.wo b rn dn - (stkR s.wo off0 rn dn).hi, saysF s.wo b rn dn - (stkR s.wo off0 rn dn).lo⟩) := Lib.hid (by unfold misR; rw [if_pos HE.out]; simp)
      obtain ⟨⟨zl, zh⟩, hz⟩ : ∃ x, stkR s.wo off0 rn dn = x := ⟨_, rfl⟩
      rw [hz] at x2 x3 hin1 hin2 HR
      dsimp only at x2 x3 hin1 hin2 HR
      have hzb : -2000000 ≤ zl ∧ zl ≤ 2000000 ∧ -2000000 ≤ zh ∧ zh ≤ 2000000 := by omega
      clear hin1 hin2 hok hz
      skip
      have hsb2 := saysF_bd s.wo b (bookB_iff.1 HBK.out) hw rfl rn dn hrl hdl
      obtain ⟨S, hS⟩ : ∃ x, saysF s.wo b rn dn = x := ⟨_, rfl⟩
      rw [hS] at hsb2 HR
      have HS := Lib.hid hS
      clear hS
      have hrR : (rn : Int) < (s.rooms.length : Int) := by omega
      have hdD : (dn : Int) < (s.wo.days : Int) := by omega
      have DD := (Below.refl W6.heap.size W6).drew
      go_upto_region 9 with fail
      refine wp_region_ext_tqF 14 (.quiet 0 (.quiet 1 (.quiet 2 (.quiet 3 (.quiet 5 (.quiet 6 (.quiet 7 (.quiet 8 (.quiet 9 (.quiet 10 (.quiet 11 (.fork 4 (.loud 12 (.quiet 13 .done)) 12 (.loud 4 (.quiet 13 .done)))))))))))))) (by kernel_rfl) (by kernel_rfl) (by intro d _ _ _ _ h; cases d <;> exact h) ?_
      repeat (refine tq_quiet rfl ?_; go_big_quiet_step (fail); refine wpQuiet_nil ?_)
      obtain ⟨Y, hY⟩ : ∃ Y, W6.drew = Y := ⟨_, rfl⟩
      rw [hY] at DD ⊢
      clear hY
      refine tq_fork rfl rfl ?_ ?_
      ·
       go_wp2_with fail
       refine (says_any s Ar Am Aw cr cm cw Y (hs6.go DD) hw b Af Ag cf cg ((hf6.below DD).up DD.size) ((hg6.below DD).up DD.size) (bookB_iff.1 HBK.out) rn dn hrl hdl).mono ?_
       rintro e Z1 ⟨rfl, hZ1⟩
       rw [HS.out]
       have XZ1 := ex_trans DD hZ1
       go_wp2_with fail
       refine ⟨inEx XZ1, ?_⟩
       repeat (refine tq_quiet rfl ?_; go_big_quiet_step (fail); refine wpQuiet_nil ?_)
       refine tq_loud rfl ?_
       have NZ2 := ex_alloc (Below.refl Z1.heap.size Z1) (.cells #[.int .i64 0, .int .i64 0] 50)
       have XZ2 := ex_trans XZ1 NZ2
       have qn : Blk (Z1.alloc (.cells #[.int .i64 0, .int .i64 0] 50)) Z1.heap.size 50 #[.int .i64 0, .int .i64 0] := Blk.new _ _ _
       have hgz : W6.heap.size ≤ Z1.heap.size := XZ1.size
       go_wp2_with fail
       obtain ⟨pn, hpn⟩ : ∃ p, Z1.heap.size = p := ⟨_, rfl⟩
       rw [hpn] at qn hgz ⊢
       generalize Z1.alloc (.cells #[.int .i64 0, .int .i64 0] 50) = Z2 at *
       clear hpn
       refine ⟨inEx XZ2, ?_⟩
       repeat (refine tq_quiet rfl ?_; go_big_quiet_step (fail); refine wpQuiet_nil ?_)
       have y0 : Z2.cell? ⟨pn, 0, none⟩ = some (.int .i64 0) := qn.cell 0
       have y1 : Z2.cell? ⟨pn, 1, none⟩ = some (.int .i64 0) := qn.cell 1
       have ly := qn.lt
       have yf := qn.frozen0
       have qn2 := (qn.set_ 0 (.int .i64 zl)).set_ 1 (.int .i64 zh)
       simp only [List.setIfInBounds_toArray, List.set_cons_zero, List.set_cons_succ] at qn2
       have hl8 := q86.lt
       have q8x := ((q86.below XZ2 q86.lt).far (p := ⟨pn, 0, none⟩) (by show p0 + 1 + 1 ≠ pn; omega) (.int .i64 zl)).far (p := ⟨pn, 1, none⟩) (by show p0 + 1 + 1 ≠ pn; omega) (.int .i64 zh)
       have BX := ex_trans B6 XZ2
       have hw6 : w.heap.size ≤ pn := by have := B6.size; omega
       have BX2 := ex_set (ex_set BX (p := ⟨pn, 0, none⟩) hw6 (.int .i64 zl)) (p := ⟨pn, 1, none⟩) hw6 (.int .i64 zh)
       refine tq_done (r := [_]) rfl ?_
       go_upto_region 10 with fail
       generalize (Z2.setCell ⟨pn, 0, none⟩ (.int .i64 zl)).setCell ⟨pn, 1, none⟩ (.int .i64 zh) = V at *
       clear y0 y1 ly yf r0 r1 l8 rf
       have y0 : V.cell? ⟨pn, 0, none⟩ = some (.int .i64 zl) := qn2.cell 0
       have y1 : V.cell? ⟨pn, 1, none⟩ = some (.int .i64 zh) := qn2.cell 1
       have ly := qn2.lt
       have r0 : V.cell? ⟨p0 + 1 + 1, 0, none⟩ = some (.int .i64 0) := q8x.cell 0
       have r1 : V.cell? ⟨p0 + 1 + 1, 1, none⟩ = some (.int .i64 0) := q8x.cell 1
       have l8 := q8x.lt
       have rf := q8x.frozen0
       have qz := (q8x.set_ 0 (.int .i64 (S - zh))).set_ 1 (.int .i64 (S - zl))
       simp only [List.setIfInBounds_toArray, List.set_cons_zero, List.set_cons_succ] at qz
       have Bz := ex_set (ex_set BX2 (p := ⟨p0 + 1 + 1, 0, none⟩) (by show w.heap.size ≤ p0 + 1 + 1; rw [HP0.out]; omega) (.int .i64 (S - zh))) (p := ⟨p0 + 1 + 1, 1, none⟩) (by show w.heap.size ≤ p0 + 1 + 1; rw [HP0.out]; omega) (.int .i64 (S - zl))
       go_wp2_with fail
       refine bodyPost_ret (results_ct_row rfl _ _ (p0 + 1 + 1) 50 _ (0, 0) _ rfl qz rfl rfl rfl) rfl ?_
       exact ⟨by rw [HR.out, HE.out]; rfl, Bz⟩
      ·
       have NZ1 := ex_alloc (Below.refl Y.heap.size Y) (.cells #[.int .i64 0, .int .i64 0] 50)
       have XZ1 := ex_trans DD NZ1
       have qn : Blk (Y.alloc (.cells #[.int .i64 0, .int .i64 0] 50)) Y.heap.size 50 #[.int .i64 0, .int .i64 0] := Blk.new _ _ _
       have hgz : W6.heap.size ≤ Y.heap.size := DD.size
       go_wp2_with fail
       obtain ⟨pn, hpn⟩ : ∃ p, Y.heap.size = p := ⟨_, rfl⟩
       rw [hpn] at qn hgz ⊢
       generalize Y.alloc (.cells #[.int .i64 0, .int .i64 0] 50) = Z1 at *
       clear hpn
       refine ⟨inEx XZ1, ?_⟩
       repeat (refine tq_quiet rfl ?_; go_big_quiet_step (fail); refine wpQuiet_nil ?_)
       refine tq_loud rfl ?_
       go_wp2_with fail
       refine (says_any s Ar Am Aw cr cm cw Z1 (hs6.go XZ1) hw b Af Ag cf cg ((hf6.below XZ1).up XZ1.size) ((hg6.below XZ1).up XZ1.size) (bookB_iff.1 HBK.out) rn dn hrl hdl).mono ?_
       rintro e Z2 ⟨rfl, hZ2⟩
       rw [HS.out]
       have XZ2 := ex_trans XZ1 hZ2
       go_wp2_with fail
       refine ⟨inEx XZ2, ?_⟩
       repeat (refine tq_quiet rfl ?_; go_big_quiet_step (fail); refine wpQuiet_nil ?_)
       replace qn := qn.below hZ2 qn.lt
       have y0 : Z2.cell? ⟨pn, 0, none⟩ = some (.int .i64 0) := qn.cell 0
       have y1 : Z2.cell? ⟨pn, 1, none⟩ = some (.int .i64 0) := qn.cell 1
       have ly := qn.lt
       have yf := qn.frozen0
       have qn2 := (qn.set_ 0 (.int .i64 zl)).set_ 1 (.int .i64 zh)
       simp only [List.setIfInBounds_toArray, List.set_cons_zero, List.set_cons_succ] at qn2
       have hl8 := q86.lt
       have q8x := ((q86.below XZ2 q86.lt).far (p := ⟨pn, 0, none⟩) (by show p0 + 1 + 1 ≠ pn; omega) (.int .i64 zl)).far (p := ⟨pn, 1, none⟩) (by show p0 + 1 + 1 ≠ pn; omega) (.int .i64 zh)
       have BX := ex_trans B6 XZ2
       have hw6 : w.heap.size ≤ pn := by have := B6.size; omega
       have BX2 := ex_set (ex_set BX (p := ⟨pn, 0, none⟩) hw6 (.int .i64 zl)) (p := ⟨pn, 1, none⟩) hw6 (.int .i64 zh)
       refine tq_done (r := [_]) rfl ?_
       go_upto_region 10 with fail
       generalize (Z2.setCell ⟨pn, 0, none⟩ (.int .i64 zl)).setCell ⟨pn, 1, none⟩ (.int .i64 zh) = V at *
       clear y0 y1 ly yf r0 r1 l8 rf
       have y0 : V.cell? ⟨pn, 0, none⟩ = some (.int .i64 zl) := qn2.cell 0
       have y1 : V.cell? ⟨pn, 1, none⟩ = some (.int .i64 zh) := qn2.cell 1
       have ly := qn2.lt
       have r0 : V.cell? ⟨p0 + 1 + 1, 0, none⟩ = some (.int .i64 0) := q8x.cell 0
       have r1 : V.cell? ⟨p0 + 1 + 1, 1, none⟩ = some (.int .i64 0) := q8x.cell 1
       have l8 := q8x.lt
       have rf := q8x.frozen0
       have qz := (q8x.set_ 0 (.int .i64 (S - zh))).set_ 1 (.int .i64 (S - zl))
       simp only [List.setIfInBounds_toArray, List.set_cons_zero, List.set_cons_succ] at qz
       have Bz := ex_set (ex_set BX2 (p := ⟨p0 + 1 + 1, 0, none⟩) (by show w.heap.size ≤ p0 + 1 + 1; rw [HP0.out]; omega) (.int .i64 (S - zh))) (p := ⟨p0 + 1 + 1, 1, none⟩) (by show w.heap.size ≤ p0 + 1 + 1; rw [HP0.out]; omega) (.int .i64 (S - zl))
       go_wp2_with fail
       refine bodyPost_ret (results_ct_row rfl _ _ (p0 + 1 + 1) 50 _ (0, 0) _ rfl qz rfl rfl rfl) rfl ?_
       exact ⟨by rw [HR.out, HE.out]; rfl, Bz⟩
 ·
  have qz := (q82.set_ 0 (.int .i64 (0))).set_ 1 (.int .i64 (0))
  simp only [List.setIfInBounds_toArray, List.set_cons_zero, List.set_cons_succ] at qz
  have Bz := ex_set (ex_set B2 (p := ⟨p0 + 1 + 1, 0, none⟩) (by show w.heap.size ≤ p0 + 1 + 1; rw [HP0.out]; omega) (.int .i64 (0))) (p := ⟨p0 + 1 + 1, 1, none⟩) (by show w.heap.size ≤ p0 + 1 + 1; rw [HP0.out]; omega) (.int .i64 (0))
  have HE : Hid (misE s b r d = ckWs s) := Lib.hid (by unfold misE; rw [if_neg hc])
  have HR : Hid (misR s b r d = ⟨0, 0⟩) := Lib.hid (by unfold misR; rw [if_neg (by rw [HE.out]; exact hc)])
  go_wp2_with fail
  refine bodyPost_ret (results_ct_row rfl _ _ (p0 + 1 + 1) 50 _ (0, 0) _ rfl qz rfl rfl rfl) rfl ?_
  exact ⟨by rw [HR.out, HE.out]; rfl, Bz⟩
end Go.Proofs.Ythihdiilokdidaa
end

section
namespace Go.Proofs.Ythihdiilokdidaa
open Go.RowKit
attribute [local go_sem] Ex.cell? Ex.frozen?

set_option maxRecDepth 100000 in
set_option maxHeartbeats 6400000 in
theorem Lost_any (s : Ws) (Ar Am Aw : Option Addr) (cr cm cw : Nat) (w : World) (hs : WsIn w w.heap.size s Ar Am Aw) (b : Bk) (Af Ag : Option Addr) (cf cg : Nat) (hAf0 : SlAt w w.heap.size 1 Af b.fs.length (fI b.fs)) (hAg0 : SlAt w w.heap.size 1 Ag b.gs.length (fI b.gs)) (hsw : s.rooms.length ≤ 1000 ∧ s.moves.length ≤ 1000) (hsb : b.fs.length ≤ 1000 ∧ b.gs.length ≤ 1000) :
    Calls Try.prog 45 #[.agg #[.slice Ar s.rooms.length cr, .int .i64 s.days, .slice Am s.moves.length cm, .slice Aw s.wgs.length cw], .agg #[.slice Af b.fs.length cf, .slice Ag b.gs.length cg]] w fun e w' => e = .returned (.tuple #[.int .i64 (losV s b).1, .int .i64 (losV s b).2, .int .i64 (losE s b)]) ∧ Below w.heap.size w w' := by
  have hb1 := ex_alloc (ex_alloc (Below.refl w.heap.size w) (.cells #[.slice Ar s.rooms.length cr, .int .i64 s.days, .slice Am s.moves.length cm, .slice Aw s.wgs.length cw] 42)) (.cells #[.slice Af b.fs.length cf, .slice Ag b.gs.length cg] 99)
  have q0 : Blk ((w.alloc (.cells #[.slice Ar s.rooms.length cr, .int .i64 s.days, .slice Am s.moves.length cm, .slice Aw s.wgs.length cw] 42)).alloc (.cells #[.slice Af b.fs.length cf, .slice Ag b.gs.length cg] 99)) w.heap.size 42 #[.slice Ar s.rooms.length cr, .int .i64 s.days, .slice Am s.moves.length cm, .slice Aw s.wgs.length cw] := (Blk.new _ _ _).alloc _
  have q1 : Blk ((w.alloc (.cells #[.slice Ar s.rooms.length cr, .int .i64 s.days, .slice Am s.moves.length cm, .slice Aw s.wgs.length cw] 42)).alloc (.cells #[.slice Af b.fs.length cf, .slice Ag b.gs.length cg] 99)) (w.heap.size + 1) 99 #[.slice Af b.fs.length cf, .slice Ag b.gs.length cg] := Blk.new' _ _ _ (by simp)
  have hs1 := hs.go hb1
  have hf1 := (hAf0.below hb1).up hb1.size
  have hg1 := (hAg0.below hb1).up hb1.size
  go_enter Try.func45, Try.ntmps45
  go_wp2_with fail
  go_step3
  go_upto_region 1 with fail
  show Code.wp _ _ _ _ ((w.alloc (.cells #[.slice Ar s.rooms.length cr, .int .i64 s.days, .slice Am s.moves.length cm, .slice Aw s.wgs.length cw] 42)).alloc (.cells #[.slice Af b.fs.length cf, .slice Ag b.gs.length cg] 99))
  obtain ⟨p0, hp0⟩ : ∃ p, w.heap.size = p := ⟨_, rfl⟩
  rw [hp0] at q0 q1 ⊢
  have HP0 := Lib.hid hp0
  generalize (w.alloc (.cells #[.slice Ar s.rooms.length cr, .int .i64 s.days, .slice Am s.moves.length cm, .slice Aw s.wgs.length cw] 42)).alloc (.cells #[.slice Af b.fs.length cf, .slice Ag b.gs.length cg] 99) = W1 at *
  clear hp0
  have a0 : W1.cell? ⟨p0, 0, none⟩ = some (.slice Ar s.rooms.length cr) := q0.cell 0
  have a1 : W1.cell? ⟨p0, 1, none⟩ = some (.int .i64 s.days) := q0.cell 1
  have a2 : W1.cell? ⟨p0, 2, none⟩ = some (.slice Am s.moves.length cm) := q0.cell 2
  have a3 : W1.cell? ⟨p0, 3, none⟩ = some (.slice Aw s.wgs.length cw) := q0.cell 3
  have l0 := q0.lt
  have b0 : W1.cell? ⟨p0 + 1, 0, none⟩ = some (.slice Af b.fs.length cf) := q1.cell 0
  have b1 : W1.cell? ⟨p0 + 1, 1, none⟩ = some (.slice Ag b.gs.length cg) := q1.cell 1
  have l1 := q1.lt
  go_wp2_with fail
  refine (check_any s Ar Am Aw cr cm cw W1 hs1).mono ?_
  rintro e W2 ⟨rfl, h2⟩
  have B2 := ex_trans hb1 h2
  have q02 := q0.below h2 q0.lt
  have q12 := q1.below h2 q1.lt
  have hs2 := hs1.go h2
  have hf2 := (hf1.below h2).up h2.size
  have hg2 := (hg1.below h2).up h2.size
  clear a0 a1 a2 a3 l0 b0 b1 l1
  have a0 : W2.cell? ⟨p0, 0, none⟩ = some (.slice Ar s.rooms.length cr) := q02.cell 0
  have a1 : W2.cell? ⟨p0, 1, none⟩ = some (.int .i64 s.days) := q02.cell 1
  have a2 : W2.cell? ⟨p0, 2, none⟩ = some (.slice Am s.moves.length cm) := q02.cell 2
  have a3 : W2.cell? ⟨p0, 3, none⟩ = some (.slice Aw s.wgs.length cw) := q02.cell 3
  have l0 := q02.lt
  have b0 : W2.cell? ⟨p0 + 1, 0, none⟩ = some (.slice Af b.fs.length cf) := q12.cell 0
  have b1 : W2.cell? ⟨p0 + 1, 1, none⟩ = some (.slice Ag b.gs.length cg) := q12.cell 1
  have l1 := q12.lt
  by_cases hc : ckWs s = 0
  · obtain ⟨hw, hd⟩ := ckWs_iff.1 hc
    have HC := Lib.hid hc
    have HDs := Lib.hid hd
    rw [hc]
    clear hc hd
    go_wp2_with fail
    refine (book_any s Ar Am Aw cr cm cw W2 hs2 b Af Ag cf cg hf2 hg2 hsw hsb).mono ?_
    rintro e W3 ⟨rfl, h3⟩
    have B3 := ex_trans B2 h3
    have q03 := q02.below h3 q02.lt
    have q13 := q12.below h3 q12.lt
    have hs3 := hs2.go h3
    have hf3 := (hf2.below h3).up h3.size
    have hg3 := (hg2.below h3).up h3.size
    clear a0 a1 a2 a3 l0 b0 b1 l1
    have a0 : W3.cell? ⟨p0, 0, none⟩ = some (.slice Ar s.rooms.length cr) := q03.cell 0
    have a1 : W3.cell? ⟨p0, 1, none⟩ = some (.int .i64 s.days) := q03.cell 1
    have a2 : W3.cell? ⟨p0, 2, none⟩ = some (.slice Am s.moves.length cm) := q03.cell 2
    have a3 : W3.cell? ⟨p0, 3, none⟩ = some (.slice Aw s.wgs.length cw) := q03.cell 3
    have l0 := q03.lt
    have b0 : W3.cell? ⟨p0 + 1, 0, none⟩ = some (.slice Af b.fs.length cf) := q13.cell 0
    have b1 : W3.cell? ⟨p0 + 1, 1, none⟩ = some (.slice Ag b.gs.length cg) := q13.cell 1
    have l1 := q13.lt
    cases hbk : bookB s b
    · have HBK := Lib.hid hbk
      clear hbk
      have HE : Hid (losE s b = 2) := Lib.hid (by unfold losE; rw [if_pos HC.out, if_neg (by rw [HBK.out]; simp)])
      have HV : Hid (losV s b = (0, 0)) := Lib.hid (by unfold losV; rw [if_neg (by rw [HE.out]; decide)])
      go_wp2_with fail
      rw [Exit.noGoto_ret]
      go_ret3
      exact ⟨by rw [HV.out, HE.out]; rfl, B3⟩
    · have HBK := Lib.hid hbk
      clear hbk
      go_wp2_with fail
      refine (ranges_any s Ar Am Aw cr cm cw W3 hs3 hw HDs.out).mono ?_
      rintro e W6 ⟨⟨n, A, cA, rA, rc, rfl, hR⟩, h6⟩
      have B6 := ex_trans B3 h6
      have HRV := Lib.hid hR
      clear hR
      have q06 := q03.below h6 q03.lt
      have q16 := q13.below h6 q13.lt
      have hs6 := hs3.go h6
      have hf6 := (hf3.below h6).up h6.size
      have hg6 := (hg3.below h6).up h6.size
      clear a0 a1 a2 a3 l0 b0 b1 l1
      have a0 : W6.cell? ⟨p0, 0, none⟩ = some (.slice Ar s.rooms.length cr) := q06.cell 0
      have a1 : W6.cell? ⟨p0, 1, none⟩ = some (.int .i64 s.days) := q06.cell 1
      have a2 : W6.cell? ⟨p0, 2, none⟩ = some (.slice Am s.moves.length cm) := q06.cell 2
      have a3 : W6.cell? ⟨p0, 3, none⟩ = some (.slice Aw s.wgs.length cw) := q06.cell 3
      have l0 := q06.lt
      have b0 : W6.cell? ⟨p0 + 1, 0, none⟩ = some (.slice Af b.fs.length cf) := q16.cell 0
      have b1 : W6.cell? ⟨p0 + 1, 1, none⟩ = some (.slice Ag b.gs.length cg) := q16.cell 1
      have l1 := q16.lt
      have HMO : Hid (losE s b = if truB (Good s.wo off0) = true then (if 0 ≤ losD s b then 0 else 7) else 9) := Lib.hid (by unfold losE; rw [if_pos HC.out, if_pos HBK.out])
      cases hg : truB (Good s.wo off0)
      · have HG := Lib.hid hg
        clear hg
        have HE : Hid (losE s b = 9) := Lib.hid (by rw [HMO.out, HG.out]; rfl)
        have HV : Hid (losV s b = (0, 0)) := Lib.hid (by unfold losV; rw [if_neg (by rw [HE.out]; decide)])
        go_wp2_with fail
        rw [Exit.noGoto_ret]
        go_ret3
        exact ⟨by rw [HV.out, HE.out]; rfl, B6⟩
      · have HG : Hid (Good s.wo off0) := Lib.hid (truB_iff.1 hg)
        have HME : Hid (losE s b = if 0 ≤ losD s b then 0 else 7) := Lib.hid (by rw [HMO.out, hg]; rfl)
        clear hg
        obtain ⟨hn, hM⟩ := HRV.out.yes HG.out
        subst hn
        obtain ⟨D, hD⟩ : ∃ D, s.wo.days = D := ⟨_, rfl⟩
        have hD6 : 1 ≤ D ∧ D ≤ 6 := by have := hw.days; omega
        have hr3 : 0 < s.rooms.length ∧ s.rooms.length ≤ 3 := ⟨hw.len.1, hw.len.2.1⟩
        have HSD : Hid (s.days = (D : Int)) := Lib.hid (by rw [HDs.out, hD])
        have HD := Lib.hid hD
        clear hD
        rw [HD.out] at hM
        go_wp2_with fail
        go_step3
        go_wp2_with fail
        rw [HSD.out]
        refine wp_loop (fun a W => Rel (fun a W => ∃ k : Nat, k ≤ D ∧ Below W6.heap.size W6 W ∧ Hid (∀ d, d < k → losR s b d = -1) ∧ ∃ u : Nat → Value, a = ⟨List.toArray (u 0 :: u 1 :: .pointer (some ⟨p0, 0, none⟩) :: .pointer (some ⟨p0 + 1, 0, none⟩) :: .int .i64 0 :: .int .i64 0 :: .int .i64 7 :: u 7 :: .slice A s.rooms.length cA :: u 9 :: u 10 :: u 11 :: u 12 :: u 13 :: u 14 :: u 15 :: u 16 :: u 17 :: u 18 :: u 19 :: u 20 :: u 21 :: u 22 :: u 23 :: u 24 :: u 25 :: u 26 :: u 27 :: u 28 :: .int .i64 (D : Int) :: .int .i64 (k : Int) :: u 31 :: u 32 :: u 33 :: u 34 :: u 35 :: u 36 :: u 37 :: u 38 :: u 39 :: u 40 :: u 41 :: u 42 :: u 43 :: u 44 :: u 45 :: u 46 :: u 47 :: u 48 :: u 49 :: u 50 :: u 51 :: u 52 :: u 53 :: u 54 :: u 55 :: u 56 :: u 57 :: u 58 :: u 59 :: []), []⟩) a W) (fun a _ => D - (intOf (a.tmps.getD 30 undef)).toNat) ⟨⟨0, by omega, Below.refl _ _, Lib.hid (fun d hd => by omega), exFrame (by kernel_rfl)⟩⟩ ?_
        clear a0 a1 a2 a3 l0 b0 b1 l1
        rintro a W ⟨⟨k, hk, hb, HK, u, rfl⟩⟩
        have q07 := q06.below hb q06.lt
        have q17 := q16.below hb q16.lt
        have a0 : W.cell? ⟨p0, 0, none⟩ = some (.slice Ar s.rooms.length cr) := q07.cell 0
        have a1 : W.cell? ⟨p0, 1, none⟩ = some (.int .i64 s.days) := q07.cell 1
        have a2 : W.cell? ⟨p0, 2, none⟩ = some (.slice Am s.moves.length cm) := q07.cell 2
        have a3 : W.cell? ⟨p0, 3, none⟩ = some (.slice Aw s.wgs.length cw) := q07.cell 3
        have l0 := q07.lt
        have b0 : W.cell? ⟨p0 + 1, 0, none⟩ = some (.slice Af b.fs.length cf) := q17.cell 0
        have b1 : W.cell? ⟨p0 + 1, 1, none⟩ = some (.slice Ag b.gs.length cg) := q17.cell 1
        have l1 := q17.lt
        by_cases hlt : k < D
        · go_wp2_with fail
          refine wp_loop (fun a W => Rel (fun a W => ∃ j : Nat, j ≤ s.rooms.length ∧ Below W6.heap.size W6 W ∧ Hid (∀ i, i < j → lostB s b k i = false) ∧ ∃ u : Nat → Value, a = ⟨List.toArray (u 0 :: u 1 :: .pointer (some ⟨p0, 0, none⟩) :: .pointer (some ⟨p0 + 1, 0, none⟩) :: .int .i64 0 :: .int .i64 0 :: .int .i64 7 :: u 7 :: .slice A s.rooms.length cA :: u 9 :: .int .i64 (k : Int) :: u 11 :: u 12 :: u 13 :: u 14 :: u 15 :: u 16 :: u 17 :: u 18 :: u 19 :: u 20 :: u 21 :: u 22 :: u 23 :: u 24 :: u 25 :: u 26 :: u 27 :: u 28 :: .int .i64 (D : Int) :: .int .i64 (k : Int) :: u 31 :: u 32 :: u 33 :: u 34 :: .int .i64 (s.rooms.length : Int) :: .int .i64 (j : Int) :: u 37 :: u 38 :: u 39 :: u 40 :: u 41 :: u 42 :: u 43 :: u 44 :: u 45 :: u 46 :: u 47 :: u 48 :: u 49 :: u 50 :: u 51 :: u 52 :: u 53 :: u 54 :: u 55 :: u 56 :: u 57 :: u 58 :: u 59 :: []), []⟩) a W) (fun a _ => s.rooms.length - (intOf (a.tmps.getD 36 undef)).toNat) ⟨⟨0, by omega, hb, Lib.hid (fun d hd => by omega), exFrame (by kernel_rfl)⟩⟩ ?_
          clear a0 a1 a2 a3 l0 b0 b1 l1
          clear q07 q17 hb W
          rintro a W ⟨⟨j, hj, hb, HJ, u2, rfl⟩⟩
          have q07 := q06.below hb q06.lt
          have q17 := q16.below hb q16.lt
          have a0 : W.cell? ⟨p0, 0, none⟩ = some (.slice Ar s.rooms.length cr) := q07.cell 0
          have a1 : W.cell? ⟨p0, 1, none⟩ = some (.int .i64 s.days) := q07.cell 1
          have a2 : W.cell? ⟨p0, 2, none⟩ = some (.slice Am s.moves.length cm) := q07.cell 2
          have a3 : W.cell? ⟨p0, 3, none⟩ = some (.slice Aw s.wgs.length cw) := q07.cell 3
          have l0 := q07.lt
          have b0 : W.cell? ⟨p0 + 1, 0, none⟩ = some (.slice Af b.fs.length cf) := q17.cell 0
          have b1 : W.cell? ⟨p0 + 1, 1, none⟩ = some (.slice Ag b.gs.length cg) := q17.cell 1
          have l1 := q17.lt
          by_cases hlj : j < s.rooms.length
          · have hMW := hM.go hb
            obtain ⟨bo, oo, b2, o2, rfl, hbo, x1, hb2, x2, x3⟩ := hMW.at_ hlj hlt
            clear hMW
            have HLB : Hid (lostB s b k j = decide ((stkR s.wo off0 j k).hi < saysF s.wo b j k)) := Lib.hid rfl
            have hEnd := good_ends hw HG.out (r := j) (d := k) hlj (by rw [HD.out]; exact hlt)
            have hin2 := stk_in hw hlj (by rw [HD.out]; exact hlt) hEnd.2.1
            have hok := stW_ok hw off0 s.wo.wgs.length (Nat.le_refl _) j k
            unfold inR at hin2
            clear hEnd
            obtain ⟨⟨zl, zh⟩, hz⟩ : ∃ x, stkR s.wo off0 j k = x := ⟨_, rfl⟩
            rw [hz] at x2 x3 hin2 HLB
            dsimp only at x2 x3 hin2 HLB
            have hzb : -2000000 ≤ zh ∧ zh ≤ 2000000 := by omega
            clear hin2 hok hz
            have hsb2 := saysF_bd s.wo b (bookB_iff.1 HBK.out) hw rfl j k hlj (by rw [HD.out]; exact hlt)
            obtain ⟨S, hS⟩ : ∃ x, saysF s.wo b j k = x := ⟨_, rfl⟩
            rw [hS] at hsb2 HLB
            have HS := Lib.hid hS
            clear hS
            have hjR : (j : Int) < (s.rooms.length : Int) := by omega
            have hkD : (k : Int) < (D : Int) := by omega
            have DD := (Below.refl W.heap.size W).drew
            have hb0 := ex_trans B6 hb
            have hsW := hs6.go (ex_trans hb DD)
            have hfW := (hf6.below (ex_trans hb DD)).up (ex_trans hb DD).size
            have hgW := (hg6.below (ex_trans hb DD)).up (ex_trans hb DD).size
            go_upto_region 16 with fail
            refine wp_region_ext_mix 13 [(false, 0), (false, 1), (false, 2), (false, 3), (false, 5), (false, 6), (false, 7), (false, 8), (false, 9), (false, 10), (false, 11), (false, 12), (true, 4)] (by kernel_rfl) (by kernel_rfl) (by intro d _ _ _ _ h; cases d <;> exact h) ?_
            repeat (refine mix_quiet rfl ?_; go_big_quiet_step (fail); refine wpQuiet_nil ?_)
            refine mix_loud rfl ?_
            go_wp2_with fail
            refine (says_any s Ar Am Aw cr cm cw W.drew hsW hw b Af Ag cf cg hfW hgW (bookB_iff.1 HBK.out) j k hlj (by rw [HD.out]; exact hlt)).mono ?_
            rintro e Z ⟨rfl, hz⟩
            rw [HS.out]
            have XZ := ex_trans DD hz
            have hbZ := ex_trans hb XZ
            go_wp2_with fail
            refine ⟨inEx XZ, ?_⟩
            repeat (refine mix_quiet rfl ?_; go_big_quiet_step (fail); refine wpQuiet_nil ?_)
            refine mix_nil (r := [_]) rfl ?_
            by_cases hlo : zh < S
            · have HLR : Hid (losR s b k = (j : Int)) := Lib.hid (firstOf_at hlj HJ.out (by rw [HLB.out]; exact decide_eq_true hlo))
              have HLD : Hid (losD s b = (k : Int)) := Lib.hid (by unfold losD; rw [HD.out]; exact firstOf_at hlt (fun d hd => decide_eq_false (by rw [HK.out d hd]; decide)) (decide_eq_true (by rw [HLR.out]; omega)))
              have HE : Hid (losE s b = 0) := Lib.hid (by rw [HME.out, if_pos (by rw [HLD.out]; omega)])
              have HV : Hid (losV s b = ((j : Int), (k : Int))) := Lib.hid (by unfold losV; rw [if_pos HE.out, HLD.out, Int.toNat_natCast, HLR.out])
              go_wp2_with fail
              rw [Exit.noGoto_ret]
              go_ret3
              exact ⟨by rw [HV.out, HE.out]; rfl, ex_trans B6 hbZ⟩
            · have HJ2 : Hid (∀ i, i < j + 1 → lostB s b k i = false) := Lib.hid (fun i hi => by
                rcases Nat.lt_succ_iff_lt_or_eq.1 hi with h | h
                · exact HJ.out i h
                · subst h; rw [HLB.out]; exact decide_eq_false hlo)
              go_wp2_with fail
              refine ⟨⟨⟨j + 1, by omega, hbZ, HJ2, exFrame (by kernel_rfl)⟩⟩, ?_⟩
              show s.rooms.length - (intOf (.int .i64 ((j : Int) + 1))).toNat < s.rooms.length - (intOf (.int .i64 (j : Int))).toNat
              simp [intOf]
              omega
          · have hjr : j = s.rooms.length := by omega
            have HK2 : Hid (∀ d, d < k + 1 → losR s b d = -1) := Lib.hid (fun d hd => by
              rcases Nat.lt_succ_iff_lt_or_eq.1 hd with h | h
              · exact HK.out d h
              · subst h; exact firstOf_neg (fun i hi => HJ.out i (by omega)))
            clear hjr
            go_wp2_with fail
            refine ⟨⟨⟨k + 1, by omega, hb, HK2, exFrame (by kernel_rfl)⟩⟩, ?_⟩
            show D - (intOf (.int .i64 ((k : Int) + 1))).toNat < D - (intOf (.int .i64 (k : Int))).toNat
            simp [intOf]
            omega
        · have hkD : k = D := by omega
          have HLD : Hid (losD s b = -1) := Lib.hid (by unfold losD; exact firstOf_neg (fun d hd => decide_eq_false (by rw [HK.out d (by rw [HD.out] at hd; omega)]; decide)))
          clear hkD
          have HE : Hid (losE s b = 7) := Lib.hid (by rw [HME.out, if_neg (by rw [HLD.out]; decide)])
          have HV : Hid (losV s b = (0, 0)) := Lib.hid (by unfold losV; rw [if_neg (by rw [HE.out]; decide)])
          go_wp2_with fail
          rw [Exit.noGoto_ret]
          go_ret3
          exact ⟨by rw [HV.out, HE.out]; rfl, ex_trans B6 hb⟩
  · have HE : Hid (losE s b = ckWs s) := Lib.hid (by unfold losE; rw [if_neg hc])
    have HV : Hid (losV s b = (0, 0)) := Lib.hid (by unfold losV; rw [if_neg (by rw [HE.out]; exact hc)])
    go_wp2_with fail
    rw [Exit.noGoto_ret]
    go_ret3
    exact ⟨by rw [HV.out, HE.out]; rfl, B2⟩
end Go.Proofs.Ythihdiilokdidaa
end

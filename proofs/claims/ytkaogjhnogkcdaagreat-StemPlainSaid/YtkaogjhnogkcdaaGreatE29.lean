/- The law StemPlain (walk). -/
import Derived.Test.YtkaogjhnogkcdaaGreatE21
import Derived.Test.YtkaogjhnogkcdaaGreatE25
import Derived.Test.YtkaogjhnogkcdaaGreatE10
set_option linter.unusedVariables false
set_option linter.unusedSimpArgs false
set_option linter.unusedSectionVars false
section
namespace Go.Proofs.YtkaogjhnogkcdaaGreat
open Go.RowKit
attribute [local go_sem] Ex.cell? Ex.frozen?

def plR (r : Rd) : Rd := { r with bare := 0, deep := 0, rate := ⟨0, 0⟩ }
theorem plain_wo (r : Rd) (q : Ki) (air rate off : Int) (h : (plR r).rate.lo ≤ rate ∧ rate ≤ (plR r).rate.hi) : woP (plR r) q air rate off = r.shown + off := by
 have h0 : rate = 0 := by have h1 : (0 : Int) ≤ rate ∧ rate ≤ 0 := h; omega
 subst h0
 have e1 : stemP (plR r) q.k air = 0 := by
  show (q.k * 0 * ((plR r).shown - 10 * air)) / 100000 = 0
  rw [Int.mul_zero, Int.zero_mul]; rfl
 have e2 : woP (plR r) q air 0 off = r.shown + off + stemP (plR r) q.k air + 0 * q.lag + -(q.sq * 0) := rfl
 rw [e2, e1, Int.zero_mul, Int.mul_zero]
 omega
theorem plain_bnd {t : Tb} {r : Rd} (ht : TbBd t) (hr : RdBd (plR r)) : (bndP t (plR r)).lo = r.shown - r.err ∧ (bndP t (plR r)).hi = r.shown + r.err := by
 have he : 0 ≤ r.err ∧ r.err ≤ 20 := hr.err
 have hk := ht.k; have hl := ht.lag; have hs := ht.sq; have ha := hr.air
 have hq : KiIn t ⟨t.k.lo, t.lag.lo, t.sq.lo⟩ := ⟨by simp only; omega, by simp only; omega, by simp only; omega⟩
 have hra : (plR r).rate.lo ≤ 0 ∧ 0 ≤ (plR r).rate.hi := ⟨Int.le_refl _, Int.le_refl _⟩
 have h2 : EndsOf (SayP t (plR r)) (r.shown - r.err) (r.shown + r.err) := by
  refine ⟨⟨_, (plR r).air.lo, 0, -r.err, hq, ⟨Int.le_refl _, ha.2.1⟩, hra, ⟨Int.le_refl _, by show -r.err ≤ r.err; omega⟩, by rw [plain_wo r _ _ _ _ hra]; rfl⟩, ⟨_, (plR r).air.lo, 0, r.err, hq, ⟨Int.le_refl _, ha.2.1⟩, hra, ⟨by show -r.err ≤ r.err; omega, Int.le_refl _⟩, by rw [plain_wo r _ _ _ _ hra]⟩, ?_⟩
  rintro z ⟨q, air, rate, off, _, _, hr1, ho, rfl⟩
  rw [plain_wo r _ _ _ _ hr1]
  have ho' : -r.err ≤ off ∧ off ≤ r.err := ho
  omega
 exact (bnd_ends ht hr).uniq h2
theorem plain_bnd2 {t : Tb} {r0 r : Rd} (e : plR r0 = r) (ht : TbBd t) (hr : RdBd r) : (bndP t r).lo = r.shown - r.err ∧ (bndP t r).hi = r.shown + r.err := by
 subst e
 exact plain_bnd ht hr
set_option maxRecDepth 100000 in
set_option maxHeartbeats 12800000 in
theorem sl_plain (t : Tb) (Ab Ad : Option Addr) (cb cd : Nat) (Ah Aw : Option Addr) (ch cw : Nat) (h : List Rg) (ws : List Int) (m : Int) (r0 : Rd) (w : World) (hg : GlIn w w.heap.size t.g Ab Ad) (hh : SlAt w w.heap.size 2 Ah h.length (fR h)) (hw : SlAt w w.heap.size 1 Aw ws.length (fU ws)) (hwb : ∀ k, k < ws.length → 0 ≤ gI ws k ∧ gI ws k ≤ 65535) (hwl : ws.length ≤ maxLen) (hm : 0 ≤ m ∧ m ≤ 255) :
  Calls Tryz.prog 7 #[.agg #[.int .i64 t.g.base, .slice Ab t.g.bands.length cb, .slice Ad t.g.depths.length cd, .int .i64 t.g.blo, .int .i64 t.g.bhi, .int .i64 t.k.lo, .int .i64 t.k.hi, .int .i64 t.lag.lo, .int .i64 t.lag.hi, .int .i64 t.sq.lo, .int .i64 t.sq.hi, .int .i64 t.term], .slice Ah h.length ch, .slice Aw ws.length cw, .int .u8 m, .agg #[.int .i64 r0.day, .int .i64 r0.shown, .int .i64 r0.err, .int .i64 r0.bare, .int .i64 r0.air.lo, .int .i64 r0.air.hi, .int .i64 r0.rate.lo, .int .i64 r0.rate.hi, .int .i64 r0.deep, .bool r0.broken]] w fun e w' => e = .returned (.bool true) ∧ Below w.heap.size w w' := by
 have hg_w := hg
 have hh_w := hh
 have hw_w := hw
 have HWB := Lib.hid hwb
 clear hwb
 go_enter Tryz.func7, Tryz.ntmps7
 go_upto_region 1 with fail
 show Code.wp _ _ _ _ _
 refine box2 (K := fun V => Code.wp _ _ _ _ V) ?_
 intro V hb1 q1 q2
 replace hg := hg.go hb1
 replace hh := (hh.below hb1).up hb1.size
 replace hw := (hw.below hb1).up hb1.size
 obtain ⟨pq1, hpq1⟩ : ∃ p, w.heap.size = p := ⟨_, rfl⟩
 obtain ⟨pq2, hpq2⟩ : ∃ p, w.heap.size + 1 = p := ⟨_, rfl⟩
 rw [hpq2] at q2 ⊢
 rw [hpq1] at q1 ⊢
 have hp1 : w.heap.size ≤ pq1 := by omega
 have hp2 : w.heap.size ≤ pq2 := by omega
 have n12 : pq1 ≠ pq2 := by omega
 clear hpq1 hpq2
 have u3 := q2.cell 3
 have u8 := q2.cell 8
 have u6 := q2.cell 6
 have u7 := q2.cell 7
 have fu := q2.frozen0
 have lu := q2.lt
 simp at u3 u8 u6 u7
 go_upto_region 2 with fail
 clear fu lu u3 u8 u6 u7
 replace q2 := q2.set_ 3 (.int .i64 0)
 replace q1 := q1.far (p := ⟨pq2, 3, none⟩) n12 (.int .i64 0)
 replace q2 := q2.set_ 8 (.int .i64 0)
 replace q1 := q1.far (p := ⟨pq2, 8, none⟩) n12 (.int .i64 0)
 replace q2 := q2.set_ 6 (.int .i64 0)
 replace q1 := q1.far (p := ⟨pq2, 6, none⟩) n12 (.int .i64 0)
 replace q2 := q2.set_ 7 (.int .i64 0)
 replace q1 := q1.far (p := ⟨pq2, 7, none⟩) n12 (.int .i64 0)
 simp only [List.setIfInBounds_toArray, List.set_cons_zero, List.set_cons_succ] at q2
 have B_V1 := ex_set (p := ⟨pq2, 7, none⟩) (ex_set (p := ⟨pq2, 6, none⟩) (ex_set (p := ⟨pq2, 8, none⟩) (ex_set (p := ⟨pq2, 3, none⟩) (hb1) hp2 (.int .i64 0)) hp2 (.int .i64 0)) hp2 (.int .i64 0)) hp2 (.int .i64 0)
 generalize ((((V.setCell ⟨pq2, 3, none⟩ (.int .i64 0)).setCell ⟨pq2, 8, none⟩ (.int .i64 0)).setCell ⟨pq2, 6, none⟩ (.int .i64 0)).setCell ⟨pq2, 7, none⟩ (.int .i64 0)) = V1 at *
 replace hg := hg_w.go B_V1
 replace hh := hh_w.go B_V1
 replace hw := hw_w.go B_V1
 obtain ⟨r, hrr⟩ : ∃ r, plR r0 = r := ⟨_, rfl⟩
 have HRR := Lib.hid hrr
 have q2' : Blk V1 pq2 33 #[.int .i64 (plR r0).day, .int .i64 (plR r0).shown, .int .i64 (plR r0).err, .int .i64 (plR r0).bare, .int .i64 (plR r0).air.lo, .int .i64 (plR r0).air.hi, .int .i64 (plR r0).rate.lo, .int .i64 (plR r0).rate.hi, .int .i64 (plR r0).deep, .bool (plR r0).broken] := q2
 rw [hrr] at q2'
 clear q2 hrr
 have q2 := q2'
 clear q2'
 go_wp2_with (refine pause_at 23 rfl ?_)
 refine Paused.mk ?_
 refine wpList_load_row rfl 29 _ rfl _ rfl 29 _ (0, 0) _ (q1) Tryz.underlying29 rfl (by kernel_rfl) ?_
 go_wp2_with fail
 refine (sl_lives t Ab Ad cb cd Ah Aw ch cw h ws m _ hg hh hw HWB.out hwl hm).mono ?_
 rintro e V2 ⟨hlv, hV2⟩
 replace q1 := q1.below hV2 q1.lt
 replace q2 := q2.below hV2 q2.lt
 replace hg := hg.go hV2
 replace hh := (hh.below hV2).up hV2.size
 replace hw := (hw.below hV2).up hV2.size
 have B_V2 := ex_trans B_V1 hV2
 obtain ⟨hlv⟩ := hlv
 rcases hlv with ⟨A0, n0, c0, A0', n0', c0', rfl⟩ | ⟨Ai, ci, l, Az, cz, zs, rfl, hl, hci1, hci2, hi, hz⟩
 ·
  go_wp2_with fail
  refine (sl_awake _).mono ?_
  rintro e V3 ⟨rfl, hV3⟩
  replace q1 := q1.below hV3 q1.lt
  replace q2 := q2.below hV3 q2.lt
  replace hg := hg.go hV3
  replace hh := (hh.below hV3).up hV3.size
  replace hw := (hw.below hV3).up hV3.size
  have B_V3 := ex_trans B_V2 hV3
  go_wp2
  go_ret
  exact ⟨rfl, B_V3⟩
 ·
  have HL := Lib.hid hl
  have hnb := hl.nb
  have hnd := hl.nd
  have hnh := hl.nh
  have hl4 := hl.l4
  clear hl
  clear hw HWB
  go_wp2_with (refine pause_at 34 rfl ?_)
  refine Paused.mk ?_
  refine wpList_load_rowG (by kernel_rfl) 33 _ rfl _ (by kernel_rfl) 33 _ (0, 0) _ (q2) Tryz.underlying33 rfl (by kernel_rfl) ?_
  go_wp2_with fail
  refine (sr_isreading h.length r _ (by omega)).mono ?_
  rintro e V4 ⟨rfl, hV4⟩
  replace q1 := q1.below hV4 q1.lt
  replace q2 := q2.below hV4 q2.lt
  replace hg := hg.go hV4
  replace hh := (hh.below hV4).up hV4.size
  replace hi := (hi.below hV4).up hV4.size
  replace hz := (hz.below hV4).up hV4.size
  have B_V4 := ex_trans B_V2 hV4
  rcases Bool.eq_false_or_eq_true (rdOk h.length r) with hd | hd
  rotate_left
  ·
   rw [hd]
   clear hd
   go_wp2_with fail
   refine (sl_awake _).mono ?_
   rintro e V5 ⟨rfl, hV5⟩
   replace q1 := q1.below hV5 q1.lt
   replace q2 := q2.below hV5 q2.lt
   replace hg := hg.go hV5
   replace hh := (hh.below hV5).up hV5.size
   replace hi := (hi.below hV5).up hV5.size
   replace hz := (hz.below hV5).up hV5.size
   have B_V5 := ex_trans B_V4 hV5
   go_wp2
   go_ret
   exact ⟨rfl, B_V5⟩
  ·
   rw [hd]
   have HA := Lib.hid (ask_of HL.out.use0 hd)
   have HO := Lib.hid (ask_bd HA.out)
   obtain ⟨k, hk, hkl⟩ := HO.out.day
   have hday : 0 ≤ r.day ∧ r.day ≤ 1000000 := by omega
   have HK := Lib.hid hk
   have HKT : Hid (r.day.toNat = k) := Lib.hid (by omega)
   clear hk hd
   rcases Bool.eq_false_or_eq_true r.broken with hb | hb
   ·
    have b9 : V4.cell? ⟨pq2, 9, none⟩ = some (.bool r.broken) := q2.cell 9
    rw [hb] at b9
    have lb := q2.lt
    clear hb
    go_wp2_with fail
    refine (sl_awake _).mono ?_
    rintro e V6 ⟨rfl, hV6⟩
    replace q1 := q1.below hV6 q1.lt
    replace q2 := q2.below hV6 q2.lt
    replace hg := hg.go hV6
    replace hh := (hh.below hV6).up hV6.size
    replace hi := (hi.below hV6).up hV6.size
    replace hz := (hz.below hV6).up hV6.size
    have B_V6 := ex_trans B_V4 hV6
    go_wp2
    go_ret
    exact ⟨rfl, B_V6⟩
   ·
    have b9 : V4.cell? ⟨pq2, 9, none⟩ = some (.bool r.broken) := q2.cell 9
    rw [hb] at b9
    have lb := q2.lt
    have HB := Lib.hid hb
    clear hb
    go_wp2_with (refine pause_at 45 rfl ?_)
    refine Paused.mk ?_
    refine wpList_load_rowG (by kernel_rfl) 29 _ rfl _ (by kernel_rfl) 29 _ (0, 0) _ (q1) Tryz.underlying29 rfl (by kernel_rfl) ?_
    go_wp2_with (refine pause_at 47 rfl ?_)
    refine Paused.mk ?_
    refine wpList_load_rowG (by kernel_rfl) 33 _ rfl _ (by kernel_rfl) 33 _ (0, 0) _ (q2) Tryz.underlying33 rfl (by kernel_rfl) ?_
    clear b9 lb
    go_wp2_with fail
    refine (sr_stale t Ab Ad cb cd _ _ l r _ hi (by omega) hday).mono ?_
    rintro e V7 ⟨rfl, hV7⟩
    replace q1 := q1.below hV7 q1.lt
    replace q2 := q2.below hV7 q2.lt
    replace hg := hg.go hV7
    replace hh := (hh.below hV7).up hV7.size
    replace hi := (hi.below hV7).up hV7.size
    replace hz := (hz.below hV7).up hV7.size
    have B_V7 := ex_trans B_V4 hV7
    rcases Bool.eq_false_or_eq_true (staleB t l r.day) with hs | hs
    ·
     rw [hs]
     clear hs
     go_wp2_with fail
     refine (sl_awake _).mono ?_
     rintro e V8 ⟨rfl, hV8⟩
     replace q1 := q1.below hV8 q1.lt
     replace q2 := q2.below hV8 q2.lt
     replace hg := hg.go hV8
     replace hh := (hh.below hV8).up hV8.size
     replace hi := (hi.below hV8).up hV8.size
     replace hz := (hz.below hV8).up hV8.size
     have B_V8 := ex_trans B_V7 hV8
     go_wp2
     go_ret
     exact ⟨rfl, B_V8⟩
    ·
     rw [hs]
     have HS := Lib.hid hs
     clear hs
     have HR : Hid (refE t l r (agreeB t.g h l off0) = 0) := Lib.hid (by rw [HL.out.ag]; exact ref_of HB.out HS.out)
     clear hz
     have HP := Lib.hid (plain_bnd2 HRR.out HO.out.tb HO.out.rd)
     go_upto_region 5 with fail
     rename_i K0 hK0
     have hrest : ∀ (V9 : World) (pi : Nat) (R1 : Rg) (ev1 : Int) (a : Act), Below V7.heap.size V7 V9 → V7.heap.size ≤ pi → Blk V9 pi 41 #[.int .i64 (R1 : Rg).lo, .int .i64 (R1 : Rg).hi] → Hid (CorV t h l r R1 ev1) → (∃ u : Nat → Value, a = ⟨List.toArray (u 0 :: .slice Ah h.length ch :: u 2 :: u 3 :: u 4 :: .pointer (some ⟨pq1, 0, none⟩) :: u 6 :: u 7 :: u 8 :: .pointer (some ⟨pq2, 0, none⟩) :: .bool false :: .slice Ai l.length ci :: u 12 :: u 13 :: .pointer (some ⟨pi, 0, none⟩) :: .int .i64 ev1 :: u 16 :: u 17 :: u 18 :: u 19 :: u 20 :: u 21 :: u 22 :: u 23 :: u 24 :: u 25 :: u 26 :: u 27 :: u 28 :: u 29 :: u 30 :: u 31 :: u 32 :: u 33 :: u 34 :: u 35 :: u 36 :: u 37 :: u 38 :: u 39 :: u 40 :: u 41 :: u 42 :: u 43 :: u 44 :: u 45 :: u 46 :: u 47 :: u 48 :: u 49 :: u 50 :: u 51 :: u 52 :: u 53 :: u 54 :: u 55 :: u 56 :: u 57 :: u 58 :: u 59 :: u 60 :: u 61 :: u 62 :: u 63 :: u 64 :: u 65 :: u 66 :: u 67 :: u 68 :: u 69 :: u 70 :: u 71 :: u 72 :: u 73 :: u 74 :: u 75 :: u 76 :: u 77 :: u 78 :: u 79 :: u 80 :: u 81 :: u 82 :: u 83 :: u 84 :: u 85 :: u 86 :: u 87 :: u 88 :: u 89 :: u 90 :: u 91 :: u 92 :: u 93 :: u 94 :: u 95 :: u 96 :: u 97 :: u 98 :: u 99 :: u 100 :: u 101 :: u 102 :: u 103 :: u 104 :: u 105 :: u 106 :: u 107 :: u 108 :: u 109 :: u 110 :: u 111 :: u 112 :: u 113 :: u 114 :: u 115 :: u 116 :: u 117 :: u 118 :: []), []⟩) → K0 a V9 := by
      rintro V9 pi R1 ev1 a hX9 yi bi hc1 ⟨u, rfl⟩
      refine hK0 _ _ ?_
      clear hK0 K0
      replace q1 := q1.below hX9 q1.lt
      replace q2 := q2.below hX9 q2.lt
      replace hg := hg.go hX9
      replace hh := (hh.below hX9).up hX9.size
      replace hi := (hi.below hX9).up hX9.size
      have B_V9 := ex_trans B_V7 hX9
      have zi : w.heap.size ≤ pi := by have := B_V7.size; omega
      have a0 : V9.cell? ⟨pq1, 0, none⟩ = some (.int .i64 t.g.base) := q1.cell 0
      have a1 : V9.cell? ⟨pq1, 1, none⟩ = some (.slice Ab t.g.bands.length cb) := q1.cell 1
      have a2 : V9.cell? ⟨pq1, 2, none⟩ = some (.slice Ad t.g.depths.length cd) := q1.cell 2
      have a3 : V9.cell? ⟨pq1, 3, none⟩ = some (.int .i64 t.g.blo) := q1.cell 3
      have a4 : V9.cell? ⟨pq1, 4, none⟩ = some (.int .i64 t.g.bhi) := q1.cell 4
      have la := q1.lt
      go_wp2_with fail
      refine (Glass_any t.g _ _ _ _ _ hg (by omega) (by omega)).mono ?_
      rintro e V10 ⟨⟨Ab2, Ad2, cb2, cd2, rfl, hg2⟩, hV10⟩
      replace q1 := q1.below hV10 q1.lt
      replace q2 := q2.below hV10 q2.lt
      replace hg := hg.go hV10
      replace hh := (hh.below hV10).up hV10.size
      replace hi := (hi.below hV10).up hV10.size
      replace bi := bi.below hV10 bi.lt
      have B_V10 := ex_trans B_V9 hV10
      clear a0 a1 a2 a3 a4 la
      go_wp2_with fail
      refine (History_any _ _ h _ (by omega) hh).mono ?_
      rintro e V11 ⟨⟨Ah2, ch2, rfl, -, -, hh2⟩, hV11⟩
      replace q1 := q1.below hV11 q1.lt
      replace q2 := q2.below hV11 q2.lt
      replace hg := hg.go hV11
      replace hh := (hh.below hV11).up hV11.size
      replace hi := (hi.below hV11).up hV11.size
      replace bi := bi.below hV11 bi.lt
      replace hg2 := hg2.go hV11
      have B_V11 := ex_trans B_V10 hV11
      go_wp2_with fail
      refine (Ices_any _ _ l _ (by omega) hi).mono ?_
      rintro e V12 ⟨⟨Ai2, ci2, rfl, -, -, hi2⟩, hV12⟩
      replace q1 := q1.below hV12 q1.lt
      replace q2 := q2.below hV12 q2.lt
      replace hg := hg.go hV12
      replace hh := (hh.below hV12).up hV12.size
      replace hi := (hi.below hV12).up hV12.size
      replace bi := bi.below hV12 bi.lt
      replace hg2 := hg2.go hV12
      replace hh2 := (hh2.below hV12).up hV12.size
      have B_V12 := ex_trans B_V11 hV12
      go_wp2_with fail
      refine (Zeros_v t.g _ _ _ _ _ _ _ _ h l _ hg2 hh2 hi2 (useE_0 HL.out.use0).2).mono ?_
      rintro e V13 ⟨⟨A9, n9, ev9, zs, rfl, hzv, hsz⟩, hV13⟩
      replace q1 := q1.below hV13 q1.lt
      replace q2 := q2.below hV13 q2.lt
      replace hg := hg.go hV13
      replace hh := (hh.below hV13).up hV13.size
      replace hi := (hi.below hV13).up hV13.size
      replace bi := bi.below hV13 bi.lt
      replace hg2 := hg2.go hV13
      replace hh2 := (hh2.below hV13).up hV13.size
      replace hi2 := (hi2.below hV13).up hV13.size
      have B_V13 := ex_trans B_V12 hV13
      clear hg2 hh2 hi2
      obtain ⟨rfl, rfl, hZ⟩ := zeros_ok2 HL.out.ag hzv.out
      have HZ := Lib.hid hZ
      clear hZ hzv
      obtain ⟨rfl, hE1⟩ := cor_ends HA.out HR.out HZ.out HKT.out hc1.out
      have HE1 := Lib.hid hE1
      clear hE1 hc1
      have hzb := zs_bd HO.out.ok HZ.out k hkl
      have hsh := HO.out.rd.shown
      have her := HO.out.rd.err
      rw [HP.out.1, HP.out.2] at HE1
      generalize hzk : gR zs k = z at *
      have HZK := Lib.hid hzk
      clear hzk
      go_upto_region 7 with fail
      have b0 : V13.cell? ⟨pq2, 0, none⟩ = some (.int .i64 r.day) := q2.cell 0
      have b1 : V13.cell? ⟨pq2, 1, none⟩ = some (.int .i64 r.shown) := q2.cell 1
      have b2 : V13.cell? ⟨pq2, 2, none⟩ = some (.int .i64 r.err) := q2.cell 2
      rw [HK.out] at b0
      have lb := q2.lt
      obtain ⟨bz, oz, rfl, hbz, z0, z1⟩ := IsRgs.at_ hsz hkl
      rw [HZK.out] at z0 z1
      have i0 := bi.cell 0
      have i1 := bi.cell 1
      have li := bi.lt
      simp at i0 i1
      rw [HE1.out.1] at i0
      rw [HE1.out.2] at i1
      refine wp_region_ext (by kernel_rfl) (by kernel_rfl) ?_
      repeat (go_big_quiet_step ((first | (go_at_call 16; exact Calls.ext_of (sl_awake _)) | (go_at_call 42; exact Calls.ext_of (sr_between _ _ _)))))
      refine wpQuiet_nil ?_; intro _ hw'; obtain ⟨X, rfl⟩ := hw'
      go_wp2
      go_ret
      exact ⟨rfl, ex_trans B_V13 X.h⟩
     refine wp_region_ext_tq 14 (.quiet 0 (.quiet 2 (.quiet 4 (.quiet 6 (.fork 1 (.fork 3 (.fork 5 (.fork 7 (.fork 8 (.quiet 9 (.quiet 10 (.quiet 11 (.loud 12 (.loud 13 .done))))) 12 (.loud 8 (.quiet 9 (.quiet 10 (.quiet 11 (.loud 13 .done)))))) 12 (.loud 7 (.loud 8 (.quiet 9 (.quiet 10 (.quiet 11 (.loud 13 .done))))))) 12 (.loud 5 (.loud 7 (.loud 8 (.quiet 9 (.quiet 10 (.quiet 11 (.loud 13 .done)))))))) 12 (.loud 3 (.loud 5 (.loud 7 (.loud 8 (.quiet 9 (.quiet 10 (.quiet 11 (.loud 13 .done))))))))) 12 (.loud 1 (.loud 3 (.loud 5 (.loud 7 (.loud 8 (.quiet 9 (.quiet 10 (.quiet 11 (.loud 13 .done)))))))))))))) (by kernel_rfl) (by kernel_rfl) (by intro d _ _ _ _ h; cases d <;> exact h) ?_
     have D0 := (Below.refl V7.heap.size V7).drew
     repeat (refine tq_quiet rfl ?_; first | (refine wpQuiet_load_row rfl 29 _ rfl _ rfl 29 _ (0, 0) _ q1.ex Tryz.underlying29 rfl (by kernel_rfl) ?_; simp only [Act.put, List.setIfInBounds_toArray, List.set_cons_zero, List.set_cons_succ]; refine wpQuiet_nil ?_) | (refine wpQuiet_load_row rfl 33 _ rfl _ rfl 33 _ (0, 0) _ q2.ex Tryz.underlying33 rfl (by kernel_rfl) ?_; simp only [Act.put, List.setIfInBounds_toArray, List.set_cons_zero, List.set_cons_succ]; refine wpQuiet_nil ?_) | (go_big_quiet_step (fail); refine wpQuiet_nil ?_))
     refine tq_fork rfl rfl ?_ ?_
     ·
      go_wp2_with fail
      refine (sr_Tube t Ab Ad cb cd _ (hg.go (((Below.refl V7.heap.size V7)).drew)) (by omega) (by omega)).mono ?_
      rintro e V14 ⟨⟨Ab1, Ad1, cb1, cd1, rfl, hg1⟩, hV14⟩
      have N1 := ex_trans ((Below.refl V7.heap.size V7)).drew hV14
      go_wp2_with fail
      refine ⟨inEx N1, ?_⟩
      repeat (refine tq_quiet rfl ?_; go_big_quiet_step (fail); refine wpQuiet_nil ?_)
      refine tq_fork rfl rfl ?_ ?_
      ·
       go_wp2_with fail
       refine (History_any _ _ h _ (by omega) (hh.go (N1))).mono ?_
       rintro e V15 ⟨⟨Ah1, ch1, rfl, -, -, hh1⟩, hV15⟩
       have N3 := ex_trans N1 hV15
       go_wp2_with fail
       replace hg1 := hg1.go hV15
       refine ⟨inEx N3, ?_⟩
       repeat (refine tq_quiet rfl ?_; go_big_quiet_step (fail); refine wpQuiet_nil ?_)
       refine tq_fork rfl rfl ?_ ?_
       ·
        go_wp2_with fail
        refine (Ices_any _ _ l _ (by omega) (hi.go (N3))).mono ?_
        rintro e V16 ⟨⟨Ai1, ci1, rfl, -, -, hi1⟩, hV16⟩
        have N5 := ex_trans N3 hV16
        go_wp2_with fail
        replace hg1 := hg1.go hV16
        replace hh1 := hh1.go hV16
        refine ⟨inEx N5, ?_⟩
        repeat (refine tq_quiet rfl ?_; go_big_quiet_step (fail); refine wpQuiet_nil ?_)
        refine tq_fork rfl rfl ?_ ?_
        ·
         go_wp2_with fail
         refine (sr_Reading r _).mono ?_
         rintro e V17 ⟨rfl, hV17⟩
         have N7 := ex_trans N5 hV17
         go_wp2_with fail
         replace hg1 := hg1.go hV17
         replace hh1 := hh1.go hV17
         replace hi1 := hi1.go hV17
         refine ⟨inEx N7, ?_⟩
         repeat (refine tq_quiet rfl ?_; go_big_quiet_step (fail); refine wpQuiet_nil ?_)
         refine tq_fork rfl rfl ?_ ?_
         ·
          go_wp2_with fail
          refine (Correct_v t Ab1 Ad1 cb1 cd1 Ah1 Ai1 ch1 ci1 h l r _ hg1 hh1 hi1 (by omega)).mono ?_
          rintro e V18 ⟨⟨R1, ev1, rfl, hc1⟩, hV18⟩
          have N8 := ex_trans N7 hV18
          go_wp2_with fail
          refine ⟨inEx N8, ?_⟩
          repeat (refine tq_quiet rfl ?_; go_big_quiet_step (fail); refine wpQuiet_nil ?_)
          refine tq_loud rfl ?_
          go_wp2_with fail
          have si := (N8).size
          try simp at si
          have N12 := ex_alloc N8 (.cells #[.int .i64 0, .int .i64 0] 41)
          have bi : Blk (V18.alloc (.cells #[.int .i64 0, .int .i64 0] 41)) (V18.heap.size) 41 #[.int .i64 0, .int .i64 0] := Blk.new' _ _ _ (by first | rfl | (simp; done) | (simp; omega))
          obtain ⟨pi, hpi⟩ : ∃ p, V18.heap.size = p := ⟨_, rfl⟩
          rw [hpi] at bi
          try rw [hpi]
          have yi : V7.heap.size ≤ pi := by omega
          clear si
          refine ⟨inEx N12, ?_⟩
          repeat (refine tq_quiet rfl ?_; go_big_quiet_step (fail); refine wpQuiet_nil ?_)
          refine tq_loud rfl ?_
          have XA13 := N12
          generalize (V18.alloc (.cells #[.int .i64 0, .int .i64 0] 41)) = V19 at *
          have sc0 : V19.cell? ⟨pi, 0, none⟩ = some (.int .i64 0) := bi.cell 0
          have sc1 : V19.cell? ⟨pi, 1, none⟩ = some (.int .i64 0) := bi.cell 1
          have sf := bi.frozen0
          have sl := bi.lt
          go_wp2_with fail
          replace bi := bi.set_ 0 (.int .i64 R1.lo)
          replace XA13 := ex_set (p := ⟨pi, 0, none⟩) XA13 yi (.int .i64 R1.lo)
          replace bi := bi.set_ 1 (.int .i64 R1.hi)
          replace XA13 := ex_set (p := ⟨pi, 1, none⟩) XA13 yi (.int .i64 R1.hi)
          simp only [List.setIfInBounds_toArray, List.set_cons_zero, List.set_cons_succ] at bi
          clear sf sl sc0 sc1
          generalize ((V19.setCell ⟨pi, 0, none⟩ (.int .i64 R1.lo)).setCell ⟨pi, 1, none⟩ (.int .i64 R1.hi)) = V20 at *
          refine ⟨inEx XA13, ?_⟩
          repeat (refine tq_quiet rfl ?_; go_big_quiet_step (fail); refine wpQuiet_nil ?_)
          refine tq_done (r := [_]) rfl ?_
          go_wp2_with fail
          exact hrest V20 pi R1 ev1 _ (XA13) yi bi hc1 (exFrame (by kernel_rfl))
         ·
          go_wp2_with fail
          have si := (N7).size
          try simp at si
          have N12 := ex_alloc N7 (.cells #[.int .i64 0, .int .i64 0] 41)
          have bi : Blk (V17.alloc (.cells #[.int .i64 0, .int .i64 0] 41)) (V17.heap.size) 41 #[.int .i64 0, .int .i64 0] := Blk.new' _ _ _ (by first | rfl | (simp; done) | (simp; omega))
          replace hg1 := hg1.go (ex_alloc (Below.refl V17.heap.size V17) (.cells #[.int .i64 0, .int .i64 0] 41))
          replace hh1 := hh1.go (ex_alloc (Below.refl V17.heap.size V17) (.cells #[.int .i64 0, .int .i64 0] 41))
          replace hi1 := hi1.go (ex_alloc (Below.refl V17.heap.size V17) (.cells #[.int .i64 0, .int .i64 0] 41))
          obtain ⟨pi, hpi⟩ : ∃ p, V17.heap.size = p := ⟨_, rfl⟩
          rw [hpi] at bi
          try rw [hpi]
          have yi : V7.heap.size ≤ pi := by omega
          clear si
          refine ⟨inEx N12, ?_⟩
          repeat (refine tq_quiet rfl ?_; go_big_quiet_step (fail); refine wpQuiet_nil ?_)
          refine tq_loud rfl ?_
          go_wp2_with fail
          refine (Correct_v t Ab1 Ad1 cb1 cd1 Ah1 Ai1 ch1 ci1 h l r _ hg1 hh1 hi1 (by omega)).mono ?_
          rintro e V21 ⟨⟨R1, ev1, rfl, hc1⟩, hV21⟩
          replace bi := Blk.below bi hV21 bi.lt
          have N8 := ex_trans N12 hV21
          go_wp2_with fail
          refine ⟨inEx N8, ?_⟩
          repeat (refine tq_quiet rfl ?_; go_big_quiet_step (fail); refine wpQuiet_nil ?_)
          refine tq_loud rfl ?_
          have XA13 := N8
          generalize V21 = V22 at *
          have sc0 : V22.cell? ⟨pi, 0, none⟩ = some (.int .i64 0) := bi.cell 0
          have sc1 : V22.cell? ⟨pi, 1, none⟩ = some (.int .i64 0) := bi.cell 1
          have sf := bi.frozen0
          have sl := bi.lt
          go_wp2_with fail
          replace bi := bi.set_ 0 (.int .i64 R1.lo)
          replace XA13 := ex_set (p := ⟨pi, 0, none⟩) XA13 yi (.int .i64 R1.lo)
          replace bi := bi.set_ 1 (.int .i64 R1.hi)
          replace XA13 := ex_set (p := ⟨pi, 1, none⟩) XA13 yi (.int .i64 R1.hi)
          simp only [List.setIfInBounds_toArray, List.set_cons_zero, List.set_cons_succ] at bi
          clear sf sl sc0 sc1
          generalize ((V22.setCell ⟨pi, 0, none⟩ (.int .i64 R1.lo)).setCell ⟨pi, 1, none⟩ (.int .i64 R1.hi)) = V23 at *
          refine ⟨inEx XA13, ?_⟩
          repeat (refine tq_quiet rfl ?_; go_big_quiet_step (fail); refine wpQuiet_nil ?_)
          refine tq_done (r := [_]) rfl ?_
          go_wp2_with fail
          exact hrest V23 pi R1 ev1 _ (XA13) yi bi hc1 (exFrame (by kernel_rfl))
        ·
         go_wp2_with fail
         have si := (N5).size
         try simp at si
         have N12 := ex_alloc N5 (.cells #[.int .i64 0, .int .i64 0] 41)
         have bi : Blk (V16.alloc (.cells #[.int .i64 0, .int .i64 0] 41)) (V16.heap.size) 41 #[.int .i64 0, .int .i64 0] := Blk.new' _ _ _ (by first | rfl | (simp; done) | (simp; omega))
         replace hg1 := hg1.go (ex_alloc (Below.refl V16.heap.size V16) (.cells #[.int .i64 0, .int .i64 0] 41))
         replace hh1 := hh1.go (ex_alloc (Below.refl V16.heap.size V16) (.cells #[.int .i64 0, .int .i64 0] 41))
         replace hi1 := hi1.go (ex_alloc (Below.refl V16.heap.size V16) (.cells #[.int .i64 0, .int .i64 0] 41))
         obtain ⟨pi, hpi⟩ : ∃ p, V16.heap.size = p := ⟨_, rfl⟩
         rw [hpi] at bi
         try rw [hpi]
         have yi : V7.heap.size ≤ pi := by omega
         clear si
         refine ⟨inEx N12, ?_⟩
         repeat (refine tq_quiet rfl ?_; go_big_quiet_step (fail); refine wpQuiet_nil ?_)
         refine tq_loud rfl ?_
         go_wp2_with fail
         refine (sr_Reading r _).mono ?_
         rintro e V24 ⟨rfl, hV24⟩
         replace bi := Blk.below bi hV24 bi.lt
         have N7 := ex_trans N12 hV24
         go_wp2_with fail
         replace hg1 := hg1.go hV24
         replace hh1 := hh1.go hV24
         replace hi1 := hi1.go hV24
         refine ⟨inEx N7, ?_⟩
         repeat (refine tq_quiet rfl ?_; go_big_quiet_step (fail); refine wpQuiet_nil ?_)
         refine tq_loud rfl ?_
         go_wp2_with fail
         refine (Correct_v t Ab1 Ad1 cb1 cd1 Ah1 Ai1 ch1 ci1 h l r _ hg1 hh1 hi1 (by omega)).mono ?_
         rintro e V25 ⟨⟨R1, ev1, rfl, hc1⟩, hV25⟩
         replace bi := Blk.below bi hV25 bi.lt
         have N8 := ex_trans N7 hV25
         go_wp2_with fail
         refine ⟨inEx N8, ?_⟩
         repeat (refine tq_quiet rfl ?_; go_big_quiet_step (fail); refine wpQuiet_nil ?_)
         refine tq_loud rfl ?_
         have XA13 := N8
         generalize V25 = V26 at *
         have sc0 : V26.cell? ⟨pi, 0, none⟩ = some (.int .i64 0) := bi.cell 0
         have sc1 : V26.cell? ⟨pi, 1, none⟩ = some (.int .i64 0) := bi.cell 1
         have sf := bi.frozen0
         have sl := bi.lt
         go_wp2_with fail
         replace bi := bi.set_ 0 (.int .i64 R1.lo)
         replace XA13 := ex_set (p := ⟨pi, 0, none⟩) XA13 yi (.int .i64 R1.lo)
         replace bi := bi.set_ 1 (.int .i64 R1.hi)
         replace XA13 := ex_set (p := ⟨pi, 1, none⟩) XA13 yi (.int .i64 R1.hi)
         simp only [List.setIfInBounds_toArray, List.set_cons_zero, List.set_cons_succ] at bi
         clear sf sl sc0 sc1
         generalize ((V26.setCell ⟨pi, 0, none⟩ (.int .i64 R1.lo)).setCell ⟨pi, 1, none⟩ (.int .i64 R1.hi)) = V27 at *
         refine ⟨inEx XA13, ?_⟩
         repeat (refine tq_quiet rfl ?_; go_big_quiet_step (fail); refine wpQuiet_nil ?_)
         refine tq_done (r := [_]) rfl ?_
         go_wp2_with fail
         exact hrest V27 pi R1 ev1 _ (XA13) yi bi hc1 (exFrame (by kernel_rfl))
       ·
        go_wp2_with fail
        have si := (N3).size
        try simp at si
        have N12 := ex_alloc N3 (.cells #[.int .i64 0, .int .i64 0] 41)
        have bi : Blk (V15.alloc (.cells #[.int .i64 0, .int .i64 0] 41)) (V15.heap.size) 41 #[.int .i64 0, .int .i64 0] := Blk.new' _ _ _ (by first | rfl | (simp; done) | (simp; omega))
        replace hg1 := hg1.go (ex_alloc (Below.refl V15.heap.size V15) (.cells #[.int .i64 0, .int .i64 0] 41))
        replace hh1 := hh1.go (ex_alloc (Below.refl V15.heap.size V15) (.cells #[.int .i64 0, .int .i64 0] 41))
        obtain ⟨pi, hpi⟩ : ∃ p, V15.heap.size = p := ⟨_, rfl⟩
        rw [hpi] at bi
        try rw [hpi]
        have yi : V7.heap.size ≤ pi := by omega
        clear si
        refine ⟨inEx N12, ?_⟩
        repeat (refine tq_quiet rfl ?_; go_big_quiet_step (fail); refine wpQuiet_nil ?_)
        refine tq_loud rfl ?_
        go_wp2_with fail
        refine (Ices_any _ _ l _ (by omega) (hi.go (N12))).mono ?_
        rintro e V28 ⟨⟨Ai1, ci1, rfl, -, -, hi1⟩, hV28⟩
        replace bi := Blk.below bi hV28 bi.lt
        have N5 := ex_trans N12 hV28
        go_wp2_with fail
        replace hg1 := hg1.go hV28
        replace hh1 := hh1.go hV28
        refine ⟨inEx N5, ?_⟩
        repeat (refine tq_quiet rfl ?_; go_big_quiet_step (fail); refine wpQuiet_nil ?_)
        refine tq_loud rfl ?_
        go_wp2_with fail
        refine (sr_Reading r _).mono ?_
        rintro e V29 ⟨rfl, hV29⟩
        replace bi := Blk.below bi hV29 bi.lt
        have N7 := ex_trans N5 hV29
        go_wp2_with fail
        replace hg1 := hg1.go hV29
        replace hh1 := hh1.go hV29
        replace hi1 := hi1.go hV29
        refine ⟨inEx N7, ?_⟩
        repeat (refine tq_quiet rfl ?_; go_big_quiet_step (fail); refine wpQuiet_nil ?_)
        refine tq_loud rfl ?_
        go_wp2_with fail
        refine (Correct_v t Ab1 Ad1 cb1 cd1 Ah1 Ai1 ch1 ci1 h l r _ hg1 hh1 hi1 (by omega)).mono ?_
        rintro e V30 ⟨⟨R1, ev1, rfl, hc1⟩, hV30⟩
        replace bi := Blk.below bi hV30 bi.lt
        have N8 := ex_trans N7 hV30
        go_wp2_with fail
        refine ⟨inEx N8, ?_⟩
        repeat (refine tq_quiet rfl ?_; go_big_quiet_step (fail); refine wpQuiet_nil ?_)
        refine tq_loud rfl ?_
        have XA13 := N8
        generalize V30 = V31 at *
        have sc0 : V31.cell? ⟨pi, 0, none⟩ = some (.int .i64 0) := bi.cell 0
        have sc1 : V31.cell? ⟨pi, 1, none⟩ = some (.int .i64 0) := bi.cell 1
        have sf := bi.frozen0
        have sl := bi.lt
        go_wp2_with fail
        replace bi := bi.set_ 0 (.int .i64 R1.lo)
        replace XA13 := ex_set (p := ⟨pi, 0, none⟩) XA13 yi (.int .i64 R1.lo)
        replace bi := bi.set_ 1 (.int .i64 R1.hi)
        replace XA13 := ex_set (p := ⟨pi, 1, none⟩) XA13 yi (.int .i64 R1.hi)
        simp only [List.setIfInBounds_toArray, List.set_cons_zero, List.set_cons_succ] at bi
        clear sf sl sc0 sc1
        generalize ((V31.setCell ⟨pi, 0, none⟩ (.int .i64 R1.lo)).setCell ⟨pi, 1, none⟩ (.int .i64 R1.hi)) = V32 at *
        refine ⟨inEx XA13, ?_⟩
        repeat (refine tq_quiet rfl ?_; go_big_quiet_step (fail); refine wpQuiet_nil ?_)
        refine tq_done (r := [_]) rfl ?_
        go_wp2_with fail
        exact hrest V32 pi R1 ev1 _ (XA13) yi bi hc1 (exFrame (by kernel_rfl))
      ·
       go_wp2_with fail
       have si := (N1).size
       try simp at si
       have N12 := ex_alloc N1 (.cells #[.int .i64 0, .int .i64 0] 41)
       have bi : Blk (V14.alloc (.cells #[.int .i64 0, .int .i64 0] 41)) (V14.heap.size) 41 #[.int .i64 0, .int .i64 0] := Blk.new' _ _ _ (by first | rfl | (simp; done) | (simp; omega))
       replace hg1 := hg1.go (ex_alloc (Below.refl V14.heap.size V14) (.cells #[.int .i64 0, .int .i64 0] 41))
       obtain ⟨pi, hpi⟩ : ∃ p, V14.heap.size = p := ⟨_, rfl⟩
       rw [hpi] at bi
       try rw [hpi]
       have yi : V7.heap.size ≤ pi := by omega
       clear si
       refine ⟨inEx N12, ?_⟩
       repeat (refine tq_quiet rfl ?_; go_big_quiet_step (fail); refine wpQuiet_nil ?_)
       refine tq_loud rfl ?_
       go_wp2_with fail
       refine (History_any _ _ h _ (by omega) (hh.go (N12))).mono ?_
       rintro e V33 ⟨⟨Ah1, ch1, rfl, -, -, hh1⟩, hV33⟩
       replace bi := Blk.below bi hV33 bi.lt
       have N3 := ex_trans N12 hV33
       go_wp2_with fail
       replace hg1 := hg1.go hV33
       refine ⟨inEx N3, ?_⟩
       repeat (refine tq_quiet rfl ?_; go_big_quiet_step (fail); refine wpQuiet_nil ?_)
       refine tq_loud rfl ?_
       go_wp2_with fail
       refine (Ices_any _ _ l _ (by omega) (hi.go (N3))).mono ?_
       rintro e V34 ⟨⟨Ai1, ci1, rfl, -, -, hi1⟩, hV34⟩
       replace bi := Blk.below bi hV34 bi.lt
       have N5 := ex_trans N3 hV34
       go_wp2_with fail
       replace hg1 := hg1.go hV34
       replace hh1 := hh1.go hV34
       refine ⟨inEx N5, ?_⟩
       repeat (refine tq_quiet rfl ?_; go_big_quiet_step (fail); refine wpQuiet_nil ?_)
       refine tq_loud rfl ?_
       go_wp2_with fail
       refine (sr_Reading r _).mono ?_
       rintro e V35 ⟨rfl, hV35⟩
       replace bi := Blk.below bi hV35 bi.lt
       have N7 := ex_trans N5 hV35
       go_wp2_with fail
       replace hg1 := hg1.go hV35
       replace hh1 := hh1.go hV35
       replace hi1 := hi1.go hV35
       refine ⟨inEx N7, ?_⟩
       repeat (refine tq_quiet rfl ?_; go_big_quiet_step (fail); refine wpQuiet_nil ?_)
       refine tq_loud rfl ?_
       go_wp2_with fail
       refine (Correct_v t Ab1 Ad1 cb1 cd1 Ah1 Ai1 ch1 ci1 h l r _ hg1 hh1 hi1 (by omega)).mono ?_
       rintro e V36 ⟨⟨R1, ev1, rfl, hc1⟩, hV36⟩
       replace bi := Blk.below bi hV36 bi.lt
       have N8 := ex_trans N7 hV36
       go_wp2_with fail
       refine ⟨inEx N8, ?_⟩
       repeat (refine tq_quiet rfl ?_; go_big_quiet_step (fail); refine wpQuiet_nil ?_)
       refine tq_loud rfl ?_
       have XA13 := N8
       generalize V36 = V37 at *
       have sc0 : V37.cell? ⟨pi, 0, none⟩ = some (.int .i64 0) := bi.cell 0
       have sc1 : V37.cell? ⟨pi, 1, none⟩ = some (.int .i64 0) := bi.cell 1
       have sf := bi.frozen0
       have sl := bi.lt
       go_wp2_with fail
       replace bi := bi.set_ 0 (.int .i64 R1.lo)
       replace XA13 := ex_set (p := ⟨pi, 0, none⟩) XA13 yi (.int .i64 R1.lo)
       replace bi := bi.set_ 1 (.int .i64 R1.hi)
       replace XA13 := ex_set (p := ⟨pi, 1, none⟩) XA13 yi (.int .i64 R1.hi)
       simp only [List.setIfInBounds_toArray, List.set_cons_zero, List.set_cons_succ] at bi
       clear sf sl sc0 sc1
       generalize ((V37.setCell ⟨pi, 0, none⟩ (.int .i64 R1.lo)).setCell ⟨pi, 1, none⟩ (.int .i64 R1.hi)) = V38 at *
       refine ⟨inEx XA13, ?_⟩
       repeat (refine tq_quiet rfl ?_; go_big_quiet_step (fail); refine wpQuiet_nil ?_)
       refine tq_done (r := [_]) rfl ?_
       go_wp2_with fail
       exact hrest V38 pi R1 ev1 _ (XA13) yi bi hc1 (exFrame (by kernel_rfl))
     ·
      go_wp2_with fail
      have si := ((Below.refl V7.heap.size V7)).size
      try simp at si
      have N12 := ex_alloc (Below.refl V7.heap.size V7) (.cells #[.int .i64 0, .int .i64 0] 41)
      have bi : Blk (V7.alloc (.cells #[.int .i64 0, .int .i64 0] 41)) (V7.heap.size) 41 #[.int .i64 0, .int .i64 0] := Blk.new' _ _ _ (by first | rfl | (simp; done) | (simp; omega))
      obtain ⟨pi, hpi⟩ : ∃ p, V7.heap.size = p := ⟨_, rfl⟩
      rw [hpi] at bi
      try rw [hpi]
      have yi : V7.heap.size ≤ pi := by omega
      clear si
      refine ⟨inEx (N12).drew, ?_⟩
      repeat (refine tq_quiet rfl ?_; go_big_quiet_step (fail); refine wpQuiet_nil ?_)
      refine tq_loud rfl ?_
      go_wp2_with fail
      refine (sr_Tube t Ab Ad cb cd _ (hg.go ((N12).drew)) (by omega) (by omega)).mono ?_
      rintro e V39 ⟨⟨Ab1, Ad1, cb1, cd1, rfl, hg1⟩, hV39⟩
      replace bi := Blk.below (Blk.drew bi) hV39 bi.lt
      have N1 := ex_trans (N12).drew hV39
      go_wp2_with fail
      refine ⟨inEx N1, ?_⟩
      repeat (refine tq_quiet rfl ?_; go_big_quiet_step (fail); refine wpQuiet_nil ?_)
      refine tq_loud rfl ?_
      go_wp2_with fail
      refine (History_any _ _ h _ (by omega) (hh.go (N1))).mono ?_
      rintro e V40 ⟨⟨Ah1, ch1, rfl, -, -, hh1⟩, hV40⟩
      replace bi := Blk.below bi hV40 bi.lt
      have N3 := ex_trans N1 hV40
      go_wp2_with fail
      replace hg1 := hg1.go hV40
      refine ⟨inEx N3, ?_⟩
      repeat (refine tq_quiet rfl ?_; go_big_quiet_step (fail); refine wpQuiet_nil ?_)
      refine tq_loud rfl ?_
      go_wp2_with fail
      refine (Ices_any _ _ l _ (by omega) (hi.go (N3))).mono ?_
      rintro e V41 ⟨⟨Ai1, ci1, rfl, -, -, hi1⟩, hV41⟩
      replace bi := Blk.below bi hV41 bi.lt
      have N5 := ex_trans N3 hV41
      go_wp2_with fail
      replace hg1 := hg1.go hV41
      replace hh1 := hh1.go hV41
      refine ⟨inEx N5, ?_⟩
      repeat (refine tq_quiet rfl ?_; go_big_quiet_step (fail); refine wpQuiet_nil ?_)
      refine tq_loud rfl ?_
      go_wp2_with fail
      refine (sr_Reading r _).mono ?_
      rintro e V42 ⟨rfl, hV42⟩
      replace bi := Blk.below bi hV42 bi.lt
      have N7 := ex_trans N5 hV42
      go_wp2_with fail
      replace hg1 := hg1.go hV42
      replace hh1 := hh1.go hV42
      replace hi1 := hi1.go hV42
      refine ⟨inEx N7, ?_⟩
      repeat (refine tq_quiet rfl ?_; go_big_quiet_step (fail); refine wpQuiet_nil ?_)
      refine tq_loud rfl ?_
      go_wp2_with fail
      refine (Correct_v t Ab1 Ad1 cb1 cd1 Ah1 Ai1 ch1 ci1 h l r _ hg1 hh1 hi1 (by omega)).mono ?_
      rintro e V43 ⟨⟨R1, ev1, rfl, hc1⟩, hV43⟩
      replace bi := Blk.below bi hV43 bi.lt
      have N8 := ex_trans N7 hV43
      go_wp2_with fail
      refine ⟨inEx N8, ?_⟩
      repeat (refine tq_quiet rfl ?_; go_big_quiet_step (fail); refine wpQuiet_nil ?_)
      refine tq_loud rfl ?_
      have XA13 := N8
      generalize V43 = V44 at *
      have sc0 : V44.cell? ⟨pi, 0, none⟩ = some (.int .i64 0) := bi.cell 0
      have sc1 : V44.cell? ⟨pi, 1, none⟩ = some (.int .i64 0) := bi.cell 1
      have sf := bi.frozen0
      have sl := bi.lt
      go_wp2_with fail
      replace bi := bi.set_ 0 (.int .i64 R1.lo)
      replace XA13 := ex_set (p := ⟨pi, 0, none⟩) XA13 yi (.int .i64 R1.lo)
      replace bi := bi.set_ 1 (.int .i64 R1.hi)
      replace XA13 := ex_set (p := ⟨pi, 1, none⟩) XA13 yi (.int .i64 R1.hi)
      simp only [List.setIfInBounds_toArray, List.set_cons_zero, List.set_cons_succ] at bi
      clear sf sl sc0 sc1
      generalize ((V44.setCell ⟨pi, 0, none⟩ (.int .i64 R1.lo)).setCell ⟨pi, 1, none⟩ (.int .i64 R1.hi)) = V45 at *
      refine ⟨inEx XA13, ?_⟩
      repeat (refine tq_quiet rfl ?_; go_big_quiet_step (fail); refine wpQuiet_nil ?_)
      refine tq_done (r := [_]) rfl ?_
      go_wp2_with fail
      exact hrest V45 pi R1 ev1 _ (XA13) yi bi hc1 (exFrame (by kernel_rfl))


end Go.Proofs.YtkaogjhnogkcdaaGreat
end

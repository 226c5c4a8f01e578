/- The law StemMuch (walk). -/
import Derived.Test.YtkaogjhnogkcdaaGreatE21
import Derived.Test.YtkaogjhnogkcdaaGreatE25
import Derived.Test.YtkaogjhnogkcdaaGreatE19
import Derived.Test.YtkaogjhnogkcdaaGreatE10
set_option linter.unusedVariables false
set_option linter.unusedSimpArgs false
set_option linter.unusedSectionVars false
section
namespace Go.Proofs.YtkaogjhnogkcdaaGreat
open Go.RowKit
attribute [local go_sem] Ex.cell? Ex.frozen?

theorem ask_rB {t : Tb} {h : List Rg} {l : List Ic} {r : Rd} {n : Int} (ha : askE t h l r = 0) (h0 : 0 ≤ n) (h3 : n ≤ 300) : askE t h l (rB r n) = 0 := by
 obtain ⟨a, b⟩ := ask_0 ha
 obtain ⟨c, d⟩ := rdOk_iff.1 b
 exact ask_of a (rdOk_iff.2 ⟨c, rB_bd d h0 h3⟩)
theorem much_acc {t : Tb} {h : List Rg} {l : List Ic} {r : Rd} {most n e2 : Int} {R2 : Rg} {zs : List Rg} (ha : askE t h l r = 0) (hm : 0 ≤ most) (hr : refE t l r (agreeB t.g h l off0) = 0) (hz : ZsOf t.g h l zs) (h0 : 0 ≤ n) (h3 : n ≤ 300) (h2 : AccV t h l (rB r n) most R2 e2) :
  e2 = if okN t r (gR zs r.day.toNat) most n = true then 0 else 10 := by
 have hr' : refE t l (rB r n) (agreeB t.g h l off0) = 0 := hr
 rcases acc_ok (ask_rB ha h0 h3) hm hr' hz h2 with ⟨a, _, b⟩ | ⟨a, _, b⟩
 ·
  have a' : okN t r (gR zs r.day.toNat) most n = true := decide_eq_true a
  rw [if_pos a']; exact b
 ·
  rw [if_neg (by unfold okN; rw [decide_eq_true_eq]; have a' : most < (corP2 t (rB r n) (gR zs r.day.toNat)).hi - (corP2 t (rB r n) (gR zs r.day.toNat)).lo := a; omega)]; exact b
theorem bar_ok {t : Tb} {h : List Rg} {l : List Ic} {r : Rd} {most v ev : Int} (ha : askE t h l r = 0) (hm : 0 ≤ most) (hr : refE t l r (agreeB t.g h l off0) = 0) (h2 : BarV t h l r most v ev) : ∃ zs, ZsOf t.g h l zs ∧ MuchIs (okN t r (gR zs r.day.toNat) most) v ev := by
 rcases h2 with ⟨h2, _⟩ | ⟨_, _, _, _, h4⟩
 ·
  exact absurd (by rw [acc_2 ha hm, hr]) h2
 ·
  exact h4
set_option maxRecDepth 100000 in
set_option maxHeartbeats 12800000 in
theorem sl_much (t : Tb) (Ab Ad : Option Addr) (cb cd : Nat) (Ah Aw : Option Addr) (ch cw : Nat) (h : List Rg) (ws : List Int) (m : Int) (r : Rd) (m1 m2 : Int) (h1 : 0 ≤ m1 ∧ m1 ≤ 255) (h2 : 0 ≤ m2 ∧ m2 ≤ 255) (w : World) (hg : GlIn w w.heap.size t.g Ab Ad) (hh : SlAt w w.heap.size 2 Ah h.length (fR h)) (hw : SlAt w w.heap.size 1 Aw ws.length (fU ws)) (hwb : ∀ k, k < ws.length → 0 ≤ gI ws k ∧ gI ws k ≤ 65535) (hwl : ws.length ≤ maxLen) (hm : 0 ≤ m ∧ m ≤ 255) :
  Calls Tryz.prog 12 #[.agg #[.int .i64 t.g.base, .slice Ab t.g.bands.length cb, .slice Ad t.g.depths.length cd, .int .i64 t.g.blo, .int .i64 t.g.bhi, .int .i64 t.k.lo, .int .i64 t.k.hi, .int .i64 t.lag.lo, .int .i64 t.lag.hi, .int .i64 t.sq.lo, .int .i64 t.sq.hi, .int .i64 t.term], .slice Ah h.length ch, .slice Aw ws.length cw, .int .u8 m, .agg #[.int .i64 r.day, .int .i64 r.shown, .int .i64 r.err, .int .i64 r.bare, .int .i64 r.air.lo, .int .i64 r.air.hi, .int .i64 r.rate.lo, .int .i64 r.rate.hi, .int .i64 r.deep, .bool r.broken], .int .u8 m1, .int .u8 m2] w fun e w' => e = .returned (.bool true) ∧ Below w.heap.size w w' := by
 have HWB := Lib.hid hwb
 clear hwb
 go_enter Tryz.func12, Tryz.ntmps12
 go_upto_region 1 with fail
 show Code.wp _ _ _ _ _
 refine box2 (K := fun V => Code.wp _ _ _ _ V) ?_
 intro V hb1 q1 q2
 replace hg := hg.go hb1
 replace hh := (hh.below hb1).up hb1.size
 replace hw := (hw.below hb1).up hb1.size
 obtain ⟨pq1, hpq1⟩ : ∃ p, w.heap.size = p := ⟨_, rfl⟩
 obtain ⟨pq2, hpq2⟩ : ∃ p, w.heap.size + 1 = p := ⟨_, rfl⟩
 rw [hpq2] at q2 ⊢
 rw [hpq1] at q1 ⊢
 have hp1 : w.heap.size ≤ pq1 := by omega
 have hp2 : w.heap.size ≤ pq2 := by omega
 clear hpq1 hpq2
 go_wp2_with (refine pause_at 27 rfl ?_)
 refine Paused.mk ?_
 refine wpList_load_row rfl 29 _ rfl _ rfl 29 _ (0, 0) _ (q1) Tryz.underlying29 rfl (by kernel_rfl) ?_
 go_wp2_with fail
 refine (sl_lives t Ab Ad cb cd Ah Aw ch cw h ws m _ hg hh hw HWB.out hwl hm).mono ?_
 rintro e V1 ⟨hlv, hV1⟩
 replace q1 := q1.below hV1 q1.lt
 replace q2 := q2.below hV1 q2.lt
 replace hg := hg.go hV1
 replace hh := (hh.below hV1).up hV1.size
 replace hw := (hw.below hV1).up hV1.size
 have B_V1 := ex_trans hb1 hV1
 obtain ⟨hlv⟩ := hlv
 rcases hlv with ⟨A0, n0, c0, A0', n0', c0', rfl⟩ | ⟨Ai, ci, l, Az, cz, zs, rfl, hl, hci1, hci2, hi, hz⟩
 ·
  go_wp2_with fail
  refine (sl_awake _).mono ?_
  rintro e V2 ⟨rfl, hV2⟩
  replace q1 := q1.below hV2 q1.lt
  replace q2 := q2.below hV2 q2.lt
  replace hg := hg.go hV2
  replace hh := (hh.below hV2).up hV2.size
  replace hw := (hw.below hV2).up hV2.size
  have B_V2 := ex_trans B_V1 hV2
  go_wp2
  go_ret
  exact ⟨rfl, B_V2⟩
 ·
  have HL := Lib.hid hl
  have hnb := hl.nb
  have hnd := hl.nd
  have hnh := hl.nh
  have hl4 := hl.l4
  clear hl
  clear hw HWB
  go_wp2_with (refine pause_at 38 rfl ?_)
  refine Paused.mk ?_
  refine wpList_load_rowG (by kernel_rfl) 33 _ rfl _ (by kernel_rfl) 33 _ (0, 0) _ (q2) Tryz.underlying33 rfl (by kernel_rfl) ?_
  go_wp2_with fail
  refine (sr_isreading h.length r _ (by omega)).mono ?_
  rintro e V3 ⟨rfl, hV3⟩
  replace q1 := q1.below hV3 q1.lt
  replace q2 := q2.below hV3 q2.lt
  replace hg := hg.go hV3
  replace hh := (hh.below hV3).up hV3.size
  replace hi := (hi.below hV3).up hV3.size
  replace hz := (hz.below hV3).up hV3.size
  have B_V3 := ex_trans B_V1 hV3
  rcases Bool.eq_false_or_eq_true (rdOk h.length r) with hd | hd
  rotate_left
  ·
   rw [hd]
   clear hd
   go_wp2_with fail
   refine (sl_awake _).mono ?_
   rintro e V4 ⟨rfl, hV4⟩
   replace q1 := q1.below hV4 q1.lt
   replace q2 := q2.below hV4 q2.lt
   replace hg := hg.go hV4
   replace hh := (hh.below hV4).up hV4.size
   replace hi := (hi.below hV4).up hV4.size
   replace hz := (hz.below hV4).up hV4.size
   have B_V4 := ex_trans B_V3 hV4
   go_wp2
   go_ret
   exact ⟨rfl, B_V4⟩
  ·
   rw [hd]
   have HA := Lib.hid (ask_of HL.out.use0 hd)
   have HO := Lib.hid (ask_bd HA.out)
   obtain ⟨k, hk, hkl⟩ := HO.out.day
   have hday : 0 ≤ r.day ∧ r.day ≤ 1000000 := by omega
   have HK := Lib.hid hk
   have HKT : Hid (r.day.toNat = k) := Lib.hid (by omega)
   clear hk hd
   rcases Bool.eq_false_or_eq_true r.broken with hb | hb
   ·
    have b9 : V3.cell? ⟨pq2, 9, none⟩ = some (.bool r.broken) := q2.cell 9
    rw [hb] at b9
    have lb := q2.lt
    clear hb
    go_wp2_with fail
    refine (sl_awake _).mono ?_
    rintro e V5 ⟨rfl, hV5⟩
    replace q1 := q1.below hV5 q1.lt
    replace q2 := q2.below hV5 q2.lt
    replace hg := hg.go hV5
    replace hh := (hh.below hV5).up hV5.size
    replace hi := (hi.below hV5).up hV5.size
    replace hz := (hz.below hV5).up hV5.size
    have B_V5 := ex_trans B_V3 hV5
    go_wp2
    go_ret
    exact ⟨rfl, B_V5⟩
   ·
    have b9 : V3.cell? ⟨pq2, 9, none⟩ = some (.bool r.broken) := q2.cell 9
    rw [hb] at b9
    have lb := q2.lt
    have HB := Lib.hid hb
    clear hb
    go_wp2_with (refine pause_at 49 rfl ?_)
    refine Paused.mk ?_
    refine wpList_load_rowG (by kernel_rfl) 29 _ rfl _ (by kernel_rfl) 29 _ (0, 0) _ (q1) Tryz.underlying29 rfl (by kernel_rfl) ?_
    go_wp2_with (refine pause_at 51 rfl ?_)
    refine Paused.mk ?_
    refine wpList_load_rowG (by kernel_rfl) 33 _ rfl _ (by kernel_rfl) 33 _ (0, 0) _ (q2) Tryz.underlying33 rfl (by kernel_rfl) ?_
    clear b9 lb
    go_wp2_with fail
    refine (sr_stale t Ab Ad cb cd _ _ l r _ hi (by omega) hday).mono ?_
    rintro e V6 ⟨rfl, hV6⟩
    replace q1 := q1.below hV6 q1.lt
    replace q2 := q2.below hV6 q2.lt
    replace hg := hg.go hV6
    replace hh := (hh.below hV6).up hV6.size
    replace hi := (hi.below hV6).up hV6.size
    replace hz := (hz.below hV6).up hV6.size
    have B_V6 := ex_trans B_V3 hV6
    rcases Bool.eq_false_or_eq_true (staleB t l r.day) with hs | hs
    ·
     rw [hs]
     clear hs
     go_wp2_with fail
     refine (sl_awake _).mono ?_
     rintro e V7 ⟨rfl, hV7⟩
     replace q1 := q1.below hV7 q1.lt
     replace q2 := q2.below hV7 q2.lt
     replace hg := hg.go hV7
     replace hh := (hh.below hV7).up hV7.size
     replace hi := (hi.below hV7).up hV7.size
     replace hz := (hz.below hV7).up hV7.size
     have B_V7 := ex_trans B_V6 hV7
     go_wp2
     go_ret
     exact ⟨rfl, B_V7⟩
    ·
     rw [hs]
     have HS := Lib.hid hs
     clear hs
     have HR : Hid (refE t l r (agreeB t.g h l off0) = 0) := Lib.hid (by rw [HL.out.ag]; exact ref_of HB.out HS.out)
     clear hz
     have HM1 : 0 ≤ m1 := h1.1
     go_upto_region 4 with fail
     rename_i K0 hK0
     have hrest : ∀ (V8 : World) (v : Int) (ev : Int) (a : Act), Below V6.heap.size V6 V8 → Hid (BarV t h l r m1 v ev) → (∃ u : Nat → Value, a = ⟨List.toArray (u 0 :: .slice Ah h.length ch :: u 2 :: u 3 :: u 4 :: .int .u8 m1 :: .int .u8 m2 :: .pointer (some ⟨pq1, 0, none⟩) :: u 8 :: u 9 :: u 10 :: .pointer (some ⟨pq2, 0, none⟩) :: u 12 :: u 13 :: .bool false :: .slice Ai l.length ci :: u 16 :: u 17 :: .int .i64 v :: .int .i64 ev :: u 20 :: u 21 :: u 22 :: u 23 :: u 24 :: u 25 :: u 26 :: u 27 :: u 28 :: u 29 :: u 30 :: u 31 :: u 32 :: u 33 :: u 34 :: u 35 :: u 36 :: u 37 :: u 38 :: u 39 :: u 40 :: u 41 :: u 42 :: u 43 :: u 44 :: u 45 :: u 46 :: u 47 :: u 48 :: u 49 :: u 50 :: u 51 :: u 52 :: u 53 :: u 54 :: u 55 :: u 56 :: u 57 :: u 58 :: u 59 :: u 60 :: u 61 :: u 62 :: u 63 :: u 64 :: u 65 :: u 66 :: u 67 :: u 68 :: u 69 :: u 70 :: u 71 :: u 72 :: u 73 :: u 74 :: u 75 :: u 76 :: u 77 :: u 78 :: u 79 :: u 80 :: u 81 :: u 82 :: u 83 :: u 84 :: u 85 :: u 86 :: u 87 :: u 88 :: u 89 :: u 90 :: u 91 :: u 92 :: u 93 :: u 94 :: u 95 :: u 96 :: u 97 :: u 98 :: u 99 :: u 100 :: u 101 :: u 102 :: u 103 :: u 104 :: u 105 :: u 106 :: u 107 :: u 108 :: u 109 :: u 110 :: u 111 :: u 112 :: u 113 :: u 114 :: u 115 :: u 116 :: u 117 :: u 118 :: u 119 :: u 120 :: u 121 :: u 122 :: u 123 :: u 124 :: u 125 :: u 126 :: u 127 :: u 128 :: u 129 :: u 130 :: u 131 :: u 132 :: u 133 :: u 134 :: u 135 :: u 136 :: u 137 :: u 138 :: []), []⟩) → K0 a V8 := by
      rintro V8 v ev a hX9  hc ⟨u, rfl⟩
      refine hK0 _ _ ?_
      clear hK0 K0
      replace q1 := q1.below hX9 q1.lt
      replace q2 := q2.below hX9 q2.lt
      replace hg := hg.go hX9
      replace hh := (hh.below hX9).up hX9.size
      replace hi := (hi.below hX9).up hX9.size
      have B_V8 := ex_trans B_V6 hX9
      obtain ⟨zs, hz', hm'⟩ := bar_ok HA.out HM1 HR.out hc.out
      have HZ := Lib.hid hz'
      have HMU := Lib.hid hm'
      clear hz' hm' hc
      go_upto_region 5 with fail
      rename_i K0 hK0
      have hrest : ∀ (V9 : World) (px pf : Nat) (a : Act), Below V8.heap.size V8 V9 → px ≠ pf → V8.heap.size ≤ px → Blk V9 px 33 #[.int .i64 r.day, .int .i64 r.shown, .int .i64 r.err, .int .i64 r.bare, .int .i64 r.air.lo, .int .i64 r.air.hi, .int .i64 r.rate.lo, .int .i64 r.rate.hi, .int .i64 r.deep, .bool r.broken] → V8.heap.size ≤ pf → Blk V9 pf 33 #[.int .i64 r.day, .int .i64 r.shown, .int .i64 r.err, .int .i64 r.bare, .int .i64 r.air.lo, .int .i64 r.air.hi, .int .i64 r.rate.lo, .int .i64 r.rate.hi, .int .i64 r.deep, .bool r.broken] → (∃ u : Nat → Value, a = ⟨List.toArray (u 0 :: .slice Ah h.length ch :: u 2 :: u 3 :: u 4 :: .int .u8 m1 :: .int .u8 m2 :: .pointer (some ⟨pq1, 0, none⟩) :: u 8 :: u 9 :: u 10 :: .pointer (some ⟨pq2, 0, none⟩) :: u 12 :: u 13 :: .bool false :: .slice Ai l.length ci :: u 16 :: u 17 :: .int .i64 v :: .int .i64 ev :: .pointer (some ⟨px, 0, none⟩) :: .pointer (some ⟨pf, 0, none⟩) :: u 22 :: u 23 :: u 24 :: u 25 :: u 26 :: u 27 :: u 28 :: u 29 :: u 30 :: u 31 :: u 32 :: u 33 :: u 34 :: u 35 :: u 36 :: u 37 :: u 38 :: u 39 :: u 40 :: u 41 :: u 42 :: u 43 :: u 44 :: u 45 :: u 46 :: u 47 :: u 48 :: u 49 :: u 50 :: u 51 :: u 52 :: u 53 :: u 54 :: u 55 :: u 56 :: u 57 :: u 58 :: u 59 :: u 60 :: u 61 :: u 62 :: u 63 :: u 64 :: u 65 :: u 66 :: u 67 :: u 68 :: u 69 :: u 70 :: u 71 :: u 72 :: u 73 :: u 74 :: u 75 :: u 76 :: u 77 :: u 78 :: u 79 :: u 80 :: u 81 :: u 82 :: u 83 :: u 84 :: u 85 :: u 86 :: u 87 :: u 88 :: u 89 :: u 90 :: u 91 :: u 92 :: u 93 :: u 94 :: u 95 :: u 96 :: u 97 :: u 98 :: u 99 :: u 100 :: u 101 :: u 102 :: u 103 :: u 104 :: u 105 :: u 106 :: u 107 :: u 108 :: u 109 :: u 110 :: u 111 :: u 112 :: u 113 :: u 114 :: u 115 :: u 116 :: u 117 :: u 118 :: u 119 :: u 120 :: u 121 :: u 122 :: u 123 :: u 124 :: u 125 :: u 126 :: u 127 :: u 128 :: u 129 :: u 130 :: u 131 :: u 132 :: u 133 :: u 134 :: u 135 :: u 136 :: u 137 :: u 138 :: []), []⟩) → K0 a V9 := by
       rintro V9 px pf a hX9 nxf yx bx yf bf ⟨u, rfl⟩
       refine hK0 _ _ ?_
       clear hK0 K0
       have q1_0 := q1
       have q2_0 := q2
       have hg_0 := hg
       have hh_0 := hh
       have hi_0 := hi
       have X_V9 := hX9
       replace q1 := q1.below hX9 q1.lt
       replace q2 := q2.below hX9 q2.lt
       replace hg := hg.go hX9
       replace hh := (hh.below hX9).up hX9.size
       replace hi := (hi.below hX9).up hX9.size
       have B_V9 := ex_trans B_V8 hX9
       have zpx : w.heap.size ≤ px := by have := B_V8.size; omega
       have zpf : w.heap.size ≤ pf := by have := B_V8.size; omega
       have nfx : pf ≠ px := fun e => nxf e.symm
       rcases HMU.out with ⟨n, hn0, hn3, hf, hfa, rfl, rfl⟩ | ⟨hfa, rfl, rfl⟩
       ·
        have HF := Lib.hid hf
        obtain ⟨nn, hnn⟩ : ∃ x, min 300 (v + 1 + m2) = x := ⟨_, rfl⟩
        have hnb : 0 ≤ nn ∧ nn ≤ 300 := by omega
        have HNO : Hid (v ≠ 300 → okN t r (gR zs r.day.toNat) m1 nn = false) := Lib.hid (fun e => hfa nn (by omega) hnb.2)
        clear hfa hf HMU
        have x3 := bx.cell 3
        have fx := bx.frozen0
        have lx := bx.lt
        simp at x3
        have f3 := bf.cell 3
        have ff := bf.frozen0
        have lf := bf.lt
        simp at f3
        go_upto_region 8 with fail
        try rw [hnn]
        clear x3 fx lx f3 ff lf hnn
        replace bx := (bx.set_ 3 (.int .i64 v)).far (p := ⟨pf, 3, none⟩) nxf (.int .i64 nn)
        replace bf := (bf.far (p := ⟨px, 3, none⟩) nfx (.int .i64 v)).set_ 3 (.int .i64 nn)
        simp only [List.setIfInBounds_toArray, List.set_cons_zero, List.set_cons_succ] at bx bf
        have XS := ex_set (p := ⟨pf, 3, none⟩) (ex_set (p := ⟨px, 3, none⟩) X_V9 yx (.int .i64 v)) yf (.int .i64 nn)
        generalize (V9.setCell ⟨px, 3, none⟩ (.int .i64 v)).setCell ⟨pf, 3, none⟩ (.int .i64 nn) = V10 at *
        replace q1 := q1_0.below XS q1_0.lt
        replace q2 := q2_0.below XS q2_0.lt
        replace hg := hg_0.go XS
        replace hh := hh_0.go XS
        replace hi := hi_0.go XS
        have B_V10 := ex_trans B_V8 XS
        have X_V10 := XS
        clear XS
        go_upto_region 10 with fail
        rename_i K0 hK0
        have hrest : ∀ (V11 : World) (pi : Nat) (R2 : Rg) (ev2 : Int) (a : Act), Below V10.heap.size V10 V11 → V10.heap.size ≤ pi → Blk V11 pi 41 #[.int .i64 (R2 : Rg).lo, .int .i64 (R2 : Rg).hi] → Hid (AccV t h l (rB r v) m1 R2 ev2) → (∃ u : Nat → Value, a = ⟨List.toArray (u 0 :: .slice Ah h.length ch :: u 2 :: u 3 :: u 4 :: .int .u8 m1 :: .int .u8 m2 :: .pointer (some ⟨pq1, 0, none⟩) :: u 8 :: u 9 :: u 10 :: .pointer (some ⟨pq2, 0, none⟩) :: u 12 :: u 13 :: .bool false :: .slice Ai l.length ci :: u 16 :: u 17 :: .int .i64 v :: .int .i64 0 :: .pointer (some ⟨px, 0, none⟩) :: .pointer (some ⟨pf, 0, none⟩) :: .pointer (some ⟨pi, 0, none⟩) :: .int .i64 ev2 :: u 24 :: u 25 :: u 26 :: u 27 :: u 28 :: u 29 :: u 30 :: u 31 :: u 32 :: u 33 :: u 34 :: u 35 :: u 36 :: u 37 :: u 38 :: u 39 :: u 40 :: u 41 :: u 42 :: u 43 :: u 44 :: u 45 :: u 46 :: u 47 :: u 48 :: u 49 :: u 50 :: u 51 :: u 52 :: u 53 :: u 54 :: u 55 :: u 56 :: u 57 :: u 58 :: u 59 :: u 60 :: u 61 :: u 62 :: u 63 :: u 64 :: u 65 :: u 66 :: u 67 :: u 68 :: u 69 :: u 70 :: u 71 :: u 72 :: u 73 :: u 74 :: u 75 :: u 76 :: u 77 :: u 78 :: u 79 :: u 80 :: u 81 :: u 82 :: u 83 :: u 84 :: u 85 :: u 86 :: u 87 :: u 88 :: u 89 :: u 90 :: u 91 :: u 92 :: u 93 :: u 94 :: u 95 :: u 96 :: u 97 :: u 98 :: u 99 :: u 100 :: u 101 :: u 102 :: u 103 :: u 104 :: u 105 :: u 106 :: u 107 :: u 108 :: u 109 :: u 110 :: u 111 :: u 112 :: u 113 :: u 114 :: u 115 :: u 116 :: u 117 :: u 118 :: u 119 :: u 120 :: u 121 :: u 122 :: u 123 :: u 124 :: u 125 :: u 126 :: u 127 :: u 128 :: u 129 :: u 130 :: u 131 :: u 132 :: u 133 :: u 134 :: u 135 :: u 136 :: u 137 :: u 138 :: []), []⟩) → K0 a V11 := by
         rintro V11 pi R2 ev2 a hX9 yi bi hc2 ⟨u, rfl⟩
         refine hK0 _ _ ?_
         clear hK0 K0
         replace q1 := q1.below hX9 q1.lt
         replace q2 := q2.below hX9 q2.lt
         replace hg := hg.go hX9
         replace hh := (hh.below hX9).up hX9.size
         replace hi := (hi.below hX9).up hX9.size
         replace bx := bx.below hX9 bx.lt
         replace bf := bf.below hX9 bf.lt
         have B_V11 := ex_trans B_V10 hX9
         have X_V11 := ex_trans X_V10 hX9
         have zi : w.heap.size ≤ pi := by have := B_V10.size; omega
         obtain rfl : ev2 = 0 := by
          have := much_acc HA.out HM1 HR.out HZ.out hn0 hn3 hc2.out
          rw [if_pos HF.out] at this
          exact this
         clear hc2
         by_cases h300 : v = 300
         ·
          have e1 : (v == 300) = true := by simp [h300]
          clear h300
          go_wp2_with fail
          refine (sl_awake _).mono ?_
          rintro e V12 ⟨rfl, hV12⟩
          replace q1 := q1.below hV12 q1.lt
          replace q2 := q2.below hV12 q2.lt
          replace hg := hg.go hV12
          replace hh := (hh.below hV12).up hV12.size
          replace hi := (hi.below hV12).up hV12.size
          replace bx := bx.below hV12 bx.lt
          replace bf := bf.below hV12 bf.lt
          replace bi := bi.below hV12 bi.lt
          have B_V12 := ex_trans B_V11 hV12
          have X_V12 := ex_trans X_V11 hV12
          go_wp2
          go_ret
          exact ⟨rfl, B_V12⟩
         ·
          have e1 : (v == 300) = false := by simp [h300]
          replace HNO : Hid (okN t r (gR zs r.day.toNat) m1 nn = false) := Lib.hid (HNO.out h300)
          clear h300
          go_upto_region 16 with fail
          rename_i K0 hK0
          have hrest : ∀ (V13 : World) (pj : Nat) (R4 : Rg) (ev4 : Int) (a : Act), Below V11.heap.size V11 V13 → V11.heap.size ≤ pj → Blk V13 pj 41 #[.int .i64 (R4 : Rg).lo, .int .i64 (R4 : Rg).hi] → Hid (AccV t h l (rB r nn) m1 R4 ev4) → (∃ u : Nat → Value, a = ⟨List.toArray (u 0 :: .slice Ah h.length ch :: u 2 :: u 3 :: u 4 :: .int .u8 m1 :: .int .u8 m2 :: .pointer (some ⟨pq1, 0, none⟩) :: u 8 :: u 9 :: u 10 :: .pointer (some ⟨pq2, 0, none⟩) :: u 12 :: u 13 :: .bool false :: .slice Ai l.length ci :: u 16 :: u 17 :: .int .i64 v :: .int .i64 0 :: .pointer (some ⟨px, 0, none⟩) :: .pointer (some ⟨pf, 0, none⟩) :: .pointer (some ⟨pi, 0, none⟩) :: u 23 :: .pointer (some ⟨pj, 0, none⟩) :: .int .i64 ev4 :: u 26 :: u 27 :: u 28 :: u 29 :: u 30 :: u 31 :: u 32 :: u 33 :: u 34 :: u 35 :: u 36 :: u 37 :: u 38 :: u 39 :: u 40 :: u 41 :: u 42 :: u 43 :: u 44 :: u 45 :: u 46 :: u 47 :: u 48 :: u 49 :: u 50 :: u 51 :: u 52 :: u 53 :: u 54 :: u 55 :: u 56 :: u 57 :: u 58 :: u 59 :: u 60 :: u 61 :: u 62 :: u 63 :: u 64 :: u 65 :: u 66 :: u 67 :: u 68 :: u 69 :: u 70 :: u 71 :: u 72 :: u 73 :: u 74 :: u 75 :: u 76 :: u 77 :: u 78 :: u 79 :: u 80 :: u 81 :: u 82 :: u 83 :: u 84 :: u 85 :: u 86 :: u 87 :: u 88 :: u 89 :: u 90 :: u 91 :: u 92 :: u 93 :: u 94 :: u 95 :: u 96 :: u 97 :: u 98 :: u 99 :: u 100 :: u 101 :: u 102 :: u 103 :: u 104 :: u 105 :: u 106 :: u 107 :: u 108 :: u 109 :: u 110 :: u 111 :: u 112 :: u 113 :: u 114 :: u 115 :: u 116 :: u 117 :: u 118 :: u 119 :: u 120 :: u 121 :: u 122 :: u 123 :: u 124 :: u 125 :: u 126 :: u 127 :: u 128 :: u 129 :: u 130 :: u 131 :: u 132 :: u 133 :: u 134 :: u 135 :: u 136 :: u 137 :: u 138 :: []), []⟩) → K0 a V13 := by
           rintro V13 pj R4 ev4 a hX9 yj bj hc4 ⟨u, rfl⟩
           refine hK0 _ _ ?_
           clear hK0 K0
           replace q1 := q1.below hX9 q1.lt
           replace q2 := q2.below hX9 q2.lt
           replace hg := hg.go hX9
           replace hh := (hh.below hX9).up hX9.size
           replace hi := (hi.below hX9).up hX9.size
           replace bx := bx.below hX9 bx.lt
           replace bf := bf.below hX9 bf.lt
           replace bi := bi.below hX9 bi.lt
           have B_V13 := ex_trans B_V11 hX9
           have X_V13 := ex_trans X_V11 hX9
           have zj : w.heap.size ≤ pj := by have := B_V11.size; omega
           obtain rfl : ev4 = 10 := by
            have := much_acc HA.out HM1 HR.out HZ.out hnb.1 hnb.2 hc4.out
            rw [if_neg (by rw [HNO.out]; exact Bool.false_ne_true)] at this
            exact this
           clear hc4
           go_wp2_with fail
           refine (sl_awake _).mono ?_
           rintro e V14 ⟨rfl, hV14⟩
           replace q1 := q1.below hV14 q1.lt
           replace q2 := q2.below hV14 q2.lt
           replace hg := hg.go hV14
           replace hh := (hh.below hV14).up hV14.size
           replace hi := (hi.below hV14).up hV14.size
           replace bx := bx.below hV14 bx.lt
           replace bf := bf.below hV14 bf.lt
           replace bi := bi.below hV14 bi.lt
           replace bj := bj.below hV14 bj.lt
           have B_V14 := ex_trans B_V13 hV14
           have X_V14 := ex_trans X_V13 hV14
           go_wp2
           go_ret
           exact ⟨rfl, B_V14⟩
          refine wp_region_ext_tq 16 (.quiet 0 (.quiet 2 (.quiet 4 (.quiet 6 (.quiet 8 (.quiet 9 (.fork 1 (.fork 3 (.fork 5 (.fork 7 (.fork 10 (.quiet 11 (.quiet 12 (.quiet 13 (.loud 14 (.loud 15 .done))))) 14 (.loud 10 (.quiet 11 (.quiet 12 (.quiet 13 (.loud 15 .done)))))) 14 (.loud 7 (.loud 10 (.quiet 11 (.quiet 12 (.quiet 13 (.loud 15 .done))))))) 14 (.loud 5 (.loud 7 (.loud 10 (.quiet 11 (.quiet 12 (.quiet 13 (.loud 15 .done)))))))) 14 (.loud 3 (.loud 5 (.loud 7 (.loud 10 (.quiet 11 (.quiet 12 (.quiet 13 (.loud 15 .done))))))))) 14 (.loud 1 (.loud 3 (.loud 5 (.loud 7 (.loud 10 (.quiet 11 (.quiet 12 (.quiet 13 (.loud 15 .done)))))))))))))))) (by kernel_rfl) (by kernel_rfl) (by intro d _ _ _ _ h; cases d <;> exact h) ?_
          have D0 := (Below.refl V11.heap.size V11).drew
          repeat (refine tq_quiet rfl ?_; first | (refine wpQuiet_load_row rfl 29 _ rfl _ rfl 29 _ (0, 0) _ q1.ex Tryz.underlying29 rfl (by kernel_rfl) ?_; simp only [Act.put, List.setIfInBounds_toArray, List.set_cons_zero, List.set_cons_succ]; refine wpQuiet_nil ?_) | (refine wpQuiet_load_row rfl 33 _ rfl _ rfl 33 _ (0, 0) _ bf.ex Tryz.underlying33 rfl (by kernel_rfl) ?_; simp only [Act.put, List.setIfInBounds_toArray, List.set_cons_zero, List.set_cons_succ]; refine wpQuiet_nil ?_) | (go_big_quiet_step (fail); refine wpQuiet_nil ?_))
          refine tq_fork rfl rfl ?_ ?_
          ·
           go_wp2_with fail
           refine (sr_Tube t Ab Ad cb cd _ (hg.go (((Below.refl V11.heap.size V11)).drew)) (by omega) (by omega)).mono ?_
           rintro e V15 ⟨⟨Ab1, Ad1, cb1, cd1, rfl, hg1⟩, hV15⟩
           have N1 := ex_trans ((Below.refl V11.heap.size V11)).drew hV15
           go_wp2_with fail
           refine ⟨inEx N1, ?_⟩
           repeat (refine tq_quiet rfl ?_; go_big_quiet_step (fail); refine wpQuiet_nil ?_)
           refine tq_fork rfl rfl ?_ ?_
           ·
            go_wp2_with fail
            refine (History_any _ _ h _ (by omega) (hh.go (N1))).mono ?_
            rintro e V16 ⟨⟨Ah1, ch1, rfl, -, -, hh1⟩, hV16⟩
            have N3 := ex_trans N1 hV16
            go_wp2_with fail
            replace hg1 := hg1.go hV16
            refine ⟨inEx N3, ?_⟩
            repeat (refine tq_quiet rfl ?_; go_big_quiet_step (fail); refine wpQuiet_nil ?_)
            refine tq_fork rfl rfl ?_ ?_
            ·
             go_wp2_with fail
             refine (Ices_any _ _ l _ (by omega) (hi.go (N3))).mono ?_
             rintro e V17 ⟨⟨Ai1, ci1, rfl, -, -, hi1⟩, hV17⟩
             have N5 := ex_trans N3 hV17
             go_wp2_with fail
             replace hg1 := hg1.go hV17
             replace hh1 := hh1.go hV17
             refine ⟨inEx N5, ?_⟩
             repeat (refine tq_quiet rfl ?_; go_big_quiet_step (fail); refine wpQuiet_nil ?_)
             refine tq_fork rfl rfl ?_ ?_
             ·
              go_wp2_with fail
              refine (sr_Reading (rB r nn) _).mono ?_
              rintro e V18 ⟨rfl, hV18⟩
              have N7 := ex_trans N5 hV18
              go_wp2_with fail
              replace hg1 := hg1.go hV18
              replace hh1 := hh1.go hV18
              replace hi1 := hi1.go hV18
              refine ⟨inEx N7, ?_⟩
              repeat (refine tq_quiet rfl ?_; go_big_quiet_step (fail); refine wpQuiet_nil ?_)
              refine tq_fork rfl rfl ?_ ?_
              ·
               go_wp2_with fail
               refine (Accept_v t Ab1 Ad1 cb1 cd1 Ah1 Ai1 ch1 ci1 h l (rB r nn) m1 _ hg1 hh1 hi1 (by omega)).mono ?_
               rintro e V19 ⟨⟨R4, ev4, rfl, hc4⟩, hV19⟩
               have N10 := ex_trans N7 hV19
               go_wp2_with fail
               refine ⟨inEx N10, ?_⟩
               repeat (refine tq_quiet rfl ?_; go_big_quiet_step (fail); refine wpQuiet_nil ?_)
               refine tq_loud rfl ?_
               go_wp2_with fail
               have sj := (N10).size
               try simp at sj
               have N14 := ex_alloc N10 (.cells #[.int .i64 0, .int .i64 0] 41)
               have bj : Blk (V19.alloc (.cells #[.int .i64 0, .int .i64 0] 41)) (V19.heap.size) 41 #[.int .i64 0, .int .i64 0] := Blk.new' _ _ _ (by first | rfl | (simp; done) | (simp; omega))
               obtain ⟨pj, hpj⟩ : ∃ p, V19.heap.size = p := ⟨_, rfl⟩
               rw [hpj] at bj
               try rw [hpj]
               have yj : V11.heap.size ≤ pj := by omega
               clear sj
               refine ⟨inEx N14, ?_⟩
               repeat (refine tq_quiet rfl ?_; go_big_quiet_step (fail); refine wpQuiet_nil ?_)
               refine tq_loud rfl ?_
               have XA15 := N14
               generalize (V19.alloc (.cells #[.int .i64 0, .int .i64 0] 41)) = V20 at *
               have sc0 : V20.cell? ⟨pj, 0, none⟩ = some (.int .i64 0) := bj.cell 0
               have sc1 : V20.cell? ⟨pj, 1, none⟩ = some (.int .i64 0) := bj.cell 1
               have sf := bj.frozen0
               have sl := bj.lt
               go_wp2_with fail
               replace bj := bj.set_ 0 (.int .i64 R4.lo)
               replace XA15 := ex_set (p := ⟨pj, 0, none⟩) XA15 yj (.int .i64 R4.lo)
               replace bj := bj.set_ 1 (.int .i64 R4.hi)
               replace XA15 := ex_set (p := ⟨pj, 1, none⟩) XA15 yj (.int .i64 R4.hi)
               simp only [List.setIfInBounds_toArray, List.set_cons_zero, List.set_cons_succ] at bj
               clear sf sl sc0 sc1
               generalize ((V20.setCell ⟨pj, 0, none⟩ (.int .i64 R4.lo)).setCell ⟨pj, 1, none⟩ (.int .i64 R4.hi)) = V21 at *
               refine ⟨inEx XA15, ?_⟩
               repeat (refine tq_quiet rfl ?_; go_big_quiet_step (fail); refine wpQuiet_nil ?_)
               refine tq_done (r := [_]) rfl ?_
               go_wp2_with fail
               exact hrest V21 pj R4 ev4 _ (XA15) yj bj hc4 (exFrame (by kernel_rfl))
              ·
               go_wp2_with fail
               have sj := (N7).size
               try simp at sj
               have N14 := ex_alloc N7 (.cells #[.int .i64 0, .int .i64 0] 41)
               have bj : Blk (V18.alloc (.cells #[.int .i64 0, .int .i64 0] 41)) (V18.heap.size) 41 #[.int .i64 0, .int .i64 0] := Blk.new' _ _ _ (by first | rfl | (simp; done) | (simp; omega))
               replace hg1 := hg1.go (ex_alloc (Below.refl V18.heap.size V18) (.cells #[.int .i64 0, .int .i64 0] 41))
               replace hh1 := hh1.go (ex_alloc (Below.refl V18.heap.size V18) (.cells #[.int .i64 0, .int .i64 0] 41))
               replace hi1 := hi1.go (ex_alloc (Below.refl V18.heap.size V18) (.cells #[.int .i64 0, .int .i64 0] 41))
               obtain ⟨pj, hpj⟩ : ∃ p, V18.heap.size = p := ⟨_, rfl⟩
               rw [hpj] at bj
               try rw [hpj]
               have yj : V11.heap.size ≤ pj := by omega
               clear sj
               refine ⟨inEx N14, ?_⟩
               repeat (refine tq_quiet rfl ?_; go_big_quiet_step (fail); refine wpQuiet_nil ?_)
               refine tq_loud rfl ?_
               go_wp2_with fail
               refine (Accept_v t Ab1 Ad1 cb1 cd1 Ah1 Ai1 ch1 ci1 h l (rB r nn) m1 _ hg1 hh1 hi1 (by omega)).mono ?_
               rintro e V22 ⟨⟨R4, ev4, rfl, hc4⟩, hV22⟩
               replace bj := Blk.below bj hV22 bj.lt
               have N10 := ex_trans N14 hV22
               go_wp2_with fail
               refine ⟨inEx N10, ?_⟩
               repeat (refine tq_quiet rfl ?_; go_big_quiet_step (fail); refine wpQuiet_nil ?_)
               refine tq_loud rfl ?_
               have XA15 := N10
               generalize V22 = V23 at *
               have sc0 : V23.cell? ⟨pj, 0, none⟩ = some (.int .i64 0) := bj.cell 0
               have sc1 : V23.cell? ⟨pj, 1, none⟩ = some (.int .i64 0) := bj.cell 1
               have sf := bj.frozen0
               have sl := bj.lt
               go_wp2_with fail
               replace bj := bj.set_ 0 (.int .i64 R4.lo)
               replace XA15 := ex_set (p := ⟨pj, 0, none⟩) XA15 yj (.int .i64 R4.lo)
               replace bj := bj.set_ 1 (.int .i64 R4.hi)
               replace XA15 := ex_set (p := ⟨pj, 1, none⟩) XA15 yj (.int .i64 R4.hi)
               simp only [List.setIfInBounds_toArray, List.set_cons_zero, List.set_cons_succ] at bj
               clear sf sl sc0 sc1
               generalize ((V23.setCell ⟨pj, 0, none⟩ (.int .i64 R4.lo)).setCell ⟨pj, 1, none⟩ (.int .i64 R4.hi)) = V24 at *
               refine ⟨inEx XA15, ?_⟩
               repeat (refine tq_quiet rfl ?_; go_big_quiet_step (fail); refine wpQuiet_nil ?_)
               refine tq_done (r := [_]) rfl ?_
               go_wp2_with fail
               exact hrest V24 pj R4 ev4 _ (XA15) yj bj hc4 (exFrame (by kernel_rfl))
             ·
              go_wp2_with fail
              have sj := (N5).size
              try simp at sj
              have N14 := ex_alloc N5 (.cells #[.int .i64 0, .int .i64 0] 41)
              have bj : Blk (V17.alloc (.cells #[.int .i64 0, .int .i64 0] 41)) (V17.heap.size) 41 #[.int .i64 0, .int .i64 0] := Blk.new' _ _ _ (by first | rfl | (simp; done) | (simp; omega))
              replace hg1 := hg1.go (ex_alloc (Below.refl V17.heap.size V17) (.cells #[.int .i64 0, .int .i64 0] 41))
              replace hh1 := hh1.go (ex_alloc (Below.refl V17.heap.size V17) (.cells #[.int .i64 0, .int .i64 0] 41))
              replace hi1 := hi1.go (ex_alloc (Below.refl V17.heap.size V17) (.cells #[.int .i64 0, .int .i64 0] 41))
              obtain ⟨pj, hpj⟩ : ∃ p, V17.heap.size = p := ⟨_, rfl⟩
              rw [hpj] at bj
              try rw [hpj]
              have yj : V11.heap.size ≤ pj := by omega
              clear sj
              refine ⟨inEx N14, ?_⟩
              repeat (refine tq_quiet rfl ?_; go_big_quiet_step (fail); refine wpQuiet_nil ?_)
              refine tq_loud rfl ?_
              go_wp2_with fail
              refine (sr_Reading (rB r nn) _).mono ?_
              rintro e V25 ⟨rfl, hV25⟩
              replace bj := Blk.below bj hV25 bj.lt
              have N7 := ex_trans N14 hV25
              go_wp2_with fail
              replace hg1 := hg1.go hV25
              replace hh1 := hh1.go hV25
              replace hi1 := hi1.go hV25
              refine ⟨inEx N7, ?_⟩
              repeat (refine tq_quiet rfl ?_; go_big_quiet_step (fail); refine wpQuiet_nil ?_)
              refine tq_loud rfl ?_
              go_wp2_with fail
              refine (Accept_v t Ab1 Ad1 cb1 cd1 Ah1 Ai1 ch1 ci1 h l (rB r nn) m1 _ hg1 hh1 hi1 (by omega)).mono ?_
              rintro e V26 ⟨⟨R4, ev4, rfl, hc4⟩, hV26⟩
              replace bj := Blk.below bj hV26 bj.lt
              have N10 := ex_trans N7 hV26
              go_wp2_with fail
              refine ⟨inEx N10, ?_⟩
              repeat (refine tq_quiet rfl ?_; go_big_quiet_step (fail); refine wpQuiet_nil ?_)
              refine tq_loud rfl ?_
              have XA15 := N10
              generalize V26 = V27 at *
              have sc0 : V27.cell? ⟨pj, 0, none⟩ = some (.int .i64 0) := bj.cell 0
              have sc1 : V27.cell? ⟨pj, 1, none⟩ = some (.int .i64 0) := bj.cell 1
              have sf := bj.frozen0
              have sl := bj.lt
              go_wp2_with fail
              replace bj := bj.set_ 0 (.int .i64 R4.lo)
              replace XA15 := ex_set (p := ⟨pj, 0, none⟩) XA15 yj (.int .i64 R4.lo)
              replace bj := bj.set_ 1 (.int .i64 R4.hi)
              replace XA15 := ex_set (p := ⟨pj, 1, none⟩) XA15 yj (.int .i64 R4.hi)
              simp only [List.setIfInBounds_toArray, List.set_cons_zero, List.set_cons_succ] at bj
              clear sf sl sc0 sc1
              generalize ((V27.setCell ⟨pj, 0, none⟩ (.int .i64 R4.lo)).setCell ⟨pj, 1, none⟩ (.int .i64 R4.hi)) = V28 at *
              refine ⟨inEx XA15, ?_⟩
              repeat (refine tq_quiet rfl ?_; go_big_quiet_step (fail); refine wpQuiet_nil ?_)
              refine tq_done (r := [_]) rfl ?_
              go_wp2_with fail
              exact hrest V28 pj R4 ev4 _ (XA15) yj bj hc4 (exFrame (by kernel_rfl))
            ·
             go_wp2_with fail
             have sj := (N3).size
             try simp at sj
             have N14 := ex_alloc N3 (.cells #[.int .i64 0, .int .i64 0] 41)
             have bj : Blk (V16.alloc (.cells #[.int .i64 0, .int .i64 0] 41)) (V16.heap.size) 41 #[.int .i64 0, .int .i64 0] := Blk.new' _ _ _ (by first | rfl | (simp; done) | (simp; omega))
             replace hg1 := hg1.go (ex_alloc (Below.refl V16.heap.size V16) (.cells #[.int .i64 0, .int .i64 0] 41))
             replace hh1 := hh1.go (ex_alloc (Below.refl V16.heap.size V16) (.cells #[.int .i64 0, .int .i64 0] 41))
             obtain ⟨pj, hpj⟩ : ∃ p, V16.heap.size = p := ⟨_, rfl⟩
             rw [hpj] at bj
             try rw [hpj]
             have yj : V11.heap.size ≤ pj := by omega
             clear sj
             refine ⟨inEx N14, ?_⟩
             repeat (refine tq_quiet rfl ?_; go_big_quiet_step (fail); refine wpQuiet_nil ?_)
             refine tq_loud rfl ?_
             go_wp2_with fail
             refine (Ices_any _ _ l _ (by omega) (hi.go (N14))).mono ?_
             rintro e V29 ⟨⟨Ai1, ci1, rfl, -, -, hi1⟩, hV29⟩
             replace bj := Blk.below bj hV29 bj.lt
             have N5 := ex_trans N14 hV29
             go_wp2_with fail
             replace hg1 := hg1.go hV29
             replace hh1 := hh1.go hV29
             refine ⟨inEx N5, ?_⟩
             repeat (refine tq_quiet rfl ?_; go_big_quiet_step (fail); refine wpQuiet_nil ?_)
             refine tq_loud rfl ?_
             go_wp2_with fail
             refine (sr_Reading (rB r nn) _).mono ?_
             rintro e V30 ⟨rfl, hV30⟩
             replace bj := Blk.below bj hV30 bj.lt
             have N7 := ex_trans N5 hV30
             go_wp2_with fail
             replace hg1 := hg1.go hV30
             replace hh1 := hh1.go hV30
             replace hi1 := hi1.go hV30
             refine ⟨inEx N7, ?_⟩
             repeat (refine tq_quiet rfl ?_; go_big_quiet_step (fail); refine wpQuiet_nil ?_)
             refine tq_loud rfl ?_
             go_wp2_with fail
             refine (Accept_v t Ab1 Ad1 cb1 cd1 Ah1 Ai1 ch1 ci1 h l (rB r nn) m1 _ hg1 hh1 hi1 (by omega)).mono ?_
             rintro e V31 ⟨⟨R4, ev4, rfl, hc4⟩, hV31⟩
             replace bj := Blk.below bj hV31 bj.lt
             have N10 := ex_trans N7 hV31
             go_wp2_with fail
             refine ⟨inEx N10, ?_⟩
             repeat (refine tq_quiet rfl ?_; go_big_quiet_step (fail); refine wpQuiet_nil ?_)
             refine tq_loud rfl ?_
             have XA15 := N10
             generalize V31 = V32 at *
             have sc0 : V32.cell? ⟨pj, 0, none⟩ = some (.int .i64 0) := bj.cell 0
             have sc1 : V32.cell? ⟨pj, 1, none⟩ = some (.int .i64 0) := bj.cell 1
             have sf := bj.frozen0
             have sl := bj.lt
             go_wp2_with fail
             replace bj := bj.set_ 0 (.int .i64 R4.lo)
             replace XA15 := ex_set (p := ⟨pj, 0, none⟩) XA15 yj (.int .i64 R4.lo)
             replace bj := bj.set_ 1 (.int .i64 R4.hi)
             replace XA15 := ex_set (p := ⟨pj, 1, none⟩) XA15 yj (.int .i64 R4.hi)
             simp only [List.setIfInBounds_toArray, List.set_cons_zero, List.set_cons_succ] at bj
             clear sf sl sc0 sc1
             generalize ((V32.setCell ⟨pj, 0, none⟩ (.int .i64 R4.lo)).setCell ⟨pj, 1, none⟩ (.int .i64 R4.hi)) = V33 at *
             refine ⟨inEx XA15, ?_⟩
             repeat (refine tq_quiet rfl ?_; go_big_quiet_step (fail); refine wpQuiet_nil ?_)
             refine tq_done (r := [_]) rfl ?_
             go_wp2_with fail
             exact hrest V33 pj R4 ev4 _ (XA15) yj bj hc4 (exFrame (by kernel_rfl))
           ·
            go_wp2_with fail
            have sj := (N1).size
            try simp at sj
            have N14 := ex_alloc N1 (.cells #[.int .i64 0, .int .i64 0] 41)
            have bj : Blk (V15.alloc (.cells #[.int .i64 0, .int .i64 0] 41)) (V15.heap.size) 41 #[.int .i64 0, .int .i64 0] := Blk.new' _ _ _ (by first | rfl | (simp; done) | (simp; omega))
            replace hg1 := hg1.go (ex_alloc (Below.refl V15.heap.size V15) (.cells #[.int .i64 0, .int .i64 0] 41))
            obtain ⟨pj, hpj⟩ : ∃ p, V15.heap.size = p := ⟨_, rfl⟩
            rw [hpj] at bj
            try rw [hpj]
            have yj : V11.heap.size ≤ pj := by omega
            clear sj
            refine ⟨inEx N14, ?_⟩
            repeat (refine tq_quiet rfl ?_; go_big_quiet_step (fail); refine wpQuiet_nil ?_)
            refine tq_loud rfl ?_
            go_wp2_with fail
            refine (History_any _ _ h _ (by omega) (hh.go (N14))).mono ?_
            rintro e V34 ⟨⟨Ah1, ch1, rfl, -, -, hh1⟩, hV34⟩
            replace bj := Blk.below bj hV34 bj.lt
            have N3 := ex_trans N14 hV34
            go_wp2_with fail
            replace hg1 := hg1.go hV34
            refine ⟨inEx N3, ?_⟩
            repeat (refine tq_quiet rfl ?_; go_big_quiet_step (fail); refine wpQuiet_nil ?_)
            refine tq_loud rfl ?_
            go_wp2_with fail
            refine (Ices_any _ _ l _ (by omega) (hi.go (N3))).mono ?_
            rintro e V35 ⟨⟨Ai1, ci1, rfl, -, -, hi1⟩, hV35⟩
            replace bj := Blk.below bj hV35 bj.lt
            have N5 := ex_trans N3 hV35
            go_wp2_with fail
            replace hg1 := hg1.go hV35
            replace hh1 := hh1.go hV35
            refine ⟨inEx N5, ?_⟩
            repeat (refine tq_quiet rfl ?_; go_big_quiet_step (fail); refine wpQuiet_nil ?_)
            refine tq_loud rfl ?_
            go_wp2_with fail
            refine (sr_Reading (rB r nn) _).mono ?_
            rintro e V36 ⟨rfl, hV36⟩
            replace bj := Blk.below bj hV36 bj.lt
            have N7 := ex_trans N5 hV36
            go_wp2_with fail
            replace hg1 := hg1.go hV36
            replace hh1 := hh1.go hV36
            replace hi1 := hi1.go hV36
            refine ⟨inEx N7, ?_⟩
            repeat (refine tq_quiet rfl ?_; go_big_quiet_step (fail); refine wpQuiet_nil ?_)
            refine tq_loud rfl ?_
            go_wp2_with fail
            refine (Accept_v t Ab1 Ad1 cb1 cd1 Ah1 Ai1 ch1 ci1 h l (rB r nn) m1 _ hg1 hh1 hi1 (by omega)).mono ?_
            rintro e V37 ⟨⟨R4, ev4, rfl, hc4⟩, hV37⟩
            replace bj := Blk.below bj hV37 bj.lt
            have N10 := ex_trans N7 hV37
            go_wp2_with fail
            refine ⟨inEx N10, ?_⟩
            repeat (refine tq_quiet rfl ?_; go_big_quiet_step (fail); refine wpQuiet_nil ?_)
            refine tq_loud rfl ?_
            have XA15 := N10
            generalize V37 = V38 at *
            have sc0 : V38.cell? ⟨pj, 0, none⟩ = some (.int .i64 0) := bj.cell 0
            have sc1 : V38.cell? ⟨pj, 1, none⟩ = some (.int .i64 0) := bj.cell 1
            have sf := bj.frozen0
            have sl := bj.lt
            go_wp2_with fail
            replace bj := bj.set_ 0 (.int .i64 R4.lo)
            replace XA15 := ex_set (p := ⟨pj, 0, none⟩) XA15 yj (.int .i64 R4.lo)
            replace bj := bj.set_ 1 (.int .i64 R4.hi)
            replace XA15 := ex_set (p := ⟨pj, 1, none⟩) XA15 yj (.int .i64 R4.hi)
            simp only [List.setIfInBounds_toArray, List.set_cons_zero, List.set_cons_succ] at bj
            clear sf sl sc0 sc1
            generalize ((V38.setCell ⟨pj, 0, none⟩ (.int .i64 R4.lo)).setCell ⟨pj, 1, none⟩ (.int .i64 R4.hi)) = V39 at *
            refine ⟨inEx XA15, ?_⟩
            repeat (refine tq_quiet rfl ?_; go_big_quiet_step (fail); refine wpQuiet_nil ?_)
            refine tq_done (r := [_]) rfl ?_
            go_wp2_with fail
            exact hrest V39 pj R4 ev4 _ (XA15) yj bj hc4 (exFrame (by kernel_rfl))
          ·
           go_wp2_with fail
           have sj := ((Below.refl V11.heap.size V11)).size
           try simp at sj
           have N14 := ex_alloc (Below.refl V11.heap.size V11) (.cells #[.int .i64 0, .int .i64 0] 41)
           have bj : Blk (V11.alloc (.cells #[.int .i64 0, .int .i64 0] 41)) (V11.heap.size) 41 #[.int .i64 0, .int .i64 0] := Blk.new' _ _ _ (by first | rfl | (simp; done) | (simp; omega))
           obtain ⟨pj, hpj⟩ : ∃ p, V11.heap.size = p := ⟨_, rfl⟩
           rw [hpj] at bj
           try rw [hpj]
           have yj : V11.heap.size ≤ pj := by omega
           clear sj
           refine ⟨inEx (N14).drew, ?_⟩
           repeat (refine tq_quiet rfl ?_; go_big_quiet_step (fail); refine wpQuiet_nil ?_)
           refine tq_loud rfl ?_
           go_wp2_with fail
           refine (sr_Tube t Ab Ad cb cd _ (hg.go ((N14).drew)) (by omega) (by omega)).mono ?_
           rintro e V40 ⟨⟨Ab1, Ad1, cb1, cd1, rfl, hg1⟩, hV40⟩
           replace bj := Blk.below (Blk.drew bj) hV40 bj.lt
           have N1 := ex_trans (N14).drew hV40
           go_wp2_with fail
           refine ⟨inEx N1, ?_⟩
           repeat (refine tq_quiet rfl ?_; go_big_quiet_step (fail); refine wpQuiet_nil ?_)
           refine tq_loud rfl ?_
           go_wp2_with fail
           refine (History_any _ _ h _ (by omega) (hh.go (N1))).mono ?_
           rintro e V41 ⟨⟨Ah1, ch1, rfl, -, -, hh1⟩, hV41⟩
           replace bj := Blk.below bj hV41 bj.lt
           have N3 := ex_trans N1 hV41
           go_wp2_with fail
           replace hg1 := hg1.go hV41
           refine ⟨inEx N3, ?_⟩
           repeat (refine tq_quiet rfl ?_; go_big_quiet_step (fail); refine wpQuiet_nil ?_)
           refine tq_loud rfl ?_
           go_wp2_with fail
           refine (Ices_any _ _ l _ (by omega) (hi.go (N3))).mono ?_
           rintro e V42 ⟨⟨Ai1, ci1, rfl, -, -, hi1⟩, hV42⟩
           replace bj := Blk.below bj hV42 bj.lt
           have N5 := ex_trans N3 hV42
           go_wp2_with fail
           replace hg1 := hg1.go hV42
           replace hh1 := hh1.go hV42
           refine ⟨inEx N5, ?_⟩
           repeat (refine tq_quiet rfl ?_; go_big_quiet_step (fail); refine wpQuiet_nil ?_)
           refine tq_loud rfl ?_
           go_wp2_with fail
           refine (sr_Reading (rB r nn) _).mono ?_
           rintro e V43 ⟨rfl, hV43⟩
           replace bj := Blk.below bj hV43 bj.lt
           have N7 := ex_trans N5 hV43
           go_wp2_with fail
           replace hg1 := hg1.go hV43
           replace hh1 := hh1.go hV43
           replace hi1 := hi1.go hV43
           refine ⟨inEx N7, ?_⟩
           repeat (refine tq_quiet rfl ?_; go_big_quiet_step (fail); refine wpQuiet_nil ?_)
           refine tq_loud rfl ?_
           go_wp2_with fail
           refine (Accept_v t Ab1 Ad1 cb1 cd1 Ah1 Ai1 ch1 ci1 h l (rB r nn) m1 _ hg1 hh1 hi1 (by omega)).mono ?_
           rintro e V44 ⟨⟨R4, ev4, rfl, hc4⟩, hV44⟩
           replace bj := Blk.below bj hV44 bj.lt
           have N10 := ex_trans N7 hV44
           go_wp2_with fail
           refine ⟨inEx N10, ?_⟩
           repeat (refine tq_quiet rfl ?_; go_big_quiet_step (fail); refine wpQuiet_nil ?_)
           refine tq_loud rfl ?_
           have XA15 := N10
           generalize V44 = V45 at *
           have sc0 : V45.cell? ⟨pj, 0, none⟩ = some (.int .i64 0) := bj.cell 0
           have sc1 : V45.cell? ⟨pj, 1, none⟩ = some (.int .i64 0) := bj.cell 1
           have sf := bj.frozen0
           have sl := bj.lt
           go_wp2_with fail
           replace bj := bj.set_ 0 (.int .i64 R4.lo)
           replace XA15 := ex_set (p := ⟨pj, 0, none⟩) XA15 yj (.int .i64 R4.lo)
           replace bj := bj.set_ 1 (.int .i64 R4.hi)
           replace XA15 := ex_set (p := ⟨pj, 1, none⟩) XA15 yj (.int .i64 R4.hi)
           simp only [List.setIfInBounds_toArray, List.set_cons_zero, List.set_cons_succ] at bj
           clear sf sl sc0 sc1
           generalize ((V45.setCell ⟨pj, 0, none⟩ (.int .i64 R4.lo)).setCell ⟨pj, 1, none⟩ (.int .i64 R4.hi)) = V46 at *
           refine ⟨inEx XA15, ?_⟩
           repeat (refine tq_quiet rfl ?_; go_big_quiet_step (fail); refine wpQuiet_nil ?_)
           refine tq_done (r := [_]) rfl ?_
           go_wp2_with fail
           exact hrest V46 pj R4 ev4 _ (XA15) yj bj hc4 (exFrame (by kernel_rfl))
        refine wp_region_ext_tq 16 (.quiet 0 (.quiet 2 (.quiet 4 (.quiet 6 (.quiet 8 (.quiet 9 (.fork 1 (.fork 3 (.fork 5 (.fork 7 (.fork 10 (.quiet 11 (.quiet 12 (.quiet 13 (.loud 14 (.loud 15 .done))))) 14 (.loud 10 (.quiet 11 (.quiet 12 (.quiet 13 (.loud 15 .done)))))) 14 (.loud 7 (.loud 10 (.quiet 11 (.quiet 12 (.quiet 13 (.loud 15 .done))))))) 14 (.loud 5 (.loud 7 (.loud 10 (.quiet 11 (.quiet 12 (.quiet 13 (.loud 15 .done)))))))) 14 (.loud 3 (.loud 5 (.loud 7 (.loud 10 (.quiet 11 (.quiet 12 (.quiet 13 (.loud 15 .done))))))))) 14 (.loud 1 (.loud 3 (.loud 5 (.loud 7 (.loud 10 (.quiet 11 (.quiet 12 (.quiet 13 (.loud 15 .done)))))))))))))))) (by kernel_rfl) (by kernel_rfl) (by intro d _ _ _ _ h; cases d <;> exact h) ?_
        have D0 := (Below.refl V10.heap.size V10).drew
        repeat (refine tq_quiet rfl ?_; first | (refine wpQuiet_load_row rfl 29 _ rfl _ rfl 29 _ (0, 0) _ q1.ex Tryz.underlying29 rfl (by kernel_rfl) ?_; simp only [Act.put, List.setIfInBounds_toArray, List.set_cons_zero, List.set_cons_succ]; refine wpQuiet_nil ?_) | (refine wpQuiet_load_row rfl 33 _ rfl _ rfl 33 _ (0, 0) _ bx.ex Tryz.underlying33 rfl (by kernel_rfl) ?_; simp only [Act.put, List.setIfInBounds_toArray, List.set_cons_zero, List.set_cons_succ]; refine wpQuiet_nil ?_) | (go_big_quiet_step (fail); refine wpQuiet_nil ?_))
        refine tq_fork rfl rfl ?_ ?_
        ·
         go_wp2_with fail
         refine (sr_Tube t Ab Ad cb cd _ (hg.go (((Below.refl V10.heap.size V10)).drew)) (by omega) (by omega)).mono ?_
         rintro e V47 ⟨⟨Ab1, Ad1, cb1, cd1, rfl, hg1⟩, hV47⟩
         have N1 := ex_trans ((Below.refl V10.heap.size V10)).drew hV47
         go_wp2_with fail
         refine ⟨inEx N1, ?_⟩
         repeat (refine tq_quiet rfl ?_; go_big_quiet_step (fail); refine wpQuiet_nil ?_)
         refine tq_fork rfl rfl ?_ ?_
         ·
          go_wp2_with fail
          refine (History_any _ _ h _ (by omega) (hh.go (N1))).mono ?_
          rintro e V48 ⟨⟨Ah1, ch1, rfl, -, -, hh1⟩, hV48⟩
          have N3 := ex_trans N1 hV48
          go_wp2_with fail
          replace hg1 := hg1.go hV48
          refine ⟨inEx N3, ?_⟩
          repeat (refine tq_quiet rfl ?_; go_big_quiet_step (fail); refine wpQuiet_nil ?_)
          refine tq_fork rfl rfl ?_ ?_
          ·
           go_wp2_with fail
           refine (Ices_any _ _ l _ (by omega) (hi.go (N3))).mono ?_
           rintro e V49 ⟨⟨Ai1, ci1, rfl, -, -, hi1⟩, hV49⟩
           have N5 := ex_trans N3 hV49
           go_wp2_with fail
           replace hg1 := hg1.go hV49
           replace hh1 := hh1.go hV49
           refine ⟨inEx N5, ?_⟩
           repeat (refine tq_quiet rfl ?_; go_big_quiet_step (fail); refine wpQuiet_nil ?_)
           refine tq_fork rfl rfl ?_ ?_
           ·
            go_wp2_with fail
            refine (sr_Reading (rB r v) _).mono ?_
            rintro e V50 ⟨rfl, hV50⟩
            have N7 := ex_trans N5 hV50
            go_wp2_with fail
            replace hg1 := hg1.go hV50
            replace hh1 := hh1.go hV50
            replace hi1 := hi1.go hV50
            refine ⟨inEx N7, ?_⟩
            repeat (refine tq_quiet rfl ?_; go_big_quiet_step (fail); refine wpQuiet_nil ?_)
            refine tq_fork rfl rfl ?_ ?_
            ·
             go_wp2_with fail
             refine (Accept_v t Ab1 Ad1 cb1 cd1 Ah1 Ai1 ch1 ci1 h l (rB r v) m1 _ hg1 hh1 hi1 (by omega)).mono ?_
             rintro e V51 ⟨⟨R2, ev2, rfl, hc2⟩, hV51⟩
             have N10 := ex_trans N7 hV51
             go_wp2_with fail
             refine ⟨inEx N10, ?_⟩
             repeat (refine tq_quiet rfl ?_; go_big_quiet_step (fail); refine wpQuiet_nil ?_)
             refine tq_loud rfl ?_
             go_wp2_with fail
             have si := (N10).size
             try simp at si
             have N14 := ex_alloc N10 (.cells #[.int .i64 0, .int .i64 0] 41)
             have bi : Blk (V51.alloc (.cells #[.int .i64 0, .int .i64 0] 41)) (V51.heap.size) 41 #[.int .i64 0, .int .i64 0] := Blk.new' _ _ _ (by first | rfl | (simp; done) | (simp; omega))
             obtain ⟨pi, hpi⟩ : ∃ p, V51.heap.size = p := ⟨_, rfl⟩
             rw [hpi] at bi
             try rw [hpi]
             have yi : V10.heap.size ≤ pi := by omega
             clear si
             refine ⟨inEx N14, ?_⟩
             repeat (refine tq_quiet rfl ?_; go_big_quiet_step (fail); refine wpQuiet_nil ?_)
             refine tq_loud rfl ?_
             have XA15 := N14
             generalize (V51.alloc (.cells #[.int .i64 0, .int .i64 0] 41)) = V52 at *
             have sc0 : V52.cell? ⟨pi, 0, none⟩ = some (.int .i64 0) := bi.cell 0
             have sc1 : V52.cell? ⟨pi, 1, none⟩ = some (.int .i64 0) := bi.cell 1
             have sf := bi.frozen0
             have sl := bi.lt
             go_wp2_with fail
             replace bi := bi.set_ 0 (.int .i64 R2.lo)
             replace XA15 := ex_set (p := ⟨pi, 0, none⟩) XA15 yi (.int .i64 R2.lo)
             replace bi := bi.set_ 1 (.int .i64 R2.hi)
             replace XA15 := ex_set (p := ⟨pi, 1, none⟩) XA15 yi (.int .i64 R2.hi)
             simp only [List.setIfInBounds_toArray, List.set_cons_zero, List.set_cons_succ] at bi
             clear sf sl sc0 sc1
             generalize ((V52.setCell ⟨pi, 0, none⟩ (.int .i64 R2.lo)).setCell ⟨pi, 1, none⟩ (.int .i64 R2.hi)) = V53 at *
             refine ⟨inEx XA15, ?_⟩
             repeat (refine tq_quiet rfl ?_; go_big_quiet_step (fail); refine wpQuiet_nil ?_)
             refine tq_done (r := [_]) rfl ?_
             go_wp2_with fail
             exact hrest V53 pi R2 ev2 _ (XA15) yi bi hc2 (exFrame (by kernel_rfl))
            ·
             go_wp2_with fail
             have si := (N7).size
             try simp at si
             have N14 := ex_alloc N7 (.cells #[.int .i64 0, .int .i64 0] 41)
             have bi : Blk (V50.alloc (.cells #[.int .i64 0, .int .i64 0] 41)) (V50.heap.size) 41 #[.int .i64 0, .int .i64 0] := Blk.new' _ _ _ (by first | rfl | (simp; done) | (simp; omega))
             replace hg1 := hg1.go (ex_alloc (Below.refl V50.heap.size V50) (.cells #[.int .i64 0, .int .i64 0] 41))
             replace hh1 := hh1.go (ex_alloc (Below.refl V50.heap.size V50) (.cells #[.int .i64 0, .int .i64 0] 41))
             replace hi1 := hi1.go (ex_alloc (Below.refl V50.heap.size V50) (.cells #[.int .i64 0, .int .i64 0] 41))
             obtain ⟨pi, hpi⟩ : ∃ p, V50.heap.size = p := ⟨_, rfl⟩
             rw [hpi] at bi
             try rw [hpi]
             have yi : V10.heap.size ≤ pi := by omega
             clear si
             refine ⟨inEx N14, ?_⟩
             repeat (refine tq_quiet rfl ?_; go_big_quiet_step (fail); refine wpQuiet_nil ?_)
             refine tq_loud rfl ?_
             go_wp2_with fail
             refine (Accept_v t Ab1 Ad1 cb1 cd1 Ah1 Ai1 ch1 ci1 h l (rB r v) m1 _ hg1 hh1 hi1 (by omega)).mono ?_
             rintro e V54 ⟨⟨R2, ev2, rfl, hc2⟩, hV54⟩
             replace bi := Blk.below bi hV54 bi.lt
             have N10 := ex_trans N14 hV54
             go_wp2_with fail
             refine ⟨inEx N10, ?_⟩
             repeat (refine tq_quiet rfl ?_; go_big_quiet_step (fail); refine wpQuiet_nil ?_)
             refine tq_loud rfl ?_
             have XA15 := N10
             generalize V54 = V55 at *
             have sc0 : V55.cell? ⟨pi, 0, none⟩ = some (.int .i64 0) := bi.cell 0
             have sc1 : V55.cell? ⟨pi, 1, none⟩ = some (.int .i64 0) := bi.cell 1
             have sf := bi.frozen0
             have sl := bi.lt
             go_wp2_with fail
             replace bi := bi.set_ 0 (.int .i64 R2.lo)
             replace XA15 := ex_set (p := ⟨pi, 0, none⟩) XA15 yi (.int .i64 R2.lo)
             replace bi := bi.set_ 1 (.int .i64 R2.hi)
             replace XA15 := ex_set (p := ⟨pi, 1, none⟩) XA15 yi (.int .i64 R2.hi)
             simp only [List.setIfInBounds_toArray, List.set_cons_zero, List.set_cons_succ] at bi
             clear sf sl sc0 sc1
             generalize ((V55.setCell ⟨pi, 0, none⟩ (.int .i64 R2.lo)).setCell ⟨pi, 1, none⟩ (.int .i64 R2.hi)) = V56 at *
             refine ⟨inEx XA15, ?_⟩
             repeat (refine tq_quiet rfl ?_; go_big_quiet_step (fail); refine wpQuiet_nil ?_)
             refine tq_done (r := [_]) rfl ?_
             go_wp2_with fail
             exact hrest V56 pi R2 ev2 _ (XA15) yi bi hc2 (exFrame (by kernel_rfl))
           ·
            go_wp2_with fail
            have si := (N5).size
            try simp at si
            have N14 := ex_alloc N5 (.cells #[.int .i64 0, .int .i64 0] 41)
            have bi : Blk (V49.alloc (.cells #[.int .i64 0, .int .i64 0] 41)) (V49.heap.size) 41 #[.int .i64 0, .int .i64 0] := Blk.new' _ _ _ (by first | rfl | (simp; done) | (simp; omega))
            replace hg1 := hg1.go (ex_alloc (Below.refl V49.heap.size V49) (.cells #[.int .i64 0, .int .i64 0] 41))
            replace hh1 := hh1.go (ex_alloc (Below.refl V49.heap.size V49) (.cells #[.int .i64 0, .int .i64 0] 41))
            replace hi1 := hi1.go (ex_alloc (Below.refl V49.heap.size V49) (.cells #[.int .i64 0, .int .i64 0] 41))
            obtain ⟨pi, hpi⟩ : ∃ p, V49.heap.size = p := ⟨_, rfl⟩
            rw [hpi] at bi
            try rw [hpi]
            have yi : V10.heap.size ≤ pi := by omega
            clear si
            refine ⟨inEx N14, ?_⟩
            repeat (refine tq_quiet rfl ?_; go_big_quiet_step (fail); refine wpQuiet_nil ?_)
            refine tq_loud rfl ?_
            go_wp2_with fail
            refine (sr_Reading (rB r v) _).mono ?_
            rintro e V57 ⟨rfl, hV57⟩
            replace bi := Blk.below bi hV57 bi.lt
            have N7 := ex_trans N14 hV57
            go_wp2_with fail
            replace hg1 := hg1.go hV57
            replace hh1 := hh1.go hV57
            replace hi1 := hi1.go hV57
            refine ⟨inEx N7, ?_⟩
            repeat (refine tq_quiet rfl ?_; go_big_quiet_step (fail); refine wpQuiet_nil ?_)
            refine tq_loud rfl ?_
            go_wp2_with fail
            refine (Accept_v t Ab1 Ad1 cb1 cd1 Ah1 Ai1 ch1 ci1 h l (rB r v) m1 _ hg1 hh1 hi1 (by omega)).mono ?_
            rintro e V58 ⟨⟨R2, ev2, rfl, hc2⟩, hV58⟩
            replace bi := Blk.below bi hV58 bi.lt
            have N10 := ex_trans N7 hV58
            go_wp2_with fail
            refine ⟨inEx N10, ?_⟩
            repeat (refine tq_quiet rfl ?_; go_big_quiet_step (fail); refine wpQuiet_nil ?_)
            refine tq_loud rfl ?_
            have XA15 := N10
            generalize V58 = V59 at *
            have sc0 : V59.cell? ⟨pi, 0, none⟩ = some (.int .i64 0) := bi.cell 0
            have sc1 : V59.cell? ⟨pi, 1, none⟩ = some (.int .i64 0) := bi.cell 1
            have sf := bi.frozen0
            have sl := bi.lt
            go_wp2_with fail
            replace bi := bi.set_ 0 (.int .i64 R2.lo)
            replace XA15 := ex_set (p := ⟨pi, 0, none⟩) XA15 yi (.int .i64 R2.lo)
            replace bi := bi.set_ 1 (.int .i64 R2.hi)
            replace XA15 := ex_set (p := ⟨pi, 1, none⟩) XA15 yi (.int .i64 R2.hi)
            simp only [List.setIfInBounds_toArray, List.set_cons_zero, List.set_cons_succ] at bi
            clear sf sl sc0 sc1
            generalize ((V59.setCell ⟨pi, 0, none⟩ (.int .i64 R2.lo)).setCell ⟨pi, 1, none⟩ (.int .i64 R2.hi)) = V60 at *
            refine ⟨inEx XA15, ?_⟩
            repeat (refine tq_quiet rfl ?_; go_big_quiet_step (fail); refine wpQuiet_nil ?_)
            refine tq_done (r := [_]) rfl ?_
            go_wp2_with fail
            exact hrest V60 pi R2 ev2 _ (XA15) yi bi hc2 (exFrame (by kernel_rfl))
          ·
           go_wp2_with fail
           have si := (N3).size
           try simp at si
           have N14 := ex_alloc N3 (.cells #[.int .i64 0, .int .i64 0] 41)
           have bi : Blk (V48.alloc (.cells #[.int .i64 0, .int .i64 0] 41)) (V48.heap.size) 41 #[.int .i64 0, .int .i64 0] := Blk.new' _ _ _ (by first | rfl | (simp; done) | (simp; omega))
           replace hg1 := hg1.go (ex_alloc (Below.refl V48.heap.size V48) (.cells #[.int .i64 0, .int .i64 0] 41))
           replace hh1 := hh1.go (ex_alloc (Below.refl V48.heap.size V48) (.cells #[.int .i64 0, .int .i64 0] 41))
           obtain ⟨pi, hpi⟩ : ∃ p, V48.heap.size = p := ⟨_, rfl⟩
           rw [hpi] at bi
           try rw [hpi]
           have yi : V10.heap.size ≤ pi := by omega
           clear si
           refine ⟨inEx N14, ?_⟩
           repeat (refine tq_quiet rfl ?_; go_big_quiet_step (fail); refine wpQuiet_nil ?_)
           refine tq_loud rfl ?_
           go_wp2_with fail
           refine (Ices_any _ _ l _ (by omega) (hi.go (N14))).mono ?_
           rintro e V61 ⟨⟨Ai1, ci1, rfl, -, -, hi1⟩, hV61⟩
           replace bi := Blk.below bi hV61 bi.lt
           have N5 := ex_trans N14 hV61
           go_wp2_with fail
           replace hg1 := hg1.go hV61
           replace hh1 := hh1.go hV61
           refine ⟨inEx N5, ?_⟩
           repeat (refine tq_quiet rfl ?_; go_big_quiet_step (fail); refine wpQuiet_nil ?_)
           refine tq_loud rfl ?_
           go_wp2_with fail
           refine (sr_Reading (rB r v) _).mono ?_
           rintro e V62 ⟨rfl, hV62⟩
           replace bi := Blk.below bi hV62 bi.lt
           have N7 := ex_trans N5 hV62
           go_wp2_with fail
           replace hg1 := hg1.go hV62
           replace hh1 := hh1.go hV62
           replace hi1 := hi1.go hV62
           refine ⟨inEx N7, ?_⟩
           repeat (refine tq_quiet rfl ?_; go_big_quiet_step (fail); refine wpQuiet_nil ?_)
           refine tq_loud rfl ?_
           go_wp2_with fail
           refine (Accept_v t Ab1 Ad1 cb1 cd1 Ah1 Ai1 ch1 ci1 h l (rB r v) m1 _ hg1 hh1 hi1 (by omega)).mono ?_
           rintro e V63 ⟨⟨R2, ev2, rfl, hc2⟩, hV63⟩
           replace bi := Blk.below bi hV63 bi.lt
           have N10 := ex_trans N7 hV63
           go_wp2_with fail
           refine ⟨inEx N10, ?_⟩
           repeat (refine tq_quiet rfl ?_; go_big_quiet_step (fail); refine wpQuiet_nil ?_)
           refine tq_loud rfl ?_
           have XA15 := N10
           generalize V63 = V64 at *
           have sc0 : V64.cell? ⟨pi, 0, none⟩ = some (.int .i64 0) := bi.cell 0
           have sc1 : V64.cell? ⟨pi, 1, none⟩ = some (.int .i64 0) := bi.cell 1
           have sf := bi.frozen0
           have sl := bi.lt
           go_wp2_with fail
           replace bi := bi.set_ 0 (.int .i64 R2.lo)
           replace XA15 := ex_set (p := ⟨pi, 0, none⟩) XA15 yi (.int .i64 R2.lo)
           replace bi := bi.set_ 1 (.int .i64 R2.hi)
           replace XA15 := ex_set (p := ⟨pi, 1, none⟩) XA15 yi (.int .i64 R2.hi)
           simp only [List.setIfInBounds_toArray, List.set_cons_zero, List.set_cons_succ] at bi
           clear sf sl sc0 sc1
           generalize ((V64.setCell ⟨pi, 0, none⟩ (.int .i64 R2.lo)).setCell ⟨pi, 1, none⟩ (.int .i64 R2.hi)) = V65 at *
           refine ⟨inEx XA15, ?_⟩
           repeat (refine tq_quiet rfl ?_; go_big_quiet_step (fail); refine wpQuiet_nil ?_)
           refine tq_done (r := [_]) rfl ?_
           go_wp2_with fail
           exact hrest V65 pi R2 ev2 _ (XA15) yi bi hc2 (exFrame (by kernel_rfl))
         ·
          go_wp2_with fail
          have si := (N1).size
          try simp at si
          have N14 := ex_alloc N1 (.cells #[.int .i64 0, .int .i64 0] 41)
          have bi : Blk (V47.alloc (.cells #[.int .i64 0, .int .i64 0] 41)) (V47.heap.size) 41 #[.int .i64 0, .int .i64 0] := Blk.new' _ _ _ (by first | rfl | (simp; done) | (simp; omega))
          replace hg1 := hg1.go (ex_alloc (Below.refl V47.heap.size V47) (.cells #[.int .i64 0, .int .i64 0] 41))
          obtain ⟨pi, hpi⟩ : ∃ p, V47.heap.size = p := ⟨_, rfl⟩
          rw [hpi] at bi
          try rw [hpi]
          have yi : V10.heap.size ≤ pi := by omega
          clear si
          refine ⟨inEx N14, ?_⟩
          repeat (refine tq_quiet rfl ?_; go_big_quiet_step (fail); refine wpQuiet_nil ?_)
          refine tq_loud rfl ?_
          go_wp2_with fail
          refine (History_any _ _ h _ (by omega) (hh.go (N14))).mono ?_
          rintro e V66 ⟨⟨Ah1, ch1, rfl, -, -, hh1⟩, hV66⟩
          replace bi := Blk.below bi hV66 bi.lt
          have N3 := ex_trans N14 hV66
          go_wp2_with fail
          replace hg1 := hg1.go hV66
          refine ⟨inEx N3, ?_⟩
          repeat (refine tq_quiet rfl ?_; go_big_quiet_step (fail); refine wpQuiet_nil ?_)
          refine tq_loud rfl ?_
          go_wp2_with fail
          refine (Ices_any _ _ l _ (by omega) (hi.go (N3))).mono ?_
          rintro e V67 ⟨⟨Ai1, ci1, rfl, -, -, hi1⟩, hV67⟩
          replace bi := Blk.below bi hV67 bi.lt
          have N5 := ex_trans N3 hV67
          go_wp2_with fail
          replace hg1 := hg1.go hV67
          replace hh1 := hh1.go hV67
          refine ⟨inEx N5, ?_⟩
          repeat (refine tq_quiet rfl ?_; go_big_quiet_step (fail); refine wpQuiet_nil ?_)
          refine tq_loud rfl ?_
          go_wp2_with fail
          refine (sr_Reading (rB r v) _).mono ?_
          rintro e V68 ⟨rfl, hV68⟩
          replace bi := Blk.below bi hV68 bi.lt
          have N7 := ex_trans N5 hV68
          go_wp2_with fail
          replace hg1 := hg1.go hV68
          replace hh1 := hh1.go hV68
          replace hi1 := hi1.go hV68
          refine ⟨inEx N7, ?_⟩
          repeat (refine tq_quiet rfl ?_; go_big_quiet_step (fail); refine wpQuiet_nil ?_)
          refine tq_loud rfl ?_
          go_wp2_with fail
          refine (Accept_v t Ab1 Ad1 cb1 cd1 Ah1 Ai1 ch1 ci1 h l (rB r v) m1 _ hg1 hh1 hi1 (by omega)).mono ?_
          rintro e V69 ⟨⟨R2, ev2, rfl, hc2⟩, hV69⟩
          replace bi := Blk.below bi hV69 bi.lt
          have N10 := ex_trans N7 hV69
          go_wp2_with fail
          refine ⟨inEx N10, ?_⟩
          repeat (refine tq_quiet rfl ?_; go_big_quiet_step (fail); refine wpQuiet_nil ?_)
          refine tq_loud rfl ?_
          have XA15 := N10
          generalize V69 = V70 at *
          have sc0 : V70.cell? ⟨pi, 0, none⟩ = some (.int .i64 0) := bi.cell 0
          have sc1 : V70.cell? ⟨pi, 1, none⟩ = some (.int .i64 0) := bi.cell 1
          have sf := bi.frozen0
          have sl := bi.lt
          go_wp2_with fail
          replace bi := bi.set_ 0 (.int .i64 R2.lo)
          replace XA15 := ex_set (p := ⟨pi, 0, none⟩) XA15 yi (.int .i64 R2.lo)
          replace bi := bi.set_ 1 (.int .i64 R2.hi)
          replace XA15 := ex_set (p := ⟨pi, 1, none⟩) XA15 yi (.int .i64 R2.hi)
          simp only [List.setIfInBounds_toArray, List.set_cons_zero, List.set_cons_succ] at bi
          clear sf sl sc0 sc1
          generalize ((V70.setCell ⟨pi, 0, none⟩ (.int .i64 R2.lo)).setCell ⟨pi, 1, none⟩ (.int .i64 R2.hi)) = V71 at *
          refine ⟨inEx XA15, ?_⟩
          repeat (refine tq_quiet rfl ?_; go_big_quiet_step (fail); refine wpQuiet_nil ?_)
          refine tq_done (r := [_]) rfl ?_
          go_wp2_with fail
          exact hrest V71 pi R2 ev2 _ (XA15) yi bi hc2 (exFrame (by kernel_rfl))
        ·
         go_wp2_with fail
         have si := ((Below.refl V10.heap.size V10)).size
         try simp at si
         have N14 := ex_alloc (Below.refl V10.heap.size V10) (.cells #[.int .i64 0, .int .i64 0] 41)
         have bi : Blk (V10.alloc (.cells #[.int .i64 0, .int .i64 0] 41)) (V10.heap.size) 41 #[.int .i64 0, .int .i64 0] := Blk.new' _ _ _ (by first | rfl | (simp; done) | (simp; omega))
         obtain ⟨pi, hpi⟩ : ∃ p, V10.heap.size = p := ⟨_, rfl⟩
         rw [hpi] at bi
         try rw [hpi]
         have yi : V10.heap.size ≤ pi := by omega
         clear si
         refine ⟨inEx (N14).drew, ?_⟩
         repeat (refine tq_quiet rfl ?_; go_big_quiet_step (fail); refine wpQuiet_nil ?_)
         refine tq_loud rfl ?_
         go_wp2_with fail
         refine (sr_Tube t Ab Ad cb cd _ (hg.go ((N14).drew)) (by omega) (by omega)).mono ?_
         rintro e V72 ⟨⟨Ab1, Ad1, cb1, cd1, rfl, hg1⟩, hV72⟩
         replace bi := Blk.below (Blk.drew bi) hV72 bi.lt
         have N1 := ex_trans (N14).drew hV72
         go_wp2_with fail
         refine ⟨inEx N1, ?_⟩
         repeat (refine tq_quiet rfl ?_; go_big_quiet_step (fail); refine wpQuiet_nil ?_)
         refine tq_loud rfl ?_
         go_wp2_with fail
         refine (History_any _ _ h _ (by omega) (hh.go (N1))).mono ?_
         rintro e V73 ⟨⟨Ah1, ch1, rfl, -, -, hh1⟩, hV73⟩
         replace bi := Blk.below bi hV73 bi.lt
         have N3 := ex_trans N1 hV73
         go_wp2_with fail
         replace hg1 := hg1.go hV73
         refine ⟨inEx N3, ?_⟩
         repeat (refine tq_quiet rfl ?_; go_big_quiet_step (fail); refine wpQuiet_nil ?_)
         refine tq_loud rfl ?_
         go_wp2_with fail
         refine (Ices_any _ _ l _ (by omega) (hi.go (N3))).mono ?_
         rintro e V74 ⟨⟨Ai1, ci1, rfl, -, -, hi1⟩, hV74⟩
         replace bi := Blk.below bi hV74 bi.lt
         have N5 := ex_trans N3 hV74
         go_wp2_with fail
         replace hg1 := hg1.go hV74
         replace hh1 := hh1.go hV74
         refine ⟨inEx N5, ?_⟩
         repeat (refine tq_quiet rfl ?_; go_big_quiet_step (fail); refine wpQuiet_nil ?_)
         refine tq_loud rfl ?_
         go_wp2_with fail
         refine (sr_Reading (rB r v) _).mono ?_
         rintro e V75 ⟨rfl, hV75⟩
         replace bi := Blk.below bi hV75 bi.lt
         have N7 := ex_trans N5 hV75
         go_wp2_with fail
         replace hg1 := hg1.go hV75
         replace hh1 := hh1.go hV75
         replace hi1 := hi1.go hV75
         refine ⟨inEx N7, ?_⟩
         repeat (refine tq_quiet rfl ?_; go_big_quiet_step (fail); refine wpQuiet_nil ?_)
         refine tq_loud rfl ?_
         go_wp2_with fail
         refine (Accept_v t Ab1 Ad1 cb1 cd1 Ah1 Ai1 ch1 ci1 h l (rB r v) m1 _ hg1 hh1 hi1 (by omega)).mono ?_
         rintro e V76 ⟨⟨R2, ev2, rfl, hc2⟩, hV76⟩
         replace bi := Blk.below bi hV76 bi.lt
         have N10 := ex_trans N7 hV76
         go_wp2_with fail
         refine ⟨inEx N10, ?_⟩
         repeat (refine tq_quiet rfl ?_; go_big_quiet_step (fail); refine wpQuiet_nil ?_)
         refine tq_loud rfl ?_
         have XA15 := N10
         generalize V76 = V77 at *
         have sc0 : V77.cell? ⟨pi, 0, none⟩ = some (.int .i64 0) := bi.cell 0
         have sc1 : V77.cell? ⟨pi, 1, none⟩ = some (.int .i64 0) := bi.cell 1
         have sf := bi.frozen0
         have sl := bi.lt
         go_wp2_with fail
         replace bi := bi.set_ 0 (.int .i64 R2.lo)
         replace XA15 := ex_set (p := ⟨pi, 0, none⟩) XA15 yi (.int .i64 R2.lo)
         replace bi := bi.set_ 1 (.int .i64 R2.hi)
         replace XA15 := ex_set (p := ⟨pi, 1, none⟩) XA15 yi (.int .i64 R2.hi)
         simp only [List.setIfInBounds_toArray, List.set_cons_zero, List.set_cons_succ] at bi
         clear sf sl sc0 sc1
         generalize ((V77.setCell ⟨pi, 0, none⟩ (.int .i64 R2.lo)).setCell ⟨pi, 1, none⟩ (.int .i64 R2.hi)) = V78 at *
         refine ⟨inEx XA15, ?_⟩
         repeat (refine tq_quiet rfl ?_; go_big_quiet_step (fail); refine wpQuiet_nil ?_)
         refine tq_done (r := [_]) rfl ?_
         go_wp2_with fail
         exact hrest V78 pi R2 ev2 _ (XA15) yi bi hc2 (exFrame (by kernel_rfl))
       ·
        have hq : 0 ≤ (m2 * 300).tdiv 255 ∧ (m2 * 300).tdiv 255 ≤ 300 := by rw [Int.tdiv_eq_ediv_of_nonneg (by omega)]; omega
        have f3 := bf.cell 3
        have ff := bf.frozen0
        have lf := bf.lt
        simp at f3
        go_upto_region 16 with fail
        obtain ⟨nn, hnn⟩ : ∃ x, (m2 * 300).tdiv 255 = x := ⟨_, rfl⟩
        rw [hnn] at hq
        try rw [hnn]
        have hnb := hq
        have HNO : Hid (okN t r (gR zs r.day.toNat) m1 nn = false) := Lib.hid (hfa nn hnb.1 hnb.2)
        clear f3 ff lf hnn hq hfa HMU
        replace bf := bf.set_ 3 (.int .i64 nn)
        replace bx := bx.far (p := ⟨pf, 3, none⟩) nxf (.int .i64 nn)
        simp only [List.setIfInBounds_toArray, List.set_cons_zero, List.set_cons_succ] at bf
        have XS := ex_set (p := ⟨pf, 3, none⟩) X_V9 yf (.int .i64 nn)
        generalize V9.setCell ⟨pf, 3, none⟩ (.int .i64 nn) = V79 at *
        replace q1 := q1_0.below XS q1_0.lt
        replace q2 := q2_0.below XS q2_0.lt
        replace hg := hg_0.go XS
        replace hh := hh_0.go XS
        replace hi := hi_0.go XS
        have B_V79 := ex_trans B_V8 XS
        have X_V79 := XS
        clear XS
        go_upto_region 16 with fail
        rename_i K0 hK0
        have hrest : ∀ (V80 : World) (pj : Nat) (R4 : Rg) (ev4 : Int) (a : Act), Below V79.heap.size V79 V80 → V79.heap.size ≤ pj → Blk V80 pj 41 #[.int .i64 (R4 : Rg).lo, .int .i64 (R4 : Rg).hi] → Hid (AccV t h l (rB r nn) m1 R4 ev4) → (∃ u : Nat → Value, a = ⟨List.toArray (u 0 :: .slice Ah h.length ch :: u 2 :: u 3 :: u 4 :: .int .u8 m1 :: .int .u8 m2 :: .pointer (some ⟨pq1, 0, none⟩) :: u 8 :: u 9 :: u 10 :: .pointer (some ⟨pq2, 0, none⟩) :: u 12 :: u 13 :: .bool false :: .slice Ai l.length ci :: u 16 :: u 17 :: .int .i64 0 :: .int .i64 7 :: .pointer (some ⟨px, 0, none⟩) :: .pointer (some ⟨pf, 0, none⟩) :: u 22 :: u 23 :: .pointer (some ⟨pj, 0, none⟩) :: .int .i64 ev4 :: u 26 :: u 27 :: u 28 :: u 29 :: u 30 :: u 31 :: u 32 :: u 33 :: u 34 :: u 35 :: u 36 :: u 37 :: u 38 :: u 39 :: u 40 :: u 41 :: u 42 :: u 43 :: u 44 :: u 45 :: u 46 :: u 47 :: u 48 :: u 49 :: u 50 :: u 51 :: u 52 :: u 53 :: u 54 :: u 55 :: u 56 :: u 57 :: u 58 :: u 59 :: u 60 :: u 61 :: u 62 :: u 63 :: u 64 :: u 65 :: u 66 :: u 67 :: u 68 :: u 69 :: u 70 :: u 71 :: u 72 :: u 73 :: u 74 :: u 75 :: u 76 :: u 77 :: u 78 :: u 79 :: u 80 :: u 81 :: u 82 :: u 83 :: u 84 :: u 85 :: u 86 :: u 87 :: u 88 :: u 89 :: u 90 :: u 91 :: u 92 :: u 93 :: u 94 :: u 95 :: u 96 :: u 97 :: u 98 :: u 99 :: u 100 :: u 101 :: u 102 :: u 103 :: u 104 :: u 105 :: u 106 :: u 107 :: u 108 :: u 109 :: u 110 :: u 111 :: u 112 :: u 113 :: u 114 :: u 115 :: u 116 :: u 117 :: u 118 :: u 119 :: u 120 :: u 121 :: u 122 :: u 123 :: u 124 :: u 125 :: u 126 :: u 127 :: u 128 :: u 129 :: u 130 :: u 131 :: u 132 :: u 133 :: u 134 :: u 135 :: u 136 :: u 137 :: u 138 :: []), []⟩) → K0 a V80 := by
         rintro V80 pj R4 ev4 a hX9 yj bj hc4 ⟨u, rfl⟩
         refine hK0 _ _ ?_
         clear hK0 K0
         replace q1 := q1.below hX9 q1.lt
         replace q2 := q2.below hX9 q2.lt
         replace hg := hg.go hX9
         replace hh := (hh.below hX9).up hX9.size
         replace hi := (hi.below hX9).up hX9.size
         replace bx := bx.below hX9 bx.lt
         replace bf := bf.below hX9 bf.lt
         have B_V80 := ex_trans B_V79 hX9
         have X_V80 := ex_trans X_V79 hX9
         have zj : w.heap.size ≤ pj := by have := B_V79.size; omega
         obtain rfl : ev4 = 10 := by
          have := much_acc HA.out HM1 HR.out HZ.out hnb.1 hnb.2 hc4.out
          rw [if_neg (by rw [HNO.out]; exact Bool.false_ne_true)] at this
          exact this
         clear hc4
         go_wp2_with fail
         refine (sl_awake _).mono ?_
         rintro e V81 ⟨rfl, hV81⟩
         replace q1 := q1.below hV81 q1.lt
         replace q2 := q2.below hV81 q2.lt
         replace hg := hg.go hV81
         replace hh := (hh.below hV81).up hV81.size
         replace hi := (hi.below hV81).up hV81.size
         replace bx := bx.below hV81 bx.lt
         replace bf := bf.below hV81 bf.lt
         replace bj := bj.below hV81 bj.lt
         have B_V81 := ex_trans B_V80 hV81
         have X_V81 := ex_trans X_V80 hV81
         go_wp2
         go_ret
         exact ⟨rfl, B_V81⟩
        refine wp_region_ext_tq 16 (.quiet 0 (.quiet 2 (.quiet 4 (.quiet 6 (.quiet 8 (.quiet 9 (.fork 1 (.fork 3 (.fork 5 (.fork 7 (.fork 10 (.quiet 11 (.quiet 12 (.quiet 13 (.loud 14 (.loud 15 .done))))) 14 (.loud 10 (.quiet 11 (.quiet 12 (.quiet 13 (.loud 15 .done)))))) 14 (.loud 7 (.loud 10 (.quiet 11 (.quiet 12 (.quiet 13 (.loud 15 .done))))))) 14 (.loud 5 (.loud 7 (.loud 10 (.quiet 11 (.quiet 12 (.quiet 13 (.loud 15 .done)))))))) 14 (.loud 3 (.loud 5 (.loud 7 (.loud 10 (.quiet 11 (.quiet 12 (.quiet 13 (.loud 15 .done))))))))) 14 (.loud 1 (.loud 3 (.loud 5 (.loud 7 (.loud 10 (.quiet 11 (.quiet 12 (.quiet 13 (.loud 15 .done)))))))))))))))) (by kernel_rfl) (by kernel_rfl) (by intro d _ _ _ _ h; cases d <;> exact h) ?_
        have D0 := (Below.refl V79.heap.size V79).drew
        repeat (refine tq_quiet rfl ?_; first | (refine wpQuiet_load_row rfl 29 _ rfl _ rfl 29 _ (0, 0) _ q1.ex Tryz.underlying29 rfl (by kernel_rfl) ?_; simp only [Act.put, List.setIfInBounds_toArray, List.set_cons_zero, List.set_cons_succ]; refine wpQuiet_nil ?_) | (refine wpQuiet_load_row rfl 33 _ rfl _ rfl 33 _ (0, 0) _ bf.ex Tryz.underlying33 rfl (by kernel_rfl) ?_; simp only [Act.put, List.setIfInBounds_toArray, List.set_cons_zero, List.set_cons_succ]; refine wpQuiet_nil ?_) | (go_big_quiet_step (fail); refine wpQuiet_nil ?_))
        refine tq_fork rfl rfl ?_ ?_
        ·
         go_wp2_with fail
         refine (sr_Tube t Ab Ad cb cd _ (hg.go (((Below.refl V79.heap.size V79)).drew)) (by omega) (by omega)).mono ?_
         rintro e V82 ⟨⟨Ab1, Ad1, cb1, cd1, rfl, hg1⟩, hV82⟩
         have N1 := ex_trans ((Below.refl V79.heap.size V79)).drew hV82
         go_wp2_with fail
         refine ⟨inEx N1, ?_⟩
         repeat (refine tq_quiet rfl ?_; go_big_quiet_step (fail); refine wpQuiet_nil ?_)
         refine tq_fork rfl rfl ?_ ?_
         ·
          go_wp2_with fail
          refine (History_any _ _ h _ (by omega) (hh.go (N1))).mono ?_
          rintro e V83 ⟨⟨Ah1, ch1, rfl, -, -, hh1⟩, hV83⟩
          have N3 := ex_trans N1 hV83
          go_wp2_with fail
          replace hg1 := hg1.go hV83
          refine ⟨inEx N3, ?_⟩
          repeat (refine tq_quiet rfl ?_; go_big_quiet_step (fail); refine wpQuiet_nil ?_)
          refine tq_fork rfl rfl ?_ ?_
          ·
           go_wp2_with fail
           refine (Ices_any _ _ l _ (by omega) (hi.go (N3))).mono ?_
           rintro e V84 ⟨⟨Ai1, ci1, rfl, -, -, hi1⟩, hV84⟩
           have N5 := ex_trans N3 hV84
           go_wp2_with fail
           replace hg1 := hg1.go hV84
           replace hh1 := hh1.go hV84
           refine ⟨inEx N5, ?_⟩
           repeat (refine tq_quiet rfl ?_; go_big_quiet_step (fail); refine wpQuiet_nil ?_)
           refine tq_fork rfl rfl ?_ ?_
           ·
            go_wp2_with fail
            refine (sr_Reading (rB r nn) _).mono ?_
            rintro e V85 ⟨rfl, hV85⟩
            have N7 := ex_trans N5 hV85
            go_wp2_with fail
            replace hg1 := hg1.go hV85
            replace hh1 := hh1.go hV85
            replace hi1 := hi1.go hV85
            refine ⟨inEx N7, ?_⟩
            repeat (refine tq_quiet rfl ?_; go_big_quiet_step (fail); refine wpQuiet_nil ?_)
            refine tq_fork rfl rfl ?_ ?_
            ·
             go_wp2_with fail
             refine (Accept_v t Ab1 Ad1 cb1 cd1 Ah1 Ai1 ch1 ci1 h l (rB r nn) m1 _ hg1 hh1 hi1 (by omega)).mono ?_
             rintro e V86 ⟨⟨R4, ev4, rfl, hc4⟩, hV86⟩
             have N10 := ex_trans N7 hV86
             go_wp2_with fail
             refine ⟨inEx N10, ?_⟩
             repeat (refine tq_quiet rfl ?_; go_big_quiet_step (fail); refine wpQuiet_nil ?_)
             refine tq_loud rfl ?_
             go_wp2_with fail
             have sj := (N10).size
             try simp at sj
             have N14 := ex_alloc N10 (.cells #[.int .i64 0, .int .i64 0] 41)
             have bj : Blk (V86.alloc (.cells #[.int .i64 0, .int .i64 0] 41)) (V86.heap.size) 41 #[.int .i64 0, .int .i64 0] := Blk.new' _ _ _ (by first | rfl | (simp; done) | (simp; omega))
             obtain ⟨pj, hpj⟩ : ∃ p, V86.heap.size = p := ⟨_, rfl⟩
             rw [hpj] at bj
             try rw [hpj]
             have yj : V79.heap.size ≤ pj := by omega
             clear sj
             refine ⟨inEx N14, ?_⟩
             repeat (refine tq_quiet rfl ?_; go_big_quiet_step (fail); refine wpQuiet_nil ?_)
             refine tq_loud rfl ?_
             have XA15 := N14
             generalize (V86.alloc (.cells #[.int .i64 0, .int .i64 0] 41)) = V87 at *
             have sc0 : V87.cell? ⟨pj, 0, none⟩ = some (.int .i64 0) := bj.cell 0
             have sc1 : V87.cell? ⟨pj, 1, none⟩ = some (.int .i64 0) := bj.cell 1
             have sf := bj.frozen0
             have sl := bj.lt
             go_wp2_with fail
             replace bj := bj.set_ 0 (.int .i64 R4.lo)
             replace XA15 := ex_set (p := ⟨pj, 0, none⟩) XA15 yj (.int .i64 R4.lo)
             replace bj := bj.set_ 1 (.int .i64 R4.hi)
             replace XA15 := ex_set (p := ⟨pj, 1, none⟩) XA15 yj (.int .i64 R4.hi)
             simp only [List.setIfInBounds_toArray, List.set_cons_zero, List.set_cons_succ] at bj
             clear sf sl sc0 sc1
             generalize ((V87.setCell ⟨pj, 0, none⟩ (.int .i64 R4.lo)).setCell ⟨pj, 1, none⟩ (.int .i64 R4.hi)) = V88 at *
             refine ⟨inEx XA15, ?_⟩
             repeat (refine tq_quiet rfl ?_; go_big_quiet_step (fail); refine wpQuiet_nil ?_)
             refine tq_done (r := [_]) rfl ?_
             go_wp2_with fail
             exact hrest V88 pj R4 ev4 _ (XA15) yj bj hc4 (exFrame (by kernel_rfl))
            ·
             go_wp2_with fail
             have sj := (N7).size
             try simp at sj
             have N14 := ex_alloc N7 (.cells #[.int .i64 0, .int .i64 0] 41)
             have bj : Blk (V85.alloc (.cells #[.int .i64 0, .int .i64 0] 41)) (V85.heap.size) 41 #[.int .i64 0, .int .i64 0] := Blk.new' _ _ _ (by first | rfl | (simp; done) | (simp; omega))
             replace hg1 := hg1.go (ex_alloc (Below.refl V85.heap.size V85) (.cells #[.int .i64 0, .int .i64 0] 41))
             replace hh1 := hh1.go (ex_alloc (Below.refl V85.heap.size V85) (.cells #[.int .i64 0, .int .i64 0] 41))
             replace hi1 := hi1.go (ex_alloc (Below.refl V85.heap.size V85) (.cells #[.int .i64 0, .int .i64 0] 41))
             obtain ⟨pj, hpj⟩ : ∃ p, V85.heap.size = p := ⟨_, rfl⟩
             rw [hpj] at bj
             try rw [hpj]
             have yj : V79.heap.size ≤ pj := by omega
             clear sj
             refine ⟨inEx N14, ?_⟩
             repeat (refine tq_quiet rfl ?_; go_big_quiet_step (fail); refine wpQuiet_nil ?_)
             refine tq_loud rfl ?_
             go_wp2_with fail
             refine (Accept_v t Ab1 Ad1 cb1 cd1 Ah1 Ai1 ch1 ci1 h l (rB r nn) m1 _ hg1 hh1 hi1 (by omega)).mono ?_
             rintro e V89 ⟨⟨R4, ev4, rfl, hc4⟩, hV89⟩
             replace bj := Blk.below bj hV89 bj.lt
             have N10 := ex_trans N14 hV89
             go_wp2_with fail
             refine ⟨inEx N10, ?_⟩
             repeat (refine tq_quiet rfl ?_; go_big_quiet_step (fail); refine wpQuiet_nil ?_)
             refine tq_loud rfl ?_
             have XA15 := N10
             generalize V89 = V90 at *
             have sc0 : V90.cell? ⟨pj, 0, none⟩ = some (.int .i64 0) := bj.cell 0
             have sc1 : V90.cell? ⟨pj, 1, none⟩ = some (.int .i64 0) := bj.cell 1
             have sf := bj.frozen0
             have sl := bj.lt
             go_wp2_with fail
             replace bj := bj.set_ 0 (.int .i64 R4.lo)
             replace XA15 := ex_set (p := ⟨pj, 0, none⟩) XA15 yj (.int .i64 R4.lo)
             replace bj := bj.set_ 1 (.int .i64 R4.hi)
             replace XA15 := ex_set (p := ⟨pj, 1, none⟩) XA15 yj (.int .i64 R4.hi)
             simp only [List.setIfInBounds_toArray, List.set_cons_zero, List.set_cons_succ] at bj
             clear sf sl sc0 sc1
             generalize ((V90.setCell ⟨pj, 0, none⟩ (.int .i64 R4.lo)).setCell ⟨pj, 1, none⟩ (.int .i64 R4.hi)) = V91 at *
             refine ⟨inEx XA15, ?_⟩
             repeat (refine tq_quiet rfl ?_; go_big_quiet_step (fail); refine wpQuiet_nil ?_)
             refine tq_done (r := [_]) rfl ?_
             go_wp2_with fail
             exact hrest V91 pj R4 ev4 _ (XA15) yj bj hc4 (exFrame (by kernel_rfl))
           ·
            go_wp2_with fail
            have sj := (N5).size
            try simp at sj
            have N14 := ex_alloc N5 (.cells #[.int .i64 0, .int .i64 0] 41)
            have bj : Blk (V84.alloc (.cells #[.int .i64 0, .int .i64 0] 41)) (V84.heap.size) 41 #[.int .i64 0, .int .i64 0] := Blk.new' _ _ _ (by first | rfl | (simp; done) | (simp; omega))
            replace hg1 := hg1.go (ex_alloc (Below.refl V84.heap.size V84) (.cells #[.int .i64 0, .int .i64 0] 41))
            replace hh1 := hh1.go (ex_alloc (Below.refl V84.heap.size V84) (.cells #[.int .i64 0, .int .i64 0] 41))
            replace hi1 := hi1.go (ex_alloc (Below.refl V84.heap.size V84) (.cells #[.int .i64 0, .int .i64 0] 41))
            obtain ⟨pj, hpj⟩ : ∃ p, V84.heap.size = p := ⟨_, rfl⟩
            rw [hpj] at bj
            try rw [hpj]
            have yj : V79.heap.size ≤ pj := by omega
            clear sj
            refine ⟨inEx N14, ?_⟩
            repeat (refine tq_quiet rfl ?_; go_big_quiet_step (fail); refine wpQuiet_nil ?_)
            refine tq_loud rfl ?_
            go_wp2_with fail
            refine (sr_Reading (rB r nn) _).mono ?_
            rintro e V92 ⟨rfl, hV92⟩
            replace bj := Blk.below bj hV92 bj.lt
            have N7 := ex_trans N14 hV92
            go_wp2_with fail
            replace hg1 := hg1.go hV92
            replace hh1 := hh1.go hV92
            replace hi1 := hi1.go hV92
            refine ⟨inEx N7, ?_⟩
            repeat (refine tq_quiet rfl ?_; go_big_quiet_step (fail); refine wpQuiet_nil ?_)
            refine tq_loud rfl ?_
            go_wp2_with fail
            refine (Accept_v t Ab1 Ad1 cb1 cd1 Ah1 Ai1 ch1 ci1 h l (rB r nn) m1 _ hg1 hh1 hi1 (by omega)).mono ?_
            rintro e V93 ⟨⟨R4, ev4, rfl, hc4⟩, hV93⟩
            replace bj := Blk.below bj hV93 bj.lt
            have N10 := ex_trans N7 hV93
            go_wp2_with fail
            refine ⟨inEx N10, ?_⟩
            repeat (refine tq_quiet rfl ?_; go_big_quiet_step (fail); refine wpQuiet_nil ?_)
            refine tq_loud rfl ?_
            have XA15 := N10
            generalize V93 = V94 at *
            have sc0 : V94.cell? ⟨pj, 0, none⟩ = some (.int .i64 0) := bj.cell 0
            have sc1 : V94.cell? ⟨pj, 1, none⟩ = some (.int .i64 0) := bj.cell 1
            have sf := bj.frozen0
            have sl := bj.lt
            go_wp2_with fail
            replace bj := bj.set_ 0 (.int .i64 R4.lo)
            replace XA15 := ex_set (p := ⟨pj, 0, none⟩) XA15 yj (.int .i64 R4.lo)
            replace bj := bj.set_ 1 (.int .i64 R4.hi)
            replace XA15 := ex_set (p := ⟨pj, 1, none⟩) XA15 yj (.int .i64 R4.hi)
            simp only [List.setIfInBounds_toArray, List.set_cons_zero, List.set_cons_succ] at bj
            clear sf sl sc0 sc1
            generalize ((V94.setCell ⟨pj, 0, none⟩ (.int .i64 R4.lo)).setCell ⟨pj, 1, none⟩ (.int .i64 R4.hi)) = V95 at *
            refine ⟨inEx XA15, ?_⟩
            repeat (refine tq_quiet rfl ?_; go_big_quiet_step (fail); refine wpQuiet_nil ?_)
            refine tq_done (r := [_]) rfl ?_
            go_wp2_with fail
            exact hrest V95 pj R4 ev4 _ (XA15) yj bj hc4 (exFrame (by kernel_rfl))
          ·
           go_wp2_with fail
           have sj := (N3).size
           try simp at sj
           have N14 := ex_alloc N3 (.cells #[.int .i64 0, .int .i64 0] 41)
           have bj : Blk (V83.alloc (.cells #[.int .i64 0, .int .i64 0] 41)) (V83.heap.size) 41 #[.int .i64 0, .int .i64 0] := Blk.new' _ _ _ (by first | rfl | (simp; done) | (simp; omega))
           replace hg1 := hg1.go (ex_alloc (Below.refl V83.heap.size V83) (.cells #[.int .i64 0, .int .i64 0] 41))
           replace hh1 := hh1.go (ex_alloc (Below.refl V83.heap.size V83) (.cells #[.int .i64 0, .int .i64 0] 41))
           obtain ⟨pj, hpj⟩ : ∃ p, V83.heap.size = p := ⟨_, rfl⟩
           rw [hpj] at bj
           try rw [hpj]
           have yj : V79.heap.size ≤ pj := by omega
           clear sj
           refine ⟨inEx N14, ?_⟩
           repeat (refine tq_quiet rfl ?_; go_big_quiet_step (fail); refine wpQuiet_nil ?_)
           refine tq_loud rfl ?_
           go_wp2_with fail
           refine (Ices_any _ _ l _ (by omega) (hi.go (N14))).mono ?_
           rintro e V96 ⟨⟨Ai1, ci1, rfl, -, -, hi1⟩, hV96⟩
           replace bj := Blk.below bj hV96 bj.lt
           have N5 := ex_trans N14 hV96
           go_wp2_with fail
           replace hg1 := hg1.go hV96
           replace hh1 := hh1.go hV96
           refine ⟨inEx N5, ?_⟩
           repeat (refine tq_quiet rfl ?_; go_big_quiet_step (fail); refine wpQuiet_nil ?_)
           refine tq_loud rfl ?_
           go_wp2_with fail
           refine (sr_Reading (rB r nn) _).mono ?_
           rintro e V97 ⟨rfl, hV97⟩
           replace bj := Blk.below bj hV97 bj.lt
           have N7 := ex_trans N5 hV97
           go_wp2_with fail
           replace hg1 := hg1.go hV97
           replace hh1 := hh1.go hV97
           replace hi1 := hi1.go hV97
           refine ⟨inEx N7, ?_⟩
           repeat (refine tq_quiet rfl ?_; go_big_quiet_step (fail); refine wpQuiet_nil ?_)
           refine tq_loud rfl ?_
           go_wp2_with fail
           refine (Accept_v t Ab1 Ad1 cb1 cd1 Ah1 Ai1 ch1 ci1 h l (rB r nn) m1 _ hg1 hh1 hi1 (by omega)).mono ?_
           rintro e V98 ⟨⟨R4, ev4, rfl, hc4⟩, hV98⟩
           replace bj := Blk.below bj hV98 bj.lt
           have N10 := ex_trans N7 hV98
           go_wp2_with fail
           refine ⟨inEx N10, ?_⟩
           repeat (refine tq_quiet rfl ?_; go_big_quiet_step (fail); refine wpQuiet_nil ?_)
           refine tq_loud rfl ?_
           have XA15 := N10
           generalize V98 = V99 at *
           have sc0 : V99.cell? ⟨pj, 0, none⟩ = some (.int .i64 0) := bj.cell 0
           have sc1 : V99.cell? ⟨pj, 1, none⟩ = some (.int .i64 0) := bj.cell 1
           have sf := bj.frozen0
           have sl := bj.lt
           go_wp2_with fail
           replace bj := bj.set_ 0 (.int .i64 R4.lo)
           replace XA15 := ex_set (p := ⟨pj, 0, none⟩) XA15 yj (.int .i64 R4.lo)
           replace bj := bj.set_ 1 (.int .i64 R4.hi)
           replace XA15 := ex_set (p := ⟨pj, 1, none⟩) XA15 yj (.int .i64 R4.hi)
           simp only [List.setIfInBounds_toArray, List.set_cons_zero, List.set_cons_succ] at bj
           clear sf sl sc0 sc1
           generalize ((V99.setCell ⟨pj, 0, none⟩ (.int .i64 R4.lo)).setCell ⟨pj, 1, none⟩ (.int .i64 R4.hi)) = V100 at *
           refine ⟨inEx XA15, ?_⟩
           repeat (refine tq_quiet rfl ?_; go_big_quiet_step (fail); refine wpQuiet_nil ?_)
           refine tq_done (r := [_]) rfl ?_
           go_wp2_with fail
           exact hrest V100 pj R4 ev4 _ (XA15) yj bj hc4 (exFrame (by kernel_rfl))
         ·
          go_wp2_with fail
          have sj := (N1).size
          try simp at sj
          have N14 := ex_alloc N1 (.cells #[.int .i64 0, .int .i64 0] 41)
          have bj : Blk (V82.alloc (.cells #[.int .i64 0, .int .i64 0] 41)) (V82.heap.size) 41 #[.int .i64 0, .int .i64 0] := Blk.new' _ _ _ (by first | rfl | (simp; done) | (simp; omega))
          replace hg1 := hg1.go (ex_alloc (Below.refl V82.heap.size V82) (.cells #[.int .i64 0, .int .i64 0] 41))
          obtain ⟨pj, hpj⟩ : ∃ p, V82.heap.size = p := ⟨_, rfl⟩
          rw [hpj] at bj
          try rw [hpj]
          have yj : V79.heap.size ≤ pj := by omega
          clear sj
          refine ⟨inEx N14, ?_⟩
          repeat (refine tq_quiet rfl ?_; go_big_quiet_step (fail); refine wpQuiet_nil ?_)
          refine tq_loud rfl ?_
          go_wp2_with fail
          refine (History_any _ _ h _ (by omega) (hh.go (N14))).mono ?_
          rintro e V101 ⟨⟨Ah1, ch1, rfl, -, -, hh1⟩, hV101⟩
          replace bj := Blk.below bj hV101 bj.lt
          have N3 := ex_trans N14 hV101
          go_wp2_with fail
          replace hg1 := hg1.go hV101
          refine ⟨inEx N3, ?_⟩
          repeat (refine tq_quiet rfl ?_; go_big_quiet_step (fail); refine wpQuiet_nil ?_)
          refine tq_loud rfl ?_
          go_wp2_with fail
          refine (Ices_any _ _ l _ (by omega) (hi.go (N3))).mono ?_
          rintro e V102 ⟨⟨Ai1, ci1, rfl, -, -, hi1⟩, hV102⟩
          replace bj := Blk.below bj hV102 bj.lt
          have N5 := ex_trans N3 hV102
          go_wp2_with fail
          replace hg1 := hg1.go hV102
          replace hh1 := hh1.go hV102
          refine ⟨inEx N5, ?_⟩
          repeat (refine tq_quiet rfl ?_; go_big_quiet_step (fail); refine wpQuiet_nil ?_)
          refine tq_loud rfl ?_
          go_wp2_with fail
          refine (sr_Reading (rB r nn) _).mono ?_
          rintro e V103 ⟨rfl, hV103⟩
          replace bj := Blk.below bj hV103 bj.lt
          have N7 := ex_trans N5 hV103
          go_wp2_with fail
          replace hg1 := hg1.go hV103
          replace hh1 := hh1.go hV103
          replace hi1 := hi1.go hV103
          refine ⟨inEx N7, ?_⟩
          repeat (refine tq_quiet rfl ?_; go_big_quiet_step (fail); refine wpQuiet_nil ?_)
          refine tq_loud rfl ?_
          go_wp2_with fail
          refine (Accept_v t Ab1 Ad1 cb1 cd1 Ah1 Ai1 ch1 ci1 h l (rB r nn) m1 _ hg1 hh1 hi1 (by omega)).mono ?_
          rintro e V104 ⟨⟨R4, ev4, rfl, hc4⟩, hV104⟩
          replace bj := Blk.below bj hV104 bj.lt
          have N10 := ex_trans N7 hV104
          go_wp2_with fail
          refine ⟨inEx N10, ?_⟩
          repeat (refine tq_quiet rfl ?_; go_big_quiet_step (fail); refine wpQuiet_nil ?_)
          refine tq_loud rfl ?_
          have XA15 := N10
          generalize V104 = V105 at *
          have sc0 : V105.cell? ⟨pj, 0, none⟩ = some (.int .i64 0) := bj.cell 0
          have sc1 : V105.cell? ⟨pj, 1, none⟩ = some (.int .i64 0) := bj.cell 1
          have sf := bj.frozen0
          have sl := bj.lt
          go_wp2_with fail
          replace bj := bj.set_ 0 (.int .i64 R4.lo)
          replace XA15 := ex_set (p := ⟨pj, 0, none⟩) XA15 yj (.int .i64 R4.lo)
          replace bj := bj.set_ 1 (.int .i64 R4.hi)
          replace XA15 := ex_set (p := ⟨pj, 1, none⟩) XA15 yj (.int .i64 R4.hi)
          simp only [List.setIfInBounds_toArray, List.set_cons_zero, List.set_cons_succ] at bj
          clear sf sl sc0 sc1
          generalize ((V105.setCell ⟨pj, 0, none⟩ (.int .i64 R4.lo)).setCell ⟨pj, 1, none⟩ (.int .i64 R4.hi)) = V106 at *
          refine ⟨inEx XA15, ?_⟩
          repeat (refine tq_quiet rfl ?_; go_big_quiet_step (fail); refine wpQuiet_nil ?_)
          refine tq_done (r := [_]) rfl ?_
          go_wp2_with fail
          exact hrest V106 pj R4 ev4 _ (XA15) yj bj hc4 (exFrame (by kernel_rfl))
        ·
         go_wp2_with fail
         have sj := ((Below.refl V79.heap.size V79)).size
         try simp at sj
         have N14 := ex_alloc (Below.refl V79.heap.size V79) (.cells #[.int .i64 0, .int .i64 0] 41)
         have bj : Blk (V79.alloc (.cells #[.int .i64 0, .int .i64 0] 41)) (V79.heap.size) 41 #[.int .i64 0, .int .i64 0] := Blk.new' _ _ _ (by first | rfl | (simp; done) | (simp; omega))
         obtain ⟨pj, hpj⟩ : ∃ p, V79.heap.size = p := ⟨_, rfl⟩
         rw [hpj] at bj
         try rw [hpj]
         have yj : V79.heap.size ≤ pj := by omega
         clear sj
         refine ⟨inEx (N14).drew, ?_⟩
         repeat (refine tq_quiet rfl ?_; go_big_quiet_step (fail); refine wpQuiet_nil ?_)
         refine tq_loud rfl ?_
         go_wp2_with fail
         refine (sr_Tube t Ab Ad cb cd _ (hg.go ((N14).drew)) (by omega) (by omega)).mono ?_
         rintro e V107 ⟨⟨Ab1, Ad1, cb1, cd1, rfl, hg1⟩, hV107⟩
         replace bj := Blk.below (Blk.drew bj) hV107 bj.lt
         have N1 := ex_trans (N14).drew hV107
         go_wp2_with fail
         refine ⟨inEx N1, ?_⟩
         repeat (refine tq_quiet rfl ?_; go_big_quiet_step (fail); refine wpQuiet_nil ?_)
         refine tq_loud rfl ?_
         go_wp2_with fail
         refine (History_any _ _ h _ (by omega) (hh.go (N1))).mono ?_
         rintro e V108 ⟨⟨Ah1, ch1, rfl, -, -, hh1⟩, hV108⟩
         replace bj := Blk.below bj hV108 bj.lt
         have N3 := ex_trans N1 hV108
         go_wp2_with fail
         replace hg1 := hg1.go hV108
         refine ⟨inEx N3, ?_⟩
         repeat (refine tq_quiet rfl ?_; go_big_quiet_step (fail); refine wpQuiet_nil ?_)
         refine tq_loud rfl ?_
         go_wp2_with fail
         refine (Ices_any _ _ l _ (by omega) (hi.go (N3))).mono ?_
         rintro e V109 ⟨⟨Ai1, ci1, rfl, -, -, hi1⟩, hV109⟩
         replace bj := Blk.below bj hV109 bj.lt
         have N5 := ex_trans N3 hV109
         go_wp2_with fail
         replace hg1 := hg1.go hV109
         replace hh1 := hh1.go hV109
         refine ⟨inEx N5, ?_⟩
         repeat (refine tq_quiet rfl ?_; go_big_quiet_step (fail); refine wpQuiet_nil ?_)
         refine tq_loud rfl ?_
         go_wp2_with fail
         refine (sr_Reading (rB r nn) _).mono ?_
         rintro e V110 ⟨rfl, hV110⟩
         replace bj := Blk.below bj hV110 bj.lt
         have N7 := ex_trans N5 hV110
         go_wp2_with fail
         replace hg1 := hg1.go hV110
         replace hh1 := hh1.go hV110
         replace hi1 := hi1.go hV110
         refine ⟨inEx N7, ?_⟩
         repeat (refine tq_quiet rfl ?_; go_big_quiet_step (fail); refine wpQuiet_nil ?_)
         refine tq_loud rfl ?_
         go_wp2_with fail
         refine (Accept_v t Ab1 Ad1 cb1 cd1 Ah1 Ai1 ch1 ci1 h l (rB r nn) m1 _ hg1 hh1 hi1 (by omega)).mono ?_
         rintro e V111 ⟨⟨R4, ev4, rfl, hc4⟩, hV111⟩
         replace bj := Blk.below bj hV111 bj.lt
         have N10 := ex_trans N7 hV111
         go_wp2_with fail
         refine ⟨inEx N10, ?_⟩
         repeat (refine tq_quiet rfl ?_; go_big_quiet_step (fail); refine wpQuiet_nil ?_)
         refine tq_loud rfl ?_
         have XA15 := N10
         generalize V111 = V112 at *
         have sc0 : V112.cell? ⟨pj, 0, none⟩ = some (.int .i64 0) := bj.cell 0
         have sc1 : V112.cell? ⟨pj, 1, none⟩ = some (.int .i64 0) := bj.cell 1
         have sf := bj.frozen0
         have sl := bj.lt
         go_wp2_with fail
         replace bj := bj.set_ 0 (.int .i64 R4.lo)
         replace XA15 := ex_set (p := ⟨pj, 0, none⟩) XA15 yj (.int .i64 R4.lo)
         replace bj := bj.set_ 1 (.int .i64 R4.hi)
         replace XA15 := ex_set (p := ⟨pj, 1, none⟩) XA15 yj (.int .i64 R4.hi)
         simp only [List.setIfInBounds_toArray, List.set_cons_zero, List.set_cons_succ] at bj
         clear sf sl sc0 sc1
         generalize ((V112.setCell ⟨pj, 0, none⟩ (.int .i64 R4.lo)).setCell ⟨pj, 1, none⟩ (.int .i64 R4.hi)) = V113 at *
         refine ⟨inEx XA15, ?_⟩
         repeat (refine tq_quiet rfl ?_; go_big_quiet_step (fail); refine wpQuiet_nil ?_)
         refine tq_done (r := [_]) rfl ?_
         go_wp2_with fail
         exact hrest V113 pj R4 ev4 _ (XA15) yj bj hc4 (exFrame (by kernel_rfl))
      refine wp_region_ext_tq 5 (.quiet 0 (.quiet 1 (.fork 2 (.loud 3 (.loud 4 .done)) 3 (.loud 2 (.loud 4 .done))))) (by kernel_rfl) (by kernel_rfl) (by intro d _ _ _ _ h; cases d <;> exact h) ?_
      have D0 := (Below.refl V8.heap.size V8).drew
      repeat (refine tq_quiet rfl ?_; first | (refine wpQuiet_load_row rfl 29 _ rfl _ rfl 29 _ (0, 0) _ q1.ex Tryz.underlying29 rfl (by kernel_rfl) ?_; simp only [Act.put, List.setIfInBounds_toArray, List.set_cons_zero, List.set_cons_succ]; refine wpQuiet_nil ?_) | (refine wpQuiet_load_row rfl 33 _ rfl _ rfl 33 _ (0, 0) _ q2.ex Tryz.underlying33 rfl (by kernel_rfl) ?_; simp only [Act.put, List.setIfInBounds_toArray, List.set_cons_zero, List.set_cons_succ]; refine wpQuiet_nil ?_) | (go_big_quiet_step (fail); refine wpQuiet_nil ?_))
      refine tq_fork rfl rfl ?_ ?_
      ·
       go_wp2_with fail
       have sx := ((Below.refl V8.heap.size V8)).size
       try simp at sx
       have N2 := ex_alloc (Below.refl V8.heap.size V8) (.cells #[.int .i64 0, .int .i64 0, .int .i64 0, .int .i64 0, .int .i64 0, .int .i64 0, .int .i64 0, .int .i64 0, .int .i64 0, .bool false] 33)
       have bx : Blk (V8.alloc (.cells #[.int .i64 0, .int .i64 0, .int .i64 0, .int .i64 0, .int .i64 0, .int .i64 0, .int .i64 0, .int .i64 0, .int .i64 0, .bool false] 33)) (V8.heap.size) 33 #[.int .i64 0, .int .i64 0, .int .i64 0, .int .i64 0, .int .i64 0, .int .i64 0, .int .i64 0, .int .i64 0, .int .i64 0, .bool false] := Blk.new' _ _ _ (by first | rfl | (simp; done) | (simp; omega))
       obtain ⟨px, hpx⟩ : ∃ p, V8.heap.size = p := ⟨_, rfl⟩
       rw [hpx] at bx
       try rw [hpx]
       have yx : V8.heap.size ≤ px := by omega
       clear sx
       refine ⟨inEx (N2).drew, ?_⟩
       refine tq_loud rfl ?_
       go_wp2_with fail
       have tfx := bx.lt
       try simp at tfx
       have sf := (N2).size
       try simp at sf
       have N3 := ex_alloc N2 (.cells #[.int .i64 0, .int .i64 0, .int .i64 0, .int .i64 0, .int .i64 0, .int .i64 0, .int .i64 0, .int .i64 0, .int .i64 0, .bool false] 33)
       have bf : Blk ((V8.alloc (.cells #[.int .i64 0, .int .i64 0, .int .i64 0, .int .i64 0, .int .i64 0, .int .i64 0, .int .i64 0, .int .i64 0, .int .i64 0, .bool false] 33)).alloc (.cells #[.int .i64 0, .int .i64 0, .int .i64 0, .int .i64 0, .int .i64 0, .int .i64 0, .int .i64 0, .int .i64 0, .int .i64 0, .bool false] 33)) (px + 1) 33 #[.int .i64 0, .int .i64 0, .int .i64 0, .int .i64 0, .int .i64 0, .int .i64 0, .int .i64 0, .int .i64 0, .int .i64 0, .bool false] := Blk.new' _ _ _ (by first | rfl | (simp; done) | (simp; omega))
       replace bx := bx.alloc (.cells #[.int .i64 0, .int .i64 0, .int .i64 0, .int .i64 0, .int .i64 0, .int .i64 0, .int .i64 0, .int .i64 0, .int .i64 0, .bool false] 33)
       obtain ⟨pf, hpf⟩ : ∃ p, px + 1 = p := ⟨_, rfl⟩
       rw [hpf] at bf
       try rw [hpf]
       have nfx : pf ≠ px := by omega
       have nxf : px ≠ pf := by omega
       clear tfx
       have yf : V8.heap.size ≤ pf := by omega
       clear sf
       refine ⟨inEx (N3).drew, ?_⟩
       refine tq_loud rfl ?_
       replace bx := Blk.drew bx
       replace bf := Blk.drew bf
       have XA4 := (N3).drew
       generalize ((V8.alloc (.cells #[.int .i64 0, .int .i64 0, .int .i64 0, .int .i64 0, .int .i64 0, .int .i64 0, .int .i64 0, .int .i64 0, .int .i64 0, .bool false] 33)).alloc (.cells #[.int .i64 0, .int .i64 0, .int .i64 0, .int .i64 0, .int .i64 0, .int .i64 0, .int .i64 0, .int .i64 0, .int .i64 0, .bool false] 33)).drew = V114 at *
       go_wp2_with (refine pause_store 33 rfl ?_)
       refine Paused.mk ?_
       refine wpList_store_row rfl 33 _ _ rfl _ #[.int .i64 r.day, .int .i64 r.shown, .int .i64 r.err, .int .i64 r.bare, .int .i64 r.air.lo, .int .i64 r.air.hi, .int .i64 r.rate.lo, .int .i64 r.rate.hi, .int .i64 r.deep, .bool r.broken] (by kernel_rfl) (by kernel_rfl) 33 _ bx (by kernel_rfl) (by kernel_rfl) (by kernel_rfl) ?_
       replace bx := bx.setRow #[.int .i64 r.day, .int .i64 r.shown, .int .i64 r.err, .int .i64 r.bare, .int .i64 r.air.lo, .int .i64 r.air.hi, .int .i64 r.rate.lo, .int .i64 r.rate.hi, .int .i64 r.deep, .bool r.broken]
       replace bf := bf.offRow nfx #[.int .i64 r.day, .int .i64 r.shown, .int .i64 r.err, .int .i64 r.bare, .int .i64 r.air.lo, .int .i64 r.air.hi, .int .i64 r.rate.lo, .int .i64 r.rate.hi, .int .i64 r.deep, .bool r.broken]
       replace XA4 := ex_row XA4 yx #[.int .i64 r.day, .int .i64 r.shown, .int .i64 r.err, .int .i64 r.bare, .int .i64 r.air.lo, .int .i64 r.air.hi, .int .i64 r.rate.lo, .int .i64 r.rate.hi, .int .i64 r.deep, .bool r.broken]
       go_wp2_with fail
       generalize V114.setRow px #[.int .i64 r.day, .int .i64 r.shown, .int .i64 r.err, .int .i64 r.bare, .int .i64 r.air.lo, .int .i64 r.air.hi, .int .i64 r.rate.lo, .int .i64 r.rate.hi, .int .i64 r.deep, .bool r.broken] = V115 at *
       refine ⟨inEx XA4, ?_⟩
       refine tq_done (r := [_]) rfl ?_
       have XA := XA4
       generalize V115 = V116 at *
       go_wp2_with (refine pause_store 33 rfl ?_)
       refine Paused.mk ?_
       refine wpList_store_row rfl 33 _ _ rfl _ #[.int .i64 r.day, .int .i64 r.shown, .int .i64 r.err, .int .i64 r.bare, .int .i64 r.air.lo, .int .i64 r.air.hi, .int .i64 r.rate.lo, .int .i64 r.rate.hi, .int .i64 r.deep, .bool r.broken] (by kernel_rfl) (by kernel_rfl) 33 _ bf (by kernel_rfl) (by kernel_rfl) (by kernel_rfl) ?_
       replace bf := bf.setRow #[.int .i64 r.day, .int .i64 r.shown, .int .i64 r.err, .int .i64 r.bare, .int .i64 r.air.lo, .int .i64 r.air.hi, .int .i64 r.rate.lo, .int .i64 r.rate.hi, .int .i64 r.deep, .bool r.broken]
       replace bx := bx.offRow nxf #[.int .i64 r.day, .int .i64 r.shown, .int .i64 r.err, .int .i64 r.bare, .int .i64 r.air.lo, .int .i64 r.air.hi, .int .i64 r.rate.lo, .int .i64 r.rate.hi, .int .i64 r.deep, .bool r.broken]
       replace XA := ex_row XA yf #[.int .i64 r.day, .int .i64 r.shown, .int .i64 r.err, .int .i64 r.bare, .int .i64 r.air.lo, .int .i64 r.air.hi, .int .i64 r.rate.lo, .int .i64 r.rate.hi, .int .i64 r.deep, .bool r.broken]
       go_wp2_with fail
       exact hrest _ px pf _ XA nxf yx bx yf bf (exFrame (by kernel_rfl))
      ·
       go_wp2_with fail
       have sf := ((Below.refl V8.heap.size V8)).size
       try simp at sf
       have N3 := ex_alloc (Below.refl V8.heap.size V8) (.cells #[.int .i64 0, .int .i64 0, .int .i64 0, .int .i64 0, .int .i64 0, .int .i64 0, .int .i64 0, .int .i64 0, .int .i64 0, .bool false] 33)
       have bf : Blk (V8.alloc (.cells #[.int .i64 0, .int .i64 0, .int .i64 0, .int .i64 0, .int .i64 0, .int .i64 0, .int .i64 0, .int .i64 0, .int .i64 0, .bool false] 33)) (V8.heap.size) 33 #[.int .i64 0, .int .i64 0, .int .i64 0, .int .i64 0, .int .i64 0, .int .i64 0, .int .i64 0, .int .i64 0, .int .i64 0, .bool false] := Blk.new' _ _ _ (by first | rfl | (simp; done) | (simp; omega))
       obtain ⟨pf, hpf⟩ : ∃ p, V8.heap.size = p := ⟨_, rfl⟩
       rw [hpf] at bf
       try rw [hpf]
       have yf : V8.heap.size ≤ pf := by omega
       clear sf
       refine ⟨inEx (N3).drew, ?_⟩
       refine tq_loud rfl ?_
       go_wp2_with fail
       have txf := bf.lt
       try simp at txf
       have sx := (N3).size
       try simp at sx
       have N2 := ex_alloc N3 (.cells #[.int .i64 0, .int .i64 0, .int .i64 0, .int .i64 0, .int .i64 0, .int .i64 0, .int .i64 0, .int .i64 0, .int .i64 0, .bool false] 33)
       have bx : Blk ((V8.alloc (.cells #[.int .i64 0, .int .i64 0, .int .i64 0, .int .i64 0, .int .i64 0, .int .i64 0, .int .i64 0, .int .i64 0, .int .i64 0, .bool false] 33)).alloc (.cells #[.int .i64 0, .int .i64 0, .int .i64 0, .int .i64 0, .int .i64 0, .int .i64 0, .int .i64 0, .int .i64 0, .int .i64 0, .bool false] 33)) (pf + 1) 33 #[.int .i64 0, .int .i64 0, .int .i64 0, .int .i64 0, .int .i64 0, .int .i64 0, .int .i64 0, .int .i64 0, .int .i64 0, .bool false] := Blk.new' _ _ _ (by first | rfl | (simp; done) | (simp; omega))
       replace bf := bf.alloc (.cells #[.int .i64 0, .int .i64 0, .int .i64 0, .int .i64 0, .int .i64 0, .int .i64 0, .int .i64 0, .int .i64 0, .int .i64 0, .bool false] 33)
       obtain ⟨px, hpx⟩ : ∃ p, pf + 1 = p := ⟨_, rfl⟩
       rw [hpx] at bx
       try rw [hpx]
       have nxf : px ≠ pf := by omega
       have nfx : pf ≠ px := by omega
       clear txf
       have yx : V8.heap.size ≤ px := by omega
       clear sx
       refine ⟨inEx (N2).drew, ?_⟩
       refine tq_loud rfl ?_
       replace bf := Blk.drew bf
       replace bx := Blk.drew bx
       have XA4 := (N2).drew
       generalize ((V8.alloc (.cells #[.int .i64 0, .int .i64 0, .int .i64 0, .int .i64 0, .int .i64 0, .int .i64 0, .int .i64 0, .int .i64 0, .int .i64 0, .bool false] 33)).alloc (.cells #[.int .i64 0, .int .i64 0, .int .i64 0, .int .i64 0, .int .i64 0, .int .i64 0, .int .i64 0, .int .i64 0, .int .i64 0, .bool false] 33)).drew = V117 at *
       go_wp2_with (refine pause_store 33 rfl ?_)
       refine Paused.mk ?_
       refine wpList_store_row rfl 33 _ _ rfl _ #[.int .i64 r.day, .int .i64 r.shown, .int .i64 r.err, .int .i64 r.bare, .int .i64 r.air.lo, .int .i64 r.air.hi, .int .i64 r.rate.lo, .int .i64 r.rate.hi, .int .i64 r.deep, .bool r.broken] (by kernel_rfl) (by kernel_rfl) 33 _ bx (by kernel_rfl) (by kernel_rfl) (by kernel_rfl) ?_
       replace bf := bf.offRow nfx #[.int .i64 r.day, .int .i64 r.shown, .int .i64 r.err, .int .i64 r.bare, .int .i64 r.air.lo, .int .i64 r.air.hi, .int .i64 r.rate.lo, .int .i64 r.rate.hi, .int .i64 r.deep, .bool r.broken]
       replace bx := bx.setRow #[.int .i64 r.day, .int .i64 r.shown, .int .i64 r.err, .int .i64 r.bare, .int .i64 r.air.lo, .int .i64 r.air.hi, .int .i64 r.rate.lo, .int .i64 r.rate.hi, .int .i64 r.deep, .bool r.broken]
       replace XA4 := ex_row XA4 yx #[.int .i64 r.day, .int .i64 r.shown, .int .i64 r.err, .int .i64 r.bare, .int .i64 r.air.lo, .int .i64 r.air.hi, .int .i64 r.rate.lo, .int .i64 r.rate.hi, .int .i64 r.deep, .bool r.broken]
       go_wp2_with fail
       generalize V117.setRow px #[.int .i64 r.day, .int .i64 r.shown, .int .i64 r.err, .int .i64 r.bare, .int .i64 r.air.lo, .int .i64 r.air.hi, .int .i64 r.rate.lo, .int .i64 r.rate.hi, .int .i64 r.deep, .bool r.broken] = V118 at *
       refine ⟨inEx XA4, ?_⟩
       refine tq_done (r := [_]) rfl ?_
       have XA := XA4
       generalize V118 = V119 at *
       go_wp2_with (refine pause_store 33 rfl ?_)
       refine Paused.mk ?_
       refine wpList_store_row rfl 33 _ _ rfl _ #[.int .i64 r.day, .int .i64 r.shown, .int .i64 r.err, .int .i64 r.bare, .int .i64 r.air.lo, .int .i64 r.air.hi, .int .i64 r.rate.lo, .int .i64 r.rate.hi, .int .i64 r.deep, .bool r.broken] (by kernel_rfl) (by kernel_rfl) 33 _ bf (by kernel_rfl) (by kernel_rfl) (by kernel_rfl) ?_
       replace bf := bf.setRow #[.int .i64 r.day, .int .i64 r.shown, .int .i64 r.err, .int .i64 r.bare, .int .i64 r.air.lo, .int .i64 r.air.hi, .int .i64 r.rate.lo, .int .i64 r.rate.hi, .int .i64 r.deep, .bool r.broken]
       replace bx := bx.offRow nxf #[.int .i64 r.day, .int .i64 r.shown, .int .i64 r.err, .int .i64 r.bare, .int .i64 r.air.lo, .int .i64 r.air.hi, .int .i64 r.rate.lo, .int .i64 r.rate.hi, .int .i64 r.deep, .bool r.broken]
       replace XA := ex_row XA yf #[.int .i64 r.day, .int .i64 r.shown, .int .i64 r.err, .int .i64 r.bare, .int .i64 r.air.lo, .int .i64 r.air.hi, .int .i64 r.rate.lo, .int .i64 r.rate.hi, .int .i64 r.deep, .bool r.broken]
       go_wp2_with fail
       exact hrest _ px pf _ XA nxf yx bx yf bf (exFrame (by kernel_rfl))
     refine wp_region_ext_tq 15 (.quiet 0 (.quiet 2 (.quiet 4 (.quiet 6 (.quiet 8 (.quiet 9 (.loud 1 (.loud 3 (.loud 5 (.loud 7 (.loud 10 (.quiet 11 (.quiet 12 (.quiet 13 (.quiet 14 .done))))))))))))))) (by kernel_rfl) (by kernel_rfl) (by intro d _ _ _ _ h; cases d <;> exact h) ?_
     have D0 := (Below.refl V6.heap.size V6).drew
     repeat (refine tq_quiet rfl ?_; first | (refine wpQuiet_load_row rfl 29 _ rfl _ rfl 29 _ (0, 0) _ q1.ex Tryz.underlying29 rfl (by kernel_rfl) ?_; simp only [Act.put, List.setIfInBounds_toArray, List.set_cons_zero, List.set_cons_succ]; refine wpQuiet_nil ?_) | (refine wpQuiet_load_row rfl 33 _ rfl _ rfl 33 _ (0, 0) _ q2.ex Tryz.underlying33 rfl (by kernel_rfl) ?_; simp only [Act.put, List.setIfInBounds_toArray, List.set_cons_zero, List.set_cons_succ]; refine wpQuiet_nil ?_) | (go_big_quiet_step (fail); refine wpQuiet_nil ?_))
     refine tq_loud rfl ?_
     go_wp2_with fail
     refine (sr_Tube t Ab Ad cb cd _ (hg.go (((Below.refl V6.heap.size V6)).drew)) (by omega) (by omega)).mono ?_
     rintro e V120 ⟨⟨Ab1, Ad1, cb1, cd1, rfl, hg1⟩, hV120⟩
     have N1 := ex_trans ((Below.refl V6.heap.size V6)).drew hV120
     go_wp2_with fail
     refine ⟨inEx N1, ?_⟩
     repeat (refine tq_quiet rfl ?_; go_big_quiet_step (fail); refine wpQuiet_nil ?_)
     refine tq_loud rfl ?_
     go_wp2_with fail
     refine (History_any _ _ h _ (by omega) (hh.go (N1))).mono ?_
     rintro e V121 ⟨⟨Ah1, ch1, rfl, -, -, hh1⟩, hV121⟩
     have N3 := ex_trans N1 hV121
     go_wp2_with fail
     replace hg1 := hg1.go hV121
     refine ⟨inEx N3, ?_⟩
     repeat (refine tq_quiet rfl ?_; go_big_quiet_step (fail); refine wpQuiet_nil ?_)
     refine tq_loud rfl ?_
     go_wp2_with fail
     refine (Ices_any _ _ l _ (by omega) (hi.go (N3))).mono ?_
     rintro e V122 ⟨⟨Ai1, ci1, rfl, -, -, hi1⟩, hV122⟩
     have N5 := ex_trans N3 hV122
     go_wp2_with fail
     replace hg1 := hg1.go hV122
     replace hh1 := hh1.go hV122
     refine ⟨inEx N5, ?_⟩
     repeat (refine tq_quiet rfl ?_; go_big_quiet_step (fail); refine wpQuiet_nil ?_)
     refine tq_loud rfl ?_
     go_wp2_with fail
     refine (sr_Reading r _).mono ?_
     rintro e V123 ⟨rfl, hV123⟩
     have N7 := ex_trans N5 hV123
     go_wp2_with fail
     replace hg1 := hg1.go hV123
     replace hh1 := hh1.go hV123
     replace hi1 := hi1.go hV123
     refine ⟨inEx N7, ?_⟩
     repeat (refine tq_quiet rfl ?_; go_big_quiet_step (fail); refine wpQuiet_nil ?_)
     refine tq_loud rfl ?_
     go_wp2_with fail
     refine (Bare_v t Ab1 Ad1 cb1 cd1 Ah1 Ai1 ch1 ci1 h l r m1 _ hg1 hh1 hi1 (by omega)).mono ?_
     rintro e V124 ⟨⟨v, ev, rfl, hc⟩, hV124⟩
     have N10 := ex_trans N7 hV124
     go_wp2_with fail
     refine ⟨inEx N10, ?_⟩
     repeat (refine tq_quiet rfl ?_; go_big_quiet_step (fail); refine wpQuiet_nil ?_)
     refine tq_done (r := [_]) rfl ?_
     go_wp2_with fail
     exact hrest V124 v ev _ (N10) hc (exFrame (by kernel_rfl))


end Go.Proofs.YtkaogjhnogkcdaaGreat
end

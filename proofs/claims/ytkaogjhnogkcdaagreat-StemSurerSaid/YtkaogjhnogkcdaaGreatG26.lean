/- The law StemSurer (walk). -/
import Derived.Test.YtkaogjhnogkcdaaGreatG21
import Derived.Test.YtkaogjhnogkcdaaGreatG25
import Derived.Test.YtkaogjhnogkcdaaGreatG10
set_option linter.unusedVariables false
set_option linter.unusedSimpArgs false
set_option linter.unusedSectionVars false
section
namespace Go.Proofs.YtkaogjhnogkcdaaGreat
open Go.RowKit
attribute [local go_sem] Ex.cell? Ex.frozen?

set_option maxRecDepth 100000 in
set_option maxHeartbeats 12800000 in
theorem sl_surer (t : Tb) (Ab Ad : Option Addr) (cb cd : Nat) (Ah Aw : Option Addr) (ch cw : Nat) (h : List Rg) (ws : List Int) (m : Int) (r : Rd) (ic : Ic) (m6 m7 : Int) (h6 : 0 ≤ m6 ∧ m6 ≤ 255) (h7 : 0 ≤ m7 ∧ m7 ≤ 255) (w : World) (hg : GlIn w w.heap.size t.g Ab Ad) (hh : SlAt w w.heap.size 2 Ah h.length (fR h)) (hw : SlAt w w.heap.size 1 Aw ws.length (fU ws)) (hwb : ∀ k, k < ws.length → 0 ≤ gI ws k ∧ gI ws k ≤ 65535) (hwl : ws.length ≤ maxLen) (hm : 0 ≤ m ∧ m ≤ 255) :
  Calls Tryz.prog 8 #[.agg #[.int .i64 t.g.base, .slice Ab t.g.bands.length cb, .slice Ad t.g.depths.length cd, .int .i64 t.g.blo, .int .i64 t.g.bhi, .int .i64 t.k.lo, .int .i64 t.k.hi, .int .i64 t.lag.lo, .int .i64 t.lag.hi, .int .i64 t.sq.lo, .int .i64 t.sq.hi, .int .i64 t.term], .slice Ah h.length ch, .slice Aw ws.length cw, .int .u8 m, .agg #[.int .i64 r.day, .int .i64 r.shown, .int .i64 r.err, .int .i64 r.bare, .int .i64 r.air.lo, .int .i64 r.air.hi, .int .i64 r.rate.lo, .int .i64 r.rate.hi, .int .i64 r.deep, .bool r.broken], .agg #[.int .i64 ic.day, .int .i64 ic.zero, .int .i64 ic.err], .int .u8 m6, .int .u8 m7] w fun e w' => e = .returned (.bool true) ∧ Below w.heap.size w w' := by
 obtain ⟨i0, hi0, hz0, hz1, hz2⟩ := info_parts icR_info
 have HI := Lib.hid hi0
 clear hi0
 have HWB := Lib.hid hwb
 clear hwb
 go_enter Tryz.func8, Tryz.ntmps8
 go_upto_region 1 with fail
 show Code.wp _ _ _ _ _
 refine box3 (K := fun V => Code.wp _ _ _ _ V) ?_
 intro V hb1 q1 q2 q3
 replace hg := hg.go hb1
 replace hh := (hh.below hb1).up hb1.size
 replace hw := (hw.below hb1).up hb1.size
 obtain ⟨pq1, hpq1⟩ : ∃ p, w.heap.size = p := ⟨_, rfl⟩
 obtain ⟨pq2, hpq2⟩ : ∃ p, w.heap.size + 1 = p := ⟨_, rfl⟩
 obtain ⟨pq3, hpq3⟩ : ∃ p, w.heap.size + 1 + 1 = p := ⟨_, rfl⟩
 rw [hpq3] at q3 ⊢
 rw [hpq2] at q2 ⊢
 rw [hpq1] at q1 ⊢
 have hp1 : w.heap.size ≤ pq1 := by omega
 have hp2 : w.heap.size ≤ pq2 := by omega
 have hp3 : w.heap.size ≤ pq3 := by omega
 clear hpq1 hpq2 hpq3
 go_wp2_with (refine pause_at 31 rfl ?_)
 refine Paused.mk ?_
 refine wpList_load_row rfl 29 _ rfl _ rfl 29 _ (0, 0) _ (q1) Tryz.underlying29 rfl (by kernel_rfl) ?_
 go_wp2_with fail
 refine (sl_lives t Ab Ad cb cd Ah Aw ch cw h ws m _ hg hh hw HWB.out hwl hm).mono ?_
 rintro e V1 ⟨hlv, hV1⟩
 replace q1 := q1.below hV1 q1.lt
 replace q2 := q2.below hV1 q2.lt
 replace q3 := q3.below hV1 q3.lt
 replace hg := hg.go hV1
 replace hh := (hh.below hV1).up hV1.size
 replace hw := (hw.below hV1).up hV1.size
 have B_V1 := ex_trans hb1 hV1
 obtain ⟨hlv⟩ := hlv
 rcases hlv with ⟨A0, n0, c0, A0', n0', c0', rfl⟩ | ⟨Ai, ci, l, Az, cz, zs, rfl, hl, hci1, hci2, hi, hz⟩
 ·
  go_wp2_with fail
  refine (sl_awake _).mono ?_
  rintro e V2 ⟨rfl, hV2⟩
  replace q1 := q1.below hV2 q1.lt
  replace q2 := q2.below hV2 q2.lt
  replace q3 := q3.below hV2 q3.lt
  replace hg := hg.go hV2
  replace hh := (hh.below hV2).up hV2.size
  replace hw := (hw.below hV2).up hV2.size
  have B_V2 := ex_trans B_V1 hV2
  go_wp2
  go_ret
  exact ⟨rfl, B_V2⟩
 ·
  have HL := Lib.hid hl
  have hnb := hl.nb
  have hnd := hl.nd
  have hnh := hl.nh
  have hl4 := hl.l4
  clear hl
  clear hw HWB
  go_wp2_with (refine pause_at 42 rfl ?_)
  refine Paused.mk ?_
  refine wpList_load_rowG (by kernel_rfl) 33 _ rfl _ (by kernel_rfl) 33 _ (0, 0) _ (q2) Tryz.underlying33 rfl (by kernel_rfl) ?_
  go_wp2_with fail
  refine (sr_isreading h.length r _ (by omega)).mono ?_
  rintro e V3 ⟨rfl, hV3⟩
  replace q1 := q1.below hV3 q1.lt
  replace q2 := q2.below hV3 q2.lt
  replace q3 := q3.below hV3 q3.lt
  replace hg := hg.go hV3
  replace hh := (hh.below hV3).up hV3.size
  replace hi := (hi.below hV3).up hV3.size
  replace hz := (hz.below hV3).up hV3.size
  have B_V3 := ex_trans B_V1 hV3
  rcases Bool.eq_false_or_eq_true (rdOk h.length r) with hd | hd
  rotate_left
  ·
   rw [hd]
   clear hd
   go_wp2_with fail
   refine (sl_awake _).mono ?_
   rintro e V4 ⟨rfl, hV4⟩
   replace q1 := q1.below hV4 q1.lt
   replace q2 := q2.below hV4 q2.lt
   replace q3 := q3.below hV4 q3.lt
   replace hg := hg.go hV4
   replace hh := (hh.below hV4).up hV4.size
   replace hi := (hi.below hV4).up hV4.size
   replace hz := (hz.below hV4).up hV4.size
   have B_V4 := ex_trans B_V3 hV4
   go_wp2
   go_ret
   exact ⟨rfl, B_V4⟩
  ·
   rw [hd]
   have HA := Lib.hid (ask_of HL.out.use0 hd)
   have HO := Lib.hid (ask_bd HA.out)
   obtain ⟨k, hk, hkl⟩ := HO.out.day
   have hday : 0 ≤ r.day ∧ r.day ≤ 1000000 := by omega
   have HK := Lib.hid hk
   have HKT : Hid (r.day.toNat = k) := Lib.hid (by omega)
   clear hk hd
   rcases Bool.eq_false_or_eq_true r.broken with hb | hb
   ·
    have b9 : V3.cell? ⟨pq2, 9, none⟩ = some (.bool r.broken) := q2.cell 9
    rw [hb] at b9
    have lb := q2.lt
    clear hb
    go_wp2_with fail
    refine (sl_awake _).mono ?_
    rintro e V5 ⟨rfl, hV5⟩
    replace q1 := q1.below hV5 q1.lt
    replace q2 := q2.below hV5 q2.lt
    replace q3 := q3.below hV5 q3.lt
    replace hg := hg.go hV5
    replace hh := (hh.below hV5).up hV5.size
    replace hi := (hi.below hV5).up hV5.size
    replace hz := (hz.below hV5).up hV5.size
    have B_V5 := ex_trans B_V3 hV5
    go_wp2
    go_ret
    exact ⟨rfl, B_V5⟩
   ·
    have b9 : V3.cell? ⟨pq2, 9, none⟩ = some (.bool r.broken) := q2.cell 9
    rw [hb] at b9
    have lb := q2.lt
    have HB := Lib.hid hb
    clear hb
    go_wp2_with (refine pause_at 53 rfl ?_)
    refine Paused.mk ?_
    refine wpList_load_rowG (by kernel_rfl) 29 _ rfl _ (by kernel_rfl) 29 _ (0, 0) _ (q1) Tryz.underlying29 rfl (by kernel_rfl) ?_
    go_wp2_with (refine pause_at 55 rfl ?_)
    refine Paused.mk ?_
    refine wpList_load_rowG (by kernel_rfl) 33 _ rfl _ (by kernel_rfl) 33 _ (0, 0) _ (q2) Tryz.underlying33 rfl (by kernel_rfl) ?_
    clear b9 lb
    go_wp2_with fail
    refine (sr_stale t Ab Ad cb cd _ _ l r _ hi (by omega) hday).mono ?_
    rintro e V6 ⟨rfl, hV6⟩
    replace q1 := q1.below hV6 q1.lt
    replace q2 := q2.below hV6 q2.lt
    replace q3 := q3.below hV6 q3.lt
    replace hg := hg.go hV6
    replace hh := (hh.below hV6).up hV6.size
    replace hi := (hi.below hV6).up hV6.size
    replace hz := (hz.below hV6).up hV6.size
    have B_V6 := ex_trans B_V3 hV6
    rcases Bool.eq_false_or_eq_true (staleB t l r.day) with hs | hs
    ·
     rw [hs]
     clear hs
     go_wp2_with fail
     refine (sl_awake _).mono ?_
     rintro e V7 ⟨rfl, hV7⟩
     replace q1 := q1.below hV7 q1.lt
     replace q2 := q2.below hV7 q2.lt
     replace q3 := q3.below hV7 q3.lt
     replace hg := hg.go hV7
     replace hh := (hh.below hV7).up hV7.size
     replace hi := (hi.below hV7).up hV7.size
     replace hz := (hz.below hV7).up hV7.size
     have B_V7 := ex_trans B_V6 hV7
     go_wp2
     go_ret
     exact ⟨rfl, B_V7⟩
    ·
     rw [hs]
     have HS := Lib.hid hs
     clear hs
     have HR : Hid (refE t l r (agreeB t.g h l off0) = 0) := Lib.hid (by rw [HL.out.ag]; exact ref_of HB.out HS.out)
     clear hz
     go_upto_region 4 with fail
     rename_i K0 hK0
     have hrest : ∀ (V8 : World) (px pf : Nat) (a : Act), Below V6.heap.size V6 V8 → px ≠ pf → V6.heap.size ≤ px → Blk V8 px 29 #[.int .i64 t.g.base, .slice Ab t.g.bands.length cb, .slice Ad t.g.depths.length cd, .int .i64 t.g.blo, .int .i64 t.g.bhi, .int .i64 t.k.lo, .int .i64 t.k.hi, .int .i64 t.lag.lo, .int .i64 t.lag.hi, .int .i64 t.sq.lo, .int .i64 t.sq.hi, .int .i64 t.term] → V6.heap.size ≤ pf → Blk V8 pf 33 #[.int .i64 r.day, .int .i64 r.shown, .int .i64 r.err, .int .i64 r.bare, .int .i64 r.air.lo, .int .i64 r.air.hi, .int .i64 r.rate.lo, .int .i64 r.rate.hi, .int .i64 r.deep, .bool r.broken] → (∃ u : Nat → Value, a = ⟨List.toArray (u 0 :: .slice Ah h.length ch :: u 2 :: u 3 :: u 4 :: u 5 :: .int .u8 m6 :: .int .u8 m7 :: .pointer (some ⟨pq1, 0, none⟩) :: u 9 :: u 10 :: u 11 :: .pointer (some ⟨pq2, 0, none⟩) :: .pointer (some ⟨pq3, 0, none⟩) :: u 14 :: u 15 :: .bool false :: .slice Ai l.length ci :: u 18 :: u 19 :: .pointer (some ⟨px, 0, none⟩) :: .pointer (some ⟨pf, 0, none⟩) :: u 22 :: u 23 :: u 24 :: u 25 :: u 26 :: u 27 :: u 28 :: u 29 :: u 30 :: u 31 :: u 32 :: u 33 :: u 34 :: u 35 :: u 36 :: u 37 :: u 38 :: u 39 :: u 40 :: u 41 :: u 42 :: u 43 :: u 44 :: u 45 :: u 46 :: u 47 :: u 48 :: u 49 :: u 50 :: u 51 :: u 52 :: u 53 :: u 54 :: u 55 :: u 56 :: u 57 :: u 58 :: u 59 :: u 60 :: u 61 :: u 62 :: u 63 :: u 64 :: u 65 :: u 66 :: u 67 :: u 68 :: u 69 :: u 70 :: u 71 :: u 72 :: u 73 :: u 74 :: u 75 :: u 76 :: u 77 :: u 78 :: u 79 :: u 80 :: u 81 :: u 82 :: u 83 :: u 84 :: u 85 :: u 86 :: u 87 :: u 88 :: u 89 :: u 90 :: u 91 :: u 92 :: u 93 :: u 94 :: u 95 :: u 96 :: u 97 :: u 98 :: u 99 :: u 100 :: u 101 :: u 102 :: u 103 :: u 104 :: u 105 :: u 106 :: u 107 :: u 108 :: u 109 :: u 110 :: u 111 :: u 112 :: u 113 :: u 114 :: u 115 :: u 116 :: u 117 :: u 118 :: u 119 :: u 120 :: u 121 :: u 122 :: u 123 :: u 124 :: u 125 :: u 126 :: u 127 :: u 128 :: u 129 :: u 130 :: u 131 :: u 132 :: u 133 :: u 134 :: u 135 :: u 136 :: u 137 :: u 138 :: u 139 :: u 140 :: u 141 :: u 142 :: u 143 :: u 144 :: u 145 :: u 146 :: u 147 :: u 148 :: u 149 :: u 150 :: u 151 :: u 152 :: u 153 :: u 154 :: u 155 :: u 156 :: u 157 :: u 158 :: u 159 :: u 160 :: u 161 :: u 162 :: u 163 :: u 164 :: u 165 :: u 166 :: u 167 :: u 168 :: u 169 :: u 170 :: u 171 :: u 172 :: u 173 :: u 174 :: u 175 :: u 176 :: u 177 :: u 178 :: u 179 :: u 180 :: u 181 :: u 182 :: u 183 :: u 184 :: u 185 :: u 186 :: u 187 :: u 188 :: u 189 :: u 190 :: u 191 :: []), []⟩) → K0 a V8 := by
      rintro V8 px pf a hX9 nxf yx bx yf bf ⟨u, rfl⟩
      refine hK0 _ _ ?_
      clear hK0 K0
      have q1_0 := q1
      have q2_0 := q2
      have q3_0 := q3
      have hg_0 := hg
      have hh_0 := hh
      have hi_0 := hi
      have X_V8 := hX9
      replace q1 := q1.below hX9 q1.lt
      replace q2 := q2.below hX9 q2.lt
      replace q3 := q3.below hX9 q3.lt
      replace hg := hg.go hX9
      replace hh := (hh.below hX9).up hX9.size
      replace hi := (hi.below hX9).up hX9.size
      have B_V8 := ex_trans B_V6 hX9
      have zpx : w.heap.size ≤ px := by have := B_V6.size; omega
      have zpf : w.heap.size ≤ pf := by have := B_V6.size; omega
      have nfx : pf ≠ px := fun e => nxf e.symm
      go_upto_region 6 with fail
      rename_i K1 hK1 K2 hK2
      have hrest17 : ∀ (V9 : World) (g o : Nat) (R : Rg) (r2 : Rd) (a : Act), Below V6.heap.size V6 V9 → Blk V9 px 29 (tC t Ab Ad cb cd) → Blk V9 pf 33 (cE r2) → NarR r r2 → RdBd r2 → Pt t r2 Ab Ad cb cd px pf g o R → (∃ u : Nat → Value, a = ⟨List.toArray (u 0 :: .slice Ah h.length ch :: u 2 :: u 3 :: u 4 :: u 5 :: .int .u8 m6 :: .int .u8 m7 :: .pointer (some ⟨pq1, 0, none⟩) :: u 9 :: u 10 :: u 11 :: .pointer (some ⟨pq2, 0, none⟩) :: .pointer (some ⟨pq3, 0, none⟩) :: u 14 :: u 15 :: .bool false :: .slice Ai l.length ci :: u 18 :: u 19 :: .pointer (some ⟨px, 0, none⟩) :: .pointer (some ⟨pf, 0, none⟩) :: .pointer (some ⟨g, o, none⟩) :: u 23 :: u 24 :: u 25 :: u 26 :: u 27 :: u 28 :: u 29 :: u 30 :: u 31 :: u 32 :: u 33 :: u 34 :: u 35 :: u 36 :: u 37 :: u 38 :: u 39 :: u 40 :: u 41 :: u 42 :: u 43 :: u 44 :: u 45 :: u 46 :: u 47 :: u 48 :: u 49 :: u 50 :: u 51 :: u 52 :: u 53 :: u 54 :: u 55 :: u 56 :: u 57 :: u 58 :: u 59 :: u 60 :: u 61 :: u 62 :: u 63 :: u 64 :: u 65 :: u 66 :: u 67 :: u 68 :: u 69 :: u 70 :: u 71 :: u 72 :: u 73 :: u 74 :: u 75 :: u 76 :: u 77 :: u 78 :: u 79 :: u 80 :: u 81 :: u 82 :: u 83 :: u 84 :: u 85 :: u 86 :: u 87 :: u 88 :: u 89 :: u 90 :: u 91 :: u 92 :: u 93 :: u 94 :: u 95 :: u 96 :: u 97 :: u 98 :: u 99 :: u 100 :: u 101 :: u 102 :: u 103 :: u 104 :: u 105 :: u 106 :: u 107 :: u 108 :: u 109 :: u 110 :: u 111 :: u 112 :: u 113 :: u 114 :: u 115 :: u 116 :: u 117 :: u 118 :: u 119 :: u 120 :: u 121 :: u 122 :: u 123 :: u 124 :: u 125 :: u 126 :: u 127 :: u 128 :: u 129 :: u 130 :: u 131 :: u 132 :: u 133 :: u 134 :: u 135 :: u 136 :: u 137 :: u 138 :: u 139 :: u 140 :: u 141 :: u 142 :: u 143 :: u 144 :: u 145 :: u 146 :: u 147 :: u 148 :: u 149 :: u 150 :: u 151 :: u 152 :: u 153 :: u 154 :: u 155 :: u 156 :: u 157 :: u 158 :: u 159 :: u 160 :: u 161 :: u 162 :: u 163 :: u 164 :: u 165 :: u 166 :: u 167 :: u 168 :: u 169 :: u 170 :: u 171 :: u 172 :: u 173 :: u 174 :: u 175 :: u 176 :: u 177 :: u 178 :: u 179 :: u 180 :: u 181 :: u 182 :: u 183 :: u 184 :: u 185 :: u 186 :: u 187 :: u 188 :: u 189 :: u 190 :: u 191 :: []), []⟩) → K1 a V9 := by
       clear bx bf
       rintro V9 g o R r2 a hX bx bf HN1 HB2 HPT ⟨u, rfl⟩
       refine hK1 _ _ ?_
       clear hK1 K1 hK2 K2
       have hB := ex_trans B_V6 hX
       obtain ⟨c0, c1, lg, fg⟩ := HPT.cell V9 bx bf
       have hRb := HPT.bd
       have hm4 : 0 ≤ m7 % 4 ∧ m7 % 4 < 4 := ⟨Int.emod_nonneg _ (by omega), Int.emod_lt_of_pos _ (by omega)⟩
       have hm8 : 0 ≤ m7 / 8 % 4 ∧ m7 / 8 % 4 < 4 := ⟨Int.emod_nonneg _ (by omega), Int.emod_lt_of_pos _ (by omega)⟩
       have h70 : 0 ≤ m7 := h7.1
       go_upto_region 17 with fail
       have D17 := (Below.refl V9.heap.size V9).drew
       refine wp_region_ext_mix 16 [(false, 0), (false, 1), (false, 2), (false, 3), (false, 4), (false, 5), (false, 6), (false, 7), (false, 8), (false, 9), (false, 10), (false, 11), (false, 12), (true, 13), (false, 14), (false, 15)] (by kernel_rfl) (by kernel_rfl) (by intro d _ _ _ _ h; cases d <;> exact h) ?_
       repeat (refine mix_quiet rfl ?_; go_big_quiet_step (fail); refine wpQuiet_nil ?_)
       obtain ⟨Y17, hY⟩ : ∃ Y, V9.drew = Y := ⟨_, rfl⟩
       rw [hY] at D17 ⊢
       clear hY
       refine mix_loud rfl ?_
       go_wp2_with fail
       refine ⟨inEx D17, ?_⟩
       repeat (refine mix_quiet rfl ?_; go_big_quiet_step (fail); refine wpQuiet_nil ?_)
       refine mix_nil (r := [_]) rfl ?_
       replace bx := bx.below D17 bx.lt
       replace bf := bf.below D17 bf.lt
       have hXY := ex_trans hX D17
       clear c0 c1 lg fg
       obtain ⟨c0, c1, lg, fg⟩ := HPT.cell Y17 bx bf
       obtain ⟨lo, hlo⟩ : ∃ x, min R.hi (R.lo + m7 % 4) = x := ⟨_, rfl⟩
       rw [hlo]
       have hlob : R.lo ≤ lo ∧ lo ≤ R.hi := by omega
       clear hlo
       obtain ⟨d0, d1, ld, fd⟩ := HPT.cell2 Y17 lo bx bf
       go_upto_region 18 with fail
       clear c0 c1 lg fg
       generalize hZ : Y17.setCell ⟨g, o, none⟩ (.int .i64 lo) = Z at *
       have D18 := (Below.refl Z.heap.size Z).drew
       refine wp_region_ext_mix 17 [(false, 0), (false, 1), (false, 2), (false, 3), (false, 4), (false, 5), (false, 6), (false, 7), (false, 8), (false, 9), (false, 10), (false, 11), (false, 12), (false, 13), (true, 14), (false, 15), (false, 16)] (by kernel_rfl) (by kernel_rfl) (by intro d _ _ _ _ h; cases d <;> exact h) ?_
       repeat (refine mix_quiet rfl ?_; go_big_quiet_step (fail); refine wpQuiet_nil ?_)
       refine mix_loud rfl ?_
       go_wp2_with fail
       refine ⟨inEx D18, ?_⟩
       repeat (refine mix_quiet rfl ?_; go_big_quiet_step (fail); refine wpQuiet_nil ?_)
       refine mix_nil (r := [_]) rfl ?_
       obtain ⟨hi', hhi⟩ : ∃ x, max lo (R.hi - m7 / 8 % 4) = x := ⟨_, rfl⟩
       rw [hhi]
       have hhib : lo ≤ hi' ∧ hi' ≤ R.hi := by omega
       clear hhi
       have HWF : Hid ((Z.setCell ⟨g, o + 1, none⟩ (.int .i64 hi')).drew = (Y17.drew.setCell ⟨g, o, none⟩ (.int .i64 lo)).setCell ⟨g, o + 1, none⟩ (.int .i64 hi')) := Lib.hid (by rw [← hZ]; rfl)
       clear hZ
       have c9 : Z.drew.cell? ⟨g, o + 1, none⟩ = some (.int .i64 R.hi) := d1
       have f9 : ∀ i, Z.drew.frozen? ⟨g, i, none⟩ = false := fd
       have l9 : g < Z.drew.heap.size := ld
       go_upto_region 19 with fail
       rw [HWF.out]
       clear HWF d0 d1 ld fd c9 f9 l9 D18
       obtain ⟨t2, q2', HT2, HR2, hput⟩ := HPT.put lo hi' hlob.1 hhib.1 hhib.2
       obtain ⟨bx2, bf2⟩ := hput Y17.drew nxf bx.drew bf.drew
       replace HR2 := HN1.trans HR2
       clear bx bf hput
       skip
       have hgy := HPT.at_
       have hgy2 : V6.heap.size ≤ g := by rcases hgy with e | e <;> omega
       clear hgy
       have bx : Blk ((Y17.drew.setCell ⟨g, o, none⟩ (.int .i64 lo)).setCell ⟨g, o + 1, none⟩ (.int .i64 hi')) px 29 #[.int .i64 t2.g.base, .slice Ab t2.g.bands.length cb, .slice Ad t2.g.depths.length cd, .int .i64 t2.g.blo, .int .i64 t2.g.bhi, .int .i64 t2.k.lo, .int .i64 t2.k.hi, .int .i64 t2.lag.lo, .int .i64 t2.lag.hi, .int .i64 t2.sq.lo, .int .i64 t2.sq.hi, .int .i64 t2.term] := bx2
       have bf : Blk ((Y17.drew.setCell ⟨g, o, none⟩ (.int .i64 lo)).setCell ⟨g, o + 1, none⟩ (.int .i64 hi')) pf 33 #[.int .i64 q2'.day, .int .i64 q2'.shown, .int .i64 q2'.err, .int .i64 q2'.bare, .int .i64 q2'.air.lo, .int .i64 q2'.air.hi, .int .i64 q2'.rate.lo, .int .i64 q2'.rate.hi, .int .i64 q2'.deep, .bool q2'.broken] := bf2
       clear bx2 bf2 HPT
       have XS := ex_set (p := ⟨g, o + 1, none⟩) (ex_set (p := ⟨g, o, none⟩) hXY.drew hgy2 (.int .i64 lo)) hgy2 (.int .i64 hi')
       generalize (Y17.drew.setCell ⟨g, o, none⟩ (.int .i64 lo)).setCell ⟨g, o + 1, none⟩ (.int .i64 hi') = V10 at *
       replace q1 := q1_0.below XS q1_0.lt
       replace q2 := q2_0.below XS q2_0.lt
       replace q3 := q3_0.below XS q3_0.lt
       replace hg := hg_0.go XS
       replace hh := hh_0.go XS
       replace hi := hi_0.go XS
       have B_V10 := ex_trans B_V6 XS
       clear XS hXY D17 hB
       have hgx : GlIn V10 V10.heap.size t2.g Ab Ad := by rw [HT2.g]; exact hg
       have hnb2 : t2.g.bands.length ≤ 5 := by rw [HT2.g]; exact hnb
       have hnd2 : t2.g.depths.length ≤ 6 := by rw [HT2.g]; exact hnd
       clear hlob hhib hRb hm4 hm8
       rename_i K0 hK0
       have hrest : ∀ (V11 : World) (pi : Nat) (R1 : Rg) (ev1 : Int) (a : Act), Below V10.heap.size V10 V11 → V10.heap.size ≤ pi → Blk V11 pi 41 #[.int .i64 (R1 : Rg).lo, .int .i64 (R1 : Rg).hi] → Hid (CorV t h l r R1 ev1) → (∃ u : Nat → Value, a = ⟨List.toArray (u 0 :: .slice Ah h.length ch :: u 2 :: u 3 :: u 4 :: u 5 :: .int .u8 m6 :: .int .u8 m7 :: .pointer (some ⟨pq1, 0, none⟩) :: u 9 :: u 10 :: u 11 :: .pointer (some ⟨pq2, 0, none⟩) :: .pointer (some ⟨pq3, 0, none⟩) :: u 14 :: u 15 :: .bool false :: .slice Ai l.length ci :: u 18 :: u 19 :: .pointer (some ⟨px, 0, none⟩) :: .pointer (some ⟨pf, 0, none⟩) :: u 22 :: .pointer (some ⟨pi, 0, none⟩) :: .int .i64 ev1 :: u 25 :: u 26 :: u 27 :: u 28 :: u 29 :: u 30 :: u 31 :: u 32 :: u 33 :: u 34 :: u 35 :: u 36 :: u 37 :: u 38 :: u 39 :: u 40 :: u 41 :: u 42 :: u 43 :: u 44 :: u 45 :: u 46 :: u 47 :: u 48 :: u 49 :: u 50 :: u 51 :: u 52 :: u 53 :: u 54 :: u 55 :: u 56 :: u 57 :: u 58 :: u 59 :: u 60 :: u 61 :: u 62 :: u 63 :: u 64 :: u 65 :: u 66 :: u 67 :: u 68 :: u 69 :: u 70 :: u 71 :: u 72 :: u 73 :: u 74 :: u 75 :: u 76 :: u 77 :: u 78 :: u 79 :: u 80 :: u 81 :: u 82 :: u 83 :: u 84 :: u 85 :: u 86 :: u 87 :: u 88 :: u 89 :: u 90 :: u 91 :: u 92 :: u 93 :: u 94 :: u 95 :: u 96 :: u 97 :: u 98 :: u 99 :: u 100 :: u 101 :: u 102 :: u 103 :: u 104 :: u 105 :: u 106 :: u 107 :: u 108 :: u 109 :: u 110 :: u 111 :: u 112 :: u 113 :: u 114 :: u 115 :: u 116 :: u 117 :: u 118 :: u 119 :: u 120 :: u 121 :: u 122 :: u 123 :: u 124 :: u 125 :: u 126 :: u 127 :: u 128 :: u 129 :: u 130 :: u 131 :: u 132 :: u 133 :: u 134 :: u 135 :: u 136 :: u 137 :: u 138 :: u 139 :: u 140 :: u 141 :: u 142 :: u 143 :: u 144 :: u 145 :: u 146 :: u 147 :: u 148 :: u 149 :: u 150 :: u 151 :: u 152 :: u 153 :: u 154 :: u 155 :: u 156 :: u 157 :: u 158 :: u 159 :: u 160 :: u 161 :: u 162 :: u 163 :: u 164 :: u 165 :: u 166 :: u 167 :: u 168 :: u 169 :: u 170 :: u 171 :: u 172 :: u 173 :: u 174 :: u 175 :: u 176 :: u 177 :: u 178 :: u 179 :: u 180 :: u 181 :: u 182 :: u 183 :: u 184 :: u 185 :: u 186 :: u 187 :: u 188 :: u 189 :: u 190 :: u 191 :: []), []⟩) → K0 a V11 := by
        rintro V11 pi R1 ev1 a hX9 yi bi hc1 ⟨u, rfl⟩
        refine hK0 _ _ ?_
        clear hK0 K0
        replace q1 := q1.below hX9 q1.lt
        replace q2 := q2.below hX9 q2.lt
        replace q3 := q3.below hX9 q3.lt
        replace hg := hg.go hX9
        replace hh := (hh.below hX9).up hX9.size
        replace hi := (hi.below hX9).up hX9.size
        replace bx := bx.below hX9 bx.lt
        replace bf := bf.below hX9 bf.lt
        replace hgx := hgx.go hX9
        have B_V11 := ex_trans B_V10 hX9
        have zi : w.heap.size ≤ pi := by have := B_V10.size; omega
        obtain ⟨hev, zs, hZ, hR1⟩ := cor_ok HA.out HR.out hc1.out
        subst hev
        have HZ := Lib.hid hZ
        have hE1 := cor_ends HA.out HR.out hZ HKT.out hc1.out
        have HE1 := Lib.hid hE1
        clear hE1 hZ hR1 hc1
        have hzb := zs_bd HO.out.ok HZ.out k hkl
        have hbb := bnd_bd HO.out.tb HO.out.rd
        go_upto_region 20 with fail
        rename_i K0 hK0
        have hrest : ∀ (V12 : World) (pj : Nat) (R2 : Rg) (ev2 : Int) (a : Act), Below V11.heap.size V11 V12 → V11.heap.size ≤ pj → Blk V12 pj 41 #[.int .i64 (R2 : Rg).lo, .int .i64 (R2 : Rg).hi] → Hid (CorV t2 h l q2' R2 ev2) → (∃ u : Nat → Value, a = ⟨List.toArray (u 0 :: .slice Ah h.length ch :: u 2 :: u 3 :: u 4 :: u 5 :: .int .u8 m6 :: .int .u8 m7 :: .pointer (some ⟨pq1, 0, none⟩) :: u 9 :: u 10 :: u 11 :: .pointer (some ⟨pq2, 0, none⟩) :: .pointer (some ⟨pq3, 0, none⟩) :: u 14 :: u 15 :: .bool false :: .slice Ai l.length ci :: u 18 :: u 19 :: .pointer (some ⟨px, 0, none⟩) :: .pointer (some ⟨pf, 0, none⟩) :: u 22 :: .pointer (some ⟨pi, 0, none⟩) :: .int .i64 0 :: .pointer (some ⟨pj, 0, none⟩) :: .int .i64 ev2 :: u 27 :: u 28 :: u 29 :: u 30 :: u 31 :: u 32 :: u 33 :: u 34 :: u 35 :: u 36 :: u 37 :: u 38 :: u 39 :: u 40 :: u 41 :: u 42 :: u 43 :: u 44 :: u 45 :: u 46 :: u 47 :: u 48 :: u 49 :: u 50 :: u 51 :: u 52 :: u 53 :: u 54 :: u 55 :: u 56 :: u 57 :: u 58 :: u 59 :: u 60 :: u 61 :: u 62 :: u 63 :: u 64 :: u 65 :: u 66 :: u 67 :: u 68 :: u 69 :: u 70 :: u 71 :: u 72 :: u 73 :: u 74 :: u 75 :: u 76 :: u 77 :: u 78 :: u 79 :: u 80 :: u 81 :: u 82 :: u 83 :: u 84 :: u 85 :: u 86 :: u 87 :: u 88 :: u 89 :: u 90 :: u 91 :: u 92 :: u 93 :: u 94 :: u 95 :: u 96 :: u 97 :: u 98 :: u 99 :: u 100 :: u 101 :: u 102 :: u 103 :: u 104 :: u 105 :: u 106 :: u 107 :: u 108 :: u 109 :: u 110 :: u 111 :: u 112 :: u 113 :: u 114 :: u 115 :: u 116 :: u 117 :: u 118 :: u 119 :: u 120 :: u 121 :: u 122 :: u 123 :: u 124 :: u 125 :: u 126 :: u 127 :: u 128 :: u 129 :: u 130 :: u 131 :: u 132 :: u 133 :: u 134 :: u 135 :: u 136 :: u 137 :: u 138 :: u 139 :: u 140 :: u 141 :: u 142 :: u 143 :: u 144 :: u 145 :: u 146 :: u 147 :: u 148 :: u 149 :: u 150 :: u 151 :: u 152 :: u 153 :: u 154 :: u 155 :: u 156 :: u 157 :: u 158 :: u 159 :: u 160 :: u 161 :: u 162 :: u 163 :: u 164 :: u 165 :: u 166 :: u 167 :: u 168 :: u 169 :: u 170 :: u 171 :: u 172 :: u 173 :: u 174 :: u 175 :: u 176 :: u 177 :: u 178 :: u 179 :: u 180 :: u 181 :: u 182 :: u 183 :: u 184 :: u 185 :: u 186 :: u 187 :: u 188 :: u 189 :: u 190 :: u 191 :: []), []⟩) → K0 a V12 := by
         rintro V12 pj R2 ev2 a hX9 yj bj hc2 ⟨u, rfl⟩
         refine hK0 _ _ ?_
         clear hK0 K0
         replace q1 := q1.below hX9 q1.lt
         replace q2 := q2.below hX9 q2.lt
         replace q3 := q3.below hX9 q3.lt
         replace hg := hg.go hX9
         replace hh := (hh.below hX9).up hX9.size
         replace hi := (hi.below hX9).up hX9.size
         replace bx := bx.below hX9 bx.lt
         replace bf := bf.below hX9 bf.lt
         replace hgx := hgx.go hX9
         replace bi := bi.below hX9 bi.lt
         have B_V12 := ex_trans B_V11 hX9
         have zj : w.heap.size ≤ pj := by have := B_V11.size; omega
         obtain ⟨hev, hb1, hb2⟩ := nar_cor HT2 HR2 HA.out HR.out HZ.out HKT.out hc2.out
         subst hev
         have hin1 : R1.lo ≤ R2.lo := by have := HE1.out; omega
         have hin2 : R2.hi ≤ R1.hi := by have := HE1.out; omega
         clear hb1 hb2 hc2
         clear bx
         clear bf
         clear hgx
         have i0 := bi.cell 0
         have i1 := bi.cell 1
         have li := bi.lt
         simp at i0 i1
         have j0 := bj.cell 0
         have j1 := bj.cell 1
         have lj := bj.lt
         simp at j0 j1
         go_wp2_with fail
         refine (sl_in R2 R1 _).mono ?_
         rintro e V13 ⟨rfl, hV13⟩
         replace q1 := q1.below hV13 q1.lt
         replace q2 := q2.below hV13 q2.lt
         replace q3 := q3.below hV13 q3.lt
         replace hg := hg.go hV13
         replace hh := (hh.below hV13).up hV13.size
         replace hi := (hi.below hV13).up hV13.size
         replace bi := bi.below hV13 bi.lt
         replace bj := bj.below hV13 bj.lt
         have B_V13 := ex_trans B_V12 hV13
         clear i0 i1 li j0 j1 lj
         rw [decide_eq_true hin1, decide_eq_true hin2]
         dsimp only [Bool.and_self]
         have ig0 : V13.cell? ⟨pq3, 0, none⟩ = some (.int .i64 ic.day) := q3.cell 0
         have ig1 : V13.cell? ⟨pq3, 1, none⟩ = some (.int .i64 ic.zero) := q3.cell 1
         have ig2 : V13.cell? ⟨pq3, 2, none⟩ = some (.int .i64 ic.err) := q3.cell 2
         have lgg := q3.lt
         go_upto_region 23 with fail
         rename_i K0 hK0
         have hrest : ∀ (V14 : World) (A7 : Option Addr) (c7 : Nat) (L : List Ic) (a : Act), Below V13.heap.size V13 V14 → SlAt V14 V14.heap.size 3 A7 L.length (fC L) → Hid (L = l ++ [ic]) → (∃ u : Nat → Value, a = ⟨List.toArray (u 0 :: .slice Ah h.length ch :: u 2 :: u 3 :: u 4 :: u 5 :: .int .u8 m6 :: .int .u8 m7 :: .pointer (some ⟨pq1, 0, none⟩) :: u 9 :: u 10 :: u 11 :: .pointer (some ⟨pq2, 0, none⟩) :: .pointer (some ⟨pq3, 0, none⟩) :: u 14 :: u 15 :: .bool false :: .slice Ai l.length ci :: u 18 :: u 19 :: .pointer (some ⟨px, 0, none⟩) :: .pointer (some ⟨pf, 0, none⟩) :: u 22 :: .pointer (some ⟨pi, 0, none⟩) :: .int .i64 0 :: u 25 :: u 26 :: .slice A7 L.length c7 :: u 28 :: u 29 :: u 30 :: u 31 :: u 32 :: u 33 :: u 34 :: u 35 :: u 36 :: u 37 :: u 38 :: u 39 :: u 40 :: u 41 :: u 42 :: u 43 :: u 44 :: u 45 :: u 46 :: u 47 :: u 48 :: u 49 :: u 50 :: u 51 :: u 52 :: u 53 :: u 54 :: u 55 :: u 56 :: u 57 :: u 58 :: u 59 :: u 60 :: u 61 :: u 62 :: u 63 :: u 64 :: u 65 :: u 66 :: u 67 :: u 68 :: u 69 :: u 70 :: u 71 :: u 72 :: u 73 :: u 74 :: u 75 :: u 76 :: u 77 :: u 78 :: u 79 :: u 80 :: u 81 :: u 82 :: u 83 :: u 84 :: u 85 :: u 86 :: u 87 :: u 88 :: u 89 :: u 90 :: u 91 :: u 92 :: u 93 :: u 94 :: u 95 :: u 96 :: u 97 :: u 98 :: u 99 :: u 100 :: u 101 :: u 102 :: u 103 :: u 104 :: u 105 :: u 106 :: u 107 :: u 108 :: u 109 :: u 110 :: u 111 :: u 112 :: u 113 :: u 114 :: u 115 :: u 116 :: u 117 :: u 118 :: u 119 :: u 120 :: u 121 :: u 122 :: u 123 :: u 124 :: u 125 :: u 126 :: u 127 :: u 128 :: u 129 :: u 130 :: u 131 :: u 132 :: u 133 :: u 134 :: u 135 :: u 136 :: u 137 :: u 138 :: u 139 :: u 140 :: u 141 :: u 142 :: u 143 :: u 144 :: u 145 :: u 146 :: u 147 :: u 148 :: u 149 :: u 150 :: u 151 :: u 152 :: u 153 :: u 154 :: u 155 :: u 156 :: u 157 :: u 158 :: u 159 :: u 160 :: u 161 :: u 162 :: u 163 :: u 164 :: u 165 :: u 166 :: u 167 :: u 168 :: u 169 :: u 170 :: u 171 :: u 172 :: u 173 :: u 174 :: u 175 :: u 176 :: u 177 :: u 178 :: u 179 :: u 180 :: u 181 :: u 182 :: u 183 :: u 184 :: u 185 :: u 186 :: u 187 :: u 188 :: u 189 :: u 190 :: u 191 :: []), []⟩) → K0 a V14 := by
          rintro V14 A7 c7 L a hX9 hi7 HL7 ⟨u, rfl⟩
          refine hK0 _ _ ?_
          clear hK0 K0 ig0 ig1 ig2 lgg
          replace q1 := q1.below hX9 q1.lt
          replace q2 := q2.below hX9 q2.lt
          replace q3 := q3.below hX9 q3.lt
          replace hg := hg.go hX9
          replace hh := (hh.below hX9).up hX9.size
          replace hi := (hi.below hX9).up hX9.size
          replace bi := bi.below hX9 bi.lt
          replace bj := bj.below hX9 bj.lt
          have B_V14 := ex_trans B_V13 hX9
          have hl7 : L.length ≤ 5 := by rw [HL7.out]; simp; omega
          go_wp2_with fail
          refine (IcesFault_any Ah _ ch _ h.length L _ (by omega) hi7).mono ?_
          rintro e V15 ⟨rfl, hV15⟩
          replace q1 := q1.below hV15 q1.lt
          replace q2 := q2.below hV15 q2.lt
          replace q3 := q3.below hV15 q3.lt
          replace hg := hg.go hV15
          replace hh := (hh.below hV15).up hV15.size
          replace hi := (hi.below hV15).up hV15.size
          replace bi := bi.below hV15 bi.lt
          replace bj := bj.below hV15 bj.lt
          replace hi7 := (hi7.below hV15).up hV15.size
          have B_V15 := ex_trans B_V14 hV15
          by_cases hic : icsF h.length L = 0
          rotate_left
          ·
           have e1 : (icsF h.length L != 0) = true := by simp [hic]
           clear hic
           go_wp2_with fail
           refine (sl_awake _).mono ?_
           rintro e V16 ⟨rfl, hV16⟩
           replace q1 := q1.below hV16 q1.lt
           replace q2 := q2.below hV16 q2.lt
           replace q3 := q3.below hV16 q3.lt
           replace hg := hg.go hV16
           replace hh := (hh.below hV16).up hV16.size
           replace hi := (hi.below hV16).up hV16.size
           replace bi := bi.below hV16 bi.lt
           replace bj := bj.below hV16 bj.lt
           replace hi7 := (hi7.below hV16).up hV16.size
           have B_V16 := ex_trans B_V15 hV16
           go_wp2
           go_ret
           exact ⟨rfl, B_V16⟩
          ·
           have HIC : Hid (icsF h.length (l ++ [ic]) = 0) := Lib.hid (by rw [← HL7.out]; exact hic)
           rw [hic]
           clear hic
           go_upto_region 26 with fail
           rename_i K0 hK0
           have hrest : ∀ (V17 : World) (pv : Nat) (R3 : Rg) (ev3 : Int) (a : Act), Below V15.heap.size V15 V17 → V15.heap.size ≤ pv → Blk V17 pv 41 #[.int .i64 (R3 : Rg).lo, .int .i64 (R3 : Rg).hi] → Hid (CorV t h L r R3 ev3) → (∃ u : Nat → Value, a = ⟨List.toArray (u 0 :: u 1 :: u 2 :: u 3 :: u 4 :: u 5 :: u 6 :: u 7 :: u 8 :: u 9 :: u 10 :: u 11 :: u 12 :: u 13 :: u 14 :: u 15 :: .bool false :: u 17 :: u 18 :: u 19 :: u 20 :: u 21 :: u 22 :: .pointer (some ⟨pi, 0, none⟩) :: u 24 :: u 25 :: u 26 :: u 27 :: .pointer (some ⟨pv, 0, none⟩) :: .int .i64 ev3 :: u 30 :: u 31 :: u 32 :: u 33 :: u 34 :: u 35 :: u 36 :: u 37 :: u 38 :: u 39 :: u 40 :: u 41 :: u 42 :: u 43 :: u 44 :: u 45 :: u 46 :: u 47 :: u 48 :: u 49 :: u 50 :: u 51 :: u 52 :: u 53 :: u 54 :: u 55 :: u 56 :: u 57 :: u 58 :: u 59 :: u 60 :: u 61 :: u 62 :: u 63 :: u 64 :: u 65 :: u 66 :: u 67 :: u 68 :: u 69 :: u 70 :: u 71 :: u 72 :: u 73 :: u 74 :: u 75 :: u 76 :: u 77 :: u 78 :: u 79 :: u 80 :: u 81 :: u 82 :: u 83 :: u 84 :: u 85 :: u 86 :: u 87 :: u 88 :: u 89 :: u 90 :: u 91 :: u 92 :: u 93 :: u 94 :: u 95 :: u 96 :: u 97 :: u 98 :: u 99 :: u 100 :: u 101 :: u 102 :: u 103 :: u 104 :: u 105 :: u 106 :: u 107 :: u 108 :: u 109 :: u 110 :: u 111 :: u 112 :: u 113 :: u 114 :: u 115 :: u 116 :: u 117 :: u 118 :: u 119 :: u 120 :: u 121 :: u 122 :: u 123 :: u 124 :: u 125 :: u 126 :: u 127 :: u 128 :: u 129 :: u 130 :: u 131 :: u 132 :: u 133 :: u 134 :: u 135 :: u 136 :: u 137 :: u 138 :: u 139 :: u 140 :: u 141 :: u 142 :: u 143 :: u 144 :: u 145 :: u 146 :: u 147 :: u 148 :: u 149 :: u 150 :: u 151 :: u 152 :: u 153 :: u 154 :: u 155 :: u 156 :: u 157 :: u 158 :: u 159 :: u 160 :: u 161 :: u 162 :: u 163 :: u 164 :: u 165 :: u 166 :: u 167 :: u 168 :: u 169 :: u 170 :: u 171 :: u 172 :: u 173 :: u 174 :: u 175 :: u 176 :: u 177 :: u 178 :: u 179 :: u 180 :: u 181 :: u 182 :: u 183 :: u 184 :: u 185 :: u 186 :: u 187 :: u 188 :: u 189 :: u 190 :: u 191 :: []), []⟩) → K0 a V17 := by
            rintro V17 pv R3 ev3 a hX9 yv bv hc3 ⟨u, rfl⟩
            refine hK0 _ _ ?_
            clear hK0 K0
            replace q1 := q1.below hX9 q1.lt
            replace q2 := q2.below hX9 q2.lt
            replace q3 := q3.below hX9 q3.lt
            replace hg := hg.go hX9
            replace hh := (hh.below hX9).up hX9.size
            replace hi := (hi.below hX9).up hX9.size
            replace bi := bi.below hX9 bi.lt
            replace bj := bj.below hX9 bj.lt
            replace hi7 := (hi7.below hX9).up hX9.size
            have B_V17 := ex_trans B_V15 hX9
            have zv : w.heap.size ≤ pv := by have := B_V15.size; omega
            have hc4 : CorV t h (l ++ [ic]) r R3 ev3 := by rw [← HL7.out]; exact hc3.out
            have hm := more_cor HA.out HR.out HZ.out HKT.out hkl HIC.out hc4
            clear hc4 hc3
            rcases hm with rfl | ⟨rfl, hb1, hb2⟩
            ·
             go_wp2_with fail
             refine (sl_awake _).mono ?_
             rintro e V18 ⟨rfl, hV18⟩
             replace q1 := q1.below hV18 q1.lt
             replace q2 := q2.below hV18 q2.lt
             replace q3 := q3.below hV18 q3.lt
             replace hg := hg.go hV18
             replace hh := (hh.below hV18).up hV18.size
             replace hi := (hi.below hV18).up hV18.size
             replace bi := bi.below hV18 bi.lt
             replace bj := bj.below hV18 bj.lt
             replace hi7 := (hi7.below hV18).up hV18.size
             replace bv := bv.below hV18 bv.lt
             have B_V18 := ex_trans B_V17 hV18
             go_wp2
             go_ret
             exact ⟨rfl, B_V18⟩
            ·
             have hin1 : R1.lo ≤ R3.lo := by have := HE1.out; omega
             have hin2 : R3.hi ≤ R1.hi := by have := HE1.out; omega
             clear hb1 hb2
             have i0 := bi.cell 0
             have i1 := bi.cell 1
             have li := bi.lt
             simp at i0 i1
             have v0 := bv.cell 0
             have v1 := bv.cell 1
             have lv := bv.lt
             simp at v0 v1
             go_wp2_with fail
             refine (sl_in R3 R1 _).mono ?_
             rintro e V19 ⟨rfl, hV19⟩
             replace q1 := q1.below hV19 q1.lt
             replace q2 := q2.below hV19 q2.lt
             replace q3 := q3.below hV19 q3.lt
             replace hg := hg.go hV19
             replace hh := (hh.below hV19).up hV19.size
             replace hi := (hi.below hV19).up hV19.size
             replace bi := bi.below hV19 bi.lt
             replace bj := bj.below hV19 bj.lt
             replace hi7 := (hi7.below hV19).up hV19.size
             replace bv := bv.below hV19 bv.lt
             have B_V19 := ex_trans B_V17 hV19
             clear i0 i1 li v0 v1 lv
             rw [decide_eq_true hin1, decide_eq_true hin2]
             dsimp only [Bool.and_self]
             go_wp2_with fail
             refine (sl_awake _).mono ?_
             rintro e V20 ⟨rfl, hV20⟩
             replace q1 := q1.below hV20 q1.lt
             replace q2 := q2.below hV20 q2.lt
             replace q3 := q3.below hV20 q3.lt
             replace hg := hg.go hV20
             replace hh := (hh.below hV20).up hV20.size
             replace hi := (hi.below hV20).up hV20.size
             replace bi := bi.below hV20 bi.lt
             replace bj := bj.below hV20 bj.lt
             replace hi7 := (hi7.below hV20).up hV20.size
             replace bv := bv.below hV20 bv.lt
             have B_V20 := ex_trans B_V19 hV20
             go_wp2
             go_ret
             exact ⟨rfl, B_V20⟩
           refine wp_region_ext_tq 14 (.quiet 0 (.quiet 2 (.quiet 4 (.quiet 6 (.fork 1 (.fork 3 (.fork 5 (.fork 7 (.fork 8 (.quiet 9 (.quiet 10 (.quiet 11 (.loud 12 (.loud 13 .done))))) 12 (.loud 8 (.quiet 9 (.quiet 10 (.quiet 11 (.loud 13 .done)))))) 12 (.loud 7 (.loud 8 (.quiet 9 (.quiet 10 (.quiet 11 (.loud 13 .done))))))) 12 (.loud 5 (.loud 7 (.loud 8 (.quiet 9 (.quiet 10 (.quiet 11 (.loud 13 .done)))))))) 12 (.loud 3 (.loud 5 (.loud 7 (.loud 8 (.quiet 9 (.quiet 10 (.quiet 11 (.loud 13 .done))))))))) 12 (.loud 1 (.loud 3 (.loud 5 (.loud 7 (.loud 8 (.quiet 9 (.quiet 10 (.quiet 11 (.loud 13 .done)))))))))))))) (by kernel_rfl) (by kernel_rfl) (by intro d _ _ _ _ h; cases d <;> exact h) ?_
           have D0 := (Below.refl V15.heap.size V15).drew
           repeat (refine tq_quiet rfl ?_; first | (refine wpQuiet_load_row rfl 29 _ rfl _ rfl 29 _ (0, 0) _ q1.ex Tryz.underlying29 rfl (by kernel_rfl) ?_; simp only [Act.put, List.setIfInBounds_toArray, List.set_cons_zero, List.set_cons_succ]; refine wpQuiet_nil ?_) | (refine wpQuiet_load_row rfl 33 _ rfl _ rfl 33 _ (0, 0) _ q2.ex Tryz.underlying33 rfl (by kernel_rfl) ?_; simp only [Act.put, List.setIfInBounds_toArray, List.set_cons_zero, List.set_cons_succ]; refine wpQuiet_nil ?_) | (go_big_quiet_step (fail); refine wpQuiet_nil ?_))
           refine tq_fork rfl rfl ?_ ?_
           ·
            go_wp2_with fail
            refine (sr_Tube t Ab Ad cb cd _ (hg.go (((Below.refl V15.heap.size V15)).drew)) (by omega) (by omega)).mono ?_
            rintro e V21 ⟨⟨Ab1, Ad1, cb1, cd1, rfl, hg1⟩, hV21⟩
            have N1 := ex_trans ((Below.refl V15.heap.size V15)).drew hV21
            go_wp2_with fail
            refine ⟨inEx N1, ?_⟩
            repeat (refine tq_quiet rfl ?_; go_big_quiet_step (fail); refine wpQuiet_nil ?_)
            refine tq_fork rfl rfl ?_ ?_
            ·
             go_wp2_with fail
             refine (History_any _ _ h _ (by omega) (hh.go (N1))).mono ?_
             rintro e V22 ⟨⟨Ah1, ch1, rfl, -, -, hh1⟩, hV22⟩
             have N3 := ex_trans N1 hV22
             go_wp2_with fail
             replace hg1 := hg1.go hV22
             refine ⟨inEx N3, ?_⟩
             repeat (refine tq_quiet rfl ?_; go_big_quiet_step (fail); refine wpQuiet_nil ?_)
             refine tq_fork rfl rfl ?_ ?_
             ·
              go_wp2_with fail
              refine (Ices_any _ _ L _ (by omega) (hi7.go (N3))).mono ?_
              rintro e V23 ⟨⟨Ai1, ci1, rfl, -, -, hi1⟩, hV23⟩
              have N5 := ex_trans N3 hV23
              go_wp2_with fail
              replace hg1 := hg1.go hV23
              replace hh1 := hh1.go hV23
              refine ⟨inEx N5, ?_⟩
              repeat (refine tq_quiet rfl ?_; go_big_quiet_step (fail); refine wpQuiet_nil ?_)
              refine tq_fork rfl rfl ?_ ?_
              ·
               go_wp2_with fail
               refine (sr_Reading r _).mono ?_
               rintro e V24 ⟨rfl, hV24⟩
               have N7 := ex_trans N5 hV24
               go_wp2_with fail
               replace hg1 := hg1.go hV24
               replace hh1 := hh1.go hV24
               replace hi1 := hi1.go hV24
               refine ⟨inEx N7, ?_⟩
               repeat (refine tq_quiet rfl ?_; go_big_quiet_step (fail); refine wpQuiet_nil ?_)
               refine tq_fork rfl rfl ?_ ?_
               ·
                go_wp2_with fail
                refine (Correct_v t Ab1 Ad1 cb1 cd1 Ah1 Ai1 ch1 ci1 h L r _ hg1 hh1 hi1 (by omega)).mono ?_
                rintro e V25 ⟨⟨R3, ev3, rfl, hc3⟩, hV25⟩
                have N8 := ex_trans N7 hV25
                go_wp2_with fail
                refine ⟨inEx N8, ?_⟩
                repeat (refine tq_quiet rfl ?_; go_big_quiet_step (fail); refine wpQuiet_nil ?_)
                refine tq_loud rfl ?_
                go_wp2_with fail
                have sv := (N8).size
                try simp at sv
                have N12 := ex_alloc N8 (.cells #[.int .i64 0, .int .i64 0] 41)
                have bv : Blk (V25.alloc (.cells #[.int .i64 0, .int .i64 0] 41)) (V25.heap.size) 41 #[.int .i64 0, .int .i64 0] := Blk.new' _ _ _ (by first | rfl | (simp; done) | (simp; omega))
                obtain ⟨pv, hpv⟩ : ∃ p, V25.heap.size = p := ⟨_, rfl⟩
                rw [hpv] at bv
                try rw [hpv]
                have yv : V15.heap.size ≤ pv := by omega
                clear sv
                refine ⟨inEx N12, ?_⟩
                repeat (refine tq_quiet rfl ?_; go_big_quiet_step (fail); refine wpQuiet_nil ?_)
                refine tq_loud rfl ?_
                have XA13 := N12
                generalize (V25.alloc (.cells #[.int .i64 0, .int .i64 0] 41)) = V26 at *
                have sc0 : V26.cell? ⟨pv, 0, none⟩ = some (.int .i64 0) := bv.cell 0
                have sc1 : V26.cell? ⟨pv, 1, none⟩ = some (.int .i64 0) := bv.cell 1
                have sf := bv.frozen0
                have sl := bv.lt
                go_wp2_with fail
                replace bv := bv.set_ 0 (.int .i64 R3.lo)
                replace XA13 := ex_set (p := ⟨pv, 0, none⟩) XA13 yv (.int .i64 R3.lo)
                replace bv := bv.set_ 1 (.int .i64 R3.hi)
                replace XA13 := ex_set (p := ⟨pv, 1, none⟩) XA13 yv (.int .i64 R3.hi)
                simp only [List.setIfInBounds_toArray, List.set_cons_zero, List.set_cons_succ] at bv
                clear sf sl sc0 sc1
                generalize ((V26.setCell ⟨pv, 0, none⟩ (.int .i64 R3.lo)).setCell ⟨pv, 1, none⟩ (.int .i64 R3.hi)) = V27 at *
                refine ⟨inEx XA13, ?_⟩
                repeat (refine tq_quiet rfl ?_; go_big_quiet_step (fail); refine wpQuiet_nil ?_)
                refine tq_done (r := [_]) rfl ?_
                go_wp2_with fail
                exact hrest V27 pv R3 ev3 _ (XA13) yv bv hc3 (exFrame (by kernel_rfl))
               ·
                go_wp2_with fail
                have sv := (N7).size
                try simp at sv
                have N12 := ex_alloc N7 (.cells #[.int .i64 0, .int .i64 0] 41)
                have bv : Blk (V24.alloc (.cells #[.int .i64 0, .int .i64 0] 41)) (V24.heap.size) 41 #[.int .i64 0, .int .i64 0] := Blk.new' _ _ _ (by first | rfl | (simp; done) | (simp; omega))
                replace hg1 := hg1.go (ex_alloc (Below.refl V24.heap.size V24) (.cells #[.int .i64 0, .int .i64 0] 41))
                replace hh1 := hh1.go (ex_alloc (Below.refl V24.heap.size V24) (.cells #[.int .i64 0, .int .i64 0] 41))
                replace hi1 := hi1.go (ex_alloc (Below.refl V24.heap.size V24) (.cells #[.int .i64 0, .int .i64 0] 41))
                obtain ⟨pv, hpv⟩ : ∃ p, V24.heap.size = p := ⟨_, rfl⟩
                rw [hpv] at bv
                try rw [hpv]
                have yv : V15.heap.size ≤ pv := by omega
                clear sv
                refine ⟨inEx N12, ?_⟩
                repeat (refine tq_quiet rfl ?_; go_big_quiet_step (fail); refine wpQuiet_nil ?_)
                refine tq_loud rfl ?_
                go_wp2_with fail
                refine (Correct_v t Ab1 Ad1 cb1 cd1 Ah1 Ai1 ch1 ci1 h L r _ hg1 hh1 hi1 (by omega)).mono ?_
                rintro e V28 ⟨⟨R3, ev3, rfl, hc3⟩, hV28⟩
                replace bv := Blk.below bv hV28 bv.lt
                have N8 := ex_trans N12 hV28
                go_wp2_with fail
                refine ⟨inEx N8, ?_⟩
                repeat (refine tq_quiet rfl ?_; go_big_quiet_step (fail); refine wpQuiet_nil ?_)
                refine tq_loud rfl ?_
                have XA13 := N8
                generalize V28 = V29 at *
                have sc0 : V29.cell? ⟨pv, 0, none⟩ = some (.int .i64 0) := bv.cell 0
                have sc1 : V29.cell? ⟨pv, 1, none⟩ = some (.int .i64 0) := bv.cell 1
                have sf := bv.frozen0
                have sl := bv.lt
                go_wp2_with fail
                replace bv := bv.set_ 0 (.int .i64 R3.lo)
                replace XA13 := ex_set (p := ⟨pv, 0, none⟩) XA13 yv (.int .i64 R3.lo)
                replace bv := bv.set_ 1 (.int .i64 R3.hi)
                replace XA13 := ex_set (p := ⟨pv, 1, none⟩) XA13 yv (.int .i64 R3.hi)
                simp only [List.setIfInBounds_toArray, List.set_cons_zero, List.set_cons_succ] at bv
                clear sf sl sc0 sc1
                generalize ((V29.setCell ⟨pv, 0, none⟩ (.int .i64 R3.lo)).setCell ⟨pv, 1, none⟩ (.int .i64 R3.hi)) = V30 at *
                refine ⟨inEx XA13, ?_⟩
                repeat (refine tq_quiet rfl ?_; go_big_quiet_step (fail); refine wpQuiet_nil ?_)
                refine tq_done (r := [_]) rfl ?_
                go_wp2_with fail
                exact hrest V30 pv R3 ev3 _ (XA13) yv bv hc3 (exFrame (by kernel_rfl))
              ·
               go_wp2_with fail
               have sv := (N5).size
               try simp at sv
               have N12 := ex_alloc N5 (.cells #[.int .i64 0, .int .i64 0] 41)
               have bv : Blk (V23.alloc (.cells #[.int .i64 0, .int .i64 0] 41)) (V23.heap.size) 41 #[.int .i64 0, .int .i64 0] := Blk.new' _ _ _ (by first | rfl | (simp; done) | (simp; omega))
               replace hg1 := hg1.go (ex_alloc (Below.refl V23.heap.size V23) (.cells #[.int .i64 0, .int .i64 0] 41))
               replace hh1 := hh1.go (ex_alloc (Below.refl V23.heap.size V23) (.cells #[.int .i64 0, .int .i64 0] 41))
               replace hi1 := hi1.go (ex_alloc (Below.refl V23.heap.size V23) (.cells #[.int .i64 0, .int .i64 0] 41))
               obtain ⟨pv, hpv⟩ : ∃ p, V23.heap.size = p := ⟨_, rfl⟩
               rw [hpv] at bv
               try rw [hpv]
               have yv : V15.heap.size ≤ pv := by omega
               clear sv
               refine ⟨inEx N12, ?_⟩
               repeat (refine tq_quiet rfl ?_; go_big_quiet_step (fail); refine wpQuiet_nil ?_)
               refine tq_loud rfl ?_
               go_wp2_with fail
               refine (sr_Reading r _).mono ?_
               rintro e V31 ⟨rfl, hV31⟩
               replace bv := Blk.below bv hV31 bv.lt
               have N7 := ex_trans N12 hV31
               go_wp2_with fail
               replace hg1 := hg1.go hV31
               replace hh1 := hh1.go hV31
               replace hi1 := hi1.go hV31
               refine ⟨inEx N7, ?_⟩
               repeat (refine tq_quiet rfl ?_; go_big_quiet_step (fail); refine wpQuiet_nil ?_)
               refine tq_loud rfl ?_
               go_wp2_with fail
               refine (Correct_v t Ab1 Ad1 cb1 cd1 Ah1 Ai1 ch1 ci1 h L r _ hg1 hh1 hi1 (by omega)).mono ?_
               rintro e V32 ⟨⟨R3, ev3, rfl, hc3⟩, hV32⟩
               replace bv := Blk.below bv hV32 bv.lt
               have N8 := ex_trans N7 hV32
               go_wp2_with fail
               refine ⟨inEx N8, ?_⟩
               repeat (refine tq_quiet rfl ?_; go_big_quiet_step (fail); refine wpQuiet_nil ?_)
               refine tq_loud rfl ?_
               have XA13 := N8
               generalize V32 = V33 at *
               have sc0 : V33.cell? ⟨pv, 0, none⟩ = some (.int .i64 0) := bv.cell 0
               have sc1 : V33.cell? ⟨pv, 1, none⟩ = some (.int .i64 0) := bv.cell 1
               have sf := bv.frozen0
               have sl := bv.lt
               go_wp2_with fail
               replace bv := bv.set_ 0 (.int .i64 R3.lo)
               replace XA13 := ex_set (p := ⟨pv, 0, none⟩) XA13 yv (.int .i64 R3.lo)
               replace bv := bv.set_ 1 (.int .i64 R3.hi)
               replace XA13 := ex_set (p := ⟨pv, 1, none⟩) XA13 yv (.int .i64 R3.hi)
               simp only [List.setIfInBounds_toArray, List.set_cons_zero, List.set_cons_succ] at bv
               clear sf sl sc0 sc1
               generalize ((V33.setCell ⟨pv, 0, none⟩ (.int .i64 R3.lo)).setCell ⟨pv, 1, none⟩ (.int .i64 R3.hi)) = V34 at *
               refine ⟨inEx XA13, ?_⟩
               repeat (refine tq_quiet rfl ?_; go_big_quiet_step (fail); refine wpQuiet_nil ?_)
               refine tq_done (r := [_]) rfl ?_
               go_wp2_with fail
               exact hrest V34 pv R3 ev3 _ (XA13) yv bv hc3 (exFrame (by kernel_rfl))
             ·
              go_wp2_with fail
              have sv := (N3).size
              try simp at sv
              have N12 := ex_alloc N3 (.cells #[.int .i64 0, .int .i64 0] 41)
              have bv : Blk (V22.alloc (.cells #[.int .i64 0, .int .i64 0] 41)) (V22.heap.size) 41 #[.int .i64 0, .int .i64 0] := Blk.new' _ _ _ (by first | rfl | (simp; done) | (simp; omega))
              replace hg1 := hg1.go (ex_alloc (Below.refl V22.heap.size V22) (.cells #[.int .i64 0, .int .i64 0] 41))
              replace hh1 := hh1.go (ex_alloc (Below.refl V22.heap.size V22) (.cells #[.int .i64 0, .int .i64 0] 41))
              obtain ⟨pv, hpv⟩ : ∃ p, V22.heap.size = p := ⟨_, rfl⟩
              rw [hpv] at bv
              try rw [hpv]
              have yv : V15.heap.size ≤ pv := by omega
              clear sv
              refine ⟨inEx N12, ?_⟩
              repeat (refine tq_quiet rfl ?_; go_big_quiet_step (fail); refine wpQuiet_nil ?_)
              refine tq_loud rfl ?_
              go_wp2_with fail
              refine (Ices_any _ _ L _ (by omega) (hi7.go (N12))).mono ?_
              rintro e V35 ⟨⟨Ai1, ci1, rfl, -, -, hi1⟩, hV35⟩
              replace bv := Blk.below bv hV35 bv.lt
              have N5 := ex_trans N12 hV35
              go_wp2_with fail
              replace hg1 := hg1.go hV35
              replace hh1 := hh1.go hV35
              refine ⟨inEx N5, ?_⟩
              repeat (refine tq_quiet rfl ?_; go_big_quiet_step (fail); refine wpQuiet_nil ?_)
              refine tq_loud rfl ?_
              go_wp2_with fail
              refine (sr_Reading r _).mono ?_
              rintro e V36 ⟨rfl, hV36⟩
              replace bv := Blk.below bv hV36 bv.lt
              have N7 := ex_trans N5 hV36
              go_wp2_with fail
              replace hg1 := hg1.go hV36
              replace hh1 := hh1.go hV36
              replace hi1 := hi1.go hV36
              refine ⟨inEx N7, ?_⟩
              repeat (refine tq_quiet rfl ?_; go_big_quiet_step (fail); refine wpQuiet_nil ?_)
              refine tq_loud rfl ?_
              go_wp2_with fail
              refine (Correct_v t Ab1 Ad1 cb1 cd1 Ah1 Ai1 ch1 ci1 h L r _ hg1 hh1 hi1 (by omega)).mono ?_
              rintro e V37 ⟨⟨R3, ev3, rfl, hc3⟩, hV37⟩
              replace bv := Blk.below bv hV37 bv.lt
              have N8 := ex_trans N7 hV37
              go_wp2_with fail
              refine ⟨inEx N8, ?_⟩
              repeat (refine tq_quiet rfl ?_; go_big_quiet_step (fail); refine wpQuiet_nil ?_)
              refine tq_loud rfl ?_
              have XA13 := N8
              generalize V37 = V38 at *
              have sc0 : V38.cell? ⟨pv, 0, none⟩ = some (.int .i64 0) := bv.cell 0
              have sc1 : V38.cell? ⟨pv, 1, none⟩ = some (.int .i64 0) := bv.cell 1
              have sf := bv.frozen0
              have sl := bv.lt
              go_wp2_with fail
              replace bv := bv.set_ 0 (.int .i64 R3.lo)
              replace XA13 := ex_set (p := ⟨pv, 0, none⟩) XA13 yv (.int .i64 R3.lo)
              replace bv := bv.set_ 1 (.int .i64 R3.hi)
              replace XA13 := ex_set (p := ⟨pv, 1, none⟩) XA13 yv (.int .i64 R3.hi)
              simp only [List.setIfInBounds_toArray, List.set_cons_zero, List.set_cons_succ] at bv
              clear sf sl sc0 sc1
              generalize ((V38.setCell ⟨pv, 0, none⟩ (.int .i64 R3.lo)).setCell ⟨pv, 1, none⟩ (.int .i64 R3.hi)) = V39 at *
              refine ⟨inEx XA13, ?_⟩
              repeat (refine tq_quiet rfl ?_; go_big_quiet_step (fail); refine wpQuiet_nil ?_)
              refine tq_done (r := [_]) rfl ?_
              go_wp2_with fail
              exact hrest V39 pv R3 ev3 _ (XA13) yv bv hc3 (exFrame (by kernel_rfl))
            ·
             go_wp2_with fail
             have sv := (N1).size
             try simp at sv
             have N12 := ex_alloc N1 (.cells #[.int .i64 0, .int .i64 0] 41)
             have bv : Blk (V21.alloc (.cells #[.int .i64 0, .int .i64 0] 41)) (V21.heap.size) 41 #[.int .i64 0, .int .i64 0] := Blk.new' _ _ _ (by first | rfl | (simp; done) | (simp; omega))
             replace hg1 := hg1.go (ex_alloc (Below.refl V21.heap.size V21) (.cells #[.int .i64 0, .int .i64 0] 41))
             obtain ⟨pv, hpv⟩ : ∃ p, V21.heap.size = p := ⟨_, rfl⟩
             rw [hpv] at bv
             try rw [hpv]
             have yv : V15.heap.size ≤ pv := by omega
             clear sv
             refine ⟨inEx N12, ?_⟩
             repeat (refine tq_quiet rfl ?_; go_big_quiet_step (fail); refine wpQuiet_nil ?_)
             refine tq_loud rfl ?_
             go_wp2_with fail
             refine (History_any _ _ h _ (by omega) (hh.go (N12))).mono ?_
             rintro e V40 ⟨⟨Ah1, ch1, rfl, -, -, hh1⟩, hV40⟩
             replace bv := Blk.below bv hV40 bv.lt
             have N3 := ex_trans N12 hV40
             go_wp2_with fail
             replace hg1 := hg1.go hV40
             refine ⟨inEx N3, ?_⟩
             repeat (refine tq_quiet rfl ?_; go_big_quiet_step (fail); refine wpQuiet_nil ?_)
             refine tq_loud rfl ?_
             go_wp2_with fail
             refine (Ices_any _ _ L _ (by omega) (hi7.go (N3))).mono ?_
             rintro e V41 ⟨⟨Ai1, ci1, rfl, -, -, hi1⟩, hV41⟩
             replace bv := Blk.below bv hV41 bv.lt
             have N5 := ex_trans N3 hV41
             go_wp2_with fail
             replace hg1 := hg1.go hV41
             replace hh1 := hh1.go hV41
             refine ⟨inEx N5, ?_⟩
             repeat (refine tq_quiet rfl ?_; go_big_quiet_step (fail); refine wpQuiet_nil ?_)
             refine tq_loud rfl ?_
             go_wp2_with fail
             refine (sr_Reading r _).mono ?_
             rintro e V42 ⟨rfl, hV42⟩
             replace bv := Blk.below bv hV42 bv.lt
             have N7 := ex_trans N5 hV42
             go_wp2_with fail
             replace hg1 := hg1.go hV42
             replace hh1 := hh1.go hV42
             replace hi1 := hi1.go hV42
             refine ⟨inEx N7, ?_⟩
             repeat (refine tq_quiet rfl ?_; go_big_quiet_step (fail); refine wpQuiet_nil ?_)
             refine tq_loud rfl ?_
             go_wp2_with fail
             refine (Correct_v t Ab1 Ad1 cb1 cd1 Ah1 Ai1 ch1 ci1 h L r _ hg1 hh1 hi1 (by omega)).mono ?_
             rintro e V43 ⟨⟨R3, ev3, rfl, hc3⟩, hV43⟩
             replace bv := Blk.below bv hV43 bv.lt
             have N8 := ex_trans N7 hV43
             go_wp2_with fail
             refine ⟨inEx N8, ?_⟩
             repeat (refine tq_quiet rfl ?_; go_big_quiet_step (fail); refine wpQuiet_nil ?_)
             refine tq_loud rfl ?_
             have XA13 := N8
             generalize V43 = V44 at *
             have sc0 : V44.cell? ⟨pv, 0, none⟩ = some (.int .i64 0) := bv.cell 0
             have sc1 : V44.cell? ⟨pv, 1, none⟩ = some (.int .i64 0) := bv.cell 1
             have sf := bv.frozen0
             have sl := bv.lt
             go_wp2_with fail
             replace bv := bv.set_ 0 (.int .i64 R3.lo)
             replace XA13 := ex_set (p := ⟨pv, 0, none⟩) XA13 yv (.int .i64 R3.lo)
             replace bv := bv.set_ 1 (.int .i64 R3.hi)
             replace XA13 := ex_set (p := ⟨pv, 1, none⟩) XA13 yv (.int .i64 R3.hi)
             simp only [List.setIfInBounds_toArray, List.set_cons_zero, List.set_cons_succ] at bv
             clear sf sl sc0 sc1
             generalize ((V44.setCell ⟨pv, 0, none⟩ (.int .i64 R3.lo)).setCell ⟨pv, 1, none⟩ (.int .i64 R3.hi)) = V45 at *
             refine ⟨inEx XA13, ?_⟩
             repeat (refine tq_quiet rfl ?_; go_big_quiet_step (fail); refine wpQuiet_nil ?_)
             refine tq_done (r := [_]) rfl ?_
             go_wp2_with fail
             exact hrest V45 pv R3 ev3 _ (XA13) yv bv hc3 (exFrame (by kernel_rfl))
           ·
            go_wp2_with fail
            have sv := ((Below.refl V15.heap.size V15)).size
            try simp at sv
            have N12 := ex_alloc (Below.refl V15.heap.size V15) (.cells #[.int .i64 0, .int .i64 0] 41)
            have bv : Blk (V15.alloc (.cells #[.int .i64 0, .int .i64 0] 41)) (V15.heap.size) 41 #[.int .i64 0, .int .i64 0] := Blk.new' _ _ _ (by first | rfl | (simp; done) | (simp; omega))
            obtain ⟨pv, hpv⟩ : ∃ p, V15.heap.size = p := ⟨_, rfl⟩
            rw [hpv] at bv
            try rw [hpv]
            have yv : V15.heap.size ≤ pv := by omega
            clear sv
            refine ⟨inEx (N12).drew, ?_⟩
            repeat (refine tq_quiet rfl ?_; go_big_quiet_step (fail); refine wpQuiet_nil ?_)
            refine tq_loud rfl ?_
            go_wp2_with fail
            refine (sr_Tube t Ab Ad cb cd _ (hg.go ((N12).drew)) (by omega) (by omega)).mono ?_
            rintro e V46 ⟨⟨Ab1, Ad1, cb1, cd1, rfl, hg1⟩, hV46⟩
            replace bv := Blk.below (Blk.drew bv) hV46 bv.lt
            have N1 := ex_trans (N12).drew hV46
            go_wp2_with fail
            refine ⟨inEx N1, ?_⟩
            repeat (refine tq_quiet rfl ?_; go_big_quiet_step (fail); refine wpQuiet_nil ?_)
            refine tq_loud rfl ?_
            go_wp2_with fail
            refine (History_any _ _ h _ (by omega) (hh.go (N1))).mono ?_
            rintro e V47 ⟨⟨Ah1, ch1, rfl, -, -, hh1⟩, hV47⟩
            replace bv := Blk.below bv hV47 bv.lt
            have N3 := ex_trans N1 hV47
            go_wp2_with fail
            replace hg1 := hg1.go hV47
            refine ⟨inEx N3, ?_⟩
            repeat (refine tq_quiet rfl ?_; go_big_quiet_step (fail); refine wpQuiet_nil ?_)
            refine tq_loud rfl ?_
            go_wp2_with fail
            refine (Ices_any _ _ L _ (by omega) (hi7.go (N3))).mono ?_
            rintro e V48 ⟨⟨Ai1, ci1, rfl, -, -, hi1⟩, hV48⟩
            replace bv := Blk.below bv hV48 bv.lt
            have N5 := ex_trans N3 hV48
            go_wp2_with fail
            replace hg1 := hg1.go hV48
            replace hh1 := hh1.go hV48
            refine ⟨inEx N5, ?_⟩
            repeat (refine tq_quiet rfl ?_; go_big_quiet_step (fail); refine wpQuiet_nil ?_)
            refine tq_loud rfl ?_
            go_wp2_with fail
            refine (sr_Reading r _).mono ?_
            rintro e V49 ⟨rfl, hV49⟩
            replace bv := Blk.below bv hV49 bv.lt
            have N7 := ex_trans N5 hV49
            go_wp2_with fail
            replace hg1 := hg1.go hV49
            replace hh1 := hh1.go hV49
            replace hi1 := hi1.go hV49
            refine ⟨inEx N7, ?_⟩
            repeat (refine tq_quiet rfl ?_; go_big_quiet_step (fail); refine wpQuiet_nil ?_)
            refine tq_loud rfl ?_
            go_wp2_with fail
            refine (Correct_v t Ab1 Ad1 cb1 cd1 Ah1 Ai1 ch1 ci1 h L r _ hg1 hh1 hi1 (by omega)).mono ?_
            rintro e V50 ⟨⟨R3, ev3, rfl, hc3⟩, hV50⟩
            replace bv := Blk.below bv hV50 bv.lt
            have N8 := ex_trans N7 hV50
            go_wp2_with fail
            refine ⟨inEx N8, ?_⟩
            repeat (refine tq_quiet rfl ?_; go_big_quiet_step (fail); refine wpQuiet_nil ?_)
            refine tq_loud rfl ?_
            have XA13 := N8
            generalize V50 = V51 at *
            have sc0 : V51.cell? ⟨pv, 0, none⟩ = some (.int .i64 0) := bv.cell 0
            have sc1 : V51.cell? ⟨pv, 1, none⟩ = some (.int .i64 0) := bv.cell 1
            have sf := bv.frozen0
            have sl := bv.lt
            go_wp2_with fail
            replace bv := bv.set_ 0 (.int .i64 R3.lo)
            replace XA13 := ex_set (p := ⟨pv, 0, none⟩) XA13 yv (.int .i64 R3.lo)
            replace bv := bv.set_ 1 (.int .i64 R3.hi)
            replace XA13 := ex_set (p := ⟨pv, 1, none⟩) XA13 yv (.int .i64 R3.hi)
            simp only [List.setIfInBounds_toArray, List.set_cons_zero, List.set_cons_succ] at bv
            clear sf sl sc0 sc1
            generalize ((V51.setCell ⟨pv, 0, none⟩ (.int .i64 R3.lo)).setCell ⟨pv, 1, none⟩ (.int .i64 R3.hi)) = V52 at *
            refine ⟨inEx XA13, ?_⟩
            repeat (refine tq_quiet rfl ?_; go_big_quiet_step (fail); refine wpQuiet_nil ?_)
            refine tq_done (r := [_]) rfl ?_
            go_wp2_with fail
            exact hrest V52 pv R3 ev3 _ (XA13) yv bv hc3 (exFrame (by kernel_rfl))
         have D := (Below.refl V13.heap.size V13).drew
         refine wp_region_ext_tq 6 (.quiet 1 (.quiet 3 (.fork 0 (.fork 2 (.loud 4 (.loud 5 .done)) 4 (.loud 2 (.loud 5 .done))) 4 (.loud 0 (.loud 2 (.loud 5 .done)))))) (by kernel_rfl) (by kernel_rfl) (by intro d _ _ _ _ h; cases d <;> exact h) ?_
         repeat (refine tq_quiet rfl ?_; go_big_quiet_step (fail); refine wpQuiet_nil ?_)
         have hBS : Hid (V13.heap.size = V13.heap.size) := Lib.hid rfl
         refine tq_fork rfl rfl ?_ ?_
         ·
          go_wp2_with fail
          have N := ex_alloc (Below.refl V13.heap.size V13) (.cells #[] 91)
          have qe : Blk (V13.alloc (.cells #[] 91)) V13.heap.size 91 #[] := Blk.new _ _ _
          have hse := ((Below.refl V13.heap.size V13)).size
          obtain ⟨pe, hpe⟩ : ∃ p, V13.heap.size = p := ⟨_, rfl⟩
          rw [hpe] at qe
          try rw [hpe]
          have hpe0 : V13.heap.size ≤ pe := by omega
          clear hpe hse
          replace N := N.drew
          replace qe := qe.drew
          refine ⟨inEx N, ?_⟩
          have X_V53 := N
          generalize (V13.alloc (.cells #[] 91)).drew = V53 at *
          clear N
          refine tq_fork rfl rfl ?_ ?_
          ·
           have hsl' : SlAt V53 V53.heap.size 3 Ai l.length (fC l) := (hi.below X_V53).up X_V53.size
           have hbs : V13.heap.size ≤ V53.heap.size := X_V53.size
           go_wp2_with (at_builtin; refine wpList_append_list (f := cC) (F := fC) (sz := 3) cC_len cC_at cC_one rfl _ _ _ rfl V13.heap.size 91 i0 _ 24 Tryz.underlying31 HI.out hz0 hz1 hz2 rfl (by omega) (some ⟨pe, 0, none⟩) 0 [] rfl (own_empty qe hpe0) Ai ci l rfl hsl' (by simp; unfold maxLen; omega) (by simp; omega) hbs (V53.heap.size) rfl ?_; intro L1 Ay cy V54 HL1 o1 g1 n1)
           obtain rfl : l = L1 := HL1.out.symm
           have X_V54 := (X_V53).grown g1 (X_V53).size (fun j hj => by have : pe = j := (by simpa [Value.ownBlock] using hj); omega)
           clear HL1 n1 hsl' hbs g1 qe
           refine ⟨inEx X_V54, ?_⟩
           refine tq_loud rfl ?_
           go_wp2_with fail
           have N := ex_alloc X_V54 (.cells #[.int .i64 ic.day, .int .i64 ic.zero, .int .i64 ic.err] 91)
           have qc : Blk (V54.alloc (.cells #[.int .i64 ic.day, .int .i64 ic.zero, .int .i64 ic.err] 91)) V54.heap.size 91 #[.int .i64 ic.day, .int .i64 ic.zero, .int .i64 ic.err] := Blk.new _ _ _
           replace o1 := own_below o1 (ex_alloc (Below.refl V54.heap.size V54) (.cells #[.int .i64 ic.day, .int .i64 ic.zero, .int .i64 ic.err] 91))
           have hse := (X_V54).size
           obtain ⟨pc, hpc⟩ : ∃ p, V54.heap.size = p := ⟨_, rfl⟩
           rw [hpc] at qc
           try rw [hpc]
           have hpc0 : V13.heap.size ≤ pc := by omega
           clear hpc hse
           refine ⟨inEx N, ?_⟩
           have X_V55 := N
           generalize (V54.alloc (.cells #[.int .i64 ic.day, .int .i64 ic.zero, .int .i64 ic.err] 91)) = V55 at *
           clear N
           refine tq_loud rfl ?_
           have hbs : V13.heap.size ≤ V55.heap.size := X_V55.size
           go_wp2_with (at_builtin; refine wpList_append_list (f := cC) (F := fC) (sz := 3) cC_len cC_at cC_one rfl _ _ _ rfl V13.heap.size 91 i0 _ 24 Tryz.underlying31 HI.out hz0 hz1 hz2 rfl (by omega) Ay cy l rfl o1 (some ⟨pc, 0, none⟩) 1 [ic] rfl (one_at qc (ice_row ic.day ic.zero ic.err)) (by simp; unfold maxLen; omega) (by simp; omega) hbs (V55.heap.size) rfl ?_; intro L2 Bx kx V56 HX ox gx nx)
           have X_V56 := (X_V55).grown gx (X_V55).size (fun j hj => own_ge o1 hj)
           refine ⟨inEx X_V56, ?_⟩
           obtain ⟨Ax, cx, hv, _, _, hs2⟩ := own_C ox
           injection hv with hva hvb hvc
           subst hva hvc
           clear hvb ox gx nx o1 qc hbs
           refine tq_done (r := [_]) rfl ?_
           go_wp2_with fail
           exact hrest V56 Bx kx L2 _ X_V56 hs2 (Lib.hid HX.out) (exFrame (by kernel_rfl))
          ·
           go_wp2_with fail
           have N := ex_alloc X_V53 (.cells #[.int .i64 ic.day, .int .i64 ic.zero, .int .i64 ic.err] 91)
           have qc : Blk (V53.alloc (.cells #[.int .i64 ic.day, .int .i64 ic.zero, .int .i64 ic.err] 91)) V53.heap.size 91 #[.int .i64 ic.day, .int .i64 ic.zero, .int .i64 ic.err] := Blk.new _ _ _
           have lto := qe.lt
           replace qe := qe.alloc (.cells #[.int .i64 ic.day, .int .i64 ic.zero, .int .i64 ic.err] 91)
           have hse := (X_V53).size
           obtain ⟨pc, hpc⟩ : ∃ p, V53.heap.size = p := ⟨_, rfl⟩
           rw [hpc] at qc
           try rw [hpc]
           have hpc0 : V13.heap.size ≤ pc := by omega
           have nce : pc ≠ pe := by omega
           clear lto
           clear hpc hse
           refine ⟨inEx N, ?_⟩
           have X_V57 := N
           generalize (V53.alloc (.cells #[.int .i64 ic.day, .int .i64 ic.zero, .int .i64 ic.err] 91)) = V57 at *
           clear N
           refine tq_loud rfl ?_
           have hsl' : SlAt V57 V57.heap.size 3 Ai l.length (fC l) := (hi.below X_V57).up X_V57.size
           have hbs : V13.heap.size ≤ V57.heap.size := X_V57.size
           go_wp2_with (at_builtin; refine wpList_append_list (f := cC) (F := fC) (sz := 3) cC_len cC_at cC_one rfl _ _ _ rfl V13.heap.size 91 i0 _ 24 Tryz.underlying31 HI.out hz0 hz1 hz2 rfl (by omega) (some ⟨pe, 0, none⟩) 0 [] rfl (own_empty qe hpe0) Ai ci l rfl hsl' (by simp; unfold maxLen; omega) (by simp; omega) hbs (V57.heap.size) rfl ?_; intro L1 Ay cy V58 HL1 o1 g1 n1)
           obtain rfl : l = L1 := HL1.out.symm
           have X_V58 := (X_V57).grown g1 (X_V57).size (fun j hj => by have : pe = j := (by simpa [Value.ownBlock] using hj); omega)
           replace qc := qc.grown g1 (fun e => by have : pe = pc := (by simpa [Value.ownBlock] using e.symm); omega)
           clear HL1 n1 hsl' hbs g1 qe
           refine ⟨inEx X_V58, ?_⟩
           refine tq_loud rfl ?_
           have hbs : V13.heap.size ≤ V58.heap.size := X_V58.size
           go_wp2_with (at_builtin; refine wpList_append_list (f := cC) (F := fC) (sz := 3) cC_len cC_at cC_one rfl _ _ _ rfl V13.heap.size 91 i0 _ 24 Tryz.underlying31 HI.out hz0 hz1 hz2 rfl (by omega) Ay cy l rfl o1 (some ⟨pc, 0, none⟩) 1 [ic] rfl (one_at qc (ice_row ic.day ic.zero ic.err)) (by simp; unfold maxLen; omega) (by simp; omega) hbs (V58.heap.size) rfl ?_; intro L2 Bx kx V59 HX ox gx nx)
           have X_V59 := (X_V58).grown gx (X_V58).size (fun j hj => own_ge o1 hj)
           refine ⟨inEx X_V59, ?_⟩
           obtain ⟨Ax, cx, hv, _, _, hs2⟩ := own_C ox
           injection hv with hva hvb hvc
           subst hva hvc
           clear hvb ox gx nx o1 qc hbs
           refine tq_done (r := [_]) rfl ?_
           go_wp2_with fail
           exact hrest V59 Bx kx L2 _ X_V59 hs2 (Lib.hid HX.out) (exFrame (by kernel_rfl))
         ·
          go_wp2_with fail
          have N := ex_alloc (Below.refl V13.heap.size V13) (.cells #[.int .i64 ic.day, .int .i64 ic.zero, .int .i64 ic.err] 91)
          have qc : Blk (V13.alloc (.cells #[.int .i64 ic.day, .int .i64 ic.zero, .int .i64 ic.err] 91)) V13.heap.size 91 #[.int .i64 ic.day, .int .i64 ic.zero, .int .i64 ic.err] := Blk.new _ _ _
          have hse := ((Below.refl V13.heap.size V13)).size
          obtain ⟨pc, hpc⟩ : ∃ p, V13.heap.size = p := ⟨_, rfl⟩
          rw [hpc] at qc
          try rw [hpc]
          have hpc0 : V13.heap.size ≤ pc := by omega
          clear hpc hse
          replace N := N.drew
          replace qc := qc.drew
          refine ⟨inEx N, ?_⟩
          have X_V60 := N
          generalize (V13.alloc (.cells #[.int .i64 ic.day, .int .i64 ic.zero, .int .i64 ic.err] 91)).drew = V60 at *
          clear N
          refine tq_loud rfl ?_
          go_wp2_with fail
          have N := ex_alloc X_V60 (.cells #[] 91)
          have qe : Blk (V60.alloc (.cells #[] 91)) V60.heap.size 91 #[] := Blk.new _ _ _
          have lto := qc.lt
          replace qc := qc.alloc (.cells #[] 91)
          have hse := (X_V60).size
          obtain ⟨pe, hpe⟩ : ∃ p, V60.heap.size = p := ⟨_, rfl⟩
          rw [hpe] at qe
          try rw [hpe]
          have hpe0 : V13.heap.size ≤ pe := by omega
          have nce : pc ≠ pe := by omega
          clear lto
          clear hpe hse
          refine ⟨inEx N, ?_⟩
          have X_V61 := N
          generalize (V60.alloc (.cells #[] 91)) = V61 at *
          clear N
          refine tq_loud rfl ?_
          have hsl' : SlAt V61 V61.heap.size 3 Ai l.length (fC l) := (hi.below X_V61).up X_V61.size
          have hbs : V13.heap.size ≤ V61.heap.size := X_V61.size
          go_wp2_with (at_builtin; refine wpList_append_list (f := cC) (F := fC) (sz := 3) cC_len cC_at cC_one rfl _ _ _ rfl V13.heap.size 91 i0 _ 24 Tryz.underlying31 HI.out hz0 hz1 hz2 rfl (by omega) (some ⟨pe, 0, none⟩) 0 [] rfl (own_empty qe hpe0) Ai ci l rfl hsl' (by simp; unfold maxLen; omega) (by simp; omega) hbs (V61.heap.size) rfl ?_; intro L1 Ay cy V62 HL1 o1 g1 n1)
          obtain rfl : l = L1 := HL1.out.symm
          have X_V62 := (X_V61).grown g1 (X_V61).size (fun j hj => by have : pe = j := (by simpa [Value.ownBlock] using hj); omega)
          replace qc := qc.grown g1 (fun e => by have : pe = pc := (by simpa [Value.ownBlock] using e.symm); omega)
          clear HL1 n1 hsl' hbs g1 qe
          refine ⟨inEx X_V62, ?_⟩
          refine tq_loud rfl ?_
          have hbs : V13.heap.size ≤ V62.heap.size := X_V62.size
          go_wp2_with (at_builtin; refine wpList_append_list (f := cC) (F := fC) (sz := 3) cC_len cC_at cC_one rfl _ _ _ rfl V13.heap.size 91 i0 _ 24 Tryz.underlying31 HI.out hz0 hz1 hz2 rfl (by omega) Ay cy l rfl o1 (some ⟨pc, 0, none⟩) 1 [ic] rfl (one_at qc (ice_row ic.day ic.zero ic.err)) (by simp; unfold maxLen; omega) (by simp; omega) hbs (V62.heap.size) rfl ?_; intro L2 Bx kx V63 HX ox gx nx)
          have X_V63 := (X_V62).grown gx (X_V62).size (fun j hj => own_ge o1 hj)
          refine ⟨inEx X_V63, ?_⟩
          obtain ⟨Ax, cx, hv, _, _, hs2⟩ := own_C ox
          injection hv with hva hvb hvc
          subst hva hvc
          clear hvb ox gx nx o1 qc hbs
          refine tq_done (r := [_]) rfl ?_
          go_wp2_with fail
          exact hrest V63 Bx kx L2 _ X_V63 hs2 (Lib.hid HX.out) (exFrame (by kernel_rfl))
        refine wp_region_ext_tq 14 (.quiet 0 (.quiet 2 (.quiet 4 (.quiet 6 (.fork 1 (.fork 3 (.fork 5 (.fork 7 (.fork 8 (.quiet 9 (.quiet 10 (.quiet 11 (.loud 12 (.loud 13 .done))))) 12 (.loud 8 (.quiet 9 (.quiet 10 (.quiet 11 (.loud 13 .done)))))) 12 (.loud 7 (.loud 8 (.quiet 9 (.quiet 10 (.quiet 11 (.loud 13 .done))))))) 12 (.loud 5 (.loud 7 (.loud 8 (.quiet 9 (.quiet 10 (.quiet 11 (.loud 13 .done)))))))) 12 (.loud 3 (.loud 5 (.loud 7 (.loud 8 (.quiet 9 (.quiet 10 (.quiet 11 (.loud 13 .done))))))))) 12 (.loud 1 (.loud 3 (.loud 5 (.loud 7 (.loud 8 (.quiet 9 (.quiet 10 (.quiet 11 (.loud 13 .done)))))))))))))) (by kernel_rfl) (by kernel_rfl) (by intro d _ _ _ _ h; cases d <;> exact h) ?_
        have D0 := (Below.refl V11.heap.size V11).drew
        repeat (refine tq_quiet rfl ?_; first | (refine wpQuiet_load_row rfl 29 _ rfl _ rfl 29 _ (0, 0) _ bx.ex Tryz.underlying29 rfl (by kernel_rfl) ?_; simp only [Act.put, List.setIfInBounds_toArray, List.set_cons_zero, List.set_cons_succ]; refine wpQuiet_nil ?_) | (refine wpQuiet_load_row rfl 33 _ rfl _ rfl 33 _ (0, 0) _ bf.ex Tryz.underlying33 rfl (by kernel_rfl) ?_; simp only [Act.put, List.setIfInBounds_toArray, List.set_cons_zero, List.set_cons_succ]; refine wpQuiet_nil ?_) | (go_big_quiet_step (fail); refine wpQuiet_nil ?_))
        refine tq_fork rfl rfl ?_ ?_
        ·
         go_wp2_with fail
         refine (sr_Tube t2 Ab Ad cb cd _ (hgx.go (((Below.refl V11.heap.size V11)).drew)) (by omega) (by omega)).mono ?_
         rintro e V64 ⟨⟨Ab1, Ad1, cb1, cd1, rfl, hg1⟩, hV64⟩
         have N1 := ex_trans ((Below.refl V11.heap.size V11)).drew hV64
         go_wp2_with fail
         refine ⟨inEx N1, ?_⟩
         repeat (refine tq_quiet rfl ?_; go_big_quiet_step (fail); refine wpQuiet_nil ?_)
         refine tq_fork rfl rfl ?_ ?_
         ·
          go_wp2_with fail
          refine (History_any _ _ h _ (by omega) (hh.go (N1))).mono ?_
          rintro e V65 ⟨⟨Ah1, ch1, rfl, -, -, hh1⟩, hV65⟩
          have N3 := ex_trans N1 hV65
          go_wp2_with fail
          replace hg1 := hg1.go hV65
          refine ⟨inEx N3, ?_⟩
          repeat (refine tq_quiet rfl ?_; go_big_quiet_step (fail); refine wpQuiet_nil ?_)
          refine tq_fork rfl rfl ?_ ?_
          ·
           go_wp2_with fail
           refine (Ices_any _ _ l _ (by omega) (hi.go (N3))).mono ?_
           rintro e V66 ⟨⟨Ai1, ci1, rfl, -, -, hi1⟩, hV66⟩
           have N5 := ex_trans N3 hV66
           go_wp2_with fail
           replace hg1 := hg1.go hV66
           replace hh1 := hh1.go hV66
           refine ⟨inEx N5, ?_⟩
           repeat (refine tq_quiet rfl ?_; go_big_quiet_step (fail); refine wpQuiet_nil ?_)
           refine tq_fork rfl rfl ?_ ?_
           ·
            go_wp2_with fail
            refine (sr_Reading q2' _).mono ?_
            rintro e V67 ⟨rfl, hV67⟩
            have N7 := ex_trans N5 hV67
            go_wp2_with fail
            replace hg1 := hg1.go hV67
            replace hh1 := hh1.go hV67
            replace hi1 := hi1.go hV67
            refine ⟨inEx N7, ?_⟩
            repeat (refine tq_quiet rfl ?_; go_big_quiet_step (fail); refine wpQuiet_nil ?_)
            refine tq_fork rfl rfl ?_ ?_
            ·
             go_wp2_with fail
             refine (Correct_v t2 Ab1 Ad1 cb1 cd1 Ah1 Ai1 ch1 ci1 h l q2' _ hg1 hh1 hi1 (by omega)).mono ?_
             rintro e V68 ⟨⟨R2, ev2, rfl, hc2⟩, hV68⟩
             have N8 := ex_trans N7 hV68
             go_wp2_with fail
             refine ⟨inEx N8, ?_⟩
             repeat (refine tq_quiet rfl ?_; go_big_quiet_step (fail); refine wpQuiet_nil ?_)
             refine tq_loud rfl ?_
             go_wp2_with fail
             have sj := (N8).size
             try simp at sj
             have N12 := ex_alloc N8 (.cells #[.int .i64 0, .int .i64 0] 41)
             have bj : Blk (V68.alloc (.cells #[.int .i64 0, .int .i64 0] 41)) (V68.heap.size) 41 #[.int .i64 0, .int .i64 0] := Blk.new' _ _ _ (by first | rfl | (simp; done) | (simp; omega))
             obtain ⟨pj, hpj⟩ : ∃ p, V68.heap.size = p := ⟨_, rfl⟩
             rw [hpj] at bj
             try rw [hpj]
             have yj : V11.heap.size ≤ pj := by omega
             clear sj
             refine ⟨inEx N12, ?_⟩
             repeat (refine tq_quiet rfl ?_; go_big_quiet_step (fail); refine wpQuiet_nil ?_)
             refine tq_loud rfl ?_
             have XA13 := N12
             generalize (V68.alloc (.cells #[.int .i64 0, .int .i64 0] 41)) = V69 at *
             have sc0 : V69.cell? ⟨pj, 0, none⟩ = some (.int .i64 0) := bj.cell 0
             have sc1 : V69.cell? ⟨pj, 1, none⟩ = some (.int .i64 0) := bj.cell 1
             have sf := bj.frozen0
             have sl := bj.lt
             go_wp2_with fail
             replace bj := bj.set_ 0 (.int .i64 R2.lo)
             replace XA13 := ex_set (p := ⟨pj, 0, none⟩) XA13 yj (.int .i64 R2.lo)
             replace bj := bj.set_ 1 (.int .i64 R2.hi)
             replace XA13 := ex_set (p := ⟨pj, 1, none⟩) XA13 yj (.int .i64 R2.hi)
             simp only [List.setIfInBounds_toArray, List.set_cons_zero, List.set_cons_succ] at bj
             clear sf sl sc0 sc1
             generalize ((V69.setCell ⟨pj, 0, none⟩ (.int .i64 R2.lo)).setCell ⟨pj, 1, none⟩ (.int .i64 R2.hi)) = V70 at *
             refine ⟨inEx XA13, ?_⟩
             repeat (refine tq_quiet rfl ?_; go_big_quiet_step (fail); refine wpQuiet_nil ?_)
             refine tq_done (r := [_]) rfl ?_
             go_wp2_with fail
             exact hrest V70 pj R2 ev2 _ (XA13) yj bj hc2 (exFrame (by kernel_rfl))
            ·
             go_wp2_with fail
             have sj := (N7).size
             try simp at sj
             have N12 := ex_alloc N7 (.cells #[.int .i64 0, .int .i64 0] 41)
             have bj : Blk (V67.alloc (.cells #[.int .i64 0, .int .i64 0] 41)) (V67.heap.size) 41 #[.int .i64 0, .int .i64 0] := Blk.new' _ _ _ (by first | rfl | (simp; done) | (simp; omega))
             replace hg1 := hg1.go (ex_alloc (Below.refl V67.heap.size V67) (.cells #[.int .i64 0, .int .i64 0] 41))
             replace hh1 := hh1.go (ex_alloc (Below.refl V67.heap.size V67) (.cells #[.int .i64 0, .int .i64 0] 41))
             replace hi1 := hi1.go (ex_alloc (Below.refl V67.heap.size V67) (.cells #[.int .i64 0, .int .i64 0] 41))
             obtain ⟨pj, hpj⟩ : ∃ p, V67.heap.size = p := ⟨_, rfl⟩
             rw [hpj] at bj
             try rw [hpj]
             have yj : V11.heap.size ≤ pj := by omega
             clear sj
             refine ⟨inEx N12, ?_⟩
             repeat (refine tq_quiet rfl ?_; go_big_quiet_step (fail); refine wpQuiet_nil ?_)
             refine tq_loud rfl ?_
             go_wp2_with fail
             refine (Correct_v t2 Ab1 Ad1 cb1 cd1 Ah1 Ai1 ch1 ci1 h l q2' _ hg1 hh1 hi1 (by omega)).mono ?_
             rintro e V71 ⟨⟨R2, ev2, rfl, hc2⟩, hV71⟩
             replace bj := Blk.below bj hV71 bj.lt
             have N8 := ex_trans N12 hV71
             go_wp2_with fail
             refine ⟨inEx N8, ?_⟩
             repeat (refine tq_quiet rfl ?_; go_big_quiet_step (fail); refine wpQuiet_nil ?_)
             refine tq_loud rfl ?_
             have XA13 := N8
             generalize V71 = V72 at *
             have sc0 : V72.cell? ⟨pj, 0, none⟩ = some (.int .i64 0) := bj.cell 0
             have sc1 : V72.cell? ⟨pj, 1, none⟩ = some (.int .i64 0) := bj.cell 1
             have sf := bj.frozen0
             have sl := bj.lt
             go_wp2_with fail
             replace bj := bj.set_ 0 (.int .i64 R2.lo)
             replace XA13 := ex_set (p := ⟨pj, 0, none⟩) XA13 yj (.int .i64 R2.lo)
             replace bj := bj.set_ 1 (.int .i64 R2.hi)
             replace XA13 := ex_set (p := ⟨pj, 1, none⟩) XA13 yj (.int .i64 R2.hi)
             simp only [List.setIfInBounds_toArray, List.set_cons_zero, List.set_cons_succ] at bj
             clear sf sl sc0 sc1
             generalize ((V72.setCell ⟨pj, 0, none⟩ (.int .i64 R2.lo)).setCell ⟨pj, 1, none⟩ (.int .i64 R2.hi)) = V73 at *
             refine ⟨inEx XA13, ?_⟩
             repeat (refine tq_quiet rfl ?_; go_big_quiet_step (fail); refine wpQuiet_nil ?_)
             refine tq_done (r := [_]) rfl ?_
             go_wp2_with fail
             exact hrest V73 pj R2 ev2 _ (XA13) yj bj hc2 (exFrame (by kernel_rfl))
           ·
            go_wp2_with fail
            have sj := (N5).size
            try simp at sj
            have N12 := ex_alloc N5 (.cells #[.int .i64 0, .int .i64 0] 41)
            have bj : Blk (V66.alloc (.cells #[.int .i64 0, .int .i64 0] 41)) (V66.heap.size) 41 #[.int .i64 0, .int .i64 0] := Blk.new' _ _ _ (by first | rfl | (simp; done) | (simp; omega))
            replace hg1 := hg1.go (ex_alloc (Below.refl V66.heap.size V66) (.cells #[.int .i64 0, .int .i64 0] 41))
            replace hh1 := hh1.go (ex_alloc (Below.refl V66.heap.size V66) (.cells #[.int .i64 0, .int .i64 0] 41))
            replace hi1 := hi1.go (ex_alloc (Below.refl V66.heap.size V66) (.cells #[.int .i64 0, .int .i64 0] 41))
            obtain ⟨pj, hpj⟩ : ∃ p, V66.heap.size = p := ⟨_, rfl⟩
            rw [hpj] at bj
            try rw [hpj]
            have yj : V11.heap.size ≤ pj := by omega
            clear sj
            refine ⟨inEx N12, ?_⟩
            repeat (refine tq_quiet rfl ?_; go_big_quiet_step (fail); refine wpQuiet_nil ?_)
            refine tq_loud rfl ?_
            go_wp2_with fail
            refine (sr_Reading q2' _).mono ?_
            rintro e V74 ⟨rfl, hV74⟩
            replace bj := Blk.below bj hV74 bj.lt
            have N7 := ex_trans N12 hV74
            go_wp2_with fail
            replace hg1 := hg1.go hV74
            replace hh1 := hh1.go hV74
            replace hi1 := hi1.go hV74
            refine ⟨inEx N7, ?_⟩
            repeat (refine tq_quiet rfl ?_; go_big_quiet_step (fail); refine wpQuiet_nil ?_)
            refine tq_loud rfl ?_
            go_wp2_with fail
            refine (Correct_v t2 Ab1 Ad1 cb1 cd1 Ah1 Ai1 ch1 ci1 h l q2' _ hg1 hh1 hi1 (by omega)).mono ?_
            rintro e V75 ⟨⟨R2, ev2, rfl, hc2⟩, hV75⟩
            replace bj := Blk.below bj hV75 bj.lt
            have N8 := ex_trans N7 hV75
            go_wp2_with fail
            refine ⟨inEx N8, ?_⟩
            repeat (refine tq_quiet rfl ?_; go_big_quiet_step (fail); refine wpQuiet_nil ?_)
            refine tq_loud rfl ?_
            have XA13 := N8
            generalize V75 = V76 at *
            have sc0 : V76.cell? ⟨pj, 0, none⟩ = some (.int .i64 0) := bj.cell 0
            have sc1 : V76.cell? ⟨pj, 1, none⟩ = some (.int .i64 0) := bj.cell 1
            have sf := bj.frozen0
            have sl := bj.lt
            go_wp2_with fail
            replace bj := bj.set_ 0 (.int .i64 R2.lo)
            replace XA13 := ex_set (p := ⟨pj, 0, none⟩) XA13 yj (.int .i64 R2.lo)
            replace bj := bj.set_ 1 (.int .i64 R2.hi)
            replace XA13 := ex_set (p := ⟨pj, 1, none⟩) XA13 yj (.int .i64 R2.hi)
            simp only [List.setIfInBounds_toArray, List.set_cons_zero, List.set_cons_succ] at bj
            clear sf sl sc0 sc1
            generalize ((V76.setCell ⟨pj, 0, none⟩ (.int .i64 R2.lo)).setCell ⟨pj, 1, none⟩ (.int .i64 R2.hi)) = V77 at *
            refine ⟨inEx XA13, ?_⟩
            repeat (refine tq_quiet rfl ?_; go_big_quiet_step (fail); refine wpQuiet_nil ?_)
            refine tq_done (r := [_]) rfl ?_
            go_wp2_with fail
            exact hrest V77 pj R2 ev2 _ (XA13) yj bj hc2 (exFrame (by kernel_rfl))
          ·
           go_wp2_with fail
           have sj := (N3).size
           try simp at sj
           have N12 := ex_alloc N3 (.cells #[.int .i64 0, .int .i64 0] 41)
           have bj : Blk (V65.alloc (.cells #[.int .i64 0, .int .i64 0] 41)) (V65.heap.size) 41 #[.int .i64 0, .int .i64 0] := Blk.new' _ _ _ (by first | rfl | (simp; done) | (simp; omega))
           replace hg1 := hg1.go (ex_alloc (Below.refl V65.heap.size V65) (.cells #[.int .i64 0, .int .i64 0] 41))
           replace hh1 := hh1.go (ex_alloc (Below.refl V65.heap.size V65) (.cells #[.int .i64 0, .int .i64 0] 41))
           obtain ⟨pj, hpj⟩ : ∃ p, V65.heap.size = p := ⟨_, rfl⟩
           rw [hpj] at bj
           try rw [hpj]
           have yj : V11.heap.size ≤ pj := by omega
           clear sj
           refine ⟨inEx N12, ?_⟩
           repeat (refine tq_quiet rfl ?_; go_big_quiet_step (fail); refine wpQuiet_nil ?_)
           refine tq_loud rfl ?_
           go_wp2_with fail
           refine (Ices_any _ _ l _ (by omega) (hi.go (N12))).mono ?_
           rintro e V78 ⟨⟨Ai1, ci1, rfl, -, -, hi1⟩, hV78⟩
           replace bj := Blk.below bj hV78 bj.lt
           have N5 := ex_trans N12 hV78
           go_wp2_with fail
           replace hg1 := hg1.go hV78
           replace hh1 := hh1.go hV78
           refine ⟨inEx N5, ?_⟩
           repeat (refine tq_quiet rfl ?_; go_big_quiet_step (fail); refine wpQuiet_nil ?_)
           refine tq_loud rfl ?_
           go_wp2_with fail
           refine (sr_Reading q2' _).mono ?_
           rintro e V79 ⟨rfl, hV79⟩
           replace bj := Blk.below bj hV79 bj.lt
           have N7 := ex_trans N5 hV79
           go_wp2_with fail
           replace hg1 := hg1.go hV79
           replace hh1 := hh1.go hV79
           replace hi1 := hi1.go hV79
           refine ⟨inEx N7, ?_⟩
           repeat (refine tq_quiet rfl ?_; go_big_quiet_step (fail); refine wpQuiet_nil ?_)
           refine tq_loud rfl ?_
           go_wp2_with fail
           refine (Correct_v t2 Ab1 Ad1 cb1 cd1 Ah1 Ai1 ch1 ci1 h l q2' _ hg1 hh1 hi1 (by omega)).mono ?_
           rintro e V80 ⟨⟨R2, ev2, rfl, hc2⟩, hV80⟩
           replace bj := Blk.below bj hV80 bj.lt
           have N8 := ex_trans N7 hV80
           go_wp2_with fail
           refine ⟨inEx N8, ?_⟩
           repeat (refine tq_quiet rfl ?_; go_big_quiet_step (fail); refine wpQuiet_nil ?_)
           refine tq_loud rfl ?_
           have XA13 := N8
           generalize V80 = V81 at *
           have sc0 : V81.cell? ⟨pj, 0, none⟩ = some (.int .i64 0) := bj.cell 0
           have sc1 : V81.cell? ⟨pj, 1, none⟩ = some (.int .i64 0) := bj.cell 1
           have sf := bj.frozen0
           have sl := bj.lt
           go_wp2_with fail
           replace bj := bj.set_ 0 (.int .i64 R2.lo)
           replace XA13 := ex_set (p := ⟨pj, 0, none⟩) XA13 yj (.int .i64 R2.lo)
           replace bj := bj.set_ 1 (.int .i64 R2.hi)
           replace XA13 := ex_set (p := ⟨pj, 1, none⟩) XA13 yj (.int .i64 R2.hi)
           simp only [List.setIfInBounds_toArray, List.set_cons_zero, List.set_cons_succ] at bj
           clear sf sl sc0 sc1
           generalize ((V81.setCell ⟨pj, 0, none⟩ (.int .i64 R2.lo)).setCell ⟨pj, 1, none⟩ (.int .i64 R2.hi)) = V82 at *
           refine ⟨inEx XA13, ?_⟩
           repeat (refine tq_quiet rfl ?_; go_big_quiet_step (fail); refine wpQuiet_nil ?_)
           refine tq_done (r := [_]) rfl ?_
           go_wp2_with fail
           exact hrest V82 pj R2 ev2 _ (XA13) yj bj hc2 (exFrame (by kernel_rfl))
         ·
          go_wp2_with fail
          have sj := (N1).size
          try simp at sj
          have N12 := ex_alloc N1 (.cells #[.int .i64 0, .int .i64 0] 41)
          have bj : Blk (V64.alloc (.cells #[.int .i64 0, .int .i64 0] 41)) (V64.heap.size) 41 #[.int .i64 0, .int .i64 0] := Blk.new' _ _ _ (by first | rfl | (simp; done) | (simp; omega))
          replace hg1 := hg1.go (ex_alloc (Below.refl V64.heap.size V64) (.cells #[.int .i64 0, .int .i64 0] 41))
          obtain ⟨pj, hpj⟩ : ∃ p, V64.heap.size = p := ⟨_, rfl⟩
          rw [hpj] at bj
          try rw [hpj]
          have yj : V11.heap.size ≤ pj := by omega
          clear sj
          refine ⟨inEx N12, ?_⟩
          repeat (refine tq_quiet rfl ?_; go_big_quiet_step (fail); refine wpQuiet_nil ?_)
          refine tq_loud rfl ?_
          go_wp2_with fail
          refine (History_any _ _ h _ (by omega) (hh.go (N12))).mono ?_
          rintro e V83 ⟨⟨Ah1, ch1, rfl, -, -, hh1⟩, hV83⟩
          replace bj := Blk.below bj hV83 bj.lt
          have N3 := ex_trans N12 hV83
          go_wp2_with fail
          replace hg1 := hg1.go hV83
          refine ⟨inEx N3, ?_⟩
          repeat (refine tq_quiet rfl ?_; go_big_quiet_step (fail); refine wpQuiet_nil ?_)
          refine tq_loud rfl ?_
          go_wp2_with fail
          refine (Ices_any _ _ l _ (by omega) (hi.go (N3))).mono ?_
          rintro e V84 ⟨⟨Ai1, ci1, rfl, -, -, hi1⟩, hV84⟩
          replace bj := Blk.below bj hV84 bj.lt
          have N5 := ex_trans N3 hV84
          go_wp2_with fail
          replace hg1 := hg1.go hV84
          replace hh1 := hh1.go hV84
          refine ⟨inEx N5, ?_⟩
          repeat (refine tq_quiet rfl ?_; go_big_quiet_step (fail); refine wpQuiet_nil ?_)
          refine tq_loud rfl ?_
          go_wp2_with fail
          refine (sr_Reading q2' _).mono ?_
          rintro e V85 ⟨rfl, hV85⟩
          replace bj := Blk.below bj hV85 bj.lt
          have N7 := ex_trans N5 hV85
          go_wp2_with fail
          replace hg1 := hg1.go hV85
          replace hh1 := hh1.go hV85
          replace hi1 := hi1.go hV85
          refine ⟨inEx N7, ?_⟩
          repeat (refine tq_quiet rfl ?_; go_big_quiet_step (fail); refine wpQuiet_nil ?_)
          refine tq_loud rfl ?_
          go_wp2_with fail
          refine (Correct_v t2 Ab1 Ad1 cb1 cd1 Ah1 Ai1 ch1 ci1 h l q2' _ hg1 hh1 hi1 (by omega)).mono ?_
          rintro e V86 ⟨⟨R2, ev2, rfl, hc2⟩, hV86⟩
          replace bj := Blk.below bj hV86 bj.lt
          have N8 := ex_trans N7 hV86
          go_wp2_with fail
          refine ⟨inEx N8, ?_⟩
          repeat (refine tq_quiet rfl ?_; go_big_quiet_step (fail); refine wpQuiet_nil ?_)
          refine tq_loud rfl ?_
          have XA13 := N8
          generalize V86 = V87 at *
          have sc0 : V87.cell? ⟨pj, 0, none⟩ = some (.int .i64 0) := bj.cell 0
          have sc1 : V87.cell? ⟨pj, 1, none⟩ = some (.int .i64 0) := bj.cell 1
          have sf := bj.frozen0
          have sl := bj.lt
          go_wp2_with fail
          replace bj := bj.set_ 0 (.int .i64 R2.lo)
          replace XA13 := ex_set (p := ⟨pj, 0, none⟩) XA13 yj (.int .i64 R2.lo)
          replace bj := bj.set_ 1 (.int .i64 R2.hi)
          replace XA13 := ex_set (p := ⟨pj, 1, none⟩) XA13 yj (.int .i64 R2.hi)
          simp only [List.setIfInBounds_toArray, List.set_cons_zero, List.set_cons_succ] at bj
          clear sf sl sc0 sc1
          generalize ((V87.setCell ⟨pj, 0, none⟩ (.int .i64 R2.lo)).setCell ⟨pj, 1, none⟩ (.int .i64 R2.hi)) = V88 at *
          refine ⟨inEx XA13, ?_⟩
          repeat (refine tq_quiet rfl ?_; go_big_quiet_step (fail); refine wpQuiet_nil ?_)
          refine tq_done (r := [_]) rfl ?_
          go_wp2_with fail
          exact hrest V88 pj R2 ev2 _ (XA13) yj bj hc2 (exFrame (by kernel_rfl))
        ·
         go_wp2_with fail
         have sj := ((Below.refl V11.heap.size V11)).size
         try simp at sj
         have N12 := ex_alloc (Below.refl V11.heap.size V11) (.cells #[.int .i64 0, .int .i64 0] 41)
         have bj : Blk (V11.alloc (.cells #[.int .i64 0, .int .i64 0] 41)) (V11.heap.size) 41 #[.int .i64 0, .int .i64 0] := Blk.new' _ _ _ (by first | rfl | (simp; done) | (simp; omega))
         obtain ⟨pj, hpj⟩ : ∃ p, V11.heap.size = p := ⟨_, rfl⟩
         rw [hpj] at bj
         try rw [hpj]
         have yj : V11.heap.size ≤ pj := by omega
         clear sj
         refine ⟨inEx (N12).drew, ?_⟩
         repeat (refine tq_quiet rfl ?_; go_big_quiet_step (fail); refine wpQuiet_nil ?_)
         refine tq_loud rfl ?_
         go_wp2_with fail
         refine (sr_Tube t2 Ab Ad cb cd _ (hgx.go ((N12).drew)) (by omega) (by omega)).mono ?_
         rintro e V89 ⟨⟨Ab1, Ad1, cb1, cd1, rfl, hg1⟩, hV89⟩
         replace bj := Blk.below (Blk.drew bj) hV89 bj.lt
         have N1 := ex_trans (N12).drew hV89
         go_wp2_with fail
         refine ⟨inEx N1, ?_⟩
         repeat (refine tq_quiet rfl ?_; go_big_quiet_step (fail); refine wpQuiet_nil ?_)
         refine tq_loud rfl ?_
         go_wp2_with fail
         refine (History_any _ _ h _ (by omega) (hh.go (N1))).mono ?_
         rintro e V90 ⟨⟨Ah1, ch1, rfl, -, -, hh1⟩, hV90⟩
         replace bj := Blk.below bj hV90 bj.lt
         have N3 := ex_trans N1 hV90
         go_wp2_with fail
         replace hg1 := hg1.go hV90
         refine ⟨inEx N3, ?_⟩
         repeat (refine tq_quiet rfl ?_; go_big_quiet_step (fail); refine wpQuiet_nil ?_)
         refine tq_loud rfl ?_
         go_wp2_with fail
         refine (Ices_any _ _ l _ (by omega) (hi.go (N3))).mono ?_
         rintro e V91 ⟨⟨Ai1, ci1, rfl, -, -, hi1⟩, hV91⟩
         replace bj := Blk.below bj hV91 bj.lt
         have N5 := ex_trans N3 hV91
         go_wp2_with fail
         replace hg1 := hg1.go hV91
         replace hh1 := hh1.go hV91
         refine ⟨inEx N5, ?_⟩
         repeat (refine tq_quiet rfl ?_; go_big_quiet_step (fail); refine wpQuiet_nil ?_)
         refine tq_loud rfl ?_
         go_wp2_with fail
         refine (sr_Reading q2' _).mono ?_
         rintro e V92 ⟨rfl, hV92⟩
         replace bj := Blk.below bj hV92 bj.lt
         have N7 := ex_trans N5 hV92
         go_wp2_with fail
         replace hg1 := hg1.go hV92
         replace hh1 := hh1.go hV92
         replace hi1 := hi1.go hV92
         refine ⟨inEx N7, ?_⟩
         repeat (refine tq_quiet rfl ?_; go_big_quiet_step (fail); refine wpQuiet_nil ?_)
         refine tq_loud rfl ?_
         go_wp2_with fail
         refine (Correct_v t2 Ab1 Ad1 cb1 cd1 Ah1 Ai1 ch1 ci1 h l q2' _ hg1 hh1 hi1 (by omega)).mono ?_
         rintro e V93 ⟨⟨R2, ev2, rfl, hc2⟩, hV93⟩
         replace bj := Blk.below bj hV93 bj.lt
         have N8 := ex_trans N7 hV93
         go_wp2_with fail
         refine ⟨inEx N8, ?_⟩
         repeat (refine tq_quiet rfl ?_; go_big_quiet_step (fail); refine wpQuiet_nil ?_)
         refine tq_loud rfl ?_
         have XA13 := N8
         generalize V93 = V94 at *
         have sc0 : V94.cell? ⟨pj, 0, none⟩ = some (.int .i64 0) := bj.cell 0
         have sc1 : V94.cell? ⟨pj, 1, none⟩ = some (.int .i64 0) := bj.cell 1
         have sf := bj.frozen0
         have sl := bj.lt
         go_wp2_with fail
         replace bj := bj.set_ 0 (.int .i64 R2.lo)
         replace XA13 := ex_set (p := ⟨pj, 0, none⟩) XA13 yj (.int .i64 R2.lo)
         replace bj := bj.set_ 1 (.int .i64 R2.hi)
         replace XA13 := ex_set (p := ⟨pj, 1, none⟩) XA13 yj (.int .i64 R2.hi)
         simp only [List.setIfInBounds_toArray, List.set_cons_zero, List.set_cons_succ] at bj
         clear sf sl sc0 sc1
         generalize ((V94.setCell ⟨pj, 0, none⟩ (.int .i64 R2.lo)).setCell ⟨pj, 1, none⟩ (.int .i64 R2.hi)) = V95 at *
         refine ⟨inEx XA13, ?_⟩
         repeat (refine tq_quiet rfl ?_; go_big_quiet_step (fail); refine wpQuiet_nil ?_)
         refine tq_done (r := [_]) rfl ?_
         go_wp2_with fail
         exact hrest V95 pj R2 ev2 _ (XA13) yj bj hc2 (exFrame (by kernel_rfl))
       refine wp_region_ext_tq 14 (.quiet 0 (.quiet 2 (.quiet 4 (.quiet 6 (.fork 1 (.fork 3 (.fork 5 (.fork 7 (.fork 8 (.quiet 9 (.quiet 10 (.quiet 11 (.loud 12 (.loud 13 .done))))) 12 (.loud 8 (.quiet 9 (.quiet 10 (.quiet 11 (.loud 13 .done)))))) 12 (.loud 7 (.loud 8 (.quiet 9 (.quiet 10 (.quiet 11 (.loud 13 .done))))))) 12 (.loud 5 (.loud 7 (.loud 8 (.quiet 9 (.quiet 10 (.quiet 11 (.loud 13 .done)))))))) 12 (.loud 3 (.loud 5 (.loud 7 (.loud 8 (.quiet 9 (.quiet 10 (.quiet 11 (.loud 13 .done))))))))) 12 (.loud 1 (.loud 3 (.loud 5 (.loud 7 (.loud 8 (.quiet 9 (.quiet 10 (.quiet 11 (.loud 13 .done)))))))))))))) (by kernel_rfl) (by kernel_rfl) (by intro d _ _ _ _ h; cases d <;> exact h) ?_
       have D0 := (Below.refl V10.heap.size V10).drew
       repeat (refine tq_quiet rfl ?_; first | (refine wpQuiet_load_row rfl 29 _ rfl _ rfl 29 _ (0, 0) _ q1.ex Tryz.underlying29 rfl (by kernel_rfl) ?_; simp only [Act.put, List.setIfInBounds_toArray, List.set_cons_zero, List.set_cons_succ]; refine wpQuiet_nil ?_) | (refine wpQuiet_load_row rfl 33 _ rfl _ rfl 33 _ (0, 0) _ q2.ex Tryz.underlying33 rfl (by kernel_rfl) ?_; simp only [Act.put, List.setIfInBounds_toArray, List.set_cons_zero, List.set_cons_succ]; refine wpQuiet_nil ?_) | (go_big_quiet_step (fail); refine wpQuiet_nil ?_))
       refine tq_fork rfl rfl ?_ ?_
       ·
        go_wp2_with fail
        refine (sr_Tube t Ab Ad cb cd _ (hg.go (((Below.refl V10.heap.size V10)).drew)) (by omega) (by omega)).mono ?_
        rintro e V96 ⟨⟨Ab1, Ad1, cb1, cd1, rfl, hg1⟩, hV96⟩
        have N1 := ex_trans ((Below.refl V10.heap.size V10)).drew hV96
        go_wp2_with fail
        refine ⟨inEx N1, ?_⟩
        repeat (refine tq_quiet rfl ?_; go_big_quiet_step (fail); refine wpQuiet_nil ?_)
        refine tq_fork rfl rfl ?_ ?_
        ·
         go_wp2_with fail
         refine (History_any _ _ h _ (by omega) (hh.go (N1))).mono ?_
         rintro e V97 ⟨⟨Ah1, ch1, rfl, -, -, hh1⟩, hV97⟩
         have N3 := ex_trans N1 hV97
         go_wp2_with fail
         replace hg1 := hg1.go hV97
         refine ⟨inEx N3, ?_⟩
         repeat (refine tq_quiet rfl ?_; go_big_quiet_step (fail); refine wpQuiet_nil ?_)
         refine tq_fork rfl rfl ?_ ?_
         ·
          go_wp2_with fail
          refine (Ices_any _ _ l _ (by omega) (hi.go (N3))).mono ?_
          rintro e V98 ⟨⟨Ai1, ci1, rfl, -, -, hi1⟩, hV98⟩
          have N5 := ex_trans N3 hV98
          go_wp2_with fail
          replace hg1 := hg1.go hV98
          replace hh1 := hh1.go hV98
          refine ⟨inEx N5, ?_⟩
          repeat (refine tq_quiet rfl ?_; go_big_quiet_step (fail); refine wpQuiet_nil ?_)
          refine tq_fork rfl rfl ?_ ?_
          ·
           go_wp2_with fail
           refine (sr_Reading r _).mono ?_
           rintro e V99 ⟨rfl, hV99⟩
           have N7 := ex_trans N5 hV99
           go_wp2_with fail
           replace hg1 := hg1.go hV99
           replace hh1 := hh1.go hV99
           replace hi1 := hi1.go hV99
           refine ⟨inEx N7, ?_⟩
           repeat (refine tq_quiet rfl ?_; go_big_quiet_step (fail); refine wpQuiet_nil ?_)
           refine tq_fork rfl rfl ?_ ?_
           ·
            go_wp2_with fail
            refine (Correct_v t Ab1 Ad1 cb1 cd1 Ah1 Ai1 ch1 ci1 h l r _ hg1 hh1 hi1 (by omega)).mono ?_
            rintro e V100 ⟨⟨R1, ev1, rfl, hc1⟩, hV100⟩
            have N8 := ex_trans N7 hV100
            go_wp2_with fail
            refine ⟨inEx N8, ?_⟩
            repeat (refine tq_quiet rfl ?_; go_big_quiet_step (fail); refine wpQuiet_nil ?_)
            refine tq_loud rfl ?_
            go_wp2_with fail
            have si := (N8).size
            try simp at si
            have N12 := ex_alloc N8 (.cells #[.int .i64 0, .int .i64 0] 41)
            have bi : Blk (V100.alloc (.cells #[.int .i64 0, .int .i64 0] 41)) (V100.heap.size) 41 #[.int .i64 0, .int .i64 0] := Blk.new' _ _ _ (by first | rfl | (simp; done) | (simp; omega))
            obtain ⟨pi, hpi⟩ : ∃ p, V100.heap.size = p := ⟨_, rfl⟩
            rw [hpi] at bi
            try rw [hpi]
            have yi : V10.heap.size ≤ pi := by omega
            clear si
            refine ⟨inEx N12, ?_⟩
            repeat (refine tq_quiet rfl ?_; go_big_quiet_step (fail); refine wpQuiet_nil ?_)
            refine tq_loud rfl ?_
            have XA13 := N12
            generalize (V100.alloc (.cells #[.int .i64 0, .int .i64 0] 41)) = V101 at *
            have sc0 : V101.cell? ⟨pi, 0, none⟩ = some (.int .i64 0) := bi.cell 0
            have sc1 : V101.cell? ⟨pi, 1, none⟩ = some (.int .i64 0) := bi.cell 1
            have sf := bi.frozen0
            have sl := bi.lt
            go_wp2_with fail
            replace bi := bi.set_ 0 (.int .i64 R1.lo)
            replace XA13 := ex_set (p := ⟨pi, 0, none⟩) XA13 yi (.int .i64 R1.lo)
            replace bi := bi.set_ 1 (.int .i64 R1.hi)
            replace XA13 := ex_set (p := ⟨pi, 1, none⟩) XA13 yi (.int .i64 R1.hi)
            simp only [List.setIfInBounds_toArray, List.set_cons_zero, List.set_cons_succ] at bi
            clear sf sl sc0 sc1
            generalize ((V101.setCell ⟨pi, 0, none⟩ (.int .i64 R1.lo)).setCell ⟨pi, 1, none⟩ (.int .i64 R1.hi)) = V102 at *
            refine ⟨inEx XA13, ?_⟩
            repeat (refine tq_quiet rfl ?_; go_big_quiet_step (fail); refine wpQuiet_nil ?_)
            refine tq_done (r := [_]) rfl ?_
            go_wp2_with fail
            exact hrest V102 pi R1 ev1 _ (XA13) yi bi hc1 (exFrame (by kernel_rfl))
           ·
            go_wp2_with fail
            have si := (N7).size
            try simp at si
            have N12 := ex_alloc N7 (.cells #[.int .i64 0, .int .i64 0] 41)
            have bi : Blk (V99.alloc (.cells #[.int .i64 0, .int .i64 0] 41)) (V99.heap.size) 41 #[.int .i64 0, .int .i64 0] := Blk.new' _ _ _ (by first | rfl | (simp; done) | (simp; omega))
            replace hg1 := hg1.go (ex_alloc (Below.refl V99.heap.size V99) (.cells #[.int .i64 0, .int .i64 0] 41))
            replace hh1 := hh1.go (ex_alloc (Below.refl V99.heap.size V99) (.cells #[.int .i64 0, .int .i64 0] 41))
            replace hi1 := hi1.go (ex_alloc (Below.refl V99.heap.size V99) (.cells #[.int .i64 0, .int .i64 0] 41))
            obtain ⟨pi, hpi⟩ : ∃ p, V99.heap.size = p := ⟨_, rfl⟩
            rw [hpi] at bi
            try rw [hpi]
            have yi : V10.heap.size ≤ pi := by omega
            clear si
            refine ⟨inEx N12, ?_⟩
            repeat (refine tq_quiet rfl ?_; go_big_quiet_step (fail); refine wpQuiet_nil ?_)
            refine tq_loud rfl ?_
            go_wp2_with fail
            refine (Correct_v t Ab1 Ad1 cb1 cd1 Ah1 Ai1 ch1 ci1 h l r _ hg1 hh1 hi1 (by omega)).mono ?_
            rintro e V103 ⟨⟨R1, ev1, rfl, hc1⟩, hV103⟩
            replace bi := Blk.below bi hV103 bi.lt
            have N8 := ex_trans N12 hV103
            go_wp2_with fail
            refine ⟨inEx N8, ?_⟩
            repeat (refine tq_quiet rfl ?_; go_big_quiet_step (fail); refine wpQuiet_nil ?_)
            refine tq_loud rfl ?_
            have XA13 := N8
            generalize V103 = V104 at *
            have sc0 : V104.cell? ⟨pi, 0, none⟩ = some (.int .i64 0) := bi.cell 0
            have sc1 : V104.cell? ⟨pi, 1, none⟩ = some (.int .i64 0) := bi.cell 1
            have sf := bi.frozen0
            have sl := bi.lt
            go_wp2_with fail
            replace bi := bi.set_ 0 (.int .i64 R1.lo)
            replace XA13 := ex_set (p := ⟨pi, 0, none⟩) XA13 yi (.int .i64 R1.lo)
            replace bi := bi.set_ 1 (.int .i64 R1.hi)
            replace XA13 := ex_set (p := ⟨pi, 1, none⟩) XA13 yi (.int .i64 R1.hi)
            simp only [List.setIfInBounds_toArray, List.set_cons_zero, List.set_cons_succ] at bi
            clear sf sl sc0 sc1
            generalize ((V104.setCell ⟨pi, 0, none⟩ (.int .i64 R1.lo)).setCell ⟨pi, 1, none⟩ (.int .i64 R1.hi)) = V105 at *
            refine ⟨inEx XA13, ?_⟩
            repeat (refine tq_quiet rfl ?_; go_big_quiet_step (fail); refine wpQuiet_nil ?_)
            refine tq_done (r := [_]) rfl ?_
            go_wp2_with fail
            exact hrest V105 pi R1 ev1 _ (XA13) yi bi hc1 (exFrame (by kernel_rfl))
          ·
           go_wp2_with fail
           have si := (N5).size
           try simp at si
           have N12 := ex_alloc N5 (.cells #[.int .i64 0, .int .i64 0] 41)
           have bi : Blk (V98.alloc (.cells #[.int .i64 0, .int .i64 0] 41)) (V98.heap.size) 41 #[.int .i64 0, .int .i64 0] := Blk.new' _ _ _ (by first | rfl | (simp; done) | (simp; omega))
           replace hg1 := hg1.go (ex_alloc (Below.refl V98.heap.size V98) (.cells #[.int .i64 0, .int .i64 0] 41))
           replace hh1 := hh1.go (ex_alloc (Below.refl V98.heap.size V98) (.cells #[.int .i64 0, .int .i64 0] 41))
           replace hi1 := hi1.go (ex_alloc (Below.refl V98.heap.size V98) (.cells #[.int .i64 0, .int .i64 0] 41))
           obtain ⟨pi, hpi⟩ : ∃ p, V98.heap.size = p := ⟨_, rfl⟩
           rw [hpi] at bi
           try rw [hpi]
           have yi : V10.heap.size ≤ pi := by omega
           clear si
           refine ⟨inEx N12, ?_⟩
           repeat (refine tq_quiet rfl ?_; go_big_quiet_step (fail); refine wpQuiet_nil ?_)
           refine tq_loud rfl ?_
           go_wp2_with fail
           refine (sr_Reading r _).mono ?_
           rintro e V106 ⟨rfl, hV106⟩
           replace bi := Blk.below bi hV106 bi.lt
           have N7 := ex_trans N12 hV106
           go_wp2_with fail
           replace hg1 := hg1.go hV106
           replace hh1 := hh1.go hV106
           replace hi1 := hi1.go hV106
           refine ⟨inEx N7, ?_⟩
           repeat (refine tq_quiet rfl ?_; go_big_quiet_step (fail); refine wpQuiet_nil ?_)
           refine tq_loud rfl ?_
           go_wp2_with fail
           refine (Correct_v t Ab1 Ad1 cb1 cd1 Ah1 Ai1 ch1 ci1 h l r _ hg1 hh1 hi1 (by omega)).mono ?_
           rintro e V107 ⟨⟨R1, ev1, rfl, hc1⟩, hV107⟩
           replace bi := Blk.below bi hV107 bi.lt
           have N8 := ex_trans N7 hV107
           go_wp2_with fail
           refine ⟨inEx N8, ?_⟩
           repeat (refine tq_quiet rfl ?_; go_big_quiet_step (fail); refine wpQuiet_nil ?_)
           refine tq_loud rfl ?_
           have XA13 := N8
           generalize V107 = V108 at *
           have sc0 : V108.cell? ⟨pi, 0, none⟩ = some (.int .i64 0) := bi.cell 0
           have sc1 : V108.cell? ⟨pi, 1, none⟩ = some (.int .i64 0) := bi.cell 1
           have sf := bi.frozen0
           have sl := bi.lt
           go_wp2_with fail
           replace bi := bi.set_ 0 (.int .i64 R1.lo)
           replace XA13 := ex_set (p := ⟨pi, 0, none⟩) XA13 yi (.int .i64 R1.lo)
           replace bi := bi.set_ 1 (.int .i64 R1.hi)
           replace XA13 := ex_set (p := ⟨pi, 1, none⟩) XA13 yi (.int .i64 R1.hi)
           simp only [List.setIfInBounds_toArray, List.set_cons_zero, List.set_cons_succ] at bi
           clear sf sl sc0 sc1
           generalize ((V108.setCell ⟨pi, 0, none⟩ (.int .i64 R1.lo)).setCell ⟨pi, 1, none⟩ (.int .i64 R1.hi)) = V109 at *
           refine ⟨inEx XA13, ?_⟩
           repeat (refine tq_quiet rfl ?_; go_big_quiet_step (fail); refine wpQuiet_nil ?_)
           refine tq_done (r := [_]) rfl ?_
           go_wp2_with fail
           exact hrest V109 pi R1 ev1 _ (XA13) yi bi hc1 (exFrame (by kernel_rfl))
         ·
          go_wp2_with fail
          have si := (N3).size
          try simp at si
          have N12 := ex_alloc N3 (.cells #[.int .i64 0, .int .i64 0] 41)
          have bi : Blk (V97.alloc (.cells #[.int .i64 0, .int .i64 0] 41)) (V97.heap.size) 41 #[.int .i64 0, .int .i64 0] := Blk.new' _ _ _ (by first | rfl | (simp; done) | (simp; omega))
          replace hg1 := hg1.go (ex_alloc (Below.refl V97.heap.size V97) (.cells #[.int .i64 0, .int .i64 0] 41))
          replace hh1 := hh1.go (ex_alloc (Below.refl V97.heap.size V97) (.cells #[.int .i64 0, .int .i64 0] 41))
          obtain ⟨pi, hpi⟩ : ∃ p, V97.heap.size = p := ⟨_, rfl⟩
          rw [hpi] at bi
          try rw [hpi]
          have yi : V10.heap.size ≤ pi := by omega
          clear si
          refine ⟨inEx N12, ?_⟩
          repeat (refine tq_quiet rfl ?_; go_big_quiet_step (fail); refine wpQuiet_nil ?_)
          refine tq_loud rfl ?_
          go_wp2_with fail
          refine (Ices_any _ _ l _ (by omega) (hi.go (N12))).mono ?_
          rintro e V110 ⟨⟨Ai1, ci1, rfl, -, -, hi1⟩, hV110⟩
          replace bi := Blk.below bi hV110 bi.lt
          have N5 := ex_trans N12 hV110
          go_wp2_with fail
          replace hg1 := hg1.go hV110
          replace hh1 := hh1.go hV110
          refine ⟨inEx N5, ?_⟩
          repeat (refine tq_quiet rfl ?_; go_big_quiet_step (fail); refine wpQuiet_nil ?_)
          refine tq_loud rfl ?_
          go_wp2_with fail
          refine (sr_Reading r _).mono ?_
          rintro e V111 ⟨rfl, hV111⟩
          replace bi := Blk.below bi hV111 bi.lt
          have N7 := ex_trans N5 hV111
          go_wp2_with fail
          replace hg1 := hg1.go hV111
          replace hh1 := hh1.go hV111
          replace hi1 := hi1.go hV111
          refine ⟨inEx N7, ?_⟩
          repeat (refine tq_quiet rfl ?_; go_big_quiet_step (fail); refine wpQuiet_nil ?_)
          refine tq_loud rfl ?_
          go_wp2_with fail
          refine (Correct_v t Ab1 Ad1 cb1 cd1 Ah1 Ai1 ch1 ci1 h l r _ hg1 hh1 hi1 (by omega)).mono ?_
          rintro e V112 ⟨⟨R1, ev1, rfl, hc1⟩, hV112⟩
          replace bi := Blk.below bi hV112 bi.lt
          have N8 := ex_trans N7 hV112
          go_wp2_with fail
          refine ⟨inEx N8, ?_⟩
          repeat (refine tq_quiet rfl ?_; go_big_quiet_step (fail); refine wpQuiet_nil ?_)
          refine tq_loud rfl ?_
          have XA13 := N8
          generalize V112 = V113 at *
          have sc0 : V113.cell? ⟨pi, 0, none⟩ = some (.int .i64 0) := bi.cell 0
          have sc1 : V113.cell? ⟨pi, 1, none⟩ = some (.int .i64 0) := bi.cell 1
          have sf := bi.frozen0
          have sl := bi.lt
          go_wp2_with fail
          replace bi := bi.set_ 0 (.int .i64 R1.lo)
          replace XA13 := ex_set (p := ⟨pi, 0, none⟩) XA13 yi (.int .i64 R1.lo)
          replace bi := bi.set_ 1 (.int .i64 R1.hi)
          replace XA13 := ex_set (p := ⟨pi, 1, none⟩) XA13 yi (.int .i64 R1.hi)
          simp only [List.setIfInBounds_toArray, List.set_cons_zero, List.set_cons_succ] at bi
          clear sf sl sc0 sc1
          generalize ((V113.setCell ⟨pi, 0, none⟩ (.int .i64 R1.lo)).setCell ⟨pi, 1, none⟩ (.int .i64 R1.hi)) = V114 at *
          refine ⟨inEx XA13, ?_⟩
          repeat (refine tq_quiet rfl ?_; go_big_quiet_step (fail); refine wpQuiet_nil ?_)
          refine tq_done (r := [_]) rfl ?_
          go_wp2_with fail
          exact hrest V114 pi R1 ev1 _ (XA13) yi bi hc1 (exFrame (by kernel_rfl))
        ·
         go_wp2_with fail
         have si := (N1).size
         try simp at si
         have N12 := ex_alloc N1 (.cells #[.int .i64 0, .int .i64 0] 41)
         have bi : Blk (V96.alloc (.cells #[.int .i64 0, .int .i64 0] 41)) (V96.heap.size) 41 #[.int .i64 0, .int .i64 0] := Blk.new' _ _ _ (by first | rfl | (simp; done) | (simp; omega))
         replace hg1 := hg1.go (ex_alloc (Below.refl V96.heap.size V96) (.cells #[.int .i64 0, .int .i64 0] 41))
         obtain ⟨pi, hpi⟩ : ∃ p, V96.heap.size = p := ⟨_, rfl⟩
         rw [hpi] at bi
         try rw [hpi]
         have yi : V10.heap.size ≤ pi := by omega
         clear si
         refine ⟨inEx N12, ?_⟩
         repeat (refine tq_quiet rfl ?_; go_big_quiet_step (fail); refine wpQuiet_nil ?_)
         refine tq_loud rfl ?_
         go_wp2_with fail
         refine (History_any _ _ h _ (by omega) (hh.go (N12))).mono ?_
         rintro e V115 ⟨⟨Ah1, ch1, rfl, -, -, hh1⟩, hV115⟩
         replace bi := Blk.below bi hV115 bi.lt
         have N3 := ex_trans N12 hV115
         go_wp2_with fail
         replace hg1 := hg1.go hV115
         refine ⟨inEx N3, ?_⟩
         repeat (refine tq_quiet rfl ?_; go_big_quiet_step (fail); refine wpQuiet_nil ?_)
         refine tq_loud rfl ?_
         go_wp2_with fail
         refine (Ices_any _ _ l _ (by omega) (hi.go (N3))).mono ?_
         rintro e V116 ⟨⟨Ai1, ci1, rfl, -, -, hi1⟩, hV116⟩
         replace bi := Blk.below bi hV116 bi.lt
         have N5 := ex_trans N3 hV116
         go_wp2_with fail
         replace hg1 := hg1.go hV116
         replace hh1 := hh1.go hV116
         refine ⟨inEx N5, ?_⟩
         repeat (refine tq_quiet rfl ?_; go_big_quiet_step (fail); refine wpQuiet_nil ?_)
         refine tq_loud rfl ?_
         go_wp2_with fail
         refine (sr_Reading r _).mono ?_
         rintro e V117 ⟨rfl, hV117⟩
         replace bi := Blk.below bi hV117 bi.lt
         have N7 := ex_trans N5 hV117
         go_wp2_with fail
         replace hg1 := hg1.go hV117
         replace hh1 := hh1.go hV117
         replace hi1 := hi1.go hV117
         refine ⟨inEx N7, ?_⟩
         repeat (refine tq_quiet rfl ?_; go_big_quiet_step (fail); refine wpQuiet_nil ?_)
         refine tq_loud rfl ?_
         go_wp2_with fail
         refine (Correct_v t Ab1 Ad1 cb1 cd1 Ah1 Ai1 ch1 ci1 h l r _ hg1 hh1 hi1 (by omega)).mono ?_
         rintro e V118 ⟨⟨R1, ev1, rfl, hc1⟩, hV118⟩
         replace bi := Blk.below bi hV118 bi.lt
         have N8 := ex_trans N7 hV118
         go_wp2_with fail
         refine ⟨inEx N8, ?_⟩
         repeat (refine tq_quiet rfl ?_; go_big_quiet_step (fail); refine wpQuiet_nil ?_)
         refine tq_loud rfl ?_
         have XA13 := N8
         generalize V118 = V119 at *
         have sc0 : V119.cell? ⟨pi, 0, none⟩ = some (.int .i64 0) := bi.cell 0
         have sc1 : V119.cell? ⟨pi, 1, none⟩ = some (.int .i64 0) := bi.cell 1
         have sf := bi.frozen0
         have sl := bi.lt
         go_wp2_with fail
         replace bi := bi.set_ 0 (.int .i64 R1.lo)
         replace XA13 := ex_set (p := ⟨pi, 0, none⟩) XA13 yi (.int .i64 R1.lo)
         replace bi := bi.set_ 1 (.int .i64 R1.hi)
         replace XA13 := ex_set (p := ⟨pi, 1, none⟩) XA13 yi (.int .i64 R1.hi)
         simp only [List.setIfInBounds_toArray, List.set_cons_zero, List.set_cons_succ] at bi
         clear sf sl sc0 sc1
         generalize ((V119.setCell ⟨pi, 0, none⟩ (.int .i64 R1.lo)).setCell ⟨pi, 1, none⟩ (.int .i64 R1.hi)) = V120 at *
         refine ⟨inEx XA13, ?_⟩
         repeat (refine tq_quiet rfl ?_; go_big_quiet_step (fail); refine wpQuiet_nil ?_)
         refine tq_done (r := [_]) rfl ?_
         go_wp2_with fail
         exact hrest V120 pi R1 ev1 _ (XA13) yi bi hc1 (exFrame (by kernel_rfl))
       ·
        go_wp2_with fail
        have si := ((Below.refl V10.heap.size V10)).size
        try simp at si
        have N12 := ex_alloc (Below.refl V10.heap.size V10) (.cells #[.int .i64 0, .int .i64 0] 41)
        have bi : Blk (V10.alloc (.cells #[.int .i64 0, .int .i64 0] 41)) (V10.heap.size) 41 #[.int .i64 0, .int .i64 0] := Blk.new' _ _ _ (by first | rfl | (simp; done) | (simp; omega))
        obtain ⟨pi, hpi⟩ : ∃ p, V10.heap.size = p := ⟨_, rfl⟩
        rw [hpi] at bi
        try rw [hpi]
        have yi : V10.heap.size ≤ pi := by omega
        clear si
        refine ⟨inEx (N12).drew, ?_⟩
        repeat (refine tq_quiet rfl ?_; go_big_quiet_step (fail); refine wpQuiet_nil ?_)
        refine tq_loud rfl ?_
        go_wp2_with fail
        refine (sr_Tube t Ab Ad cb cd _ (hg.go ((N12).drew)) (by omega) (by omega)).mono ?_
        rintro e V121 ⟨⟨Ab1, Ad1, cb1, cd1, rfl, hg1⟩, hV121⟩
        replace bi := Blk.below (Blk.drew bi) hV121 bi.lt
        have N1 := ex_trans (N12).drew hV121
        go_wp2_with fail
        refine ⟨inEx N1, ?_⟩
        repeat (refine tq_quiet rfl ?_; go_big_quiet_step (fail); refine wpQuiet_nil ?_)
        refine tq_loud rfl ?_
        go_wp2_with fail
        refine (History_any _ _ h _ (by omega) (hh.go (N1))).mono ?_
        rintro e V122 ⟨⟨Ah1, ch1, rfl, -, -, hh1⟩, hV122⟩
        replace bi := Blk.below bi hV122 bi.lt
        have N3 := ex_trans N1 hV122
        go_wp2_with fail
        replace hg1 := hg1.go hV122
        refine ⟨inEx N3, ?_⟩
        repeat (refine tq_quiet rfl ?_; go_big_quiet_step (fail); refine wpQuiet_nil ?_)
        refine tq_loud rfl ?_
        go_wp2_with fail
        refine (Ices_any _ _ l _ (by omega) (hi.go (N3))).mono ?_
        rintro e V123 ⟨⟨Ai1, ci1, rfl, -, -, hi1⟩, hV123⟩
        replace bi := Blk.below bi hV123 bi.lt
        have N5 := ex_trans N3 hV123
        go_wp2_with fail
        replace hg1 := hg1.go hV123
        replace hh1 := hh1.go hV123
        refine ⟨inEx N5, ?_⟩
        repeat (refine tq_quiet rfl ?_; go_big_quiet_step (fail); refine wpQuiet_nil ?_)
        refine tq_loud rfl ?_
        go_wp2_with fail
        refine (sr_Reading r _).mono ?_
        rintro e V124 ⟨rfl, hV124⟩
        replace bi := Blk.below bi hV124 bi.lt
        have N7 := ex_trans N5 hV124
        go_wp2_with fail
        replace hg1 := hg1.go hV124
        replace hh1 := hh1.go hV124
        replace hi1 := hi1.go hV124
        refine ⟨inEx N7, ?_⟩
        repeat (refine tq_quiet rfl ?_; go_big_quiet_step (fail); refine wpQuiet_nil ?_)
        refine tq_loud rfl ?_
        go_wp2_with fail
        refine (Correct_v t Ab1 Ad1 cb1 cd1 Ah1 Ai1 ch1 ci1 h l r _ hg1 hh1 hi1 (by omega)).mono ?_
        rintro e V125 ⟨⟨R1, ev1, rfl, hc1⟩, hV125⟩
        replace bi := Blk.below bi hV125 bi.lt
        have N8 := ex_trans N7 hV125
        go_wp2_with fail
        refine ⟨inEx N8, ?_⟩
        repeat (refine tq_quiet rfl ?_; go_big_quiet_step (fail); refine wpQuiet_nil ?_)
        refine tq_loud rfl ?_
        have XA13 := N8
        generalize V125 = V126 at *
        have sc0 : V126.cell? ⟨pi, 0, none⟩ = some (.int .i64 0) := bi.cell 0
        have sc1 : V126.cell? ⟨pi, 1, none⟩ = some (.int .i64 0) := bi.cell 1
        have sf := bi.frozen0
        have sl := bi.lt
        go_wp2_with fail
        replace bi := bi.set_ 0 (.int .i64 R1.lo)
        replace XA13 := ex_set (p := ⟨pi, 0, none⟩) XA13 yi (.int .i64 R1.lo)
        replace bi := bi.set_ 1 (.int .i64 R1.hi)
        replace XA13 := ex_set (p := ⟨pi, 1, none⟩) XA13 yi (.int .i64 R1.hi)
        simp only [List.setIfInBounds_toArray, List.set_cons_zero, List.set_cons_succ] at bi
        clear sf sl sc0 sc1
        generalize ((V126.setCell ⟨pi, 0, none⟩ (.int .i64 R1.lo)).setCell ⟨pi, 1, none⟩ (.int .i64 R1.hi)) = V127 at *
        refine ⟨inEx XA13, ?_⟩
        repeat (refine tq_quiet rfl ?_; go_big_quiet_step (fail); refine wpQuiet_nil ?_)
        refine tq_done (r := [_]) rfl ?_
        go_wp2_with fail
        exact hrest V127 pi R1 ev1 _ (XA13) yi bi hc1 (exFrame (by kernel_rfl))
      clear hK1
      have HTX : Blk V8 px 29 (tC t Ab Ad cb cd) := bx
      have HRX : Blk V8 pf 33 (cE r) := bf
      obtain ⟨n6, hn6⟩ : ∃ n, m6 % 6 = n := ⟨_, rfl⟩
      have hn6b : 0 ≤ n6 ∧ n6 < 6 := by rw [← hn6]; exact ⟨Int.emod_nonneg _ (by omega), Int.emod_lt_of_pos _ (by omega)⟩
      rcases (by omega : n6 = 0 ∨ n6 = 1 ∨ n6 = 2 ∨ n6 = 3 ∨ n6 = 4 ∨ n6 = 5) with e | e | e | e | e | e
      ·
       subst e
       clear hn6b
       have e1 : (m6 % 6 == 1) = false := by rw [hn6]; rfl
       have e2 : (m6 % 6 == 2) = false := by rw [hn6]; rfl
       have e3 : (m6 % 6 == 3) = false := by rw [hn6]; rfl
       have e4 : (m6 % 6 == 4) = false := by rw [hn6]; rfl
       have e5 : (m6 % 6 == 5) = false := by rw [hn6]; rfl
       clear hn6
       go_wp2_with fail
       exact hrest17 _ px 5 t.k r _ X_V8 HTX HRX (NarR.refl HO.out.rd) HO.out.rd (pt_k HO.out.tb HO.out.rd) (exFrame (by kernel_rfl))
      ·
       subst e
       clear hn6b
       have e1 : (m6 % 6 == 1) = true := by rw [hn6]; rfl
       have e2 : (m6 % 6 == 2) = false := by rw [hn6]; rfl
       have e3 : (m6 % 6 == 3) = false := by rw [hn6]; rfl
       have e4 : (m6 % 6 == 4) = false := by rw [hn6]; rfl
       have e5 : (m6 % 6 == 5) = false := by rw [hn6]; rfl
       clear hn6
       go_wp2_with fail
       exact hrest17 _ px 7 t.lag r _ X_V8 HTX HRX (NarR.refl HO.out.rd) HO.out.rd (pt_lag HO.out.tb HO.out.rd) (exFrame (by kernel_rfl))
      ·
       subst e
       clear hn6b
       have e1 : (m6 % 6 == 1) = false := by rw [hn6]; rfl
       have e2 : (m6 % 6 == 2) = true := by rw [hn6]; rfl
       have e3 : (m6 % 6 == 3) = false := by rw [hn6]; rfl
       have e4 : (m6 % 6 == 4) = false := by rw [hn6]; rfl
       have e5 : (m6 % 6 == 5) = false := by rw [hn6]; rfl
       clear hn6
       go_wp2_with fail
       exact hrest17 _ px 9 t.sq r _ X_V8 HTX HRX (NarR.refl HO.out.rd) HO.out.rd (pt_sq HO.out.tb HO.out.rd) (exFrame (by kernel_rfl))
      ·
       subst e
       clear hn6b
       have e1 : (m6 % 6 == 1) = false := by rw [hn6]; rfl
       have e2 : (m6 % 6 == 2) = false := by rw [hn6]; rfl
       have e3 : (m6 % 6 == 3) = true := by rw [hn6]; rfl
       have e4 : (m6 % 6 == 4) = false := by rw [hn6]; rfl
       have e5 : (m6 % 6 == 5) = false := by rw [hn6]; rfl
       clear hn6
       go_wp2_with fail
       exact hrest17 _ pf 4 r.air r _ X_V8 HTX HRX (NarR.refl HO.out.rd) HO.out.rd (pt_air HO.out.tb HO.out.rd) (exFrame (by kernel_rfl))
      ·
       subst e
       clear hn6b
       have e1 : (m6 % 6 == 1) = false := by rw [hn6]; rfl
       have e2 : (m6 % 6 == 2) = false := by rw [hn6]; rfl
       have e3 : (m6 % 6 == 3) = false := by rw [hn6]; rfl
       have e4 : (m6 % 6 == 4) = true := by rw [hn6]; rfl
       have e5 : (m6 % 6 == 5) = false := by rw [hn6]; rfl
       clear hn6
       go_wp2_with fail
       exact hrest17 _ pf 6 r.rate r _ X_V8 HTX HRX (NarR.refl HO.out.rd) HO.out.rd (pt_rate HO.out.tb HO.out.rd) (exFrame (by kernel_rfl))
      ·
       subst e
       clear hn6b
       have e1 : (m6 % 6 == 1) = false := by rw [hn6]; rfl
       have e2 : (m6 % 6 == 2) = false := by rw [hn6]; rfl
       have e3 : (m6 % 6 == 3) = false := by rw [hn6]; rfl
       have e4 : (m6 % 6 == 4) = false := by rw [hn6]; rfl
       have e5 : (m6 % 6 == 5) = true := by rw [hn6]; rfl
       clear hn6
       have f2 := bf.cell 2
       have ff := bf.frozen0
       have lf := bf.lt
       simp at f2
       have hm5 : 0 ≤ m7 % 5 ∧ m7 % 5 < 5 := ⟨Int.emod_nonneg _ (by omega), Int.emod_lt_of_pos _ (by omega)⟩
       have her := HO.out.rd.err
       go_wp2_with fail
       have HN5 := nar_err HO.out.rd (m7 % 5) hm5.1
       exact hrest17 _ px 5 t.k { r with err := (max 0 (r.err - m7 % 5)) } _ (ex_set (p := ⟨pf, 2, none⟩) X_V8 yf (.int .i64 (max 0 (r.err - m7 % 5)))) (HTX.far (p := ⟨pf, 2, none⟩) nxf _) (HRX.set_ 2 _) HN5 (HN5.bd HO.out.rd) (pt_k HO.out.tb (HN5.bd HO.out.rd)) (exFrame (by kernel_rfl))
     refine wp_region_ext_tq 5 (.quiet 0 (.quiet 1 (.fork 2 (.loud 3 (.loud 4 .done)) 3 (.loud 2 (.loud 4 .done))))) (by kernel_rfl) (by kernel_rfl) (by intro d _ _ _ _ h; cases d <;> exact h) ?_
     have D0 := (Below.refl V6.heap.size V6).drew
     repeat (refine tq_quiet rfl ?_; first | (refine wpQuiet_load_row rfl 29 _ rfl _ rfl 29 _ (0, 0) _ q1.ex Tryz.underlying29 rfl (by kernel_rfl) ?_; simp only [Act.put, List.setIfInBounds_toArray, List.set_cons_zero, List.set_cons_succ]; refine wpQuiet_nil ?_) | (refine wpQuiet_load_row rfl 33 _ rfl _ rfl 33 _ (0, 0) _ q2.ex Tryz.underlying33 rfl (by kernel_rfl) ?_; simp only [Act.put, List.setIfInBounds_toArray, List.set_cons_zero, List.set_cons_succ]; refine wpQuiet_nil ?_) | (go_big_quiet_step (fail); refine wpQuiet_nil ?_))
     refine tq_fork rfl rfl ?_ ?_
     ·
      go_wp2_with fail
      have sx := ((Below.refl V6.heap.size V6)).size
      try simp at sx
      have N2 := ex_alloc (Below.refl V6.heap.size V6) (.cells #[.int .i64 0, .slice none 0 0, .slice none 0 0, .int .i64 0, .int .i64 0, .int .i64 0, .int .i64 0, .int .i64 0, .int .i64 0, .int .i64 0, .int .i64 0, .int .i64 0] 29)
      have bx : Blk (V6.alloc (.cells #[.int .i64 0, .slice none 0 0, .slice none 0 0, .int .i64 0, .int .i64 0, .int .i64 0, .int .i64 0, .int .i64 0, .int .i64 0, .int .i64 0, .int .i64 0, .int .i64 0] 29)) (V6.heap.size) 29 #[.int .i64 0, .slice none 0 0, .slice none 0 0, .int .i64 0, .int .i64 0, .int .i64 0, .int .i64 0, .int .i64 0, .int .i64 0, .int .i64 0, .int .i64 0, .int .i64 0] := Blk.new' _ _ _ (by first | rfl | (simp; done) | (simp; omega))
      obtain ⟨px, hpx⟩ : ∃ p, V6.heap.size = p := ⟨_, rfl⟩
      rw [hpx] at bx
      try rw [hpx]
      have yx : V6.heap.size ≤ px := by omega
      clear sx
      refine ⟨inEx (N2).drew, ?_⟩
      refine tq_loud rfl ?_
      go_wp2_with fail
      have tfx := bx.lt
      try simp at tfx
      have sf := (N2).size
      try simp at sf
      have N3 := ex_alloc N2 (.cells #[.int .i64 0, .int .i64 0, .int .i64 0, .int .i64 0, .int .i64 0, .int .i64 0, .int .i64 0, .int .i64 0, .int .i64 0, .bool false] 33)
      have bf : Blk ((V6.alloc (.cells #[.int .i64 0, .slice none 0 0, .slice none 0 0, .int .i64 0, .int .i64 0, .int .i64 0, .int .i64 0, .int .i64 0, .int .i64 0, .int .i64 0, .int .i64 0, .int .i64 0] 29)).alloc (.cells #[.int .i64 0, .int .i64 0, .int .i64 0, .int .i64 0, .int .i64 0, .int .i64 0, .int .i64 0, .int .i64 0, .int .i64 0, .bool false] 33)) (px + 1) 33 #[.int .i64 0, .int .i64 0, .int .i64 0, .int .i64 0, .int .i64 0, .int .i64 0, .int .i64 0, .int .i64 0, .int .i64 0, .bool false] := Blk.new' _ _ _ (by first | rfl | (simp; done) | (simp; omega))
      replace bx := bx.alloc (.cells #[.int .i64 0, .int .i64 0, .int .i64 0, .int .i64 0, .int .i64 0, .int .i64 0, .int .i64 0, .int .i64 0, .int .i64 0, .bool false] 33)
      obtain ⟨pf, hpf⟩ : ∃ p, px + 1 = p := ⟨_, rfl⟩
      rw [hpf] at bf
      try rw [hpf]
      have nfx : pf ≠ px := by omega
      have nxf : px ≠ pf := by omega
      clear tfx
      have yf : V6.heap.size ≤ pf := by omega
      clear sf
      refine ⟨inEx (N3).drew, ?_⟩
      refine tq_loud rfl ?_
      replace bx := Blk.drew bx
      replace bf := Blk.drew bf
      have XA4 := (N3).drew
      generalize ((V6.alloc (.cells #[.int .i64 0, .slice none 0 0, .slice none 0 0, .int .i64 0, .int .i64 0, .int .i64 0, .int .i64 0, .int .i64 0, .int .i64 0, .int .i64 0, .int .i64 0, .int .i64 0] 29)).alloc (.cells #[.int .i64 0, .int .i64 0, .int .i64 0, .int .i64 0, .int .i64 0, .int .i64 0, .int .i64 0, .int .i64 0, .int .i64 0, .bool false] 33)).drew = V128 at *
      go_wp2_with (refine pause_store 29 rfl ?_)
      refine Paused.mk ?_
      refine wpList_store_row rfl 29 _ _ rfl _ #[.int .i64 t.g.base, .slice Ab t.g.bands.length cb, .slice Ad t.g.depths.length cd, .int .i64 t.g.blo, .int .i64 t.g.bhi, .int .i64 t.k.lo, .int .i64 t.k.hi, .int .i64 t.lag.lo, .int .i64 t.lag.hi, .int .i64 t.sq.lo, .int .i64 t.sq.hi, .int .i64 t.term] (by kernel_rfl) (by kernel_rfl) 29 _ bx (by kernel_rfl) (by kernel_rfl) (by kernel_rfl) ?_
      replace bx := bx.setRow #[.int .i64 t.g.base, .slice Ab t.g.bands.length cb, .slice Ad t.g.depths.length cd, .int .i64 t.g.blo, .int .i64 t.g.bhi, .int .i64 t.k.lo, .int .i64 t.k.hi, .int .i64 t.lag.lo, .int .i64 t.lag.hi, .int .i64 t.sq.lo, .int .i64 t.sq.hi, .int .i64 t.term]
      replace bf := bf.offRow nfx #[.int .i64 t.g.base, .slice Ab t.g.bands.length cb, .slice Ad t.g.depths.length cd, .int .i64 t.g.blo, .int .i64 t.g.bhi, .int .i64 t.k.lo, .int .i64 t.k.hi, .int .i64 t.lag.lo, .int .i64 t.lag.hi, .int .i64 t.sq.lo, .int .i64 t.sq.hi, .int .i64 t.term]
      replace XA4 := ex_row XA4 yx #[.int .i64 t.g.base, .slice Ab t.g.bands.length cb, .slice Ad t.g.depths.length cd, .int .i64 t.g.blo, .int .i64 t.g.bhi, .int .i64 t.k.lo, .int .i64 t.k.hi, .int .i64 t.lag.lo, .int .i64 t.lag.hi, .int .i64 t.sq.lo, .int .i64 t.sq.hi, .int .i64 t.term]
      go_wp2_with fail
      generalize V128.setRow px #[.int .i64 t.g.base, .slice Ab t.g.bands.length cb, .slice Ad t.g.depths.length cd, .int .i64 t.g.blo, .int .i64 t.g.bhi, .int .i64 t.k.lo, .int .i64 t.k.hi, .int .i64 t.lag.lo, .int .i64 t.lag.hi, .int .i64 t.sq.lo, .int .i64 t.sq.hi, .int .i64 t.term] = V129 at *
      refine ⟨inEx XA4, ?_⟩
      refine tq_done (r := [_]) rfl ?_
      have XA := XA4
      generalize V129 = V130 at *
      go_wp2_with (refine pause_store 33 rfl ?_)
      refine Paused.mk ?_
      refine wpList_store_row rfl 33 _ _ rfl _ #[.int .i64 r.day, .int .i64 r.shown, .int .i64 r.err, .int .i64 r.bare, .int .i64 r.air.lo, .int .i64 r.air.hi, .int .i64 r.rate.lo, .int .i64 r.rate.hi, .int .i64 r.deep, .bool r.broken] (by kernel_rfl) (by kernel_rfl) 33 _ bf (by kernel_rfl) (by kernel_rfl) (by kernel_rfl) ?_
      replace bf := bf.setRow #[.int .i64 r.day, .int .i64 r.shown, .int .i64 r.err, .int .i64 r.bare, .int .i64 r.air.lo, .int .i64 r.air.hi, .int .i64 r.rate.lo, .int .i64 r.rate.hi, .int .i64 r.deep, .bool r.broken]
      replace bx := bx.offRow nxf #[.int .i64 r.day, .int .i64 r.shown, .int .i64 r.err, .int .i64 r.bare, .int .i64 r.air.lo, .int .i64 r.air.hi, .int .i64 r.rate.lo, .int .i64 r.rate.hi, .int .i64 r.deep, .bool r.broken]
      replace XA := ex_row XA yf #[.int .i64 r.day, .int .i64 r.shown, .int .i64 r.err, .int .i64 r.bare, .int .i64 r.air.lo, .int .i64 r.air.hi, .int .i64 r.rate.lo, .int .i64 r.rate.hi, .int .i64 r.deep, .bool r.broken]
      go_wp2_with fail
      exact hrest _ px pf _ XA nxf yx bx yf bf (exFrame (by kernel_rfl))
     ·
      go_wp2_with fail
      have sf := ((Below.refl V6.heap.size V6)).size
      try simp at sf
      have N3 := ex_alloc (Below.refl V6.heap.size V6) (.cells #[.int .i64 0, .int .i64 0, .int .i64 0, .int .i64 0, .int .i64 0, .int .i64 0, .int .i64 0, .int .i64 0, .int .i64 0, .bool false] 33)
      have bf : Blk (V6.alloc (.cells #[.int .i64 0, .int .i64 0, .int .i64 0, .int .i64 0, .int .i64 0, .int .i64 0, .int .i64 0, .int .i64 0, .int .i64 0, .bool false] 33)) (V6.heap.size) 33 #[.int .i64 0, .int .i64 0, .int .i64 0, .int .i64 0, .int .i64 0, .int .i64 0, .int .i64 0, .int .i64 0, .int .i64 0, .bool false] := Blk.new' _ _ _ (by first | rfl | (simp; done) | (simp; omega))
      obtain ⟨pf, hpf⟩ : ∃ p, V6.heap.size = p := ⟨_, rfl⟩
      rw [hpf] at bf
      try rw [hpf]
      have yf : V6.heap.size ≤ pf := by omega
      clear sf
      refine ⟨inEx (N3).drew, ?_⟩
      refine tq_loud rfl ?_
      go_wp2_with fail
      have txf := bf.lt
      try simp at txf
      have sx := (N3).size
      try simp at sx
      have N2 := ex_alloc N3 (.cells #[.int .i64 0, .slice none 0 0, .slice none 0 0, .int .i64 0, .int .i64 0, .int .i64 0, .int .i64 0, .int .i64 0, .int .i64 0, .int .i64 0, .int .i64 0, .int .i64 0] 29)
      have bx : Blk ((V6.alloc (.cells #[.int .i64 0, .int .i64 0, .int .i64 0, .int .i64 0, .int .i64 0, .int .i64 0, .int .i64 0, .int .i64 0, .int .i64 0, .bool false] 33)).alloc (.cells #[.int .i64 0, .slice none 0 0, .slice none 0 0, .int .i64 0, .int .i64 0, .int .i64 0, .int .i64 0, .int .i64 0, .int .i64 0, .int .i64 0, .int .i64 0, .int .i64 0] 29)) (pf + 1) 29 #[.int .i64 0, .slice none 0 0, .slice none 0 0, .int .i64 0, .int .i64 0, .int .i64 0, .int .i64 0, .int .i64 0, .int .i64 0, .int .i64 0, .int .i64 0, .int .i64 0] := Blk.new' _ _ _ (by first | rfl | (simp; done) | (simp; omega))
      replace bf := bf.alloc (.cells #[.int .i64 0, .slice none 0 0, .slice none 0 0, .int .i64 0, .int .i64 0, .int .i64 0, .int .i64 0, .int .i64 0, .int .i64 0, .int .i64 0, .int .i64 0, .int .i64 0] 29)
      obtain ⟨px, hpx⟩ : ∃ p, pf + 1 = p := ⟨_, rfl⟩
      rw [hpx] at bx
      try rw [hpx]
      have nxf : px ≠ pf := by omega
      have nfx : pf ≠ px := by omega
      clear txf
      have yx : V6.heap.size ≤ px := by omega
      clear sx
      refine ⟨inEx (N2).drew, ?_⟩
      refine tq_loud rfl ?_
      replace bf := Blk.drew bf
      replace bx := Blk.drew bx
      have XA4 := (N2).drew
      generalize ((V6.alloc (.cells #[.int .i64 0, .int .i64 0, .int .i64 0, .int .i64 0, .int .i64 0, .int .i64 0, .int .i64 0, .int .i64 0, .int .i64 0, .bool false] 33)).alloc (.cells #[.int .i64 0, .slice none 0 0, .slice none 0 0, .int .i64 0, .int .i64 0, .int .i64 0, .int .i64 0, .int .i64 0, .int .i64 0, .int .i64 0, .int .i64 0, .int .i64 0] 29)).drew = V131 at *
      go_wp2_with (refine pause_store 29 rfl ?_)
      refine Paused.mk ?_
      refine wpList_store_row rfl 29 _ _ rfl _ #[.int .i64 t.g.base, .slice Ab t.g.bands.length cb, .slice Ad t.g.depths.length cd, .int .i64 t.g.blo, .int .i64 t.g.bhi, .int .i64 t.k.lo, .int .i64 t.k.hi, .int .i64 t.lag.lo, .int .i64 t.lag.hi, .int .i64 t.sq.lo, .int .i64 t.sq.hi, .int .i64 t.term] (by kernel_rfl) (by kernel_rfl) 29 _ bx (by kernel_rfl) (by kernel_rfl) (by kernel_rfl) ?_
      replace bf := bf.offRow nfx #[.int .i64 t.g.base, .slice Ab t.g.bands.length cb, .slice Ad t.g.depths.length cd, .int .i64 t.g.blo, .int .i64 t.g.bhi, .int .i64 t.k.lo, .int .i64 t.k.hi, .int .i64 t.lag.lo, .int .i64 t.lag.hi, .int .i64 t.sq.lo, .int .i64 t.sq.hi, .int .i64 t.term]
      replace bx := bx.setRow #[.int .i64 t.g.base, .slice Ab t.g.bands.length cb, .slice Ad t.g.depths.length cd, .int .i64 t.g.blo, .int .i64 t.g.bhi, .int .i64 t.k.lo, .int .i64 t.k.hi, .int .i64 t.lag.lo, .int .i64 t.lag.hi, .int .i64 t.sq.lo, .int .i64 t.sq.hi, .int .i64 t.term]
      replace XA4 := ex_row XA4 yx #[.int .i64 t.g.base, .slice Ab t.g.bands.length cb, .slice Ad t.g.depths.length cd, .int .i64 t.g.blo, .int .i64 t.g.bhi, .int .i64 t.k.lo, .int .i64 t.k.hi, .int .i64 t.lag.lo, .int .i64 t.lag.hi, .int .i64 t.sq.lo, .int .i64 t.sq.hi, .int .i64 t.term]
      go_wp2_with fail
      generalize V131.setRow px #[.int .i64 t.g.base, .slice Ab t.g.bands.length cb, .slice Ad t.g.depths.length cd, .int .i64 t.g.blo, .int .i64 t.g.bhi, .int .i64 t.k.lo, .int .i64 t.k.hi, .int .i64 t.lag.lo, .int .i64 t.lag.hi, .int .i64 t.sq.lo, .int .i64 t.sq.hi, .int .i64 t.term] = V132 at *
      refine ⟨inEx XA4, ?_⟩
      refine tq_done (r := [_]) rfl ?_
      have XA := XA4
      generalize V132 = V133 at *
      go_wp2_with (refine pause_store 33 rfl ?_)
      refine Paused.mk ?_
      refine wpList_store_row rfl 33 _ _ rfl _ #[.int .i64 r.day, .int .i64 r.shown, .int .i64 r.err, .int .i64 r.bare, .int .i64 r.air.lo, .int .i64 r.air.hi, .int .i64 r.rate.lo, .int .i64 r.rate.hi, .int .i64 r.deep, .bool r.broken] (by kernel_rfl) (by kernel_rfl) 33 _ bf (by kernel_rfl) (by kernel_rfl) (by kernel_rfl) ?_
      replace bf := bf.setRow #[.int .i64 r.day, .int .i64 r.shown, .int .i64 r.err, .int .i64 r.bare, .int .i64 r.air.lo, .int .i64 r.air.hi, .int .i64 r.rate.lo, .int .i64 r.rate.hi, .int .i64 r.deep, .bool r.broken]
      replace bx := bx.offRow nxf #[.int .i64 r.day, .int .i64 r.shown, .int .i64 r.err, .int .i64 r.bare, .int .i64 r.air.lo, .int .i64 r.air.hi, .int .i64 r.rate.lo, .int .i64 r.rate.hi, .int .i64 r.deep, .bool r.broken]
      replace XA := ex_row XA yf #[.int .i64 r.day, .int .i64 r.shown, .int .i64 r.err, .int .i64 r.bare, .int .i64 r.air.lo, .int .i64 r.air.hi, .int .i64 r.rate.lo, .int .i64 r.rate.hi, .int .i64 r.deep, .bool r.broken]
      go_wp2_with fail
      exact hrest _ px pf _ XA nxf yx bx yf bf (exFrame (by kernel_rfl))


end Go.Proofs.YtkaogjhnogkcdaaGreat
end

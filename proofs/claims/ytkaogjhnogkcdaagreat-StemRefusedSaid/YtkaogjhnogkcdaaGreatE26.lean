/- The law StemRefused (walk). -/
import Derived.Test.YtkaogjhnogkcdaaGreatE21
import Derived.Test.YtkaogjhnogkcdaaGreatE25
import Derived.Test.YtkaogjhnogkcdaaGreatE10
set_option linter.unusedVariables false
set_option linter.unusedSimpArgs false
set_option linter.unusedSectionVars false
section
namespace Go.Proofs.YtkaogjhnogkcdaaGreat
open Go.RowKit
attribute [local go_sem] Ex.cell? Ex.frozen?

set_option maxRecDepth 100000 in
set_option maxHeartbeats 12800000 in
theorem sl_refused (t : Tb) (Ab Ad : Option Addr) (cb cd : Nat) (Ah Aw : Option Addr) (ch cw : Nat) (h : List Rg) (ws : List Int) (m : Int) (r : Rd) (m1 m2 : Int) (h1 : 0 ≤ m1 ∧ m1 ≤ 255) (h2 : 0 ≤ m2 ∧ m2 ≤ 255) (w : World) (hg : GlIn w w.heap.size t.g Ab Ad) (hh : SlAt w w.heap.size 2 Ah h.length (fR h)) (hw : SlAt w w.heap.size 1 Aw ws.length (fU ws)) (hwb : ∀ k, k < ws.length → 0 ≤ gI ws k ∧ gI ws k ≤ 65535) (hwl : ws.length ≤ maxLen) (hm : 0 ≤ m ∧ m ≤ 255) :
  Calls Tryz.prog 11 #[.agg #[.int .i64 t.g.base, .slice Ab t.g.bands.length cb, .slice Ad t.g.depths.length cd, .int .i64 t.g.blo, .int .i64 t.g.bhi, .int .i64 t.k.lo, .int .i64 t.k.hi, .int .i64 t.lag.lo, .int .i64 t.lag.hi, .int .i64 t.sq.lo, .int .i64 t.sq.hi, .int .i64 t.term], .slice Ah h.length ch, .slice Aw ws.length cw, .int .u8 m, .agg #[.int .i64 r.day, .int .i64 r.shown, .int .i64 r.err, .int .i64 r.bare, .int .i64 r.air.lo, .int .i64 r.air.hi, .int .i64 r.rate.lo, .int .i64 r.rate.hi, .int .i64 r.deep, .bool r.broken], .int .u8 m1, .int .u8 m2] w fun e w' => e = .returned (.bool true) ∧ Below w.heap.size w w' := by
 have HWB := Lib.hid hwb
 clear hwb
 go_enter Tryz.func11, Tryz.ntmps11
 go_upto_region 1 with fail
 show Code.wp _ _ _ _ _
 refine box2 (K := fun V => Code.wp _ _ _ _ V) ?_
 intro V hb1 q1 q2
 replace hg := hg.go hb1
 replace hh := (hh.below hb1).up hb1.size
 replace hw := (hw.below hb1).up hb1.size
 obtain ⟨pq1, hpq1⟩ : ∃ p, w.heap.size = p := ⟨_, rfl⟩
 obtain ⟨pq2, hpq2⟩ : ∃ p, w.heap.size + 1 = p := ⟨_, rfl⟩
 rw [hpq2] at q2 ⊢
 rw [hpq1] at q1 ⊢
 have hp1 : w.heap.size ≤ pq1 := by omega
 have hp2 : w.heap.size ≤ pq2 := by omega
 clear hpq1 hpq2
 go_wp2_with (refine pause_at 25 rfl ?_)
 refine Paused.mk ?_
 refine wpList_load_row rfl 29 _ rfl _ rfl 29 _ (0, 0) _ (q1) Tryz.underlying29 rfl (by kernel_rfl) ?_
 go_wp2_with fail
 refine (sl_lives t Ab Ad cb cd Ah Aw ch cw h ws m _ hg hh hw HWB.out hwl hm).mono ?_
 rintro e V1 ⟨hlv, hV1⟩
 replace q1 := q1.below hV1 q1.lt
 replace q2 := q2.below hV1 q2.lt
 replace hg := hg.go hV1
 replace hh := (hh.below hV1).up hV1.size
 replace hw := (hw.below hV1).up hV1.size
 have B_V1 := ex_trans hb1 hV1
 obtain ⟨hlv⟩ := hlv
 rcases hlv with ⟨A0, n0, c0, A0', n0', c0', rfl⟩ | ⟨Ai, ci, l, Az, cz, zs, rfl, hl, hci1, hci2, hi, hz⟩
 ·
  go_wp2_with fail
  refine (sl_awake _).mono ?_
  rintro e V2 ⟨rfl, hV2⟩
  replace q1 := q1.below hV2 q1.lt
  replace q2 := q2.below hV2 q2.lt
  replace hg := hg.go hV2
  replace hh := (hh.below hV2).up hV2.size
  replace hw := (hw.below hV2).up hV2.size
  have B_V2 := ex_trans B_V1 hV2
  go_wp2
  go_ret
  exact ⟨rfl, B_V2⟩
 ·
  have HL := Lib.hid hl
  have hnb := hl.nb
  have hnd := hl.nd
  have hnh := hl.nh
  have hl4 := hl.l4
  clear hl
  clear hw HWB
  go_wp2_with (refine pause_at 36 rfl ?_)
  refine Paused.mk ?_
  refine wpList_load_rowG (by kernel_rfl) 33 _ rfl _ (by kernel_rfl) 33 _ (0, 0) _ (q2) Tryz.underlying33 rfl (by kernel_rfl) ?_
  go_wp2_with fail
  refine (sr_isreading h.length r _ (by omega)).mono ?_
  rintro e V3 ⟨rfl, hV3⟩
  replace q1 := q1.below hV3 q1.lt
  replace q2 := q2.below hV3 q2.lt
  replace hg := hg.go hV3
  replace hh := (hh.below hV3).up hV3.size
  replace hi := (hi.below hV3).up hV3.size
  replace hz := (hz.below hV3).up hV3.size
  have B_V3 := ex_trans B_V1 hV3
  rcases Bool.eq_false_or_eq_true (rdOk h.length r) with hd | hd
  rotate_left
  ·
   rw [hd]
   clear hd
   go_wp2_with fail
   refine (sl_awake _).mono ?_
   rintro e V4 ⟨rfl, hV4⟩
   replace q1 := q1.below hV4 q1.lt
   replace q2 := q2.below hV4 q2.lt
   replace hg := hg.go hV4
   replace hh := (hh.below hV4).up hV4.size
   replace hi := (hi.below hV4).up hV4.size
   replace hz := (hz.below hV4).up hV4.size
   have B_V4 := ex_trans B_V3 hV4
   go_wp2
   go_ret
   exact ⟨rfl, B_V4⟩
  ·
   rw [hd]
   have HA := Lib.hid (ask_of HL.out.use0 hd)
   have HO := Lib.hid (ask_bd HA.out)
   obtain ⟨k, hk, hkl⟩ := HO.out.day
   have hday : 0 ≤ r.day ∧ r.day ≤ 1000000 := by omega
   have HK := Lib.hid hk
   have HKT : Hid (r.day.toNat = k) := Lib.hid (by omega)
   clear hk hd
   go_upto_region 4 with fail
   rename_i K0 hK0
   have hrest : ∀ (V5 : World) (pi : Nat) (R1 : Rg) (ev1 : Int) (a : Act), Below V3.heap.size V3 V5 → V3.heap.size ≤ pi → Blk V5 pi 41 #[.int .i64 (R1 : Rg).lo, .int .i64 (R1 : Rg).hi] → Hid (AccV t h l r (m1) R1 ev1) → (∃ u : Nat → Value, a = ⟨List.toArray (u 0 :: .slice Ah h.length ch :: u 2 :: u 3 :: u 4 :: .int .u8 m1 :: .int .u8 m2 :: .pointer (some ⟨pq1, 0, none⟩) :: u 8 :: u 9 :: u 10 :: .pointer (some ⟨pq2, 0, none⟩) :: u 12 :: u 13 :: .bool false :: .slice Ai l.length ci :: u 16 :: u 17 :: .pointer (some ⟨pi, 0, none⟩) :: .int .i64 ev1 :: u 20 :: u 21 :: u 22 :: u 23 :: u 24 :: u 25 :: u 26 :: u 27 :: u 28 :: u 29 :: u 30 :: u 31 :: u 32 :: u 33 :: u 34 :: u 35 :: u 36 :: u 37 :: u 38 :: u 39 :: u 40 :: u 41 :: u 42 :: u 43 :: u 44 :: u 45 :: u 46 :: u 47 :: u 48 :: u 49 :: u 50 :: u 51 :: u 52 :: u 53 :: u 54 :: u 55 :: u 56 :: u 57 :: u 58 :: u 59 :: u 60 :: u 61 :: u 62 :: u 63 :: u 64 :: u 65 :: u 66 :: u 67 :: u 68 :: u 69 :: u 70 :: u 71 :: u 72 :: u 73 :: u 74 :: u 75 :: u 76 :: u 77 :: u 78 :: u 79 :: u 80 :: u 81 :: u 82 :: u 83 :: u 84 :: u 85 :: u 86 :: u 87 :: u 88 :: u 89 :: u 90 :: u 91 :: u 92 :: u 93 :: u 94 :: u 95 :: u 96 :: u 97 :: u 98 :: u 99 :: u 100 :: u 101 :: u 102 :: u 103 :: u 104 :: u 105 :: u 106 :: u 107 :: u 108 :: u 109 :: u 110 :: u 111 :: u 112 :: u 113 :: u 114 :: u 115 :: u 116 :: u 117 :: u 118 :: u 119 :: u 120 :: u 121 :: u 122 :: u 123 :: u 124 :: u 125 :: u 126 :: u 127 :: u 128 :: u 129 :: u 130 :: u 131 :: u 132 :: u 133 :: u 134 :: u 135 :: u 136 :: u 137 :: u 138 :: u 139 :: u 140 :: u 141 :: u 142 :: u 143 :: u 144 :: u 145 :: u 146 :: u 147 :: u 148 :: u 149 :: u 150 :: u 151 :: u 152 :: u 153 :: u 154 :: u 155 :: u 156 :: u 157 :: u 158 :: u 159 :: u 160 :: u 161 :: u 162 :: u 163 :: u 164 :: u 165 :: u 166 :: u 167 :: u 168 :: u 169 :: u 170 :: u 171 :: u 172 :: u 173 :: u 174 :: u 175 :: u 176 :: u 177 :: u 178 :: u 179 :: u 180 :: u 181 :: u 182 :: u 183 :: u 184 :: u 185 :: u 186 :: u 187 :: u 188 :: u 189 :: u 190 :: u 191 :: []), []⟩) → K0 a V5 := by
    rintro V5 pi R1 ev1 a hX9 yi bi hc1 ⟨u, rfl⟩
    refine hK0 _ _ ?_
    clear hK0 K0
    replace q1 := q1.below hX9 q1.lt
    replace q2 := q2.below hX9 q2.lt
    replace hg := hg.go hX9
    replace hh := (hh.below hX9).up hX9.size
    replace hi := (hi.below hX9).up hX9.size
    replace hz := (hz.below hX9).up hX9.size
    have B_V5 := ex_trans B_V3 hX9
    have zi : w.heap.size ≤ pi := by have := B_V3.size; omega
    go_upto_region 5 with fail
    rename_i K0 hK0
    have hrest : ∀ (V6 : World) (pj : Nat) (R2 : Rg) (ev2 : Int) (a : Act), Below V5.heap.size V5 V6 → V5.heap.size ≤ pj → Blk V6 pj 41 #[.int .i64 (R2 : Rg).lo, .int .i64 (R2 : Rg).hi] → Hid (AccV t h l r (m1 + m2) R2 ev2) → (∃ u : Nat → Value, a = ⟨List.toArray (u 0 :: .slice Ah h.length ch :: u 2 :: u 3 :: u 4 :: .int .u8 m1 :: .int .u8 m2 :: .pointer (some ⟨pq1, 0, none⟩) :: u 8 :: u 9 :: u 10 :: .pointer (some ⟨pq2, 0, none⟩) :: u 12 :: u 13 :: .bool false :: .slice Ai l.length ci :: u 16 :: u 17 :: .pointer (some ⟨pi, 0, none⟩) :: .int .i64 ev1 :: .pointer (some ⟨pj, 0, none⟩) :: .int .i64 ev2 :: u 22 :: u 23 :: u 24 :: u 25 :: u 26 :: u 27 :: u 28 :: u 29 :: u 30 :: u 31 :: u 32 :: u 33 :: u 34 :: u 35 :: u 36 :: u 37 :: u 38 :: u 39 :: u 40 :: u 41 :: u 42 :: u 43 :: u 44 :: u 45 :: u 46 :: u 47 :: u 48 :: u 49 :: u 50 :: u 51 :: u 52 :: u 53 :: u 54 :: u 55 :: u 56 :: u 57 :: u 58 :: u 59 :: u 60 :: u 61 :: u 62 :: u 63 :: u 64 :: u 65 :: u 66 :: u 67 :: u 68 :: u 69 :: u 70 :: u 71 :: u 72 :: u 73 :: u 74 :: u 75 :: u 76 :: u 77 :: u 78 :: u 79 :: u 80 :: u 81 :: u 82 :: u 83 :: u 84 :: u 85 :: u 86 :: u 87 :: u 88 :: u 89 :: u 90 :: u 91 :: u 92 :: u 93 :: u 94 :: u 95 :: u 96 :: u 97 :: u 98 :: u 99 :: u 100 :: u 101 :: u 102 :: u 103 :: u 104 :: u 105 :: u 106 :: u 107 :: u 108 :: u 109 :: u 110 :: u 111 :: u 112 :: u 113 :: u 114 :: u 115 :: u 116 :: u 117 :: u 118 :: u 119 :: u 120 :: u 121 :: u 122 :: u 123 :: u 124 :: u 125 :: u 126 :: u 127 :: u 128 :: u 129 :: u 130 :: u 131 :: u 132 :: u 133 :: u 134 :: u 135 :: u 136 :: u 137 :: u 138 :: u 139 :: u 140 :: u 141 :: u 142 :: u 143 :: u 144 :: u 145 :: u 146 :: u 147 :: u 148 :: u 149 :: u 150 :: u 151 :: u 152 :: u 153 :: u 154 :: u 155 :: u 156 :: u 157 :: u 158 :: u 159 :: u 160 :: u 161 :: u 162 :: u 163 :: u 164 :: u 165 :: u 166 :: u 167 :: u 168 :: u 169 :: u 170 :: u 171 :: u 172 :: u 173 :: u 174 :: u 175 :: u 176 :: u 177 :: u 178 :: u 179 :: u 180 :: u 181 :: u 182 :: u 183 :: u 184 :: u 185 :: u 186 :: u 187 :: u 188 :: u 189 :: u 190 :: u 191 :: []), []⟩) → K0 a V6 := by
     rintro V6 pj R2 ev2 a hX9 yj bj hc2 ⟨u, rfl⟩
     refine hK0 _ _ ?_
     clear hK0 K0
     replace q1 := q1.below hX9 q1.lt
     replace q2 := q2.below hX9 q2.lt
     replace hg := hg.go hX9
     replace hh := (hh.below hX9).up hX9.size
     replace hi := (hi.below hX9).up hX9.size
     replace hz := (hz.below hX9).up hX9.size
     replace bi := bi.below hX9 bi.lt
     have B_V6 := ex_trans B_V5 hX9
     have zj : w.heap.size ≤ pj := by have := B_V5.size; omega
     go_upto_region 6 with fail
     rename_i K0 hK0
     have hrest : ∀ (V7 : World) (pv : Nat) (R3 : Rg) (ev3 : Int) (a : Act), Below V6.heap.size V6 V7 → V6.heap.size ≤ pv → Blk V7 pv 41 #[.int .i64 (R3 : Rg).lo, .int .i64 (R3 : Rg).hi] → Hid (CorV t h l r R3 ev3) → (∃ u : Nat → Value, a = ⟨List.toArray (u 0 :: .slice Ah h.length ch :: u 2 :: u 3 :: u 4 :: .int .u8 m1 :: .int .u8 m2 :: .pointer (some ⟨pq1, 0, none⟩) :: u 8 :: u 9 :: u 10 :: .pointer (some ⟨pq2, 0, none⟩) :: u 12 :: u 13 :: .bool false :: .slice Ai l.length ci :: u 16 :: u 17 :: .pointer (some ⟨pi, 0, none⟩) :: .int .i64 ev1 :: .pointer (some ⟨pj, 0, none⟩) :: .int .i64 ev2 :: .pointer (some ⟨pv, 0, none⟩) :: .int .i64 ev3 :: u 24 :: u 25 :: u 26 :: u 27 :: u 28 :: u 29 :: u 30 :: u 31 :: u 32 :: u 33 :: u 34 :: u 35 :: u 36 :: u 37 :: u 38 :: u 39 :: u 40 :: u 41 :: u 42 :: u 43 :: u 44 :: u 45 :: u 46 :: u 47 :: u 48 :: u 49 :: u 50 :: u 51 :: u 52 :: u 53 :: u 54 :: u 55 :: u 56 :: u 57 :: u 58 :: u 59 :: u 60 :: u 61 :: u 62 :: u 63 :: u 64 :: u 65 :: u 66 :: u 67 :: u 68 :: u 69 :: u 70 :: u 71 :: u 72 :: u 73 :: u 74 :: u 75 :: u 76 :: u 77 :: u 78 :: u 79 :: u 80 :: u 81 :: u 82 :: u 83 :: u 84 :: u 85 :: u 86 :: u 87 :: u 88 :: u 89 :: u 90 :: u 91 :: u 92 :: u 93 :: u 94 :: u 95 :: u 96 :: u 97 :: u 98 :: u 99 :: u 100 :: u 101 :: u 102 :: u 103 :: u 104 :: u 105 :: u 106 :: u 107 :: u 108 :: u 109 :: u 110 :: u 111 :: u 112 :: u 113 :: u 114 :: u 115 :: u 116 :: u 117 :: u 118 :: u 119 :: u 120 :: u 121 :: u 122 :: u 123 :: u 124 :: u 125 :: u 126 :: u 127 :: u 128 :: u 129 :: u 130 :: u 131 :: u 132 :: u 133 :: u 134 :: u 135 :: u 136 :: u 137 :: u 138 :: u 139 :: u 140 :: u 141 :: u 142 :: u 143 :: u 144 :: u 145 :: u 146 :: u 147 :: u 148 :: u 149 :: u 150 :: u 151 :: u 152 :: u 153 :: u 154 :: u 155 :: u 156 :: u 157 :: u 158 :: u 159 :: u 160 :: u 161 :: u 162 :: u 163 :: u 164 :: u 165 :: u 166 :: u 167 :: u 168 :: u 169 :: u 170 :: u 171 :: u 172 :: u 173 :: u 174 :: u 175 :: u 176 :: u 177 :: u 178 :: u 179 :: u 180 :: u 181 :: u 182 :: u 183 :: u 184 :: u 185 :: u 186 :: u 187 :: u 188 :: u 189 :: u 190 :: u 191 :: []), []⟩) → K0 a V7 := by
      rintro V7 pv R3 ev3 a hX9 yv bv hc3 ⟨u, rfl⟩
      refine hK0 _ _ ?_
      clear hK0 K0
      replace q1 := q1.below hX9 q1.lt
      replace q2 := q2.below hX9 q2.lt
      replace hg := hg.go hX9
      replace hh := (hh.below hX9).up hX9.size
      replace hi := (hi.below hX9).up hX9.size
      replace hz := (hz.below hX9).up hX9.size
      replace bi := bi.below hX9 bi.lt
      replace bj := bj.below hX9 bj.lt
      have B_V7 := ex_trans B_V6 hX9
      have zv : w.heap.size ≤ pv := by have := B_V6.size; omega
      have HM1 : 0 ≤ m1 := h1.1
      have HM2 : 0 ≤ m1 + m2 := by omega
      by_cases hr : refE t l r (agreeB t.g h l off0) = 0
      rotate_left
      ·
       obtain ⟨rfl, e1⟩ := acc_ref HA.out HM1 hr hc1.out
       obtain ⟨rfl, e2⟩ := acc_ref HA.out HM2 hr hc2.out
       obtain ⟨e3, rfl⟩ := cor_ref HA.out hr hc3.out
       clear hc1 hc2 hc3
       rcases Bool.eq_false_or_eq_true r.broken with hb | hb
       ·
        have HE := ref_1 (t := t) (l := l) (ag := agreeB t.g h l off0) hb
        rw [HE] at e1 e2 e3
        subst e1 e2 e3
        clear HE hr
        have b9 : V7.cell? ⟨pq2, 9, none⟩ = some (.bool r.broken) := q2.cell 9
        rw [hb] at b9
        have HBK := Lib.hid hb
        have lb := q2.lt
        clear hb
        have i0 := bi.cell 0
        have i1 := bi.cell 1
        have li := bi.lt
        simp at i0 i1
        have j0 := bj.cell 0
        have j1 := bj.cell 1
        have lj := bj.lt
        simp at j0 j1
        have v0 := bv.cell 0
        have v1 := bv.cell 1
        have lv := bv.lt
        simp at v0 v1
        go_wp2_with fail
        refine (sl_awake _).mono ?_
        rintro e V8 ⟨rfl, hV8⟩
        replace q1 := q1.below hV8 q1.lt
        replace q2 := q2.below hV8 q2.lt
        replace hg := hg.go hV8
        replace hh := (hh.below hV8).up hV8.size
        replace hi := (hi.below hV8).up hV8.size
        replace hz := (hz.below hV8).up hV8.size
        replace bi := bi.below hV8 bi.lt
        replace bj := bj.below hV8 bj.lt
        replace bv := bv.below hV8 bv.lt
        have B_V8 := ex_trans B_V7 hV8
        go_wp2
        go_ret
        exact ⟨rfl, B_V8⟩
       ·
        have hs : staleB t l r.day = true := by
         cases hs : staleB t l r.day
         ·
          exact absurd (by rw [HL.out.ag]; exact ref_of hb hs) hr
         ·
          rfl
        have HE := ref_2 (ag := agreeB t.g h l off0) hb hs
        rw [HE] at e1 e2 e3
        subst e1 e2 e3
        have HS := Lib.hid hs
        clear HE hr hs
        have b9 : V7.cell? ⟨pq2, 9, none⟩ = some (.bool r.broken) := q2.cell 9
        rw [hb] at b9
        have HBK := Lib.hid hb
        have lb := q2.lt
        clear hb
        go_wp2_with (refine pause_at 132 rfl ?_)
        refine Paused.mk ?_
        refine wpList_load_rowG (by kernel_rfl) 29 _ rfl _ (by kernel_rfl) 29 _ (0, 0) _ (q1) Tryz.underlying29 rfl (by kernel_rfl) ?_
        go_wp2_with (refine pause_at 134 rfl ?_)
        refine Paused.mk ?_
        refine wpList_load_rowG (by kernel_rfl) 33 _ rfl _ (by kernel_rfl) 33 _ (0, 0) _ (q2) Tryz.underlying33 rfl (by kernel_rfl) ?_
        clear b9 lb
        go_wp2_with fail
        refine (sr_stale t Ab Ad cb cd _ _ l r _ hi (by omega) hday).mono ?_
        rintro e V9 ⟨rfl, hV9⟩
        replace q1 := q1.below hV9 q1.lt
        replace q2 := q2.below hV9 q2.lt
        replace hg := hg.go hV9
        replace hh := (hh.below hV9).up hV9.size
        replace hi := (hi.below hV9).up hV9.size
        replace hz := (hz.below hV9).up hV9.size
        replace bi := bi.below hV9 bi.lt
        replace bj := bj.below hV9 bj.lt
        replace bv := bv.below hV9 bv.lt
        have B_V9 := ex_trans B_V7 hV9
        rw [HS.out]
        have b9 : V9.cell? ⟨pq2, 9, none⟩ = some (.bool r.broken) := q2.cell 9
        rw [HBK.out] at b9
        have lb := q2.lt
        have i0 := bi.cell 0
        have i1 := bi.cell 1
        have li := bi.lt
        simp at i0 i1
        have j0 := bj.cell 0
        have j1 := bj.cell 1
        have lj := bj.lt
        simp at j0 j1
        have v0 := bv.cell 0
        have v1 := bv.cell 1
        have lv := bv.lt
        simp at v0 v1
        go_wp2_with fail
        refine (sl_awake _).mono ?_
        rintro e V10 ⟨rfl, hV10⟩
        replace q1 := q1.below hV10 q1.lt
        replace q2 := q2.below hV10 q2.lt
        replace hg := hg.go hV10
        replace hh := (hh.below hV10).up hV10.size
        replace hi := (hi.below hV10).up hV10.size
        replace hz := (hz.below hV10).up hV10.size
        replace bi := bi.below hV10 bi.lt
        replace bj := bj.below hV10 bj.lt
        replace bv := bv.below hV10 bv.lt
        have B_V10 := ex_trans B_V9 hV10
        go_wp2
        go_ret
        exact ⟨rfl, B_V10⟩
      ·
       obtain ⟨rfl, zs, hz', hR⟩ := cor_ok HA.out hr hc3.out
       have HAA := Lib.hid (acc_ok HA.out HM1 hr hz' hc1.out)
       have HAB := Lib.hid (acc_ok HA.out HM2 hr hz' hc2.out)
       have hrb := cor_bd HO.out.tb HO.out.rd (zs_bd HO.out.ok hz' k hkl)
       have HRR : Hid (corP2 t r (gR zs k) = R3) := Lib.hid (by rw [hR, HKT.out])
       rw [HRR.out] at hrb
       rw [HKT.out, HRR.out] at HAA HAB
       have hb : r.broken = false ∧ staleB t l r.day = false := ref_no hr
       have HS := Lib.hid hb.2
       replace hb := hb.1
       clear hc1 hc2 hc3 hz' hR hr HRR
       rcases HAA.out with ⟨w1, rfl, rfl⟩ | ⟨w1, rfl, rfl⟩
       ·
        obtain ⟨rfl, rfl⟩ : R2 = R1 ∧ ev2 = 0 := by
         rcases HAB.out with ⟨_, a, b⟩ | ⟨w2, _, _⟩
         ·
          exact ⟨a, b⟩
         ·
          omega
        have d1 : decide (R2.hi - R2.lo ≤ m1) = true := decide_eq_true w1
        clear HAA HAB
        have b9 : V7.cell? ⟨pq2, 9, none⟩ = some (.bool r.broken) := q2.cell 9
        rw [hb] at b9
        have HBK := Lib.hid hb
        have lb := q2.lt
        clear hb
        go_wp2_with (refine pause_at 92 rfl ?_)
        refine Paused.mk ?_
        refine wpList_load_rowG (by kernel_rfl) 29 _ rfl _ (by kernel_rfl) 29 _ (0, 0) _ (q1) Tryz.underlying29 rfl (by kernel_rfl) ?_
        go_wp2_with (refine pause_at 94 rfl ?_)
        refine Paused.mk ?_
        refine wpList_load_rowG (by kernel_rfl) 33 _ rfl _ (by kernel_rfl) 33 _ (0, 0) _ (q2) Tryz.underlying33 rfl (by kernel_rfl) ?_
        clear b9 lb
        go_wp2_with fail
        refine (sr_stale t Ab Ad cb cd _ _ l r _ hi (by omega) hday).mono ?_
        rintro e V11 ⟨rfl, hV11⟩
        replace q1 := q1.below hV11 q1.lt
        replace q2 := q2.below hV11 q2.lt
        replace hg := hg.go hV11
        replace hh := (hh.below hV11).up hV11.size
        replace hi := (hi.below hV11).up hV11.size
        replace hz := (hz.below hV11).up hV11.size
        replace bi := bi.below hV11 bi.lt
        replace bj := bj.below hV11 bj.lt
        replace bv := bv.below hV11 bv.lt
        have B_V11 := ex_trans B_V7 hV11
        rw [HS.out]
        have b9 : V11.cell? ⟨pq2, 9, none⟩ = some (.bool r.broken) := q2.cell 9
        rw [HBK.out] at b9
        have lb := q2.lt
        have i0 := bi.cell 0
        have i1 := bi.cell 1
        have li := bi.lt
        simp at i0 i1
        have j0 := bj.cell 0
        have j1 := bj.cell 1
        have lj := bj.lt
        simp at j0 j1
        have v0 := bv.cell 0
        have v1 := bv.cell 1
        have lv := bv.lt
        simp at v0 v1
        go_wp2_with fail
        refine (sl_awake _).mono ?_
        rintro e V12 ⟨rfl, hV12⟩
        replace q1 := q1.below hV12 q1.lt
        replace q2 := q2.below hV12 q2.lt
        replace hg := hg.go hV12
        replace hh := (hh.below hV12).up hV12.size
        replace hi := (hi.below hV12).up hV12.size
        replace hz := (hz.below hV12).up hV12.size
        replace bi := bi.below hV12 bi.lt
        replace bj := bj.below hV12 bj.lt
        replace bv := bv.below hV12 bv.lt
        have B_V12 := ex_trans B_V11 hV12
        go_wp2
        go_ret
        exact ⟨rfl, B_V12⟩
       ·
        have d1 : decide (m1 < R3.hi - R3.lo) = true := decide_eq_true w1
        clear HAA
        rcases HAB.out with ⟨w2, rfl, rfl⟩ | ⟨w2, rfl, rfl⟩
        ·
         clear HAB
         have b9 : V7.cell? ⟨pq2, 9, none⟩ = some (.bool r.broken) := q2.cell 9
         rw [hb] at b9
         have HBK := Lib.hid hb
         have lb := q2.lt
         clear hb
         go_wp2_with (refine pause_at 132 rfl ?_)
         refine Paused.mk ?_
         refine wpList_load_rowG (by kernel_rfl) 29 _ rfl _ (by kernel_rfl) 29 _ (0, 0) _ (q1) Tryz.underlying29 rfl (by kernel_rfl) ?_
         go_wp2_with (refine pause_at 134 rfl ?_)
         refine Paused.mk ?_
         refine wpList_load_rowG (by kernel_rfl) 33 _ rfl _ (by kernel_rfl) 33 _ (0, 0) _ (q2) Tryz.underlying33 rfl (by kernel_rfl) ?_
         clear b9 lb
         go_wp2_with fail
         refine (sr_stale t Ab Ad cb cd _ _ l r _ hi (by omega) hday).mono ?_
         rintro e V13 ⟨rfl, hV13⟩
         replace q1 := q1.below hV13 q1.lt
         replace q2 := q2.below hV13 q2.lt
         replace hg := hg.go hV13
         replace hh := (hh.below hV13).up hV13.size
         replace hi := (hi.below hV13).up hV13.size
         replace hz := (hz.below hV13).up hV13.size
         replace bi := bi.below hV13 bi.lt
         replace bj := bj.below hV13 bj.lt
         replace bv := bv.below hV13 bv.lt
         have B_V13 := ex_trans B_V7 hV13
         rw [HS.out]
         have b9 : V13.cell? ⟨pq2, 9, none⟩ = some (.bool r.broken) := q2.cell 9
         rw [HBK.out] at b9
         have lb := q2.lt
         have i0 := bi.cell 0
         have i1 := bi.cell 1
         have li := bi.lt
         simp at i0 i1
         have j0 := bj.cell 0
         have j1 := bj.cell 1
         have lj := bj.lt
         simp at j0 j1
         have v0 := bv.cell 0
         have v1 := bv.cell 1
         have lv := bv.lt
         simp at v0 v1
         go_wp2_with fail
         refine (sl_awake _).mono ?_
         rintro e V14 ⟨rfl, hV14⟩
         replace q1 := q1.below hV14 q1.lt
         replace q2 := q2.below hV14 q2.lt
         replace hg := hg.go hV14
         replace hh := (hh.below hV14).up hV14.size
         replace hi := (hi.below hV14).up hV14.size
         replace hz := (hz.below hV14).up hV14.size
         replace bi := bi.below hV14 bi.lt
         replace bj := bj.below hV14 bj.lt
         replace bv := bv.below hV14 bv.lt
         have B_V14 := ex_trans B_V13 hV14
         go_wp2
         go_ret
         exact ⟨rfl, B_V14⟩
        ·
         clear HAB
         have b9 : V7.cell? ⟨pq2, 9, none⟩ = some (.bool r.broken) := q2.cell 9
         rw [hb] at b9
         have HBK := Lib.hid hb
         have lb := q2.lt
         clear hb
         go_wp2_with (refine pause_at 132 rfl ?_)
         refine Paused.mk ?_
         refine wpList_load_rowG (by kernel_rfl) 29 _ rfl _ (by kernel_rfl) 29 _ (0, 0) _ (q1) Tryz.underlying29 rfl (by kernel_rfl) ?_
         go_wp2_with (refine pause_at 134 rfl ?_)
         refine Paused.mk ?_
         refine wpList_load_rowG (by kernel_rfl) 33 _ rfl _ (by kernel_rfl) 33 _ (0, 0) _ (q2) Tryz.underlying33 rfl (by kernel_rfl) ?_
         clear b9 lb
         go_wp2_with fail
         refine (sr_stale t Ab Ad cb cd _ _ l r _ hi (by omega) hday).mono ?_
         rintro e V15 ⟨rfl, hV15⟩
         replace q1 := q1.below hV15 q1.lt
         replace q2 := q2.below hV15 q2.lt
         replace hg := hg.go hV15
         replace hh := (hh.below hV15).up hV15.size
         replace hi := (hi.below hV15).up hV15.size
         replace hz := (hz.below hV15).up hV15.size
         replace bi := bi.below hV15 bi.lt
         replace bj := bj.below hV15 bj.lt
         replace bv := bv.below hV15 bv.lt
         have B_V15 := ex_trans B_V7 hV15
         rw [HS.out]
         have b9 : V15.cell? ⟨pq2, 9, none⟩ = some (.bool r.broken) := q2.cell 9
         rw [HBK.out] at b9
         have lb := q2.lt
         have i0 := bi.cell 0
         have i1 := bi.cell 1
         have li := bi.lt
         simp at i0 i1
         have j0 := bj.cell 0
         have j1 := bj.cell 1
         have lj := bj.lt
         simp at j0 j1
         have v0 := bv.cell 0
         have v1 := bv.cell 1
         have lv := bv.lt
         simp at v0 v1
         go_wp2_with fail
         refine (sl_awake _).mono ?_
         rintro e V16 ⟨rfl, hV16⟩
         replace q1 := q1.below hV16 q1.lt
         replace q2 := q2.below hV16 q2.lt
         replace hg := hg.go hV16
         replace hh := (hh.below hV16).up hV16.size
         replace hi := (hi.below hV16).up hV16.size
         replace hz := (hz.below hV16).up hV16.size
         replace bi := bi.below hV16 bi.lt
         replace bj := bj.below hV16 bj.lt
         replace bv := bv.below hV16 bv.lt
         have B_V16 := ex_trans B_V15 hV16
         go_wp2
         go_ret
         exact ⟨rfl, B_V16⟩
     refine wp_region_ext_tq 14 (.quiet 0 (.quiet 2 (.quiet 4 (.quiet 6 (.fork 1 (.fork 3 (.fork 5 (.fork 7 (.fork 8 (.quiet 9 (.quiet 10 (.quiet 11 (.loud 12 (.loud 13 .done))))) 12 (.loud 8 (.quiet 9 (.quiet 10 (.quiet 11 (.loud 13 .done)))))) 12 (.loud 7 (.loud 8 (.quiet 9 (.quiet 10 (.quiet 11 (.loud 13 .done))))))) 12 (.loud 5 (.loud 7 (.loud 8 (.quiet 9 (.quiet 10 (.quiet 11 (.loud 13 .done)))))))) 12 (.loud 3 (.loud 5 (.loud 7 (.loud 8 (.quiet 9 (.quiet 10 (.quiet 11 (.loud 13 .done))))))))) 12 (.loud 1 (.loud 3 (.loud 5 (.loud 7 (.loud 8 (.quiet 9 (.quiet 10 (.quiet 11 (.loud 13 .done)))))))))))))) (by kernel_rfl) (by kernel_rfl) (by intro d _ _ _ _ h; cases d <;> exact h) ?_
     have D0 := (Below.refl V6.heap.size V6).drew
     repeat (refine tq_quiet rfl ?_; first | (refine wpQuiet_load_row rfl 29 _ rfl _ rfl 29 _ (0, 0) _ q1.ex Tryz.underlying29 rfl (by kernel_rfl) ?_; simp only [Act.put, List.setIfInBounds_toArray, List.set_cons_zero, List.set_cons_succ]; refine wpQuiet_nil ?_) | (refine wpQuiet_load_row rfl 33 _ rfl _ rfl 33 _ (0, 0) _ q2.ex Tryz.underlying33 rfl (by kernel_rfl) ?_; simp only [Act.put, List.setIfInBounds_toArray, List.set_cons_zero, List.set_cons_succ]; refine wpQuiet_nil ?_) | (go_big_quiet_step (fail); refine wpQuiet_nil ?_))
     refine tq_fork rfl rfl ?_ ?_
     ·
      go_wp2_with fail
      refine (sr_Tube t Ab Ad cb cd _ (hg.go (((Below.refl V6.heap.size V6)).drew)) (by omega) (by omega)).mono ?_
      rintro e V17 ⟨⟨Ab1, Ad1, cb1, cd1, rfl, hg1⟩, hV17⟩
      have N1 := ex_trans ((Below.refl V6.heap.size V6)).drew hV17
      go_wp2_with fail
      refine ⟨inEx N1, ?_⟩
      repeat (refine tq_quiet rfl ?_; go_big_quiet_step (fail); refine wpQuiet_nil ?_)
      refine tq_fork rfl rfl ?_ ?_
      ·
       go_wp2_with fail
       refine (History_any _ _ h _ (by omega) (hh.go (N1))).mono ?_
       rintro e V18 ⟨⟨Ah1, ch1, rfl, -, -, hh1⟩, hV18⟩
       have N3 := ex_trans N1 hV18
       go_wp2_with fail
       replace hg1 := hg1.go hV18
       refine ⟨inEx N3, ?_⟩
       repeat (refine tq_quiet rfl ?_; go_big_quiet_step (fail); refine wpQuiet_nil ?_)
       refine tq_fork rfl rfl ?_ ?_
       ·
        go_wp2_with fail
        refine (Ices_any _ _ l _ (by omega) (hi.go (N3))).mono ?_
        rintro e V19 ⟨⟨Ai1, ci1, rfl, -, -, hi1⟩, hV19⟩
        have N5 := ex_trans N3 hV19
        go_wp2_with fail
        replace hg1 := hg1.go hV19
        replace hh1 := hh1.go hV19
        refine ⟨inEx N5, ?_⟩
        repeat (refine tq_quiet rfl ?_; go_big_quiet_step (fail); refine wpQuiet_nil ?_)
        refine tq_fork rfl rfl ?_ ?_
        ·
         go_wp2_with fail
         refine (sr_Reading r _).mono ?_
         rintro e V20 ⟨rfl, hV20⟩
         have N7 := ex_trans N5 hV20
         go_wp2_with fail
         replace hg1 := hg1.go hV20
         replace hh1 := hh1.go hV20
         replace hi1 := hi1.go hV20
         refine ⟨inEx N7, ?_⟩
         repeat (refine tq_quiet rfl ?_; go_big_quiet_step (fail); refine wpQuiet_nil ?_)
         refine tq_fork rfl rfl ?_ ?_
         ·
          go_wp2_with fail
          refine (Correct_v t Ab1 Ad1 cb1 cd1 Ah1 Ai1 ch1 ci1 h l r _ hg1 hh1 hi1 (by omega)).mono ?_
          rintro e V21 ⟨⟨R3, ev3, rfl, hc3⟩, hV21⟩
          have N8 := ex_trans N7 hV21
          go_wp2_with fail
          refine ⟨inEx N8, ?_⟩
          repeat (refine tq_quiet rfl ?_; go_big_quiet_step (fail); refine wpQuiet_nil ?_)
          refine tq_loud rfl ?_
          go_wp2_with fail
          have sv := (N8).size
          try simp at sv
          have N12 := ex_alloc N8 (.cells #[.int .i64 0, .int .i64 0] 41)
          have bv : Blk (V21.alloc (.cells #[.int .i64 0, .int .i64 0] 41)) (V21.heap.size) 41 #[.int .i64 0, .int .i64 0] := Blk.new' _ _ _ (by first | rfl | (simp; done) | (simp; omega))
          obtain ⟨pv, hpv⟩ : ∃ p, V21.heap.size = p := ⟨_, rfl⟩
          rw [hpv] at bv
          try rw [hpv]
          have yv : V6.heap.size ≤ pv := by omega
          clear sv
          refine ⟨inEx N12, ?_⟩
          repeat (refine tq_quiet rfl ?_; go_big_quiet_step (fail); refine wpQuiet_nil ?_)
          refine tq_loud rfl ?_
          have XA13 := N12
          generalize (V21.alloc (.cells #[.int .i64 0, .int .i64 0] 41)) = V22 at *
          have sc0 : V22.cell? ⟨pv, 0, none⟩ = some (.int .i64 0) := bv.cell 0
          have sc1 : V22.cell? ⟨pv, 1, none⟩ = some (.int .i64 0) := bv.cell 1
          have sf := bv.frozen0
          have sl := bv.lt
          go_wp2_with fail
          replace bv := bv.set_ 0 (.int .i64 R3.lo)
          replace XA13 := ex_set (p := ⟨pv, 0, none⟩) XA13 yv (.int .i64 R3.lo)
          replace bv := bv.set_ 1 (.int .i64 R3.hi)
          replace XA13 := ex_set (p := ⟨pv, 1, none⟩) XA13 yv (.int .i64 R3.hi)
          simp only [List.setIfInBounds_toArray, List.set_cons_zero, List.set_cons_succ] at bv
          clear sf sl sc0 sc1
          generalize ((V22.setCell ⟨pv, 0, none⟩ (.int .i64 R3.lo)).setCell ⟨pv, 1, none⟩ (.int .i64 R3.hi)) = V23 at *
          refine ⟨inEx XA13, ?_⟩
          repeat (refine tq_quiet rfl ?_; go_big_quiet_step (fail); refine wpQuiet_nil ?_)
          refine tq_done (r := [_]) rfl ?_
          go_wp2_with fail
          exact hrest V23 pv R3 ev3 _ (XA13) yv bv hc3 (exFrame (by kernel_rfl))
         ·
          go_wp2_with fail
          have sv := (N7).size
          try simp at sv
          have N12 := ex_alloc N7 (.cells #[.int .i64 0, .int .i64 0] 41)
          have bv : Blk (V20.alloc (.cells #[.int .i64 0, .int .i64 0] 41)) (V20.heap.size) 41 #[.int .i64 0, .int .i64 0] := Blk.new' _ _ _ (by first | rfl | (simp; done) | (simp; omega))
          replace hg1 := hg1.go (ex_alloc (Below.refl V20.heap.size V20) (.cells #[.int .i64 0, .int .i64 0] 41))
          replace hh1 := hh1.go (ex_alloc (Below.refl V20.heap.size V20) (.cells #[.int .i64 0, .int .i64 0] 41))
          replace hi1 := hi1.go (ex_alloc (Below.refl V20.heap.size V20) (.cells #[.int .i64 0, .int .i64 0] 41))
          obtain ⟨pv, hpv⟩ : ∃ p, V20.heap.size = p := ⟨_, rfl⟩
          rw [hpv] at bv
          try rw [hpv]
          have yv : V6.heap.size ≤ pv := by omega
          clear sv
          refine ⟨inEx N12, ?_⟩
          repeat (refine tq_quiet rfl ?_; go_big_quiet_step (fail); refine wpQuiet_nil ?_)
          refine tq_loud rfl ?_
          go_wp2_with fail
          refine (Correct_v t Ab1 Ad1 cb1 cd1 Ah1 Ai1 ch1 ci1 h l r _ hg1 hh1 hi1 (by omega)).mono ?_
          rintro e V24 ⟨⟨R3, ev3, rfl, hc3⟩, hV24⟩
          replace bv := Blk.below bv hV24 bv.lt
          have N8 := ex_trans N12 hV24
          go_wp2_with fail
          refine ⟨inEx N8, ?_⟩
          repeat (refine tq_quiet rfl ?_; go_big_quiet_step (fail); refine wpQuiet_nil ?_)
          refine tq_loud rfl ?_
          have XA13 := N8
          generalize V24 = V25 at *
          have sc0 : V25.cell? ⟨pv, 0, none⟩ = some (.int .i64 0) := bv.cell 0
          have sc1 : V25.cell? ⟨pv, 1, none⟩ = some (.int .i64 0) := bv.cell 1
          have sf := bv.frozen0
          have sl := bv.lt
          go_wp2_with fail
          replace bv := bv.set_ 0 (.int .i64 R3.lo)
          replace XA13 := ex_set (p := ⟨pv, 0, none⟩) XA13 yv (.int .i64 R3.lo)
          replace bv := bv.set_ 1 (.int .i64 R3.hi)
          replace XA13 := ex_set (p := ⟨pv, 1, none⟩) XA13 yv (.int .i64 R3.hi)
          simp only [List.setIfInBounds_toArray, List.set_cons_zero, List.set_cons_succ] at bv
          clear sf sl sc0 sc1
          generalize ((V25.setCell ⟨pv, 0, none⟩ (.int .i64 R3.lo)).setCell ⟨pv, 1, none⟩ (.int .i64 R3.hi)) = V26 at *
          refine ⟨inEx XA13, ?_⟩
          repeat (refine tq_quiet rfl ?_; go_big_quiet_step (fail); refine wpQuiet_nil ?_)
          refine tq_done (r := [_]) rfl ?_
          go_wp2_with fail
          exact hrest V26 pv R3 ev3 _ (XA13) yv bv hc3 (exFrame (by kernel_rfl))
        ·
         go_wp2_with fail
         have sv := (N5).size
         try simp at sv
         have N12 := ex_alloc N5 (.cells #[.int .i64 0, .int .i64 0] 41)
         have bv : Blk (V19.alloc (.cells #[.int .i64 0, .int .i64 0] 41)) (V19.heap.size) 41 #[.int .i64 0, .int .i64 0] := Blk.new' _ _ _ (by first | rfl | (simp; done) | (simp; omega))
         replace hg1 := hg1.go (ex_alloc (Below.refl V19.heap.size V19) (.cells #[.int .i64 0, .int .i64 0] 41))
         replace hh1 := hh1.go (ex_alloc (Below.refl V19.heap.size V19) (.cells #[.int .i64 0, .int .i64 0] 41))
         replace hi1 := hi1.go (ex_alloc (Below.refl V19.heap.size V19) (.cells #[.int .i64 0, .int .i64 0] 41))
         obtain ⟨pv, hpv⟩ : ∃ p, V19.heap.size = p := ⟨_, rfl⟩
         rw [hpv] at bv
         try rw [hpv]
         have yv : V6.heap.size ≤ pv := by omega
         clear sv
         refine ⟨inEx N12, ?_⟩
         repeat (refine tq_quiet rfl ?_; go_big_quiet_step (fail); refine wpQuiet_nil ?_)
         refine tq_loud rfl ?_
         go_wp2_with fail
         refine (sr_Reading r _).mono ?_
         rintro e V27 ⟨rfl, hV27⟩
         replace bv := Blk.below bv hV27 bv.lt
         have N7 := ex_trans N12 hV27
         go_wp2_with fail
         replace hg1 := hg1.go hV27
         replace hh1 := hh1.go hV27
         replace hi1 := hi1.go hV27
         refine ⟨inEx N7, ?_⟩
         repeat (refine tq_quiet rfl ?_; go_big_quiet_step (fail); refine wpQuiet_nil ?_)
         refine tq_loud rfl ?_
         go_wp2_with fail
         refine (Correct_v t Ab1 Ad1 cb1 cd1 Ah1 Ai1 ch1 ci1 h l r _ hg1 hh1 hi1 (by omega)).mono ?_
         rintro e V28 ⟨⟨R3, ev3, rfl, hc3⟩, hV28⟩
         replace bv := Blk.below bv hV28 bv.lt
         have N8 := ex_trans N7 hV28
         go_wp2_with fail
         refine ⟨inEx N8, ?_⟩
         repeat (refine tq_quiet rfl ?_; go_big_quiet_step (fail); refine wpQuiet_nil ?_)
         refine tq_loud rfl ?_
         have XA13 := N8
         generalize V28 = V29 at *
         have sc0 : V29.cell? ⟨pv, 0, none⟩ = some (.int .i64 0) := bv.cell 0
         have sc1 : V29.cell? ⟨pv, 1, none⟩ = some (.int .i64 0) := bv.cell 1
         have sf := bv.frozen0
         have sl := bv.lt
         go_wp2_with fail
         replace bv := bv.set_ 0 (.int .i64 R3.lo)
         replace XA13 := ex_set (p := ⟨pv, 0, none⟩) XA13 yv (.int .i64 R3.lo)
         replace bv := bv.set_ 1 (.int .i64 R3.hi)
         replace XA13 := ex_set (p := ⟨pv, 1, none⟩) XA13 yv (.int .i64 R3.hi)
         simp only [List.setIfInBounds_toArray, List.set_cons_zero, List.set_cons_succ] at bv
         clear sf sl sc0 sc1
         generalize ((V29.setCell ⟨pv, 0, none⟩ (.int .i64 R3.lo)).setCell ⟨pv, 1, none⟩ (.int .i64 R3.hi)) = V30 at *
         refine ⟨inEx XA13, ?_⟩
         repeat (refine tq_quiet rfl ?_; go_big_quiet_step (fail); refine wpQuiet_nil ?_)
         refine tq_done (r := [_]) rfl ?_
         go_wp2_with fail
         exact hrest V30 pv R3 ev3 _ (XA13) yv bv hc3 (exFrame (by kernel_rfl))
       ·
        go_wp2_with fail
        have sv := (N3).size
        try simp at sv
        have N12 := ex_alloc N3 (.cells #[.int .i64 0, .int .i64 0] 41)
        have bv : Blk (V18.alloc (.cells #[.int .i64 0, .int .i64 0] 41)) (V18.heap.size) 41 #[.int .i64 0, .int .i64 0] := Blk.new' _ _ _ (by first | rfl | (simp; done) | (simp; omega))
        replace hg1 := hg1.go (ex_alloc (Below.refl V18.heap.size V18) (.cells #[.int .i64 0, .int .i64 0] 41))
        replace hh1 := hh1.go (ex_alloc (Below.refl V18.heap.size V18) (.cells #[.int .i64 0, .int .i64 0] 41))
        obtain ⟨pv, hpv⟩ : ∃ p, V18.heap.size = p := ⟨_, rfl⟩
        rw [hpv] at bv
        try rw [hpv]
        have yv : V6.heap.size ≤ pv := by omega
        clear sv
        refine ⟨inEx N12, ?_⟩
        repeat (refine tq_quiet rfl ?_; go_big_quiet_step (fail); refine wpQuiet_nil ?_)
        refine tq_loud rfl ?_
        go_wp2_with fail
        refine (Ices_any _ _ l _ (by omega) (hi.go (N12))).mono ?_
        rintro e V31 ⟨⟨Ai1, ci1, rfl, -, -, hi1⟩, hV31⟩
        replace bv := Blk.below bv hV31 bv.lt
        have N5 := ex_trans N12 hV31
        go_wp2_with fail
        replace hg1 := hg1.go hV31
        replace hh1 := hh1.go hV31
        refine ⟨inEx N5, ?_⟩
        repeat (refine tq_quiet rfl ?_; go_big_quiet_step (fail); refine wpQuiet_nil ?_)
        refine tq_loud rfl ?_
        go_wp2_with fail
        refine (sr_Reading r _).mono ?_
        rintro e V32 ⟨rfl, hV32⟩
        replace bv := Blk.below bv hV32 bv.lt
        have N7 := ex_trans N5 hV32
        go_wp2_with fail
        replace hg1 := hg1.go hV32
        replace hh1 := hh1.go hV32
        replace hi1 := hi1.go hV32
        refine ⟨inEx N7, ?_⟩
        repeat (refine tq_quiet rfl ?_; go_big_quiet_step (fail); refine wpQuiet_nil ?_)
        refine tq_loud rfl ?_
        go_wp2_with fail
        refine (Correct_v t Ab1 Ad1 cb1 cd1 Ah1 Ai1 ch1 ci1 h l r _ hg1 hh1 hi1 (by omega)).mono ?_
        rintro e V33 ⟨⟨R3, ev3, rfl, hc3⟩, hV33⟩
        replace bv := Blk.below bv hV33 bv.lt
        have N8 := ex_trans N7 hV33
        go_wp2_with fail
        refine ⟨inEx N8, ?_⟩
        repeat (refine tq_quiet rfl ?_; go_big_quiet_step (fail); refine wpQuiet_nil ?_)
        refine tq_loud rfl ?_
        have XA13 := N8
        generalize V33 = V34 at *
        have sc0 : V34.cell? ⟨pv, 0, none⟩ = some (.int .i64 0) := bv.cell 0
        have sc1 : V34.cell? ⟨pv, 1, none⟩ = some (.int .i64 0) := bv.cell 1
        have sf := bv.frozen0
        have sl := bv.lt
        go_wp2_with fail
        replace bv := bv.set_ 0 (.int .i64 R3.lo)
        replace XA13 := ex_set (p := ⟨pv, 0, none⟩) XA13 yv (.int .i64 R3.lo)
        replace bv := bv.set_ 1 (.int .i64 R3.hi)
        replace XA13 := ex_set (p := ⟨pv, 1, none⟩) XA13 yv (.int .i64 R3.hi)
        simp only [List.setIfInBounds_toArray, List.set_cons_zero, List.set_cons_succ] at bv
        clear sf sl sc0 sc1
        generalize ((V34.setCell ⟨pv, 0, none⟩ (.int .i64 R3.lo)).setCell ⟨pv, 1, none⟩ (.int .i64 R3.hi)) = V35 at *
        refine ⟨inEx XA13, ?_⟩
        repeat (refine tq_quiet rfl ?_; go_big_quiet_step (fail); refine wpQuiet_nil ?_)
        refine tq_done (r := [_]) rfl ?_
        go_wp2_with fail
        exact hrest V35 pv R3 ev3 _ (XA13) yv bv hc3 (exFrame (by kernel_rfl))
      ·
       go_wp2_with fail
       have sv := (N1).size
       try simp at sv
       have N12 := ex_alloc N1 (.cells #[.int .i64 0, .int .i64 0] 41)
       have bv : Blk (V17.alloc (.cells #[.int .i64 0, .int .i64 0] 41)) (V17.heap.size) 41 #[.int .i64 0, .int .i64 0] := Blk.new' _ _ _ (by first | rfl | (simp; done) | (simp; omega))
       replace hg1 := hg1.go (ex_alloc (Below.refl V17.heap.size V17) (.cells #[.int .i64 0, .int .i64 0] 41))
       obtain ⟨pv, hpv⟩ : ∃ p, V17.heap.size = p := ⟨_, rfl⟩
       rw [hpv] at bv
       try rw [hpv]
       have yv : V6.heap.size ≤ pv := by omega
       clear sv
       refine ⟨inEx N12, ?_⟩
       repeat (refine tq_quiet rfl ?_; go_big_quiet_step (fail); refine wpQuiet_nil ?_)
       refine tq_loud rfl ?_
       go_wp2_with fail
       refine (History_any _ _ h _ (by omega) (hh.go (N12))).mono ?_
       rintro e V36 ⟨⟨Ah1, ch1, rfl, -, -, hh1⟩, hV36⟩
       replace bv := Blk.below bv hV36 bv.lt
       have N3 := ex_trans N12 hV36
       go_wp2_with fail
       replace hg1 := hg1.go hV36
       refine ⟨inEx N3, ?_⟩
       repeat (refine tq_quiet rfl ?_; go_big_quiet_step (fail); refine wpQuiet_nil ?_)
       refine tq_loud rfl ?_
       go_wp2_with fail
       refine (Ices_any _ _ l _ (by omega) (hi.go (N3))).mono ?_
       rintro e V37 ⟨⟨Ai1, ci1, rfl, -, -, hi1⟩, hV37⟩
       replace bv := Blk.below bv hV37 bv.lt
       have N5 := ex_trans N3 hV37
       go_wp2_with fail
       replace hg1 := hg1.go hV37
       replace hh1 := hh1.go hV37
       refine ⟨inEx N5, ?_⟩
       repeat (refine tq_quiet rfl ?_; go_big_quiet_step (fail); refine wpQuiet_nil ?_)
       refine tq_loud rfl ?_
       go_wp2_with fail
       refine (sr_Reading r _).mono ?_
       rintro e V38 ⟨rfl, hV38⟩
       replace bv := Blk.below bv hV38 bv.lt
       have N7 := ex_trans N5 hV38
       go_wp2_with fail
       replace hg1 := hg1.go hV38
       replace hh1 := hh1.go hV38
       replace hi1 := hi1.go hV38
       refine ⟨inEx N7, ?_⟩
       repeat (refine tq_quiet rfl ?_; go_big_quiet_step (fail); refine wpQuiet_nil ?_)
       refine tq_loud rfl ?_
       go_wp2_with fail
       refine (Correct_v t Ab1 Ad1 cb1 cd1 Ah1 Ai1 ch1 ci1 h l r _ hg1 hh1 hi1 (by omega)).mono ?_
       rintro e V39 ⟨⟨R3, ev3, rfl, hc3⟩, hV39⟩
       replace bv := Blk.below bv hV39 bv.lt
       have N8 := ex_trans N7 hV39
       go_wp2_with fail
       refine ⟨inEx N8, ?_⟩
       repeat (refine tq_quiet rfl ?_; go_big_quiet_step (fail); refine wpQuiet_nil ?_)
       refine tq_loud rfl ?_
       have XA13 := N8
       generalize V39 = V40 at *
       have sc0 : V40.cell? ⟨pv, 0, none⟩ = some (.int .i64 0) := bv.cell 0
       have sc1 : V40.cell? ⟨pv, 1, none⟩ = some (.int .i64 0) := bv.cell 1
       have sf := bv.frozen0
       have sl := bv.lt
       go_wp2_with fail
       replace bv := bv.set_ 0 (.int .i64 R3.lo)
       replace XA13 := ex_set (p := ⟨pv, 0, none⟩) XA13 yv (.int .i64 R3.lo)
       replace bv := bv.set_ 1 (.int .i64 R3.hi)
       replace XA13 := ex_set (p := ⟨pv, 1, none⟩) XA13 yv (.int .i64 R3.hi)
       simp only [List.setIfInBounds_toArray, List.set_cons_zero, List.set_cons_succ] at bv
       clear sf sl sc0 sc1
       generalize ((V40.setCell ⟨pv, 0, none⟩ (.int .i64 R3.lo)).setCell ⟨pv, 1, none⟩ (.int .i64 R3.hi)) = V41 at *
       refine ⟨inEx XA13, ?_⟩
       repeat (refine tq_quiet rfl ?_; go_big_quiet_step (fail); refine wpQuiet_nil ?_)
       refine tq_done (r := [_]) rfl ?_
       go_wp2_with fail
       exact hrest V41 pv R3 ev3 _ (XA13) yv bv hc3 (exFrame (by kernel_rfl))
     ·
      go_wp2_with fail
      have sv := ((Below.refl V6.heap.size V6)).size
      try simp at sv
      have N12 := ex_alloc (Below.refl V6.heap.size V6) (.cells #[.int .i64 0, .int .i64 0] 41)
      have bv : Blk (V6.alloc (.cells #[.int .i64 0, .int .i64 0] 41)) (V6.heap.size) 41 #[.int .i64 0, .int .i64 0] := Blk.new' _ _ _ (by first | rfl | (simp; done) | (simp; omega))
      obtain ⟨pv, hpv⟩ : ∃ p, V6.heap.size = p := ⟨_, rfl⟩
      rw [hpv] at bv
      try rw [hpv]
      have yv : V6.heap.size ≤ pv := by omega
      clear sv
      refine ⟨inEx (N12).drew, ?_⟩
      repeat (refine tq_quiet rfl ?_; go_big_quiet_step (fail); refine wpQuiet_nil ?_)
      refine tq_loud rfl ?_
      go_wp2_with fail
      refine (sr_Tube t Ab Ad cb cd _ (hg.go ((N12).drew)) (by omega) (by omega)).mono ?_
      rintro e V42 ⟨⟨Ab1, Ad1, cb1, cd1, rfl, hg1⟩, hV42⟩
      replace bv := Blk.below (Blk.drew bv) hV42 bv.lt
      have N1 := ex_trans (N12).drew hV42
      go_wp2_with fail
      refine ⟨inEx N1, ?_⟩
      repeat (refine tq_quiet rfl ?_; go_big_quiet_step (fail); refine wpQuiet_nil ?_)
      refine tq_loud rfl ?_
      go_wp2_with fail
      refine (History_any _ _ h _ (by omega) (hh.go (N1))).mono ?_
      rintro e V43 ⟨⟨Ah1, ch1, rfl, -, -, hh1⟩, hV43⟩
      replace bv := Blk.below bv hV43 bv.lt
      have N3 := ex_trans N1 hV43
      go_wp2_with fail
      replace hg1 := hg1.go hV43
      refine ⟨inEx N3, ?_⟩
      repeat (refine tq_quiet rfl ?_; go_big_quiet_step (fail); refine wpQuiet_nil ?_)
      refine tq_loud rfl ?_
      go_wp2_with fail
      refine (Ices_any _ _ l _ (by omega) (hi.go (N3))).mono ?_
      rintro e V44 ⟨⟨Ai1, ci1, rfl, -, -, hi1⟩, hV44⟩
      replace bv := Blk.below bv hV44 bv.lt
      have N5 := ex_trans N3 hV44
      go_wp2_with fail
      replace hg1 := hg1.go hV44
      replace hh1 := hh1.go hV44
      refine ⟨inEx N5, ?_⟩
      repeat (refine tq_quiet rfl ?_; go_big_quiet_step (fail); refine wpQuiet_nil ?_)
      refine tq_loud rfl ?_
      go_wp2_with fail
      refine (sr_Reading r _).mono ?_
      rintro e V45 ⟨rfl, hV45⟩
      replace bv := Blk.below bv hV45 bv.lt
      have N7 := ex_trans N5 hV45
      go_wp2_with fail
      replace hg1 := hg1.go hV45
      replace hh1 := hh1.go hV45
      replace hi1 := hi1.go hV45
      refine ⟨inEx N7, ?_⟩
      repeat (refine tq_quiet rfl ?_; go_big_quiet_step (fail); refine wpQuiet_nil ?_)
      refine tq_loud rfl ?_
      go_wp2_with fail
      refine (Correct_v t Ab1 Ad1 cb1 cd1 Ah1 Ai1 ch1 ci1 h l r _ hg1 hh1 hi1 (by omega)).mono ?_
      rintro e V46 ⟨⟨R3, ev3, rfl, hc3⟩, hV46⟩
      replace bv := Blk.below bv hV46 bv.lt
      have N8 := ex_trans N7 hV46
      go_wp2_with fail
      refine ⟨inEx N8, ?_⟩
      repeat (refine tq_quiet rfl ?_; go_big_quiet_step (fail); refine wpQuiet_nil ?_)
      refine tq_loud rfl ?_
      have XA13 := N8
      generalize V46 = V47 at *
      have sc0 : V47.cell? ⟨pv, 0, none⟩ = some (.int .i64 0) := bv.cell 0
      have sc1 : V47.cell? ⟨pv, 1, none⟩ = some (.int .i64 0) := bv.cell 1
      have sf := bv.frozen0
      have sl := bv.lt
      go_wp2_with fail
      replace bv := bv.set_ 0 (.int .i64 R3.lo)
      replace XA13 := ex_set (p := ⟨pv, 0, none⟩) XA13 yv (.int .i64 R3.lo)
      replace bv := bv.set_ 1 (.int .i64 R3.hi)
      replace XA13 := ex_set (p := ⟨pv, 1, none⟩) XA13 yv (.int .i64 R3.hi)
      simp only [List.setIfInBounds_toArray, List.set_cons_zero, List.set_cons_succ] at bv
      clear sf sl sc0 sc1
      generalize ((V47.setCell ⟨pv, 0, none⟩ (.int .i64 R3.lo)).setCell ⟨pv, 1, none⟩ (.int .i64 R3.hi)) = V48 at *
      refine ⟨inEx XA13, ?_⟩
      repeat (refine tq_quiet rfl ?_; go_big_quiet_step (fail); refine wpQuiet_nil ?_)
      refine tq_done (r := [_]) rfl ?_
      go_wp2_with fail
      exact hrest V48 pv R3 ev3 _ (XA13) yv bv hc3 (exFrame (by kernel_rfl))
    refine wp_region_ext_tq 19 (.quiet 0 (.quiet 2 (.quiet 4 (.quiet 6 (.quiet 8 (.quiet 9 (.quiet 10 (.quiet 11 (.quiet 12 (.fork 1 (.fork 3 (.fork 5 (.fork 7 (.fork 13 (.quiet 14 (.quiet 15 (.quiet 16 (.loud 17 (.loud 18 .done))))) 17 (.loud 13 (.quiet 14 (.quiet 15 (.quiet 16 (.loud 18 .done)))))) 17 (.loud 7 (.loud 13 (.quiet 14 (.quiet 15 (.quiet 16 (.loud 18 .done))))))) 17 (.loud 5 (.loud 7 (.loud 13 (.quiet 14 (.quiet 15 (.quiet 16 (.loud 18 .done)))))))) 17 (.loud 3 (.loud 5 (.loud 7 (.loud 13 (.quiet 14 (.quiet 15 (.quiet 16 (.loud 18 .done))))))))) 17 (.loud 1 (.loud 3 (.loud 5 (.loud 7 (.loud 13 (.quiet 14 (.quiet 15 (.quiet 16 (.loud 18 .done))))))))))))))))))) (by kernel_rfl) (by kernel_rfl) (by intro d _ _ _ _ h; cases d <;> exact h) ?_
    have D0 := (Below.refl V5.heap.size V5).drew
    repeat (refine tq_quiet rfl ?_; first | (refine wpQuiet_load_row rfl 29 _ rfl _ rfl 29 _ (0, 0) _ q1.ex Tryz.underlying29 rfl (by kernel_rfl) ?_; simp only [Act.put, List.setIfInBounds_toArray, List.set_cons_zero, List.set_cons_succ]; refine wpQuiet_nil ?_) | (refine wpQuiet_load_row rfl 33 _ rfl _ rfl 33 _ (0, 0) _ q2.ex Tryz.underlying33 rfl (by kernel_rfl) ?_; simp only [Act.put, List.setIfInBounds_toArray, List.set_cons_zero, List.set_cons_succ]; refine wpQuiet_nil ?_) | (go_big_quiet_step (fail); refine wpQuiet_nil ?_))
    refine tq_fork rfl rfl ?_ ?_
    ·
     go_wp2_with fail
     refine (sr_Tube t Ab Ad cb cd _ (hg.go (((Below.refl V5.heap.size V5)).drew)) (by omega) (by omega)).mono ?_
     rintro e V49 ⟨⟨Ab1, Ad1, cb1, cd1, rfl, hg1⟩, hV49⟩
     have N1 := ex_trans ((Below.refl V5.heap.size V5)).drew hV49
     go_wp2_with fail
     refine ⟨inEx N1, ?_⟩
     repeat (refine tq_quiet rfl ?_; go_big_quiet_step (fail); refine wpQuiet_nil ?_)
     refine tq_fork rfl rfl ?_ ?_
     ·
      go_wp2_with fail
      refine (History_any _ _ h _ (by omega) (hh.go (N1))).mono ?_
      rintro e V50 ⟨⟨Ah1, ch1, rfl, -, -, hh1⟩, hV50⟩
      have N3 := ex_trans N1 hV50
      go_wp2_with fail
      replace hg1 := hg1.go hV50
      refine ⟨inEx N3, ?_⟩
      repeat (refine tq_quiet rfl ?_; go_big_quiet_step (fail); refine wpQuiet_nil ?_)
      refine tq_fork rfl rfl ?_ ?_
      ·
       go_wp2_with fail
       refine (Ices_any _ _ l _ (by omega) (hi.go (N3))).mono ?_
       rintro e V51 ⟨⟨Ai1, ci1, rfl, -, -, hi1⟩, hV51⟩
       have N5 := ex_trans N3 hV51
       go_wp2_with fail
       replace hg1 := hg1.go hV51
       replace hh1 := hh1.go hV51
       refine ⟨inEx N5, ?_⟩
       repeat (refine tq_quiet rfl ?_; go_big_quiet_step (fail); refine wpQuiet_nil ?_)
       refine tq_fork rfl rfl ?_ ?_
       ·
        go_wp2_with fail
        refine (sr_Reading r _).mono ?_
        rintro e V52 ⟨rfl, hV52⟩
        have N7 := ex_trans N5 hV52
        go_wp2_with fail
        replace hg1 := hg1.go hV52
        replace hh1 := hh1.go hV52
        replace hi1 := hi1.go hV52
        refine ⟨inEx N7, ?_⟩
        repeat (refine tq_quiet rfl ?_; go_big_quiet_step (fail); refine wpQuiet_nil ?_)
        refine tq_fork rfl rfl ?_ ?_
        ·
         go_wp2_with fail
         refine (Accept_v t Ab1 Ad1 cb1 cd1 Ah1 Ai1 ch1 ci1 h l r (m1 + m2) _ hg1 hh1 hi1 (by omega)).mono ?_
         rintro e V53 ⟨⟨R2, ev2, rfl, hc2⟩, hV53⟩
         have N13 := ex_trans N7 hV53
         go_wp2_with fail
         refine ⟨inEx N13, ?_⟩
         repeat (refine tq_quiet rfl ?_; go_big_quiet_step (fail); refine wpQuiet_nil ?_)
         refine tq_loud rfl ?_
         go_wp2_with fail
         have sj := (N13).size
         try simp at sj
         have N17 := ex_alloc N13 (.cells #[.int .i64 0, .int .i64 0] 41)
         have bj : Blk (V53.alloc (.cells #[.int .i64 0, .int .i64 0] 41)) (V53.heap.size) 41 #[.int .i64 0, .int .i64 0] := Blk.new' _ _ _ (by first | rfl | (simp; done) | (simp; omega))
         obtain ⟨pj, hpj⟩ : ∃ p, V53.heap.size = p := ⟨_, rfl⟩
         rw [hpj] at bj
         try rw [hpj]
         have yj : V5.heap.size ≤ pj := by omega
         clear sj
         refine ⟨inEx N17, ?_⟩
         repeat (refine tq_quiet rfl ?_; go_big_quiet_step (fail); refine wpQuiet_nil ?_)
         refine tq_loud rfl ?_
         have XA18 := N17
         generalize (V53.alloc (.cells #[.int .i64 0, .int .i64 0] 41)) = V54 at *
         have sc0 : V54.cell? ⟨pj, 0, none⟩ = some (.int .i64 0) := bj.cell 0
         have sc1 : V54.cell? ⟨pj, 1, none⟩ = some (.int .i64 0) := bj.cell 1
         have sf := bj.frozen0
         have sl := bj.lt
         go_wp2_with fail
         replace bj := bj.set_ 0 (.int .i64 R2.lo)
         replace XA18 := ex_set (p := ⟨pj, 0, none⟩) XA18 yj (.int .i64 R2.lo)
         replace bj := bj.set_ 1 (.int .i64 R2.hi)
         replace XA18 := ex_set (p := ⟨pj, 1, none⟩) XA18 yj (.int .i64 R2.hi)
         simp only [List.setIfInBounds_toArray, List.set_cons_zero, List.set_cons_succ] at bj
         clear sf sl sc0 sc1
         generalize ((V54.setCell ⟨pj, 0, none⟩ (.int .i64 R2.lo)).setCell ⟨pj, 1, none⟩ (.int .i64 R2.hi)) = V55 at *
         refine ⟨inEx XA18, ?_⟩
         repeat (refine tq_quiet rfl ?_; go_big_quiet_step (fail); refine wpQuiet_nil ?_)
         refine tq_done (r := [_]) rfl ?_
         go_wp2_with fail
         exact hrest V55 pj R2 ev2 _ (XA18) yj bj hc2 (exFrame (by kernel_rfl))
        ·
         go_wp2_with fail
         have sj := (N7).size
         try simp at sj
         have N17 := ex_alloc N7 (.cells #[.int .i64 0, .int .i64 0] 41)
         have bj : Blk (V52.alloc (.cells #[.int .i64 0, .int .i64 0] 41)) (V52.heap.size) 41 #[.int .i64 0, .int .i64 0] := Blk.new' _ _ _ (by first | rfl | (simp; done) | (simp; omega))
         replace hg1 := hg1.go (ex_alloc (Below.refl V52.heap.size V52) (.cells #[.int .i64 0, .int .i64 0] 41))
         replace hh1 := hh1.go (ex_alloc (Below.refl V52.heap.size V52) (.cells #[.int .i64 0, .int .i64 0] 41))
         replace hi1 := hi1.go (ex_alloc (Below.refl V52.heap.size V52) (.cells #[.int .i64 0, .int .i64 0] 41))
         obtain ⟨pj, hpj⟩ : ∃ p, V52.heap.size = p := ⟨_, rfl⟩
         rw [hpj] at bj
         try rw [hpj]
         have yj : V5.heap.size ≤ pj := by omega
         clear sj
         refine ⟨inEx N17, ?_⟩
         repeat (refine tq_quiet rfl ?_; go_big_quiet_step (fail); refine wpQuiet_nil ?_)
         refine tq_loud rfl ?_
         go_wp2_with fail
         refine (Accept_v t Ab1 Ad1 cb1 cd1 Ah1 Ai1 ch1 ci1 h l r (m1 + m2) _ hg1 hh1 hi1 (by omega)).mono ?_
         rintro e V56 ⟨⟨R2, ev2, rfl, hc2⟩, hV56⟩
         replace bj := Blk.below bj hV56 bj.lt
         have N13 := ex_trans N17 hV56
         go_wp2_with fail
         refine ⟨inEx N13, ?_⟩
         repeat (refine tq_quiet rfl ?_; go_big_quiet_step (fail); refine wpQuiet_nil ?_)
         refine tq_loud rfl ?_
         have XA18 := N13
         generalize V56 = V57 at *
         have sc0 : V57.cell? ⟨pj, 0, none⟩ = some (.int .i64 0) := bj.cell 0
         have sc1 : V57.cell? ⟨pj, 1, none⟩ = some (.int .i64 0) := bj.cell 1
         have sf := bj.frozen0
         have sl := bj.lt
         go_wp2_with fail
         replace bj := bj.set_ 0 (.int .i64 R2.lo)
         replace XA18 := ex_set (p := ⟨pj, 0, none⟩) XA18 yj (.int .i64 R2.lo)
         replace bj := bj.set_ 1 (.int .i64 R2.hi)
         replace XA18 := ex_set (p := ⟨pj, 1, none⟩) XA18 yj (.int .i64 R2.hi)
         simp only [List.setIfInBounds_toArray, List.set_cons_zero, List.set_cons_succ] at bj
         clear sf sl sc0 sc1
         generalize ((V57.setCell ⟨pj, 0, none⟩ (.int .i64 R2.lo)).setCell ⟨pj, 1, none⟩ (.int .i64 R2.hi)) = V58 at *
         refine ⟨inEx XA18, ?_⟩
         repeat (refine tq_quiet rfl ?_; go_big_quiet_step (fail); refine wpQuiet_nil ?_)
         refine tq_done (r := [_]) rfl ?_
         go_wp2_with fail
         exact hrest V58 pj R2 ev2 _ (XA18) yj bj hc2 (exFrame (by kernel_rfl))
       ·
        go_wp2_with fail
        have sj := (N5).size
        try simp at sj
        have N17 := ex_alloc N5 (.cells #[.int .i64 0, .int .i64 0] 41)
        have bj : Blk (V51.alloc (.cells #[.int .i64 0, .int .i64 0] 41)) (V51.heap.size) 41 #[.int .i64 0, .int .i64 0] := Blk.new' _ _ _ (by first | rfl | (simp; done) | (simp; omega))
        replace hg1 := hg1.go (ex_alloc (Below.refl V51.heap.size V51) (.cells #[.int .i64 0, .int .i64 0] 41))
        replace hh1 := hh1.go (ex_alloc (Below.refl V51.heap.size V51) (.cells #[.int .i64 0, .int .i64 0] 41))
        replace hi1 := hi1.go (ex_alloc (Below.refl V51.heap.size V51) (.cells #[.int .i64 0, .int .i64 0] 41))
        obtain ⟨pj, hpj⟩ : ∃ p, V51.heap.size = p := ⟨_, rfl⟩
        rw [hpj] at bj
        try rw [hpj]
        have yj : V5.heap.size ≤ pj := by omega
        clear sj
        refine ⟨inEx N17, ?_⟩
        repeat (refine tq_quiet rfl ?_; go_big_quiet_step (fail); refine wpQuiet_nil ?_)
        refine tq_loud rfl ?_
        go_wp2_with fail
        refine (sr_Reading r _).mono ?_
        rintro e V59 ⟨rfl, hV59⟩
        replace bj := Blk.below bj hV59 bj.lt
        have N7 := ex_trans N17 hV59
        go_wp2_with fail
        replace hg1 := hg1.go hV59
        replace hh1 := hh1.go hV59
        replace hi1 := hi1.go hV59
        refine ⟨inEx N7, ?_⟩
        repeat (refine tq_quiet rfl ?_; go_big_quiet_step (fail); refine wpQuiet_nil ?_)
        refine tq_loud rfl ?_
        go_wp2_with fail
        refine (Accept_v t Ab1 Ad1 cb1 cd1 Ah1 Ai1 ch1 ci1 h l r (m1 + m2) _ hg1 hh1 hi1 (by omega)).mono ?_
        rintro e V60 ⟨⟨R2, ev2, rfl, hc2⟩, hV60⟩
        replace bj := Blk.below bj hV60 bj.lt
        have N13 := ex_trans N7 hV60
        go_wp2_with fail
        refine ⟨inEx N13, ?_⟩
        repeat (refine tq_quiet rfl ?_; go_big_quiet_step (fail); refine wpQuiet_nil ?_)
        refine tq_loud rfl ?_
        have XA18 := N13
        generalize V60 = V61 at *
        have sc0 : V61.cell? ⟨pj, 0, none⟩ = some (.int .i64 0) := bj.cell 0
        have sc1 : V61.cell? ⟨pj, 1, none⟩ = some (.int .i64 0) := bj.cell 1
        have sf := bj.frozen0
        have sl := bj.lt
        go_wp2_with fail
        replace bj := bj.set_ 0 (.int .i64 R2.lo)
        replace XA18 := ex_set (p := ⟨pj, 0, none⟩) XA18 yj (.int .i64 R2.lo)
        replace bj := bj.set_ 1 (.int .i64 R2.hi)
        replace XA18 := ex_set (p := ⟨pj, 1, none⟩) XA18 yj (.int .i64 R2.hi)
        simp only [List.setIfInBounds_toArray, List.set_cons_zero, List.set_cons_succ] at bj
        clear sf sl sc0 sc1
        generalize ((V61.setCell ⟨pj, 0, none⟩ (.int .i64 R2.lo)).setCell ⟨pj, 1, none⟩ (.int .i64 R2.hi)) = V62 at *
        refine ⟨inEx XA18, ?_⟩
        repeat (refine tq_quiet rfl ?_; go_big_quiet_step (fail); refine wpQuiet_nil ?_)
        refine tq_done (r := [_]) rfl ?_
        go_wp2_with fail
        exact hrest V62 pj R2 ev2 _ (XA18) yj bj hc2 (exFrame (by kernel_rfl))
      ·
       go_wp2_with fail
       have sj := (N3).size
       try simp at sj
       have N17 := ex_alloc N3 (.cells #[.int .i64 0, .int .i64 0] 41)
       have bj : Blk (V50.alloc (.cells #[.int .i64 0, .int .i64 0] 41)) (V50.heap.size) 41 #[.int .i64 0, .int .i64 0] := Blk.new' _ _ _ (by first | rfl | (simp; done) | (simp; omega))
       replace hg1 := hg1.go (ex_alloc (Below.refl V50.heap.size V50) (.cells #[.int .i64 0, .int .i64 0] 41))
       replace hh1 := hh1.go (ex_alloc (Below.refl V50.heap.size V50) (.cells #[.int .i64 0, .int .i64 0] 41))
       obtain ⟨pj, hpj⟩ : ∃ p, V50.heap.size = p := ⟨_, rfl⟩
       rw [hpj] at bj
       try rw [hpj]
       have yj : V5.heap.size ≤ pj := by omega
       clear sj
       refine ⟨inEx N17, ?_⟩
       repeat (refine tq_quiet rfl ?_; go_big_quiet_step (fail); refine wpQuiet_nil ?_)
       refine tq_loud rfl ?_
       go_wp2_with fail
       refine (Ices_any _ _ l _ (by omega) (hi.go (N17))).mono ?_
       rintro e V63 ⟨⟨Ai1, ci1, rfl, -, -, hi1⟩, hV63⟩
       replace bj := Blk.below bj hV63 bj.lt
       have N5 := ex_trans N17 hV63
       go_wp2_with fail
       replace hg1 := hg1.go hV63
       replace hh1 := hh1.go hV63
       refine ⟨inEx N5, ?_⟩
       repeat (refine tq_quiet rfl ?_; go_big_quiet_step (fail); refine wpQuiet_nil ?_)
       refine tq_loud rfl ?_
       go_wp2_with fail
       refine (sr_Reading r _).mono ?_
       rintro e V64 ⟨rfl, hV64⟩
       replace bj := Blk.below bj hV64 bj.lt
       have N7 := ex_trans N5 hV64
       go_wp2_with fail
       replace hg1 := hg1.go hV64
       replace hh1 := hh1.go hV64
       replace hi1 := hi1.go hV64
       refine ⟨inEx N7, ?_⟩
       repeat (refine tq_quiet rfl ?_; go_big_quiet_step (fail); refine wpQuiet_nil ?_)
       refine tq_loud rfl ?_
       go_wp2_with fail
       refine (Accept_v t Ab1 Ad1 cb1 cd1 Ah1 Ai1 ch1 ci1 h l r (m1 + m2) _ hg1 hh1 hi1 (by omega)).mono ?_
       rintro e V65 ⟨⟨R2, ev2, rfl, hc2⟩, hV65⟩
       replace bj := Blk.below bj hV65 bj.lt
       have N13 := ex_trans N7 hV65
       go_wp2_with fail
       refine ⟨inEx N13, ?_⟩
       repeat (refine tq_quiet rfl ?_; go_big_quiet_step (fail); refine wpQuiet_nil ?_)
       refine tq_loud rfl ?_
       have XA18 := N13
       generalize V65 = V66 at *
       have sc0 : V66.cell? ⟨pj, 0, none⟩ = some (.int .i64 0) := bj.cell 0
       have sc1 : V66.cell? ⟨pj, 1, none⟩ = some (.int .i64 0) := bj.cell 1
       have sf := bj.frozen0
       have sl := bj.lt
       go_wp2_with fail
       replace bj := bj.set_ 0 (.int .i64 R2.lo)
       replace XA18 := ex_set (p := ⟨pj, 0, none⟩) XA18 yj (.int .i64 R2.lo)
       replace bj := bj.set_ 1 (.int .i64 R2.hi)
       replace XA18 := ex_set (p := ⟨pj, 1, none⟩) XA18 yj (.int .i64 R2.hi)
       simp only [List.setIfInBounds_toArray, List.set_cons_zero, List.set_cons_succ] at bj
       clear sf sl sc0 sc1
       generalize ((V66.setCell ⟨pj, 0, none⟩ (.int .i64 R2.lo)).setCell ⟨pj, 1, none⟩ (.int .i64 R2.hi)) = V67 at *
       refine ⟨inEx XA18, ?_⟩
       repeat (refine tq_quiet rfl ?_; go_big_quiet_step (fail); refine wpQuiet_nil ?_)
       refine tq_done (r := [_]) rfl ?_
       go_wp2_with fail
       exact hrest V67 pj R2 ev2 _ (XA18) yj bj hc2 (exFrame (by kernel_rfl))
     ·
      go_wp2_with fail
      have sj := (N1).size
      try simp at sj
      have N17 := ex_alloc N1 (.cells #[.int .i64 0, .int .i64 0] 41)
      have bj : Blk (V49.alloc (.cells #[.int .i64 0, .int .i64 0] 41)) (V49.heap.size) 41 #[.int .i64 0, .int .i64 0] := Blk.new' _ _ _ (by first | rfl | (simp; done) | (simp; omega))
      replace hg1 := hg1.go (ex_alloc (Below.refl V49.heap.size V49) (.cells #[.int .i64 0, .int .i64 0] 41))
      obtain ⟨pj, hpj⟩ : ∃ p, V49.heap.size = p := ⟨_, rfl⟩
      rw [hpj] at bj
      try rw [hpj]
      have yj : V5.heap.size ≤ pj := by omega
      clear sj
      refine ⟨inEx N17, ?_⟩
      repeat (refine tq_quiet rfl ?_; go_big_quiet_step (fail); refine wpQuiet_nil ?_)
      refine tq_loud rfl ?_
      go_wp2_with fail
      refine (History_any _ _ h _ (by omega) (hh.go (N17))).mono ?_
      rintro e V68 ⟨⟨Ah1, ch1, rfl, -, -, hh1⟩, hV68⟩
      replace bj := Blk.below bj hV68 bj.lt
      have N3 := ex_trans N17 hV68
      go_wp2_with fail
      replace hg1 := hg1.go hV68
      refine ⟨inEx N3, ?_⟩
      repeat (refine tq_quiet rfl ?_; go_big_quiet_step (fail); refine wpQuiet_nil ?_)
      refine tq_loud rfl ?_
      go_wp2_with fail
      refine (Ices_any _ _ l _ (by omega) (hi.go (N3))).mono ?_
      rintro e V69 ⟨⟨Ai1, ci1, rfl, -, -, hi1⟩, hV69⟩
      replace bj := Blk.below bj hV69 bj.lt
      have N5 := ex_trans N3 hV69
      go_wp2_with fail
      replace hg1 := hg1.go hV69
      replace hh1 := hh1.go hV69
      refine ⟨inEx N5, ?_⟩
      repeat (refine tq_quiet rfl ?_; go_big_quiet_step (fail); refine wpQuiet_nil ?_)
      refine tq_loud rfl ?_
      go_wp2_with fail
      refine (sr_Reading r _).mono ?_
      rintro e V70 ⟨rfl, hV70⟩
      replace bj := Blk.below bj hV70 bj.lt
      have N7 := ex_trans N5 hV70
      go_wp2_with fail
      replace hg1 := hg1.go hV70
      replace hh1 := hh1.go hV70
      replace hi1 := hi1.go hV70
      refine ⟨inEx N7, ?_⟩
      repeat (refine tq_quiet rfl ?_; go_big_quiet_step (fail); refine wpQuiet_nil ?_)
      refine tq_loud rfl ?_
      go_wp2_with fail
      refine (Accept_v t Ab1 Ad1 cb1 cd1 Ah1 Ai1 ch1 ci1 h l r (m1 + m2) _ hg1 hh1 hi1 (by omega)).mono ?_
      rintro e V71 ⟨⟨R2, ev2, rfl, hc2⟩, hV71⟩
      replace bj := Blk.below bj hV71 bj.lt
      have N13 := ex_trans N7 hV71
      go_wp2_with fail
      refine ⟨inEx N13, ?_⟩
      repeat (refine tq_quiet rfl ?_; go_big_quiet_step (fail); refine wpQuiet_nil ?_)
      refine tq_loud rfl ?_
      have XA18 := N13
      generalize V71 = V72 at *
      have sc0 : V72.cell? ⟨pj, 0, none⟩ = some (.int .i64 0) := bj.cell 0
      have sc1 : V72.cell? ⟨pj, 1, none⟩ = some (.int .i64 0) := bj.cell 1
      have sf := bj.frozen0
      have sl := bj.lt
      go_wp2_with fail
      replace bj := bj.set_ 0 (.int .i64 R2.lo)
      replace XA18 := ex_set (p := ⟨pj, 0, none⟩) XA18 yj (.int .i64 R2.lo)
      replace bj := bj.set_ 1 (.int .i64 R2.hi)
      replace XA18 := ex_set (p := ⟨pj, 1, none⟩) XA18 yj (.int .i64 R2.hi)
      simp only [List.setIfInBounds_toArray, List.set_cons_zero, List.set_cons_succ] at bj
      clear sf sl sc0 sc1
      generalize ((V72.setCell ⟨pj, 0, none⟩ (.int .i64 R2.lo)).setCell ⟨pj, 1, none⟩ (.int .i64 R2.hi)) = V73 at *
      refine ⟨inEx XA18, ?_⟩
      repeat (refine tq_quiet rfl ?_; go_big_quiet_step (fail); refine wpQuiet_nil ?_)
      refine tq_done (r := [_]) rfl ?_
      go_wp2_with fail
      exact hrest V73 pj R2 ev2 _ (XA18) yj bj hc2 (exFrame (by kernel_rfl))
    ·
     go_wp2_with fail
     have sj := ((Below.refl V5.heap.size V5)).size
     try simp at sj
     have N17 := ex_alloc (Below.refl V5.heap.size V5) (.cells #[.int .i64 0, .int .i64 0] 41)
     have bj : Blk (V5.alloc (.cells #[.int .i64 0, .int .i64 0] 41)) (V5.heap.size) 41 #[.int .i64 0, .int .i64 0] := Blk.new' _ _ _ (by first | rfl | (simp; done) | (simp; omega))
     obtain ⟨pj, hpj⟩ : ∃ p, V5.heap.size = p := ⟨_, rfl⟩
     rw [hpj] at bj
     try rw [hpj]
     have yj : V5.heap.size ≤ pj := by omega
     clear sj
     refine ⟨inEx (N17).drew, ?_⟩
     repeat (refine tq_quiet rfl ?_; go_big_quiet_step (fail); refine wpQuiet_nil ?_)
     refine tq_loud rfl ?_
     go_wp2_with fail
     refine (sr_Tube t Ab Ad cb cd _ (hg.go ((N17).drew)) (by omega) (by omega)).mono ?_
     rintro e V74 ⟨⟨Ab1, Ad1, cb1, cd1, rfl, hg1⟩, hV74⟩
     replace bj := Blk.below (Blk.drew bj) hV74 bj.lt
     have N1 := ex_trans (N17).drew hV74
     go_wp2_with fail
     refine ⟨inEx N1, ?_⟩
     repeat (refine tq_quiet rfl ?_; go_big_quiet_step (fail); refine wpQuiet_nil ?_)
     refine tq_loud rfl ?_
     go_wp2_with fail
     refine (History_any _ _ h _ (by omega) (hh.go (N1))).mono ?_
     rintro e V75 ⟨⟨Ah1, ch1, rfl, -, -, hh1⟩, hV75⟩
     replace bj := Blk.below bj hV75 bj.lt
     have N3 := ex_trans N1 hV75
     go_wp2_with fail
     replace hg1 := hg1.go hV75
     refine ⟨inEx N3, ?_⟩
     repeat (refine tq_quiet rfl ?_; go_big_quiet_step (fail); refine wpQuiet_nil ?_)
     refine tq_loud rfl ?_
     go_wp2_with fail
     refine (Ices_any _ _ l _ (by omega) (hi.go (N3))).mono ?_
     rintro e V76 ⟨⟨Ai1, ci1, rfl, -, -, hi1⟩, hV76⟩
     replace bj := Blk.below bj hV76 bj.lt
     have N5 := ex_trans N3 hV76
     go_wp2_with fail
     replace hg1 := hg1.go hV76
     replace hh1 := hh1.go hV76
     refine ⟨inEx N5, ?_⟩
     repeat (refine tq_quiet rfl ?_; go_big_quiet_step (fail); refine wpQuiet_nil ?_)
     refine tq_loud rfl ?_
     go_wp2_with fail
     refine (sr_Reading r _).mono ?_
     rintro e V77 ⟨rfl, hV77⟩
     replace bj := Blk.below bj hV77 bj.lt
     have N7 := ex_trans N5 hV77
     go_wp2_with fail
     replace hg1 := hg1.go hV77
     replace hh1 := hh1.go hV77
     replace hi1 := hi1.go hV77
     refine ⟨inEx N7, ?_⟩
     repeat (refine tq_quiet rfl ?_; go_big_quiet_step (fail); refine wpQuiet_nil ?_)
     refine tq_loud rfl ?_
     go_wp2_with fail
     refine (Accept_v t Ab1 Ad1 cb1 cd1 Ah1 Ai1 ch1 ci1 h l r (m1 + m2) _ hg1 hh1 hi1 (by omega)).mono ?_
     rintro e V78 ⟨⟨R2, ev2, rfl, hc2⟩, hV78⟩
     replace bj := Blk.below bj hV78 bj.lt
     have N13 := ex_trans N7 hV78
     go_wp2_with fail
     refine ⟨inEx N13, ?_⟩
     repeat (refine tq_quiet rfl ?_; go_big_quiet_step (fail); refine wpQuiet_nil ?_)
     refine tq_loud rfl ?_
     have XA18 := N13
     generalize V78 = V79 at *
     have sc0 : V79.cell? ⟨pj, 0, none⟩ = some (.int .i64 0) := bj.cell 0
     have sc1 : V79.cell? ⟨pj, 1, none⟩ = some (.int .i64 0) := bj.cell 1
     have sf := bj.frozen0
     have sl := bj.lt
     go_wp2_with fail
     replace bj := bj.set_ 0 (.int .i64 R2.lo)
     replace XA18 := ex_set (p := ⟨pj, 0, none⟩) XA18 yj (.int .i64 R2.lo)
     replace bj := bj.set_ 1 (.int .i64 R2.hi)
     replace XA18 := ex_set (p := ⟨pj, 1, none⟩) XA18 yj (.int .i64 R2.hi)
     simp only [List.setIfInBounds_toArray, List.set_cons_zero, List.set_cons_succ] at bj
     clear sf sl sc0 sc1
     generalize ((V79.setCell ⟨pj, 0, none⟩ (.int .i64 R2.lo)).setCell ⟨pj, 1, none⟩ (.int .i64 R2.hi)) = V80 at *
     refine ⟨inEx XA18, ?_⟩
     repeat (refine tq_quiet rfl ?_; go_big_quiet_step (fail); refine wpQuiet_nil ?_)
     refine tq_done (r := [_]) rfl ?_
     go_wp2_with fail
     exact hrest V80 pj R2 ev2 _ (XA18) yj bj hc2 (exFrame (by kernel_rfl))
   refine wp_region_ext_tq 16 (.quiet 0 (.quiet 2 (.quiet 4 (.quiet 6 (.quiet 8 (.quiet 9 (.fork 1 (.fork 3 (.fork 5 (.fork 7 (.fork 10 (.quiet 11 (.quiet 12 (.quiet 13 (.loud 14 (.loud 15 .done))))) 14 (.loud 10 (.quiet 11 (.quiet 12 (.quiet 13 (.loud 15 .done)))))) 14 (.loud 7 (.loud 10 (.quiet 11 (.quiet 12 (.quiet 13 (.loud 15 .done))))))) 14 (.loud 5 (.loud 7 (.loud 10 (.quiet 11 (.quiet 12 (.quiet 13 (.loud 15 .done)))))))) 14 (.loud 3 (.loud 5 (.loud 7 (.loud 10 (.quiet 11 (.quiet 12 (.quiet 13 (.loud 15 .done))))))))) 14 (.loud 1 (.loud 3 (.loud 5 (.loud 7 (.loud 10 (.quiet 11 (.quiet 12 (.quiet 13 (.loud 15 .done)))))))))))))))) (by kernel_rfl) (by kernel_rfl) (by intro d _ _ _ _ h; cases d <;> exact h) ?_
   have D0 := (Below.refl V3.heap.size V3).drew
   repeat (refine tq_quiet rfl ?_; first | (refine wpQuiet_load_row rfl 29 _ rfl _ rfl 29 _ (0, 0) _ q1.ex Tryz.underlying29 rfl (by kernel_rfl) ?_; simp only [Act.put, List.setIfInBounds_toArray, List.set_cons_zero, List.set_cons_succ]; refine wpQuiet_nil ?_) | (refine wpQuiet_load_row rfl 33 _ rfl _ rfl 33 _ (0, 0) _ q2.ex Tryz.underlying33 rfl (by kernel_rfl) ?_; simp only [Act.put, List.setIfInBounds_toArray, List.set_cons_zero, List.set_cons_succ]; refine wpQuiet_nil ?_) | (go_big_quiet_step (fail); refine wpQuiet_nil ?_))
   refine tq_fork rfl rfl ?_ ?_
   ·
    go_wp2_with fail
    refine (sr_Tube t Ab Ad cb cd _ (hg.go (((Below.refl V3.heap.size V3)).drew)) (by omega) (by omega)).mono ?_
    rintro e V81 ⟨⟨Ab1, Ad1, cb1, cd1, rfl, hg1⟩, hV81⟩
    have N1 := ex_trans ((Below.refl V3.heap.size V3)).drew hV81
    go_wp2_with fail
    refine ⟨inEx N1, ?_⟩
    repeat (refine tq_quiet rfl ?_; go_big_quiet_step (fail); refine wpQuiet_nil ?_)
    refine tq_fork rfl rfl ?_ ?_
    ·
     go_wp2_with fail
     refine (History_any _ _ h _ (by omega) (hh.go (N1))).mono ?_
     rintro e V82 ⟨⟨Ah1, ch1, rfl, -, -, hh1⟩, hV82⟩
     have N3 := ex_trans N1 hV82
     go_wp2_with fail
     replace hg1 := hg1.go hV82
     refine ⟨inEx N3, ?_⟩
     repeat (refine tq_quiet rfl ?_; go_big_quiet_step (fail); refine wpQuiet_nil ?_)
     refine tq_fork rfl rfl ?_ ?_
     ·
      go_wp2_with fail
      refine (Ices_any _ _ l _ (by omega) (hi.go (N3))).mono ?_
      rintro e V83 ⟨⟨Ai1, ci1, rfl, -, -, hi1⟩, hV83⟩
      have N5 := ex_trans N3 hV83
      go_wp2_with fail
      replace hg1 := hg1.go hV83
      replace hh1 := hh1.go hV83
      refine ⟨inEx N5, ?_⟩
      repeat (refine tq_quiet rfl ?_; go_big_quiet_step (fail); refine wpQuiet_nil ?_)
      refine tq_fork rfl rfl ?_ ?_
      ·
       go_wp2_with fail
       refine (sr_Reading r _).mono ?_
       rintro e V84 ⟨rfl, hV84⟩
       have N7 := ex_trans N5 hV84
       go_wp2_with fail
       replace hg1 := hg1.go hV84
       replace hh1 := hh1.go hV84
       replace hi1 := hi1.go hV84
       refine ⟨inEx N7, ?_⟩
       repeat (refine tq_quiet rfl ?_; go_big_quiet_step (fail); refine wpQuiet_nil ?_)
       refine tq_fork rfl rfl ?_ ?_
       ·
        go_wp2_with fail
        refine (Accept_v t Ab1 Ad1 cb1 cd1 Ah1 Ai1 ch1 ci1 h l r (m1) _ hg1 hh1 hi1 (by omega)).mono ?_
        rintro e V85 ⟨⟨R1, ev1, rfl, hc1⟩, hV85⟩
        have N10 := ex_trans N7 hV85
        go_wp2_with fail
        refine ⟨inEx N10, ?_⟩
        repeat (refine tq_quiet rfl ?_; go_big_quiet_step (fail); refine wpQuiet_nil ?_)
        refine tq_loud rfl ?_
        go_wp2_with fail
        have si := (N10).size
        try simp at si
        have N14 := ex_alloc N10 (.cells #[.int .i64 0, .int .i64 0] 41)
        have bi : Blk (V85.alloc (.cells #[.int .i64 0, .int .i64 0] 41)) (V85.heap.size) 41 #[.int .i64 0, .int .i64 0] := Blk.new' _ _ _ (by first | rfl | (simp; done) | (simp; omega))
        obtain ⟨pi, hpi⟩ : ∃ p, V85.heap.size = p := ⟨_, rfl⟩
        rw [hpi] at bi
        try rw [hpi]
        have yi : V3.heap.size ≤ pi := by omega
        clear si
        refine ⟨inEx N14, ?_⟩
        repeat (refine tq_quiet rfl ?_; go_big_quiet_step (fail); refine wpQuiet_nil ?_)
        refine tq_loud rfl ?_
        have XA15 := N14
        generalize (V85.alloc (.cells #[.int .i64 0, .int .i64 0] 41)) = V86 at *
        have sc0 : V86.cell? ⟨pi, 0, none⟩ = some (.int .i64 0) := bi.cell 0
        have sc1 : V86.cell? ⟨pi, 1, none⟩ = some (.int .i64 0) := bi.cell 1
        have sf := bi.frozen0
        have sl := bi.lt
        go_wp2_with fail
        replace bi := bi.set_ 0 (.int .i64 R1.lo)
        replace XA15 := ex_set (p := ⟨pi, 0, none⟩) XA15 yi (.int .i64 R1.lo)
        replace bi := bi.set_ 1 (.int .i64 R1.hi)
        replace XA15 := ex_set (p := ⟨pi, 1, none⟩) XA15 yi (.int .i64 R1.hi)
        simp only [List.setIfInBounds_toArray, List.set_cons_zero, List.set_cons_succ] at bi
        clear sf sl sc0 sc1
        generalize ((V86.setCell ⟨pi, 0, none⟩ (.int .i64 R1.lo)).setCell ⟨pi, 1, none⟩ (.int .i64 R1.hi)) = V87 at *
        refine ⟨inEx XA15, ?_⟩
        repeat (refine tq_quiet rfl ?_; go_big_quiet_step (fail); refine wpQuiet_nil ?_)
        refine tq_done (r := [_]) rfl ?_
        go_wp2_with fail
        exact hrest V87 pi R1 ev1 _ (XA15) yi bi hc1 (exFrame (by kernel_rfl))
       ·
        go_wp2_with fail
        have si := (N7).size
        try simp at si
        have N14 := ex_alloc N7 (.cells #[.int .i64 0, .int .i64 0] 41)
        have bi : Blk (V84.alloc (.cells #[.int .i64 0, .int .i64 0] 41)) (V84.heap.size) 41 #[.int .i64 0, .int .i64 0] := Blk.new' _ _ _ (by first | rfl | (simp; done) | (simp; omega))
        replace hg1 := hg1.go (ex_alloc (Below.refl V84.heap.size V84) (.cells #[.int .i64 0, .int .i64 0] 41))
        replace hh1 := hh1.go (ex_alloc (Below.refl V84.heap.size V84) (.cells #[.int .i64 0, .int .i64 0] 41))
        replace hi1 := hi1.go (ex_alloc (Below.refl V84.heap.size V84) (.cells #[.int .i64 0, .int .i64 0] 41))
        obtain ⟨pi, hpi⟩ : ∃ p, V84.heap.size = p := ⟨_, rfl⟩
        rw [hpi] at bi
        try rw [hpi]
        have yi : V3.heap.size ≤ pi := by omega
        clear si
        refine ⟨inEx N14, ?_⟩
        repeat (refine tq_quiet rfl ?_; go_big_quiet_step (fail); refine wpQuiet_nil ?_)
        refine tq_loud rfl ?_
        go_wp2_with fail
        refine (Accept_v t Ab1 Ad1 cb1 cd1 Ah1 Ai1 ch1 ci1 h l r (m1) _ hg1 hh1 hi1 (by omega)).mono ?_
        rintro e V88 ⟨⟨R1, ev1, rfl, hc1⟩, hV88⟩
        replace bi := Blk.below bi hV88 bi.lt
        have N10 := ex_trans N14 hV88
        go_wp2_with fail
        refine ⟨inEx N10, ?_⟩
        repeat (refine tq_quiet rfl ?_; go_big_quiet_step (fail); refine wpQuiet_nil ?_)
        refine tq_loud rfl ?_
        have XA15 := N10
        generalize V88 = V89 at *
        have sc0 : V89.cell? ⟨pi, 0, none⟩ = some (.int .i64 0) := bi.cell 0
        have sc1 : V89.cell? ⟨pi, 1, none⟩ = some (.int .i64 0) := bi.cell 1
        have sf := bi.frozen0
        have sl := bi.lt
        go_wp2_with fail
        replace bi := bi.set_ 0 (.int .i64 R1.lo)
        replace XA15 := ex_set (p := ⟨pi, 0, none⟩) XA15 yi (.int .i64 R1.lo)
        replace bi := bi.set_ 1 (.int .i64 R1.hi)
        replace XA15 := ex_set (p := ⟨pi, 1, none⟩) XA15 yi (.int .i64 R1.hi)
        simp only [List.setIfInBounds_toArray, List.set_cons_zero, List.set_cons_succ] at bi
        clear sf sl sc0 sc1
        generalize ((V89.setCell ⟨pi, 0, none⟩ (.int .i64 R1.lo)).setCell ⟨pi, 1, none⟩ (.int .i64 R1.hi)) = V90 at *
        refine ⟨inEx XA15, ?_⟩
        repeat (refine tq_quiet rfl ?_; go_big_quiet_step (fail); refine wpQuiet_nil ?_)
        refine tq_done (r := [_]) rfl ?_
        go_wp2_with fail
        exact hrest V90 pi R1 ev1 _ (XA15) yi bi hc1 (exFrame (by kernel_rfl))
      ·
       go_wp2_with fail
       have si := (N5).size
       try simp at si
       have N14 := ex_alloc N5 (.cells #[.int .i64 0, .int .i64 0] 41)
       have bi : Blk (V83.alloc (.cells #[.int .i64 0, .int .i64 0] 41)) (V83.heap.size) 41 #[.int .i64 0, .int .i64 0] := Blk.new' _ _ _ (by first | rfl | (simp; done) | (simp; omega))
       replace hg1 := hg1.go (ex_alloc (Below.refl V83.heap.size V83) (.cells #[.int .i64 0, .int .i64 0] 41))
       replace hh1 := hh1.go (ex_alloc (Below.refl V83.heap.size V83) (.cells #[.int .i64 0, .int .i64 0] 41))
       replace hi1 := hi1.go (ex_alloc (Below.refl V83.heap.size V83) (.cells #[.int .i64 0, .int .i64 0] 41))
       obtain ⟨pi, hpi⟩ : ∃ p, V83.heap.size = p := ⟨_, rfl⟩
       rw [hpi] at bi
       try rw [hpi]
       have yi : V3.heap.size ≤ pi := by omega
       clear si
       refine ⟨inEx N14, ?_⟩
       repeat (refine tq_quiet rfl ?_; go_big_quiet_step (fail); refine wpQuiet_nil ?_)
       refine tq_loud rfl ?_
       go_wp2_with fail
       refine (sr_Reading r _).mono ?_
       rintro e V91 ⟨rfl, hV91⟩
       replace bi := Blk.below bi hV91 bi.lt
       have N7 := ex_trans N14 hV91
       go_wp2_with fail
       replace hg1 := hg1.go hV91
       replace hh1 := hh1.go hV91
       replace hi1 := hi1.go hV91
       refine ⟨inEx N7, ?_⟩
       repeat (refine tq_quiet rfl ?_; go_big_quiet_step (fail); refine wpQuiet_nil ?_)
       refine tq_loud rfl ?_
       go_wp2_with fail
       refine (Accept_v t Ab1 Ad1 cb1 cd1 Ah1 Ai1 ch1 ci1 h l r (m1) _ hg1 hh1 hi1 (by omega)).mono ?_
       rintro e V92 ⟨⟨R1, ev1, rfl, hc1⟩, hV92⟩
       replace bi := Blk.below bi hV92 bi.lt
       have N10 := ex_trans N7 hV92
       go_wp2_with fail
       refine ⟨inEx N10, ?_⟩
       repeat (refine tq_quiet rfl ?_; go_big_quiet_step (fail); refine wpQuiet_nil ?_)
       refine tq_loud rfl ?_
       have XA15 := N10
       generalize V92 = V93 at *
       have sc0 : V93.cell? ⟨pi, 0, none⟩ = some (.int .i64 0) := bi.cell 0
       have sc1 : V93.cell? ⟨pi, 1, none⟩ = some (.int .i64 0) := bi.cell 1
       have sf := bi.frozen0
       have sl := bi.lt
       go_wp2_with fail
       replace bi := bi.set_ 0 (.int .i64 R1.lo)
       replace XA15 := ex_set (p := ⟨pi, 0, none⟩) XA15 yi (.int .i64 R1.lo)
       replace bi := bi.set_ 1 (.int .i64 R1.hi)
       replace XA15 := ex_set (p := ⟨pi, 1, none⟩) XA15 yi (.int .i64 R1.hi)
       simp only [List.setIfInBounds_toArray, List.set_cons_zero, List.set_cons_succ] at bi
       clear sf sl sc0 sc1
       generalize ((V93.setCell ⟨pi, 0, none⟩ (.int .i64 R1.lo)).setCell ⟨pi, 1, none⟩ (.int .i64 R1.hi)) = V94 at *
       refine ⟨inEx XA15, ?_⟩
       repeat (refine tq_quiet rfl ?_; go_big_quiet_step (fail); refine wpQuiet_nil ?_)
       refine tq_done (r := [_]) rfl ?_
       go_wp2_with fail
       exact hrest V94 pi R1 ev1 _ (XA15) yi bi hc1 (exFrame (by kernel_rfl))
     ·
      go_wp2_with fail
      have si := (N3).size
      try simp at si
      have N14 := ex_alloc N3 (.cells #[.int .i64 0, .int .i64 0] 41)
      have bi : Blk (V82.alloc (.cells #[.int .i64 0, .int .i64 0] 41)) (V82.heap.size) 41 #[.int .i64 0, .int .i64 0] := Blk.new' _ _ _ (by first | rfl | (simp; done) | (simp; omega))
      replace hg1 := hg1.go (ex_alloc (Below.refl V82.heap.size V82) (.cells #[.int .i64 0, .int .i64 0] 41))
      replace hh1 := hh1.go (ex_alloc (Below.refl V82.heap.size V82) (.cells #[.int .i64 0, .int .i64 0] 41))
      obtain ⟨pi, hpi⟩ : ∃ p, V82.heap.size = p := ⟨_, rfl⟩
      rw [hpi] at bi
      try rw [hpi]
      have yi : V3.heap.size ≤ pi := by omega
      clear si
      refine ⟨inEx N14, ?_⟩
      repeat (refine tq_quiet rfl ?_; go_big_quiet_step (fail); refine wpQuiet_nil ?_)
      refine tq_loud rfl ?_
      go_wp2_with fail
      refine (Ices_any _ _ l _ (by omega) (hi.go (N14))).mono ?_
      rintro e V95 ⟨⟨Ai1, ci1, rfl, -, -, hi1⟩, hV95⟩
      replace bi := Blk.below bi hV95 bi.lt
      have N5 := ex_trans N14 hV95
      go_wp2_with fail
      replace hg1 := hg1.go hV95
      replace hh1 := hh1.go hV95
      refine ⟨inEx N5, ?_⟩
      repeat (refine tq_quiet rfl ?_; go_big_quiet_step (fail); refine wpQuiet_nil ?_)
      refine tq_loud rfl ?_
      go_wp2_with fail
      refine (sr_Reading r _).mono ?_
      rintro e V96 ⟨rfl, hV96⟩
      replace bi := Blk.below bi hV96 bi.lt
      have N7 := ex_trans N5 hV96
      go_wp2_with fail
      replace hg1 := hg1.go hV96
      replace hh1 := hh1.go hV96
      replace hi1 := hi1.go hV96
      refine ⟨inEx N7, ?_⟩
      repeat (refine tq_quiet rfl ?_; go_big_quiet_step (fail); refine wpQuiet_nil ?_)
      refine tq_loud rfl ?_
      go_wp2_with fail
      refine (Accept_v t Ab1 Ad1 cb1 cd1 Ah1 Ai1 ch1 ci1 h l r (m1) _ hg1 hh1 hi1 (by omega)).mono ?_
      rintro e V97 ⟨⟨R1, ev1, rfl, hc1⟩, hV97⟩
      replace bi := Blk.below bi hV97 bi.lt
      have N10 := ex_trans N7 hV97
      go_wp2_with fail
      refine ⟨inEx N10, ?_⟩
      repeat (refine tq_quiet rfl ?_; go_big_quiet_step (fail); refine wpQuiet_nil ?_)
      refine tq_loud rfl ?_
      have XA15 := N10
      generalize V97 = V98 at *
      have sc0 : V98.cell? ⟨pi, 0, none⟩ = some (.int .i64 0) := bi.cell 0
      have sc1 : V98.cell? ⟨pi, 1, none⟩ = some (.int .i64 0) := bi.cell 1
      have sf := bi.frozen0
      have sl := bi.lt
      go_wp2_with fail
      replace bi := bi.set_ 0 (.int .i64 R1.lo)
      replace XA15 := ex_set (p := ⟨pi, 0, none⟩) XA15 yi (.int .i64 R1.lo)
      replace bi := bi.set_ 1 (.int .i64 R1.hi)
      replace XA15 := ex_set (p := ⟨pi, 1, none⟩) XA15 yi (.int .i64 R1.hi)
      simp only [List.setIfInBounds_toArray, List.set_cons_zero, List.set_cons_succ] at bi
      clear sf sl sc0 sc1
      generalize ((V98.setCell ⟨pi, 0, none⟩ (.int .i64 R1.lo)).setCell ⟨pi, 1, none⟩ (.int .i64 R1.hi)) = V99 at *
      refine ⟨inEx XA15, ?_⟩
      repeat (refine tq_quiet rfl ?_; go_big_quiet_step (fail); refine wpQuiet_nil ?_)
      refine tq_done (r := [_]) rfl ?_
      go_wp2_with fail
      exact hrest V99 pi R1 ev1 _ (XA15) yi bi hc1 (exFrame (by kernel_rfl))
    ·
     go_wp2_with fail
     have si := (N1).size
     try simp at si
     have N14 := ex_alloc N1 (.cells #[.int .i64 0, .int .i64 0] 41)
     have bi : Blk (V81.alloc (.cells #[.int .i64 0, .int .i64 0] 41)) (V81.heap.size) 41 #[.int .i64 0, .int .i64 0] := Blk.new' _ _ _ (by first | rfl | (simp; done) | (simp; omega))
     replace hg1 := hg1.go (ex_alloc (Below.refl V81.heap.size V81) (.cells #[.int .i64 0, .int .i64 0] 41))
     obtain ⟨pi, hpi⟩ : ∃ p, V81.heap.size = p := ⟨_, rfl⟩
     rw [hpi] at bi
     try rw [hpi]
     have yi : V3.heap.size ≤ pi := by omega
     clear si
     refine ⟨inEx N14, ?_⟩
     repeat (refine tq_quiet rfl ?_; go_big_quiet_step (fail); refine wpQuiet_nil ?_)
     refine tq_loud rfl ?_
     go_wp2_with fail
     refine (History_any _ _ h _ (by omega) (hh.go (N14))).mono ?_
     rintro e V100 ⟨⟨Ah1, ch1, rfl, -, -, hh1⟩, hV100⟩
     replace bi := Blk.below bi hV100 bi.lt
     have N3 := ex_trans N14 hV100
     go_wp2_with fail
     replace hg1 := hg1.go hV100
     refine ⟨inEx N3, ?_⟩
     repeat (refine tq_quiet rfl ?_; go_big_quiet_step (fail); refine wpQuiet_nil ?_)
     refine tq_loud rfl ?_
     go_wp2_with fail
     refine (Ices_any _ _ l _ (by omega) (hi.go (N3))).mono ?_
     rintro e V101 ⟨⟨Ai1, ci1, rfl, -, -, hi1⟩, hV101⟩
     replace bi := Blk.below bi hV101 bi.lt
     have N5 := ex_trans N3 hV101
     go_wp2_with fail
     replace hg1 := hg1.go hV101
     replace hh1 := hh1.go hV101
     refine ⟨inEx N5, ?_⟩
     repeat (refine tq_quiet rfl ?_; go_big_quiet_step (fail); refine wpQuiet_nil ?_)
     refine tq_loud rfl ?_
     go_wp2_with fail
     refine (sr_Reading r _).mono ?_
     rintro e V102 ⟨rfl, hV102⟩
     replace bi := Blk.below bi hV102 bi.lt
     have N7 := ex_trans N5 hV102
     go_wp2_with fail
     replace hg1 := hg1.go hV102
     replace hh1 := hh1.go hV102
     replace hi1 := hi1.go hV102
     refine ⟨inEx N7, ?_⟩
     repeat (refine tq_quiet rfl ?_; go_big_quiet_step (fail); refine wpQuiet_nil ?_)
     refine tq_loud rfl ?_
     go_wp2_with fail
     refine (Accept_v t Ab1 Ad1 cb1 cd1 Ah1 Ai1 ch1 ci1 h l r (m1) _ hg1 hh1 hi1 (by omega)).mono ?_
     rintro e V103 ⟨⟨R1, ev1, rfl, hc1⟩, hV103⟩
     replace bi := Blk.below bi hV103 bi.lt
     have N10 := ex_trans N7 hV103
     go_wp2_with fail
     refine ⟨inEx N10, ?_⟩
     repeat (refine tq_quiet rfl ?_; go_big_quiet_step (fail); refine wpQuiet_nil ?_)
     refine tq_loud rfl ?_
     have XA15 := N10
     generalize V103 = V104 at *
     have sc0 : V104.cell? ⟨pi, 0, none⟩ = some (.int .i64 0) := bi.cell 0
     have sc1 : V104.cell? ⟨pi, 1, none⟩ = some (.int .i64 0) := bi.cell 1
     have sf := bi.frozen0
     have sl := bi.lt
     go_wp2_with fail
     replace bi := bi.set_ 0 (.int .i64 R1.lo)
     replace XA15 := ex_set (p := ⟨pi, 0, none⟩) XA15 yi (.int .i64 R1.lo)
     replace bi := bi.set_ 1 (.int .i64 R1.hi)
     replace XA15 := ex_set (p := ⟨pi, 1, none⟩) XA15 yi (.int .i64 R1.hi)
     simp only [List.setIfInBounds_toArray, List.set_cons_zero, List.set_cons_succ] at bi
     clear sf sl sc0 sc1
     generalize ((V104.setCell ⟨pi, 0, none⟩ (.int .i64 R1.lo)).setCell ⟨pi, 1, none⟩ (.int .i64 R1.hi)) = V105 at *
     refine ⟨inEx XA15, ?_⟩
     repeat (refine tq_quiet rfl ?_; go_big_quiet_step (fail); refine wpQuiet_nil ?_)
     refine tq_done (r := [_]) rfl ?_
     go_wp2_with fail
     exact hrest V105 pi R1 ev1 _ (XA15) yi bi hc1 (exFrame (by kernel_rfl))
   ·
    go_wp2_with fail
    have si := ((Below.refl V3.heap.size V3)).size
    try simp at si
    have N14 := ex_alloc (Below.refl V3.heap.size V3) (.cells #[.int .i64 0, .int .i64 0] 41)
    have bi : Blk (V3.alloc (.cells #[.int .i64 0, .int .i64 0] 41)) (V3.heap.size) 41 #[.int .i64 0, .int .i64 0] := Blk.new' _ _ _ (by first | rfl | (simp; done) | (simp; omega))
    obtain ⟨pi, hpi⟩ : ∃ p, V3.heap.size = p := ⟨_, rfl⟩
    rw [hpi] at bi
    try rw [hpi]
    have yi : V3.heap.size ≤ pi := by omega
    clear si
    refine ⟨inEx (N14).drew, ?_⟩
    repeat (refine tq_quiet rfl ?_; go_big_quiet_step (fail); refine wpQuiet_nil ?_)
    refine tq_loud rfl ?_
    go_wp2_with fail
    refine (sr_Tube t Ab Ad cb cd _ (hg.go ((N14).drew)) (by omega) (by omega)).mono ?_
    rintro e V106 ⟨⟨Ab1, Ad1, cb1, cd1, rfl, hg1⟩, hV106⟩
    replace bi := Blk.below (Blk.drew bi) hV106 bi.lt
    have N1 := ex_trans (N14).drew hV106
    go_wp2_with fail
    refine ⟨inEx N1, ?_⟩
    repeat (refine tq_quiet rfl ?_; go_big_quiet_step (fail); refine wpQuiet_nil ?_)
    refine tq_loud rfl ?_
    go_wp2_with fail
    refine (History_any _ _ h _ (by omega) (hh.go (N1))).mono ?_
    rintro e V107 ⟨⟨Ah1, ch1, rfl, -, -, hh1⟩, hV107⟩
    replace bi := Blk.below bi hV107 bi.lt
    have N3 := ex_trans N1 hV107
    go_wp2_with fail
    replace hg1 := hg1.go hV107
    refine ⟨inEx N3, ?_⟩
    repeat (refine tq_quiet rfl ?_; go_big_quiet_step (fail); refine wpQuiet_nil ?_)
    refine tq_loud rfl ?_
    go_wp2_with fail
    refine (Ices_any _ _ l _ (by omega) (hi.go (N3))).mono ?_
    rintro e V108 ⟨⟨Ai1, ci1, rfl, -, -, hi1⟩, hV108⟩
    replace bi := Blk.below bi hV108 bi.lt
    have N5 := ex_trans N3 hV108
    go_wp2_with fail
    replace hg1 := hg1.go hV108
    replace hh1 := hh1.go hV108
    refine ⟨inEx N5, ?_⟩
    repeat (refine tq_quiet rfl ?_; go_big_quiet_step (fail); refine wpQuiet_nil ?_)
    refine tq_loud rfl ?_
    go_wp2_with fail
    refine (sr_Reading r _).mono ?_
    rintro e V109 ⟨rfl, hV109⟩
    replace bi := Blk.below bi hV109 bi.lt
    have N7 := ex_trans N5 hV109
    go_wp2_with fail
    replace hg1 := hg1.go hV109
    replace hh1 := hh1.go hV109
    replace hi1 := hi1.go hV109
    refine ⟨inEx N7, ?_⟩
    repeat (refine tq_quiet rfl ?_; go_big_quiet_step (fail); refine wpQuiet_nil ?_)
    refine tq_loud rfl ?_
    go_wp2_with fail
    refine (Accept_v t Ab1 Ad1 cb1 cd1 Ah1 Ai1 ch1 ci1 h l r (m1) _ hg1 hh1 hi1 (by omega)).mono ?_
    rintro e V110 ⟨⟨R1, ev1, rfl, hc1⟩, hV110⟩
    replace bi := Blk.below bi hV110 bi.lt
    have N10 := ex_trans N7 hV110
    go_wp2_with fail
    refine ⟨inEx N10, ?_⟩
    repeat (refine tq_quiet rfl ?_; go_big_quiet_step (fail); refine wpQuiet_nil ?_)
    refine tq_loud rfl ?_
    have XA15 := N10
    generalize V110 = V111 at *
    have sc0 : V111.cell? ⟨pi, 0, none⟩ = some (.int .i64 0) := bi.cell 0
    have sc1 : V111.cell? ⟨pi, 1, none⟩ = some (.int .i64 0) := bi.cell 1
    have sf := bi.frozen0
    have sl := bi.lt
    go_wp2_with fail
    replace bi := bi.set_ 0 (.int .i64 R1.lo)
    replace XA15 := ex_set (p := ⟨pi, 0, none⟩) XA15 yi (.int .i64 R1.lo)
    replace bi := bi.set_ 1 (.int .i64 R1.hi)
    replace XA15 := ex_set (p := ⟨pi, 1, none⟩) XA15 yi (.int .i64 R1.hi)
    simp only [List.setIfInBounds_toArray, List.set_cons_zero, List.set_cons_succ] at bi
    clear sf sl sc0 sc1
    generalize ((V111.setCell ⟨pi, 0, none⟩ (.int .i64 R1.lo)).setCell ⟨pi, 1, none⟩ (.int .i64 R1.hi)) = V112 at *
    refine ⟨inEx XA15, ?_⟩
    repeat (refine tq_quiet rfl ?_; go_big_quiet_step (fail); refine wpQuiet_nil ?_)
    refine tq_done (r := [_]) rfl ?_
    go_wp2_with fail
    exact hrest V112 pi R1 ev1 _ (XA15) yi bi hc1 (exFrame (by kernel_rfl))


end Go.Proofs.YtkaogjhnogkcdaaGreat
end

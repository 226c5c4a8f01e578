/- The law StemIce (walk). -/
import Derived.Test.YtkaogjhnogkcdaaGreatI21
import Derived.Test.YtkaogjhnogkcdaaGreatI24
import Derived.Test.YtkaogjhnogkcdaaGreatI22
import Derived.Test.YtkaogjhnogkcdaaGreatI13
import Derived.Test.YtkaogjhnogkcdaaGreatI20
import Derived.Test.YtkaogjhnogkcdaaGreatI25
import Derived.Test.YtkaogjhnogkcdaaGreatI19
set_option linter.unusedVariables false
set_option linter.unusedSimpArgs false
set_option linter.unusedSectionVars false
section
namespace Go.Proofs.YtkaogjhnogkcdaaGreat
open Go.RowKit
attribute [local go_sem] Ex.cell? Ex.frozen?

set_option maxRecDepth 100000 in
set_option maxHeartbeats 12800000 in
theorem sl_ice (t : Tb) (Ab Ad : Option Addr) (cb cd : Nat) (Ah Aw : Option Addr) (ch cw : Nat) (h : List Rg) (ws : List Int) (m : Int) (r : Rd) (w : World) (hg : GlIn w w.heap.size t.g Ab Ad) (hh : SlAt w w.heap.size 2 Ah h.length (fR h)) (hw : SlAt w w.heap.size 1 Aw ws.length (fU ws)) (hwb : ∀ k, k < ws.length → 0 ≤ gI ws k ∧ gI ws k ≤ 65535) (hwl : ws.length ≤ maxLen) (hm : 0 ≤ m ∧ m ≤ 255) :
  Calls Tryz.prog 14 #[.agg #[.int .i64 t.g.base, .slice Ab t.g.bands.length cb, .slice Ad t.g.depths.length cd, .int .i64 t.g.blo, .int .i64 t.g.bhi, .int .i64 t.k.lo, .int .i64 t.k.hi, .int .i64 t.lag.lo, .int .i64 t.lag.hi, .int .i64 t.sq.lo, .int .i64 t.sq.hi, .int .i64 t.term], .slice Ah h.length ch, .slice Aw ws.length cw, .int .u8 m, .agg #[.int .i64 r.day, .int .i64 r.shown, .int .i64 r.err, .int .i64 r.bare, .int .i64 r.air.lo, .int .i64 r.air.hi, .int .i64 r.rate.lo, .int .i64 r.rate.hi, .int .i64 r.deep, .bool r.broken]] w fun e w' => e = .returned (.bool true) ∧ Below w.heap.size w w' := by
 have hg_0 := hg
 have hh_0 := hh
 have HWB := Lib.hid hwb
 clear hwb
 go_enter Tryz.func14, Tryz.ntmps14
 go_upto_region 1 with fail
 show Code.wp _ _ _ _ _
 refine box2 (K := fun V => Code.wp _ _ _ _ V) ?_
 intro V hb1 q1 q2
 replace hg := hg.go hb1
 replace hh := (hh.below hb1).up hb1.size
 replace hw := (hw.below hb1).up hb1.size
 obtain ⟨pq1, hpq1⟩ : ∃ p, w.heap.size = p := ⟨_, rfl⟩
 obtain ⟨pq2, hpq2⟩ : ∃ p, w.heap.size + 1 = p := ⟨_, rfl⟩
 rw [hpq2] at q2 ⊢
 rw [hpq1] at q1 ⊢
 have hp1 : w.heap.size ≤ pq1 := by omega
 have hp2 : w.heap.size ≤ pq2 := by omega
 have hn12 : pq1 ≠ pq2 := by omega
 clear hpq1 hpq2
 go_wp2_with (refine pause_at 21 rfl ?_)
 refine Paused.mk ?_
 refine wpList_load_row rfl 29 _ rfl _ rfl 29 _ (0, 0) _ (q1) Tryz.underlying29 rfl (by kernel_rfl) ?_
 have HP2 := q2.lt
 go_wp2_with fail
 refine (sl_livesY t Ab Ad cb cd Ah Aw ch cw h ws m _ hg hh hw HWB.out hwl hm).mono ?_
 rintro e V1 ⟨hlv, hV1⟩
 replace q1 := q1.below hV1 q1.lt
 replace q2 := q2.below hV1 q2.lt
 replace hg := hg.go hV1
 replace hh := (hh.below hV1).up hV1.size
 replace hw := (hw.below hV1).up hV1.size
 have B_V1 := ex_trans hb1 hV1
 obtain ⟨hlv⟩ := hlv
 rcases hlv with ⟨A0, n0, c0, A0', n0', c0', rfl⟩ | ⟨Ai, ci, l, Az, cz, zl, rfl, hl, hci1, hci2, hi, hz, hyi, hyz⟩
 ·
  clear HP2
  go_wp2_with fail
  refine (sl_awake _).mono ?_
  rintro e V2 ⟨rfl, hV2⟩
  replace q1 := q1.below hV2 q1.lt
  replace q2 := q2.below hV2 q2.lt
  replace hg := hg.go hV2
  replace hh := (hh.below hV2).up hV2.size
  replace hw := (hw.below hV2).up hV2.size
  have B_V2 := ex_trans B_V1 hV2
  go_wp2
  go_ret
  exact ⟨rfl, B_V2⟩
 ·
  have HL := Lib.hid hl
  have hnb := hl.nb
  have hnd := hl.nd
  have hnh := hl.nh
  have hl4 := hl.l4
  have HYI := Lib.hid hyi
  have HYZ := Lib.hid hyz
  replace HP2 := Lib.hid HP2
  clear hl hyi hyz
  have d7 : decide (7 < (l.length : Int)) = false := decide_eq_false (by omega)
  go_wp2_with (refine pause_at 32 rfl ?_)
  refine Paused.mk ?_
  refine wpList_load_rowG (by kernel_rfl) 33 _ rfl _ (by kernel_rfl) 33 _ (0, 0) _ (q2) Tryz.underlying33 rfl (by kernel_rfl) ?_
  go_wp2_with fail
  refine (sr_isreading h.length r _ (by omega)).mono ?_
  rintro e V3 ⟨rfl, hV3⟩
  replace q1 := q1.below hV3 q1.lt
  replace q2 := q2.below hV3 q2.lt
  replace hg := hg.go hV3
  replace hh := (hh.below hV3).up hV3.size
  replace hw := (hw.below hV3).up hV3.size
  replace hi := (hi.below hV3).up hV3.size
  replace hz := (hz.below hV3).up hV3.size
  have B_V3 := ex_trans B_V1 hV3
  rcases Bool.eq_false_or_eq_true (rdOk h.length r) with hd | hd
  rotate_left
  ·
   rw [hd]
   clear hd
   go_wp2_with fail
   refine (sl_awake _).mono ?_
   rintro e V4 ⟨rfl, hV4⟩
   replace q1 := q1.below hV4 q1.lt
   replace q2 := q2.below hV4 q2.lt
   replace hg := hg.go hV4
   replace hh := (hh.below hV4).up hV4.size
   replace hw := (hw.below hV4).up hV4.size
   replace hi := (hi.below hV4).up hV4.size
   replace hz := (hz.below hV4).up hV4.size
   have B_V4 := ex_trans B_V3 hV4
   go_wp2
   go_ret
   exact ⟨rfl, B_V4⟩
  ·
   rw [hd]
   have HA := Lib.hid (ask_of HL.out.use0 hd)
   have HO := Lib.hid (ask_bd HA.out)
   obtain ⟨k, hk, hkl⟩ := HO.out.day
   have hday : 0 ≤ r.day ∧ r.day ≤ 1000000 := by omega
   have HK := Lib.hid hk
   have HKT : Hid (r.day.toNat = k) := Lib.hid (by omega)
   clear hk hd
   rcases Bool.eq_false_or_eq_true r.broken with hb | hb
   ·
    have b9 : V3.cell? ⟨pq2, 9, none⟩ = some (.bool r.broken) := q2.cell 9
    rw [hb] at b9
    have lb := q2.lt
    clear hb
    go_wp2_with fail
    refine (sl_awake _).mono ?_
    rintro e V5 ⟨rfl, hV5⟩
    replace q1 := q1.below hV5 q1.lt
    replace q2 := q2.below hV5 q2.lt
    replace hg := hg.go hV5
    replace hh := (hh.below hV5).up hV5.size
    replace hw := (hw.below hV5).up hV5.size
    replace hi := (hi.below hV5).up hV5.size
    replace hz := (hz.below hV5).up hV5.size
    have B_V5 := ex_trans B_V3 hV5
    go_wp2
    go_ret
    exact ⟨rfl, B_V5⟩
   ·
    have b9 : V3.cell? ⟨pq2, 9, none⟩ = some (.bool r.broken) := q2.cell 9
    rw [hb] at b9
    have lb := q2.lt
    have HB := Lib.hid hb
    clear hb
    obtain ⟨vz, hvk⟩ : ∃ v, gI zl k = v := ⟨_, rfl⟩
    have hvb := liv_bd1 HL.out hkl
    obtain ⟨bv, ov, hAz, hbv, v0⟩ := IsInts.at_ hz hkl
    subst hAz
    rw [hvk] at v0 hvb
    have HVK := Lib.hid hvk
    clear hvk
    have b0 : V3.cell? ⟨pq2, 0, none⟩ = some (.int .i64 r.day) := q2.cell 0
    rw [HK.out] at b0
    have hnv : bv ≠ pq2 := by have := HYZ.out bv ov rfl; have := HP2.out; omega
    have HNV := Lib.hid hnv
    clear hnv
    go_upto_region 4 with fail
    skip
    have HSV : Hid (pq2 < V3.heap.size) := Lib.hid q2.lt
    rename_i K0 hK0
    have hrest : ∀ (V6 : World) (px : Nat) (x : Tx) (a : Act), Below V3.heap.size V3 V6 → V3.heap.size ≤ px → Blk V6 px 82 #[.int .i64 x.zero, .int .i64 x.k, .int .i64 x.lag, .int .i64 x.sq, .int .i64 x.air, .int .i64 x.rate, .int .i64 x.off] → Hid (TxIn t r x ∧ x.zero = vz) → (∃ u : Nat → Value, a = ⟨List.toArray (u 0 :: .slice Ah h.length ch :: u 2 :: u 3 :: u 4 :: .pointer (some ⟨pq1, 0, none⟩) :: u 6 :: u 7 :: u 8 :: .pointer (some ⟨pq2, 0, none⟩) :: .bool false :: .slice Ai l.length ci :: .slice (some ⟨bv, ov, none⟩) h.length cz :: u 13 :: .pointer (some ⟨px, 0, none⟩) :: u 15 :: u 16 :: u 17 :: u 18 :: u 19 :: u 20 :: u 21 :: u 22 :: u 23 :: u 24 :: u 25 :: u 26 :: u 27 :: u 28 :: u 29 :: u 30 :: u 31 :: u 32 :: u 33 :: u 34 :: u 35 :: u 36 :: u 37 :: u 38 :: u 39 :: u 40 :: u 41 :: u 42 :: u 43 :: u 44 :: u 45 :: u 46 :: u 47 :: u 48 :: u 49 :: u 50 :: u 51 :: u 52 :: u 53 :: u 54 :: u 55 :: u 56 :: u 57 :: u 58 :: u 59 :: u 60 :: u 61 :: u 62 :: u 63 :: u 64 :: u 65 :: u 66 :: u 67 :: u 68 :: u 69 :: u 70 :: u 71 :: u 72 :: u 73 :: u 74 :: u 75 :: u 76 :: u 77 :: u 78 :: u 79 :: u 80 :: u 81 :: u 82 :: u 83 :: u 84 :: u 85 :: u 86 :: u 87 :: u 88 :: u 89 :: u 90 :: u 91 :: u 92 :: u 93 :: u 94 :: u 95 :: u 96 :: u 97 :: u 98 :: u 99 :: u 100 :: u 101 :: u 102 :: u 103 :: u 104 :: u 105 :: u 106 :: u 107 :: u 108 :: u 109 :: u 110 :: u 111 :: u 112 :: u 113 :: u 114 :: u 115 :: u 116 :: u 117 :: u 118 :: u 119 :: u 120 :: u 121 :: u 122 :: u 123 :: u 124 :: u 125 :: u 126 :: u 127 :: u 128 :: u 129 :: u 130 :: u 131 :: u 132 :: u 133 :: u 134 :: u 135 :: u 136 :: u 137 :: u 138 :: u 139 :: u 140 :: u 141 :: u 142 :: u 143 :: u 144 :: u 145 :: u 146 :: u 147 :: u 148 :: u 149 :: u 150 :: u 151 :: u 152 :: u 153 :: u 154 :: u 155 :: u 156 :: u 157 :: u 158 :: u 159 :: u 160 :: []), []⟩) → K0 a V6 := by
     rintro V6 px x a hX9 yx bx hx ⟨u, rfl⟩
     refine hK0 _ _ ?_
     clear hK0 K0
     replace q1 := q1.below hX9 q1.lt
     replace q2 := q2.below hX9 q2.lt
     replace hg := hg.go hX9
     replace hh := (hh.below hX9).up hX9.size
     replace hw := (hw.below hX9).up hX9.size
     replace hi := (hi.below hX9).up hX9.size
     replace hz := (hz.below hX9).up hX9.size
     have B_V6 := ex_trans B_V3 hX9
     have zx : w.heap.size ≤ px := by have := B_V3.size; omega
     have HX := Lib.hid hx.out.1
     have HXZ := Lib.hid hx.out.2
     clear hx
     clear b0 v0 hbv lb b9
     clear hw HWB
     clear hg hh
     have hnx2 : px ≠ pq2 := by have := HP2.out; have := HSV.out; omega
     have c1 := q2.cell 1
     have c0 := q2.cell 0
     have fc := q2.frozen0
     have lc := q2.lt
     simp at c0 c1
     rw [HK.out] at c0
     go_wp2_with fail
     clear c0 c1 fc lc
     replace q2 := q2.set_ 1 (.int .i64 (-5000))
     simp only [List.setIfInBounds_toArray, List.set_cons_zero, List.set_cons_succ] at q2
     replace q1 := q1.far (p := ⟨pq2, 1, none⟩) hn12 (.int .i64 (-5000))
     replace bx := bx.far (p := ⟨pq2, 1, none⟩) hnx2 (.int .i64 (-5000))
     replace hz := hz.off (p := ⟨pq2, 1, none⟩) HYZ.out HP2.out (.int .i64 (-5000))
     replace hi := hi.off (p := ⟨pq2, 1, none⟩) HYI.out HP2.out (.int .i64 (-5000))
     have B_V7 := ex_set (p := ⟨pq2, 1, none⟩) B_V6 hp2 (.int .i64 (-5000))
     have hsz_V7 : (V6.setCell ⟨pq2, 1, none⟩ (.int .i64 (-5000))).heap.size = V6.heap.size := by simp
     rw [← hsz_V7] at hz hi
     clear hsz_V7
     generalize V6.setCell ⟨pq2, 1, none⟩ (.int .i64 (-5000)) = V7 at *
     refine wp_loop_ghost (fun n a wr => Rel (fun a wr => ∃ s : Int, (-5000 ≤ s ∧ s ≤ 5000) ∧ Hid ((n : Int) + s = 5000) ∧ Below w.heap.size w wr ∧ Blk wr pq1 29 #[.int .i64 t.g.base, .slice Ab t.g.bands.length cb, .slice Ad t.g.depths.length cd, .int .i64 t.g.blo, .int .i64 t.g.bhi, .int .i64 t.k.lo, .int .i64 t.k.hi, .int .i64 t.lag.lo, .int .i64 t.lag.hi, .int .i64 t.sq.lo, .int .i64 t.sq.hi, .int .i64 t.term] ∧ Blk wr pq2 33 #[.int .i64 r.day, .int .i64 s, .int .i64 r.err, .int .i64 r.bare, .int .i64 r.air.lo, .int .i64 r.air.hi, .int .i64 r.rate.lo, .int .i64 r.rate.hi, .int .i64 r.deep, .bool r.broken] ∧ Blk wr px 82 #[.int .i64 x.zero, .int .i64 x.k, .int .i64 x.lag, .int .i64 x.sq, .int .i64 x.air, .int .i64 x.rate, .int .i64 x.off] ∧ SlAt wr wr.heap.size 1 (some ⟨bv, ov, none⟩) h.length (fI zl) ∧ SlAt wr wr.heap.size 3 Ai l.length (fC l) ∧ ∃ u : Nat → Value, a = ⟨List.toArray (u 0 :: .slice Ah h.length ch :: u 2 :: u 3 :: u 4 :: .pointer (some ⟨pq1, 0, none⟩) :: u 6 :: u 7 :: u 8 :: .pointer (some ⟨pq2, 0, none⟩) :: .bool false :: .slice Ai l.length ci :: .slice (some ⟨bv, ov, none⟩) h.length cz :: u 13 :: .pointer (some ⟨px, 0, none⟩) :: u 15 :: u 16 :: u 17 :: u 18 :: u 19 :: u 20 :: u 21 :: u 22 :: u 23 :: u 24 :: u 25 :: u 26 :: u 27 :: u 28 :: u 29 :: u 30 :: u 31 :: u 32 :: u 33 :: u 34 :: u 35 :: u 36 :: u 37 :: u 38 :: u 39 :: u 40 :: u 41 :: u 42 :: u 43 :: u 44 :: u 45 :: u 46 :: u 47 :: u 48 :: u 49 :: u 50 :: u 51 :: u 52 :: u 53 :: u 54 :: u 55 :: u 56 :: u 57 :: u 58 :: u 59 :: u 60 :: u 61 :: u 62 :: u 63 :: u 64 :: u 65 :: u 66 :: u 67 :: u 68 :: u 69 :: u 70 :: u 71 :: u 72 :: u 73 :: u 74 :: u 75 :: u 76 :: u 77 :: u 78 :: u 79 :: u 80 :: u 81 :: u 82 :: u 83 :: u 84 :: u 85 :: u 86 :: u 87 :: u 88 :: u 89 :: u 90 :: u 91 :: u 92 :: u 93 :: u 94 :: u 95 :: u 96 :: u 97 :: u 98 :: u 99 :: u 100 :: u 101 :: u 102 :: u 103 :: u 104 :: u 105 :: u 106 :: u 107 :: u 108 :: u 109 :: u 110 :: u 111 :: u 112 :: u 113 :: u 114 :: u 115 :: u 116 :: u 117 :: u 118 :: u 119 :: u 120 :: u 121 :: u 122 :: u 123 :: u 124 :: u 125 :: u 126 :: u 127 :: u 128 :: u 129 :: u 130 :: u 131 :: u 132 :: u 133 :: u 134 :: u 135 :: u 136 :: u 137 :: u 138 :: u 139 :: u 140 :: u 141 :: u 142 :: u 143 :: u 144 :: u 145 :: u 146 :: u 147 :: u 148 :: u 149 :: u 150 :: u 151 :: u 152 :: u 153 :: u 154 :: u 155 :: u 156 :: u 157 :: u 158 :: u 159 :: u 160 :: []), []⟩) a wr) 10000 ⟨⟨-5000, by omega, Lib.hid (by omega), B_V7, q1, q2, bx, hz, hi, exFrame (by kernel_rfl)⟩⟩ ?_
     clear q1 q2 bx hz hi B_V7
     rintro n0 a wr ⟨⟨s, hs, HN, hB, q1, q2, bx, hz, hi, u, rfl⟩⟩
     have HRS : Hid (RdBd (atS r s)) := Lib.hid (atS_bd HO.out.rd hs)
     have HXS := Lib.hid (atS_in (s := s) HX.out)
     have hxk := HX.out.ki.bd HO.out.tb
     have HXK := Lib.hid hxk
     have hxa : -100 ≤ x.air ∧ x.air ≤ 100 := by have := HX.out.air; have := HO.out.rd.air; omega
     have hxr : -20 ≤ x.rate ∧ x.rate ≤ 20 := by have := HX.out.rate; have := HO.out.rd.rate; omega
     have hxo : -1000000 ≤ x.off ∧ x.off ≤ 1000000 := by have := HX.out.off; have := HO.out.rd.err; omega
     have hxz : -1000000 ≤ x.zero ∧ x.zero ≤ 1000000 := by rw [HXZ.out]; exact hvb
     clear hxk
     go_wp2_with (refine pause_at 58 rfl ?_)
     refine Paused.mk ?_
     refine wpList_load_row rfl 33 _ rfl _ rfl 33 _ (0, 0) _ (q2) Tryz.underlying33 rfl (by kernel_rfl) ?_
     go_wp2_with (refine pause_at 59 rfl ?_)
     refine Paused.mk ?_
     refine wpList_load_row rfl 82 _ rfl _ rfl 82 _ (0, 0) _ (bx) Tryz.underlying82 rfl (by kernel_rfl) ?_
     go_wp2_with fail
     refine (sr_play (atS r s) x _ HRS.out HXK.out hxa hxr hxo hxz).mono ?_
     rintro e V8 ⟨rfl, hV8⟩
     replace q1 := q1.below hV8 q1.lt
     replace q2 := q2.below hV8 q2.lt
     replace bx := bx.below hV8 bx.lt
     replace hz := (hz.below hV8).up hV8.size
     replace hi := (hi.below hV8).up hV8.size
     have B_V8 := ex_trans hB hV8
     obtain ⟨n, hn⟩ : ∃ n, playW (atS r s) x = n := ⟨_, rfl⟩
     rw [hn]
     have HPN := Lib.hid hn
     clear hn
     by_cases hlt : n < 0 ∧ s < 5000
     ·
      have e1 : decide (n < 0) = true := decide_eq_true hlt.1
      have e2 : decide (s < 5000) = true := decide_eq_true hlt.2
      have hs1 : s < 5000 := hlt.2
      clear hlt
      have hs2 : -5000 ≤ s + 1 ∧ s + 1 ≤ 5000 := by omega
      have HNN : Hid ((((n0 : Int) - 1).toNat : Int) + (s + 1) = 5000) := Lib.hid (by have := HN.out; omega)
      have hn0 : ((n0 : Int) - 1).toNat < n0 := by have := HN.out; omega
      have c1 := q2.cell 1
      have c0 := q2.cell 0
      have fc := q2.frozen0
      have lc := q2.lt
      simp at c0 c1
      rw [HK.out] at c0
      have mq2 := q2.set_ 1 (.int .i64 (s + 1))
      simp only [List.setIfInBounds_toArray, List.set_cons_zero, List.set_cons_succ] at mq2
      have mq1 := q1.far (p := ⟨pq2, 1, none⟩) hn12 (.int .i64 (s + 1))
      have mbx := bx.far (p := ⟨pq2, 1, none⟩) hnx2 (.int .i64 (s + 1))
      have mz := hz.off (p := ⟨pq2, 1, none⟩) HYZ.out HP2.out (.int .i64 (s + 1))
      have mi := hi.off (p := ⟨pq2, 1, none⟩) HYI.out HP2.out (.int .i64 (s + 1))
      have mB := ex_set (p := ⟨pq2, 1, none⟩) B_V8 hp2 (.int .i64 (s + 1))
      have hsq : (V8.setCell ⟨pq2, 1, none⟩ (.int .i64 (s + 1))).heap.size = V8.heap.size := by simp
      rw [← hsq] at mz mi
      clear hsq
      have MM := Lib.hid (And.intro mq1 (And.intro mq2 (And.intro mbx (And.intro mz (And.intro mi mB)))))
      clear mq1 mq2 mbx mz mi mB
      go_wp2
      exact ⟨_, hn0, ⟨⟨s + 1, hs2, HNN, MM.out.2.2.2.2.2, MM.out.1, MM.out.2.1, MM.out.2.2.1, MM.out.2.2.2.1, MM.out.2.2.2.2.1, exFrame (by kernel_rfl)⟩⟩⟩
     ·
      have HLT := Lib.hid hlt
      clear hlt
      have hg := hg_0.go B_V8
      have hh := hh_0.go B_V8
      by_cases h1 : n < 0
      ·
       have e1 : decide (n < 0) = true := decide_eq_true h1
       have e2 : decide (s < 5000) = false := decide_eq_false (fun h => HLT.out ⟨h1, h⟩)
       clear h1
       have c1 := q2.cell 1
       have c0 := q2.cell 0
       have fc := q2.frozen0
       have lc := q2.lt
       simp at c0 c1
       rw [HK.out] at c0
       go_upto_region 8 with fail
       clear c0 c1 fc lc e1 e2
       go_wp2_with (refine pause_at 71 rfl ?_)
       refine Paused.mk ?_
       refine wpList_load_row rfl 33 _ rfl _ rfl 33 _ (0, 0) _ (q2) Tryz.underlying33 rfl (by kernel_rfl) ?_
       go_wp2_with (refine pause_at 72 rfl ?_)
       refine Paused.mk ?_
       refine wpList_load_row rfl 82 _ rfl _ rfl 82 _ (0, 0) _ (bx) Tryz.underlying82 rfl (by kernel_rfl) ?_
       go_wp2_with fail
       refine (sr_play (atS r s) x _ HRS.out HXK.out hxa hxr hxo hxz).mono ?_
       rintro e V9 ⟨rfl, hV9⟩
       replace q1 := q1.below hV9 q1.lt
       replace q2 := q2.below hV9 q2.lt
       replace bx := bx.below hV9 bx.lt
       replace hz := (hz.below hV9).up hV9.size
       replace hi := (hi.below hV9).up hV9.size
       replace hg := hg.go hV9
       replace hh := (hh.below hV9).up hV9.size
       have B_V9 := ex_trans B_V8 hV9
       rw [HPN.out]
       by_cases h0 : n = 0
       rotate_left
       ·
        have e3 : (n != 0) = true := by simp [h0]
        clear h0
        go_wp2_with fail
        refine (sl_awake _).mono ?_
        rintro e V10 ⟨rfl, hV10⟩
        replace q1 := q1.below hV10 q1.lt
        replace q2 := q2.below hV10 q2.lt
        replace bx := bx.below hV10 bx.lt
        replace hz := (hz.below hV10).up hV10.size
        replace hi := (hi.below hV10).up hV10.size
        replace hg := hg.go hV10
        replace hh := (hh.below hV10).up hV10.size
        have B_V10 := ex_trans B_V9 hV10
        go_wp2
        go_ret
        exact ⟨rfl, B_V10⟩
       ·
        have HP0 : Hid (playW (atS r s) x = 0) := Lib.hid (by rw [HPN.out]; exact h0)
        have e3 : (n != 0) = false := by simp [h0]
        clear h0
        go_wp2_with (refine pause_at 76 rfl ?_)
        refine Paused.mk ?_
        refine wpList_load_rowG (by kernel_rfl) 29 _ rfl _ (by kernel_rfl) 29 _ (0, 0) _ (q1) Tryz.underlying29 rfl (by kernel_rfl) ?_
        go_wp2_with (refine pause_at 77 rfl ?_)
        refine Paused.mk ?_
        refine wpList_load_rowG (by kernel_rfl) 33 _ rfl _ (by kernel_rfl) 33 _ (0, 0) _ (q2) Tryz.underlying33 rfl (by kernel_rfl) ?_
        go_wp2_with (refine pause_at 78 rfl ?_)
        refine Paused.mk ?_
        refine wpList_load_rowG (by kernel_rfl) 82 _ rfl _ (by kernel_rfl) 82 _ (0, 0) _ (bx) Tryz.underlying82 rfl (by kernel_rfl) ?_
        clear e3
        go_wp2_with fail
        refine (sr_istruth t Ab Ad cb cd (atS r s) x _ (by have := HRS.out.err; omega) (by have := HRS.out.err; omega)).mono ?_
        rintro e V11 ⟨rfl, hV11⟩
        replace q1 := q1.below hV11 q1.lt
        replace q2 := q2.below hV11 q2.lt
        replace bx := bx.below hV11 bx.lt
        replace hz := (hz.below hV11).up hV11.size
        replace hi := (hi.below hV11).up hV11.size
        replace hg := hg.go hV11
        replace hh := (hh.below hV11).up hV11.size
        have B_V11 := ex_trans B_V9 hV11
        rcases Bool.eq_false_or_eq_true (txOk t (atS r s) x) with hok | hok
        rotate_left
        ·
         rw [hok]
         clear hok
         go_wp2_with fail
         refine (sl_awake _).mono ?_
         rintro e V12 ⟨rfl, hV12⟩
         replace q1 := q1.below hV12 q1.lt
         replace q2 := q2.below hV12 q2.lt
         replace bx := bx.below hV12 bx.lt
         replace hz := (hz.below hV12).up hV12.size
         replace hi := (hi.below hV12).up hV12.size
         replace hg := hg.go hV12
         replace hh := (hh.below hV12).up hV12.size
         have B_V12 := ex_trans B_V11 hV12
         go_wp2
         go_ret
         exact ⟨rfl, B_V12⟩
        ·
         rw [hok]
         have HIC := Lib.hid (ico_in HL.out ⟨by have := HK.out; omega, HO.out.rd⟩ HB.out HX.out hs HP0.out)
         clear hok
         go_upto_region 10 with fail
         rename_i K0 hK0
         have hrest : ∀ (V13 : World) (pi : Nat) (c : Ic) (ev : Int) (a : Act), Below V11.heap.size V11 V13 → V11.heap.size ≤ pi → Blk V13 pi 103 #[.int .i64 (c : Ic).day, .int .i64 (c : Ic).zero, .int .i64 (c : Ic).err] → Hid (c = icoV t (atS r s) ∧ ev = icoE t (atS r s)) → (∃ u : Nat → Value, a = ⟨List.toArray (u 0 :: .slice Ah h.length ch :: u 2 :: u 3 :: u 4 :: .pointer (some ⟨pq1, 0, none⟩) :: u 6 :: u 7 :: u 8 :: .pointer (some ⟨pq2, 0, none⟩) :: .bool false :: .slice Ai l.length ci :: .slice (some ⟨bv, ov, none⟩) h.length cz :: u 13 :: .pointer (some ⟨px, 0, none⟩) :: .pointer (some ⟨pi, 0, none⟩) :: .int .i64 ev :: u 17 :: u 18 :: u 19 :: u 20 :: u 21 :: u 22 :: u 23 :: u 24 :: u 25 :: u 26 :: u 27 :: u 28 :: u 29 :: u 30 :: u 31 :: u 32 :: u 33 :: u 34 :: u 35 :: u 36 :: u 37 :: u 38 :: u 39 :: u 40 :: u 41 :: u 42 :: u 43 :: u 44 :: u 45 :: u 46 :: u 47 :: u 48 :: u 49 :: u 50 :: u 51 :: u 52 :: u 53 :: u 54 :: u 55 :: u 56 :: u 57 :: u 58 :: u 59 :: u 60 :: u 61 :: u 62 :: u 63 :: u 64 :: u 65 :: u 66 :: u 67 :: u 68 :: u 69 :: u 70 :: u 71 :: u 72 :: u 73 :: u 74 :: u 75 :: u 76 :: u 77 :: u 78 :: u 79 :: u 80 :: u 81 :: u 82 :: u 83 :: u 84 :: u 85 :: u 86 :: u 87 :: u 88 :: u 89 :: u 90 :: u 91 :: u 92 :: u 93 :: u 94 :: u 95 :: u 96 :: u 97 :: u 98 :: u 99 :: u 100 :: u 101 :: u 102 :: u 103 :: u 104 :: u 105 :: u 106 :: u 107 :: u 108 :: u 109 :: u 110 :: u 111 :: u 112 :: u 113 :: u 114 :: u 115 :: u 116 :: u 117 :: u 118 :: u 119 :: u 120 :: u 121 :: u 122 :: u 123 :: u 124 :: u 125 :: u 126 :: u 127 :: u 128 :: u 129 :: u 130 :: u 131 :: u 132 :: u 133 :: u 134 :: u 135 :: u 136 :: u 137 :: u 138 :: u 139 :: u 140 :: u 141 :: u 142 :: u 143 :: u 144 :: u 145 :: u 146 :: u 147 :: u 148 :: u 149 :: u 150 :: u 151 :: u 152 :: u 153 :: u 154 :: u 155 :: u 156 :: u 157 :: u 158 :: u 159 :: u 160 :: []), []⟩) → K0 a V13 := by
          rintro V13 pi c ev a hX9 yi bi hc ⟨u, rfl⟩
          refine hK0 _ _ ?_
          clear hK0 K0
          replace q1 := q1.below hX9 q1.lt
          replace q2 := q2.below hX9 q2.lt
          replace bx := bx.below hX9 bx.lt
          replace hz := (hz.below hX9).up hX9.size
          replace hi := (hi.below hX9).up hX9.size
          replace hg := hg.go hX9
          replace hh := (hh.below hX9).up hX9.size
          have B_V13 := ex_trans B_V11 hX9
          have zi : w.heap.size ≤ pi := by have := B_V11.size; omega
          have hic : ev = 10 ∨ (ev = 0 ∧ IceIn r x.zero c) := by rw [hc.out.1, hc.out.2]; exact HIC.out
          clear hc HIC
          rcases hic with rfl | ⟨rfl, hic⟩
          ·
           go_wp2_with fail
           refine (sl_awake _).mono ?_
           rintro e V14 ⟨rfl, hV14⟩
           replace q1 := q1.below hV14 q1.lt
           replace q2 := q2.below hV14 q2.lt
           replace bx := bx.below hV14 bx.lt
           replace hz := (hz.below hV14).up hV14.size
           replace hi := (hi.below hV14).up hV14.size
           replace hg := hg.go hV14
           replace hh := (hh.below hV14).up hV14.size
           replace bi := bi.below hV14 bi.lt
           have B_V14 := ex_trans B_V13 hV14
           go_wp2
           go_ret
           exact ⟨rfl, B_V14⟩
          ·
           rw [HXZ.out] at hic
           have HIN := Lib.hid hic
           have HCD : Hid (c.day = (k : Int)) := Lib.hid (by rw [hic.day]; exact HK.out)
           have hce := hic.err
           have hcz := hic.zero
           have hcl := hic.lo
           have hch := hic.hi
           clear hic
           have i0 := bi.cell 0
           have i1 := bi.cell 1
           have i2 := bi.cell 2
           have li := bi.lt
           simp at i0 i1 i2
           go_upto_region 13 with fail
           rename_i K0 hK0
           have hrest : ∀ (V15 : World) (A7 : Option Addr) (c7 : Nat) (L : List Ic) (a : Act), Below V13.heap.size V13 V15 → SlAt V15 V15.heap.size 3 A7 L.length (fC L) → Hid (L = l ++ [c]) → (∃ u : Nat → Value, a = ⟨List.toArray (u 0 :: .slice Ah h.length ch :: u 2 :: u 3 :: u 4 :: .pointer (some ⟨pq1, 0, none⟩) :: u 6 :: u 7 :: u 8 :: .pointer (some ⟨pq2, 0, none⟩) :: .bool false :: .slice Ai l.length ci :: .slice (some ⟨bv, ov, none⟩) h.length cz :: u 13 :: .pointer (some ⟨px, 0, none⟩) :: .pointer (some ⟨pi, 0, none⟩) :: u 16 :: .slice A7 L.length c7 :: u 18 :: u 19 :: u 20 :: u 21 :: u 22 :: u 23 :: u 24 :: u 25 :: u 26 :: u 27 :: u 28 :: u 29 :: u 30 :: u 31 :: u 32 :: u 33 :: u 34 :: u 35 :: u 36 :: u 37 :: u 38 :: u 39 :: u 40 :: u 41 :: u 42 :: u 43 :: u 44 :: u 45 :: u 46 :: u 47 :: u 48 :: u 49 :: u 50 :: u 51 :: u 52 :: u 53 :: u 54 :: u 55 :: u 56 :: u 57 :: u 58 :: u 59 :: u 60 :: u 61 :: u 62 :: u 63 :: u 64 :: u 65 :: u 66 :: u 67 :: u 68 :: u 69 :: u 70 :: u 71 :: u 72 :: u 73 :: u 74 :: u 75 :: u 76 :: u 77 :: u 78 :: u 79 :: u 80 :: u 81 :: u 82 :: u 83 :: u 84 :: u 85 :: u 86 :: u 87 :: u 88 :: u 89 :: u 90 :: u 91 :: u 92 :: u 93 :: u 94 :: u 95 :: u 96 :: u 97 :: u 98 :: u 99 :: u 100 :: u 101 :: u 102 :: u 103 :: u 104 :: u 105 :: u 106 :: u 107 :: u 108 :: u 109 :: u 110 :: u 111 :: u 112 :: u 113 :: u 114 :: u 115 :: u 116 :: u 117 :: u 118 :: u 119 :: u 120 :: u 121 :: u 122 :: u 123 :: u 124 :: u 125 :: u 126 :: u 127 :: u 128 :: u 129 :: u 130 :: u 131 :: u 132 :: u 133 :: u 134 :: u 135 :: u 136 :: u 137 :: u 138 :: u 139 :: u 140 :: u 141 :: u 142 :: u 143 :: u 144 :: u 145 :: u 146 :: u 147 :: u 148 :: u 149 :: u 150 :: u 151 :: u 152 :: u 153 :: u 154 :: u 155 :: u 156 :: u 157 :: u 158 :: u 159 :: u 160 :: []), []⟩) → K0 a V15 := by
            rintro V15 A7 c7 L a hX9 hi7 HL7 ⟨u, rfl⟩
            refine hK0 _ _ ?_
            clear hK0 K0 i0 i1 i2 li
            replace q1 := q1.below hX9 q1.lt
            replace q2 := q2.below hX9 q2.lt
            replace bx := bx.below hX9 bx.lt
            replace hz := (hz.below hX9).up hX9.size
            replace hi := (hi.below hX9).up hX9.size
            replace hg := hg.go hX9
            replace hh := (hh.below hX9).up hX9.size
            replace bi := bi.below hX9 bi.lt
            have B_V15 := ex_trans B_V13 hX9
            have hl7 : L.length ≤ 5 := by rw [HL7.out]; simp; omega
            have HMO : Hid (iced t.g h L = 0 ∧ agreeB t.g h L off0 = true) := Lib.hid (by rw [HL7.out]; exact liv_more HL.out HK.out hkl (by rw [HVK.out]; exact HIN.out))
            have a0 : V15.cell? ⟨pq1, 0, none⟩ = some (.int .i64 t.g.base) := q1.cell 0
            have a1 : V15.cell? ⟨pq1, 1, none⟩ = some (.slice Ab t.g.bands.length cb) := q1.cell 1
            have a2 : V15.cell? ⟨pq1, 2, none⟩ = some (.slice Ad t.g.depths.length cd) := q1.cell 2
            have a3 : V15.cell? ⟨pq1, 3, none⟩ = some (.int .i64 t.g.blo) := q1.cell 3
            have a4 : V15.cell? ⟨pq1, 4, none⟩ = some (.int .i64 t.g.bhi) := q1.cell 4
            have la := q1.lt
            go_wp2_with fail
            refine (Glass_any t.g _ _ _ _ _ hg (by omega) (by omega)).mono ?_
            rintro e V16 ⟨⟨Ab2, Ad2, cb2, cd2, rfl, hg2⟩, hV16⟩
            replace q1 := q1.below hV16 q1.lt
            replace q2 := q2.below hV16 q2.lt
            replace bx := bx.below hV16 bx.lt
            replace hz := (hz.below hV16).up hV16.size
            replace hi := (hi.below hV16).up hV16.size
            replace hg := hg.go hV16
            replace hh := (hh.below hV16).up hV16.size
            replace bi := bi.below hV16 bi.lt
            replace hi7 := (hi7.below hV16).up hV16.size
            have B_V16 := ex_trans B_V15 hV16
            clear a0 a1 a2 a3 a4 la
            go_wp2_with fail
            refine (History_any _ _ h _ (by omega) hh).mono ?_
            rintro e V17 ⟨⟨Ah2, ch2, rfl, -, -, hh2⟩, hV17⟩
            replace q1 := q1.below hV17 q1.lt
            replace q2 := q2.below hV17 q2.lt
            replace bx := bx.below hV17 bx.lt
            replace hz := (hz.below hV17).up hV17.size
            replace hi := (hi.below hV17).up hV17.size
            replace hg := hg.go hV17
            replace hh := (hh.below hV17).up hV17.size
            replace bi := bi.below hV17 bi.lt
            replace hi7 := (hi7.below hV17).up hV17.size
            replace hg2 := hg2.go hV17
            have B_V17 := ex_trans B_V16 hV17
            go_wp2_with fail
            refine (Zeros_v t.g _ _ _ _ _ _ _ _ h L _ hg2 hh2 hi7 HMO.out.1).mono ?_
            rintro e V18 ⟨⟨A9, n9, ev9, zs, rfl, hzv, hsz⟩, hV18⟩
            replace q1 := q1.below hV18 q1.lt
            replace q2 := q2.below hV18 q2.lt
            replace bx := bx.below hV18 bx.lt
            replace hz := (hz.below hV18).up hV18.size
            replace hi := (hi.below hV18).up hV18.size
            replace hg := hg.go hV18
            replace hh := (hh.below hV18).up hV18.size
            replace bi := bi.below hV18 bi.lt
            replace hi7 := (hi7.below hV18).up hV18.size
            replace hg2 := hg2.go hV18
            replace hh2 := (hh2.below hV18).up hV18.size
            have B_V18 := ex_trans B_V17 hV18
            obtain ⟨rfl, rfl, hZ⟩ := zeros_ok2 HMO.out.2 hzv.out
            clear hZ hzv hsz hg2 hh2
            clear hi7 hg hh hi
            have i0 := bi.cell 0
            have i1 := bi.cell 1
            have i2 := bi.cell 2
            have li := bi.lt
            simp at i0 i1 i2
            rw [HCD.out] at i0
            have c0 := q2.cell 0
            have lc := q2.lt
            simp at c0
            rw [HK.out] at c0
            obtain ⟨b9, o9, hA9, hbv, v0⟩ := IsInts.at_ hz hkl
            injection hA9 with hA9
            injection hA9 with hA8 hA9
            subst hA8 hA9
            rw [HVK.out] at v0
            have d1 : decide (0 ≤ c.err) = true := decide_eq_true hce.1
            have d2 : decide (c.err ≤ 20) = true := decide_eq_true hce.2
            have d3 : decide (vz - c.zero ≤ c.err) = true := decide_eq_true hcl
            have d4 : decide (c.zero - vz ≤ c.err) = true := decide_eq_true hch
            go_upto_region 15 with fail
            refine wp_region_ext (by kernel_rfl) (by kernel_rfl) ?_
            repeat (go_big_quiet_step ((go_at_call 16; exact Calls.ext_of (sl_awake _))))
            refine wpQuiet_nil ?_; intro _ hw'; obtain ⟨X, rfl⟩ := hw'
            go_wp2
            go_ret
            exact ⟨rfl, ex_trans B_V18 X.h⟩
           obtain ⟨i0', hi0', hz0, hz1, hz2⟩ := info_parts icG_info
           have HI := Lib.hid hi0'
           clear hi0'
           have D := (Below.refl V13.heap.size V13).drew
           refine wp_region_ext_tq 5 (.quiet 0 (.quiet 2 (.fork 1 (.loud 3 (.loud 4 .done)) 3 (.loud 1 (.loud 4 .done))))) (by kernel_rfl) (by kernel_rfl) (by intro d _ _ _ _ h; cases d <;> exact h) ?_
           repeat (refine tq_quiet rfl ?_; go_big_quiet_step (fail); refine wpQuiet_nil ?_)
           refine tq_fork rfl rfl ?_ ?_
           ·
            go_wp2_with fail
            refine (Ices_own _ _ l _ (by omega) (hi.go (D))).mono ?_
            rintro e V19 ⟨⟨Ay, cy, rfl, o1⟩, hV19⟩
            replace o1 := own_base o1 (D).size
            have X_V19 := ex_trans (D) hV19
            go_wp2_with fail
            refine ⟨inEx X_V19, ?_⟩
            refine tq_loud rfl ?_
            go_wp2_with fail
            have N := ex_alloc X_V19 (.cells #[.int .i64 c.day, .int .i64 c.zero, .int .i64 c.err] 103)
            have qc : Blk (V19.alloc (.cells #[.int .i64 c.day, .int .i64 c.zero, .int .i64 c.err] 103)) V19.heap.size 103 #[.int .i64 c.day, .int .i64 c.zero, .int .i64 c.err] := Blk.new _ _ _
            replace o1 := own_below o1 (ex_alloc (Below.refl V19.heap.size V19) (.cells #[.int .i64 c.day, .int .i64 c.zero, .int .i64 c.err] 103))
            have hse := (X_V19).size
            obtain ⟨pc, hpc⟩ : ∃ p, V19.heap.size = p := ⟨_, rfl⟩
            rw [hpc] at qc
            try rw [hpc]
            have hpc0 : V13.heap.size ≤ pc := by omega
            clear hpc hse
            refine ⟨inEx N, ?_⟩
            have X_V20 := N
            generalize V19.alloc (.cells #[.int .i64 c.day, .int .i64 c.zero, .int .i64 c.err] 103) = V20 at *
            clear N
            refine tq_loud rfl ?_
            have hbs : V13.heap.size ≤ V20.heap.size := (X_V20).size
            go_wp2_with (at_builtin; refine wpList_append_list (f := cC) (F := fC) (sz := 3) cC_len cC_at cC_one rfl _ _ _ rfl V13.heap.size 103 i0' _ 24 Tryz.underlying49 HI.out hz0 hz1 hz2 rfl (by omega) Ay cy l rfl o1 (some ⟨pc, 0, none⟩) 1 [c] rfl (one_at qc (ice_row c.day c.zero c.err)) (by simp; unfold maxLen; omega) (by simp; omega) hbs (V20.heap.size) rfl ?_; intro L2 Bx kx V21 HX2 ox gx nx)
            have X_V21 := (X_V20).grown gx (X_V20).size (fun j hj => own_ge o1 hj)
            refine ⟨inEx X_V21, ?_⟩
            obtain ⟨Ax, cx, hv, _, _, hs2⟩ := own_C ox
            injection hv with hva hvb' hvc
            subst hva hvc
            clear hvb' ox gx nx o1 qc hbs
            refine tq_done (r := [_]) rfl ?_
            go_wp2_with fail
            exact hrest V21 Bx kx L2 _ X_V21 hs2 (Lib.hid HX2.out) (exFrame (by kernel_rfl))
           ·
            go_wp2_with fail
            have N := ex_alloc (Below.refl V13.heap.size V13) (.cells #[.int .i64 c.day, .int .i64 c.zero, .int .i64 c.err] 103)
            have qc : Blk (V13.alloc (.cells #[.int .i64 c.day, .int .i64 c.zero, .int .i64 c.err] 103)) V13.heap.size 103 #[.int .i64 c.day, .int .i64 c.zero, .int .i64 c.err] := Blk.new _ _ _
            have hse := ((Below.refl V13.heap.size V13)).size
            obtain ⟨pc, hpc⟩ : ∃ p, V13.heap.size = p := ⟨_, rfl⟩
            rw [hpc] at qc
            try rw [hpc]
            have hpc0 : V13.heap.size ≤ pc := by omega
            clear hpc hse
            replace N := N.drew
            replace qc := qc.drew
            refine ⟨inEx N, ?_⟩
            have X_V22 := N
            generalize (V13.alloc (.cells #[.int .i64 c.day, .int .i64 c.zero, .int .i64 c.err] 103)).drew = V22 at *
            clear N
            refine tq_loud rfl ?_
            go_wp2_with fail
            refine (Ices_own _ _ l _ (by omega) (hi.go (X_V22))).mono ?_
            rintro e V23 ⟨⟨Ay, cy, rfl, o1⟩, hV23⟩
            replace qc := qc.below hV23 qc.lt
            replace o1 := own_base o1 (X_V22).size
            have X_V23 := ex_trans (X_V22) hV23
            go_wp2_with fail
            refine ⟨inEx X_V23, ?_⟩
            refine tq_loud rfl ?_
            have hbs : V13.heap.size ≤ V23.heap.size := (X_V23).size
            go_wp2_with (at_builtin; refine wpList_append_list (f := cC) (F := fC) (sz := 3) cC_len cC_at cC_one rfl _ _ _ rfl V13.heap.size 103 i0' _ 24 Tryz.underlying49 HI.out hz0 hz1 hz2 rfl (by omega) Ay cy l rfl o1 (some ⟨pc, 0, none⟩) 1 [c] rfl (one_at qc (ice_row c.day c.zero c.err)) (by simp; unfold maxLen; omega) (by simp; omega) hbs (V23.heap.size) rfl ?_; intro L2 Bx kx V24 HX2 ox gx nx)
            have X_V24 := (X_V23).grown gx (X_V23).size (fun j hj => own_ge o1 hj)
            refine ⟨inEx X_V24, ?_⟩
            obtain ⟨Ax, cx, hv, _, _, hs2⟩ := own_C ox
            injection hv with hva hvb' hvc
            subst hva hvc
            clear hvb' ox gx nx o1 qc hbs
            refine tq_done (r := [_]) rfl ?_
            go_wp2_with fail
            exact hrest V24 Bx kx L2 _ X_V24 hs2 (Lib.hid HX2.out) (exFrame (by kernel_rfl))
         refine wp_region_ext_tq 10 (.quiet 0 (.quiet 2 (.fork 1 (.fork 3 (.fork 4 (.quiet 5 (.quiet 6 (.quiet 7 (.loud 8 (.loud 9 .done))))) 8 (.loud 4 (.quiet 5 (.quiet 6 (.quiet 7 (.loud 9 .done)))))) 8 (.loud 3 (.loud 4 (.quiet 5 (.quiet 6 (.quiet 7 (.loud 9 .done))))))) 8 (.loud 1 (.loud 3 (.loud 4 (.quiet 5 (.quiet 6 (.quiet 7 (.loud 9 .done)))))))))) (by kernel_rfl) (by kernel_rfl) (by intro d _ _ _ _ h; cases d <;> exact h) ?_
         have D0 := (Below.refl V11.heap.size V11).drew
         repeat (refine tq_quiet rfl ?_; first | (refine wpQuiet_load_row rfl 29 _ rfl _ rfl 29 _ (0, 0) _ q1.ex Tryz.underlying29 rfl (by kernel_rfl) ?_; simp only [Act.put, List.setIfInBounds_toArray, List.set_cons_zero, List.set_cons_succ]; refine wpQuiet_nil ?_) | (refine wpQuiet_load_row rfl 33 _ rfl _ rfl 33 _ (0, 0) _ q2.ex Tryz.underlying33 rfl (by kernel_rfl) ?_; simp only [Act.put, List.setIfInBounds_toArray, List.set_cons_zero, List.set_cons_succ]; refine wpQuiet_nil ?_) | (go_big_quiet_step (fail); refine wpQuiet_nil ?_))
         refine tq_fork rfl rfl ?_ ?_
         ·
          go_wp2_with fail
          refine (sr_Tube t Ab Ad cb cd _ (hg.go (((Below.refl V11.heap.size V11)).drew)) (by omega) (by omega)).mono ?_
          rintro e V25 ⟨⟨Ab1, Ad1, cb1, cd1, rfl, hg1⟩, hV25⟩
          have N1 := ex_trans ((Below.refl V11.heap.size V11)).drew hV25
          go_wp2_with fail
          refine ⟨inEx N1, ?_⟩
          repeat (refine tq_quiet rfl ?_; go_big_quiet_step (fail); refine wpQuiet_nil ?_)
          refine tq_fork rfl rfl ?_ ?_
          ·
           go_wp2_with fail
           refine (sr_Reading (atS r s) _).mono ?_
           rintro e V26 ⟨rfl, hV26⟩
           have N3 := ex_trans N1 hV26
           go_wp2_with fail
           replace hg1 := hg1.go hV26
           refine ⟨inEx N3, ?_⟩
           repeat (refine tq_quiet rfl ?_; go_big_quiet_step (fail); refine wpQuiet_nil ?_)
           refine tq_fork rfl rfl ?_ ?_
           ·
            go_wp2_with fail
            refine (IceOf_v t Ab1 Ad1 cb1 cd1 (atS r s) _ hg1).mono ?_
            rintro e V27 ⟨rfl, hV27⟩
            have N4 := ex_trans N3 hV27
            go_wp2_with fail
            refine ⟨inEx N4, ?_⟩
            repeat (refine tq_quiet rfl ?_; go_big_quiet_step (fail); refine wpQuiet_nil ?_)
            refine tq_loud rfl ?_
            go_wp2_with fail
            have si := (N4).size
            try simp at si
            have N8 := ex_alloc N4 (.cells #[.int .i64 0, .int .i64 0, .int .i64 0] 103)
            have bi : Blk (V27.alloc (.cells #[.int .i64 0, .int .i64 0, .int .i64 0] 103)) (V27.heap.size) 103 #[.int .i64 0, .int .i64 0, .int .i64 0] := Blk.new' _ _ _ (by first | rfl | (simp; done) | (simp; omega))
            obtain ⟨pi, hpi⟩ : ∃ p, V27.heap.size = p := ⟨_, rfl⟩
            rw [hpi] at bi
            try rw [hpi]
            have yi : V11.heap.size ≤ pi := by omega
            clear si
            refine ⟨inEx N8, ?_⟩
            repeat (refine tq_quiet rfl ?_; go_big_quiet_step (fail); refine wpQuiet_nil ?_)
            refine tq_loud rfl ?_
            have XA9 := N8
            generalize (V27.alloc (.cells #[.int .i64 0, .int .i64 0, .int .i64 0] 103)) = V28 at *
            have sc0 : V28.cell? ⟨pi, 0, none⟩ = some (.int .i64 0) := bi.cell 0
            have sc1 : V28.cell? ⟨pi, 1, none⟩ = some (.int .i64 0) := bi.cell 1
            have sc2 : V28.cell? ⟨pi, 2, none⟩ = some (.int .i64 0) := bi.cell 2
            have sf := bi.frozen0
            have sl := bi.lt
            go_wp2_with fail
            replace bi := bi.set_ 0 (.int .i64 (icoV t (atS r s)).day)
            replace XA9 := ex_set (p := ⟨pi, 0, none⟩) XA9 yi (.int .i64 (icoV t (atS r s)).day)
            replace bi := bi.set_ 1 (.int .i64 (icoV t (atS r s)).zero)
            replace XA9 := ex_set (p := ⟨pi, 1, none⟩) XA9 yi (.int .i64 (icoV t (atS r s)).zero)
            replace bi := bi.set_ 2 (.int .i64 (icoV t (atS r s)).err)
            replace XA9 := ex_set (p := ⟨pi, 2, none⟩) XA9 yi (.int .i64 (icoV t (atS r s)).err)
            simp only [List.setIfInBounds_toArray, List.set_cons_zero, List.set_cons_succ] at bi
            clear sf sl sc0 sc1 sc2
            generalize (((V28.setCell ⟨pi, 0, none⟩ (.int .i64 (icoV t (atS r s)).day)).setCell ⟨pi, 1, none⟩ (.int .i64 (icoV t (atS r s)).zero)).setCell ⟨pi, 2, none⟩ (.int .i64 (icoV t (atS r s)).err)) = V29 at *
            refine ⟨inEx XA9, ?_⟩
            repeat (refine tq_quiet rfl ?_; go_big_quiet_step (fail); refine wpQuiet_nil ?_)
            refine tq_done (r := [_]) rfl ?_
            go_wp2_with fail
            exact hrest V29 pi (icoV t (atS r s)) (icoE t (atS r s)) _ (XA9) yi bi (Lib.hid ⟨rfl, rfl⟩) (exFrame (by kernel_rfl))
           ·
            go_wp2_with fail
            have si := (N3).size
            try simp at si
            have N8 := ex_alloc N3 (.cells #[.int .i64 0, .int .i64 0, .int .i64 0] 103)
            have bi : Blk (V26.alloc (.cells #[.int .i64 0, .int .i64 0, .int .i64 0] 103)) (V26.heap.size) 103 #[.int .i64 0, .int .i64 0, .int .i64 0] := Blk.new' _ _ _ (by first | rfl | (simp; done) | (simp; omega))
            replace hg1 := hg1.go (ex_alloc (Below.refl V26.heap.size V26) (.cells #[.int .i64 0, .int .i64 0, .int .i64 0] 103))
            obtain ⟨pi, hpi⟩ : ∃ p, V26.heap.size = p := ⟨_, rfl⟩
            rw [hpi] at bi
            try rw [hpi]
            have yi : V11.heap.size ≤ pi := by omega
            clear si
            refine ⟨inEx N8, ?_⟩
            repeat (refine tq_quiet rfl ?_; go_big_quiet_step (fail); refine wpQuiet_nil ?_)
            refine tq_loud rfl ?_
            go_wp2_with fail
            refine (IceOf_v t Ab1 Ad1 cb1 cd1 (atS r s) _ hg1).mono ?_
            rintro e V30 ⟨rfl, hV30⟩
            replace bi := Blk.below bi hV30 bi.lt
            have N4 := ex_trans N8 hV30
            go_wp2_with fail
            refine ⟨inEx N4, ?_⟩
            repeat (refine tq_quiet rfl ?_; go_big_quiet_step (fail); refine wpQuiet_nil ?_)
            refine tq_loud rfl ?_
            have XA9 := N4
            generalize V30 = V31 at *
            have sc0 : V31.cell? ⟨pi, 0, none⟩ = some (.int .i64 0) := bi.cell 0
            have sc1 : V31.cell? ⟨pi, 1, none⟩ = some (.int .i64 0) := bi.cell 1
            have sc2 : V31.cell? ⟨pi, 2, none⟩ = some (.int .i64 0) := bi.cell 2
            have sf := bi.frozen0
            have sl := bi.lt
            go_wp2_with fail
            replace bi := bi.set_ 0 (.int .i64 (icoV t (atS r s)).day)
            replace XA9 := ex_set (p := ⟨pi, 0, none⟩) XA9 yi (.int .i64 (icoV t (atS r s)).day)
            replace bi := bi.set_ 1 (.int .i64 (icoV t (atS r s)).zero)
            replace XA9 := ex_set (p := ⟨pi, 1, none⟩) XA9 yi (.int .i64 (icoV t (atS r s)).zero)
            replace bi := bi.set_ 2 (.int .i64 (icoV t (atS r s)).err)
            replace XA9 := ex_set (p := ⟨pi, 2, none⟩) XA9 yi (.int .i64 (icoV t (atS r s)).err)
            simp only [List.setIfInBounds_toArray, List.set_cons_zero, List.set_cons_succ] at bi
            clear sf sl sc0 sc1 sc2
            generalize (((V31.setCell ⟨pi, 0, none⟩ (.int .i64 (icoV t (atS r s)).day)).setCell ⟨pi, 1, none⟩ (.int .i64 (icoV t (atS r s)).zero)).setCell ⟨pi, 2, none⟩ (.int .i64 (icoV t (atS r s)).err)) = V32 at *
            refine ⟨inEx XA9, ?_⟩
            repeat (refine tq_quiet rfl ?_; go_big_quiet_step (fail); refine wpQuiet_nil ?_)
            refine tq_done (r := [_]) rfl ?_
            go_wp2_with fail
            exact hrest V32 pi (icoV t (atS r s)) (icoE t (atS r s)) _ (XA9) yi bi (Lib.hid ⟨rfl, rfl⟩) (exFrame (by kernel_rfl))
          ·
           go_wp2_with fail
           have si := (N1).size
           try simp at si
           have N8 := ex_alloc N1 (.cells #[.int .i64 0, .int .i64 0, .int .i64 0] 103)
           have bi : Blk (V25.alloc (.cells #[.int .i64 0, .int .i64 0, .int .i64 0] 103)) (V25.heap.size) 103 #[.int .i64 0, .int .i64 0, .int .i64 0] := Blk.new' _ _ _ (by first | rfl | (simp; done) | (simp; omega))
           replace hg1 := hg1.go (ex_alloc (Below.refl V25.heap.size V25) (.cells #[.int .i64 0, .int .i64 0, .int .i64 0] 103))
           obtain ⟨pi, hpi⟩ : ∃ p, V25.heap.size = p := ⟨_, rfl⟩
           rw [hpi] at bi
           try rw [hpi]
           have yi : V11.heap.size ≤ pi := by omega
           clear si
           refine ⟨inEx N8, ?_⟩
           repeat (refine tq_quiet rfl ?_; go_big_quiet_step (fail); refine wpQuiet_nil ?_)
           refine tq_loud rfl ?_
           go_wp2_with fail
           refine (sr_Reading (atS r s) _).mono ?_
           rintro e V33 ⟨rfl, hV33⟩
           replace bi := Blk.below bi hV33 bi.lt
           have N3 := ex_trans N8 hV33
           go_wp2_with fail
           replace hg1 := hg1.go hV33
           refine ⟨inEx N3, ?_⟩
           repeat (refine tq_quiet rfl ?_; go_big_quiet_step (fail); refine wpQuiet_nil ?_)
           refine tq_loud rfl ?_
           go_wp2_with fail
           refine (IceOf_v t Ab1 Ad1 cb1 cd1 (atS r s) _ hg1).mono ?_
           rintro e V34 ⟨rfl, hV34⟩
           replace bi := Blk.below bi hV34 bi.lt
           have N4 := ex_trans N3 hV34
           go_wp2_with fail
           refine ⟨inEx N4, ?_⟩
           repeat (refine tq_quiet rfl ?_; go_big_quiet_step (fail); refine wpQuiet_nil ?_)
           refine tq_loud rfl ?_
           have XA9 := N4
           generalize V34 = V35 at *
           have sc0 : V35.cell? ⟨pi, 0, none⟩ = some (.int .i64 0) := bi.cell 0
           have sc1 : V35.cell? ⟨pi, 1, none⟩ = some (.int .i64 0) := bi.cell 1
           have sc2 : V35.cell? ⟨pi, 2, none⟩ = some (.int .i64 0) := bi.cell 2
           have sf := bi.frozen0
           have sl := bi.lt
           go_wp2_with fail
           replace bi := bi.set_ 0 (.int .i64 (icoV t (atS r s)).day)
           replace XA9 := ex_set (p := ⟨pi, 0, none⟩) XA9 yi (.int .i64 (icoV t (atS r s)).day)
           replace bi := bi.set_ 1 (.int .i64 (icoV t (atS r s)).zero)
           replace XA9 := ex_set (p := ⟨pi, 1, none⟩) XA9 yi (.int .i64 (icoV t (atS r s)).zero)
           replace bi := bi.set_ 2 (.int .i64 (icoV t (atS r s)).err)
           replace XA9 := ex_set (p := ⟨pi, 2, none⟩) XA9 yi (.int .i64 (icoV t (atS r s)).err)
           simp only [List.setIfInBounds_toArray, List.set_cons_zero, List.set_cons_succ] at bi
           clear sf sl sc0 sc1 sc2
           generalize (((V35.setCell ⟨pi, 0, none⟩ (.int .i64 (icoV t (atS r s)).day)).setCell ⟨pi, 1, none⟩ (.int .i64 (icoV t (atS r s)).zero)).setCell ⟨pi, 2, none⟩ (.int .i64 (icoV t (atS r s)).err)) = V36 at *
           refine ⟨inEx XA9, ?_⟩
           repeat (refine tq_quiet rfl ?_; go_big_quiet_step (fail); refine wpQuiet_nil ?_)
           refine tq_done (r := [_]) rfl ?_
           go_wp2_with fail
           exact hrest V36 pi (icoV t (atS r s)) (icoE t (atS r s)) _ (XA9) yi bi (Lib.hid ⟨rfl, rfl⟩) (exFrame (by kernel_rfl))
         ·
          go_wp2_with fail
          have si := ((Below.refl V11.heap.size V11)).size
          try simp at si
          have N8 := ex_alloc (Below.refl V11.heap.size V11) (.cells #[.int .i64 0, .int .i64 0, .int .i64 0] 103)
          have bi : Blk (V11.alloc (.cells #[.int .i64 0, .int .i64 0, .int .i64 0] 103)) (V11.heap.size) 103 #[.int .i64 0, .int .i64 0, .int .i64 0] := Blk.new' _ _ _ (by first | rfl | (simp; done) | (simp; omega))
          obtain ⟨pi, hpi⟩ : ∃ p, V11.heap.size = p := ⟨_, rfl⟩
          rw [hpi] at bi
          try rw [hpi]
          have yi : V11.heap.size ≤ pi := by omega
          clear si
          refine ⟨inEx (N8).drew, ?_⟩
          repeat (refine tq_quiet rfl ?_; go_big_quiet_step (fail); refine wpQuiet_nil ?_)
          refine tq_loud rfl ?_
          go_wp2_with fail
          refine (sr_Tube t Ab Ad cb cd _ (hg.go ((N8).drew)) (by omega) (by omega)).mono ?_
          rintro e V37 ⟨⟨Ab1, Ad1, cb1, cd1, rfl, hg1⟩, hV37⟩
          replace bi := Blk.below (Blk.drew bi) hV37 bi.lt
          have N1 := ex_trans (N8).drew hV37
          go_wp2_with fail
          refine ⟨inEx N1, ?_⟩
          repeat (refine tq_quiet rfl ?_; go_big_quiet_step (fail); refine wpQuiet_nil ?_)
          refine tq_loud rfl ?_
          go_wp2_with fail
          refine (sr_Reading (atS r s) _).mono ?_
          rintro e V38 ⟨rfl, hV38⟩
          replace bi := Blk.below bi hV38 bi.lt
          have N3 := ex_trans N1 hV38
          go_wp2_with fail
          replace hg1 := hg1.go hV38
          refine ⟨inEx N3, ?_⟩
          repeat (refine tq_quiet rfl ?_; go_big_quiet_step (fail); refine wpQuiet_nil ?_)
          refine tq_loud rfl ?_
          go_wp2_with fail
          refine (IceOf_v t Ab1 Ad1 cb1 cd1 (atS r s) _ hg1).mono ?_
          rintro e V39 ⟨rfl, hV39⟩
          replace bi := Blk.below bi hV39 bi.lt
          have N4 := ex_trans N3 hV39
          go_wp2_with fail
          refine ⟨inEx N4, ?_⟩
          repeat (refine tq_quiet rfl ?_; go_big_quiet_step (fail); refine wpQuiet_nil ?_)
          refine tq_loud rfl ?_
          have XA9 := N4
          generalize V39 = V40 at *
          have sc0 : V40.cell? ⟨pi, 0, none⟩ = some (.int .i64 0) := bi.cell 0
          have sc1 : V40.cell? ⟨pi, 1, none⟩ = some (.int .i64 0) := bi.cell 1
          have sc2 : V40.cell? ⟨pi, 2, none⟩ = some (.int .i64 0) := bi.cell 2
          have sf := bi.frozen0
          have sl := bi.lt
          go_wp2_with fail
          replace bi := bi.set_ 0 (.int .i64 (icoV t (atS r s)).day)
          replace XA9 := ex_set (p := ⟨pi, 0, none⟩) XA9 yi (.int .i64 (icoV t (atS r s)).day)
          replace bi := bi.set_ 1 (.int .i64 (icoV t (atS r s)).zero)
          replace XA9 := ex_set (p := ⟨pi, 1, none⟩) XA9 yi (.int .i64 (icoV t (atS r s)).zero)
          replace bi := bi.set_ 2 (.int .i64 (icoV t (atS r s)).err)
          replace XA9 := ex_set (p := ⟨pi, 2, none⟩) XA9 yi (.int .i64 (icoV t (atS r s)).err)
          simp only [List.setIfInBounds_toArray, List.set_cons_zero, List.set_cons_succ] at bi
          clear sf sl sc0 sc1 sc2
          generalize (((V40.setCell ⟨pi, 0, none⟩ (.int .i64 (icoV t (atS r s)).day)).setCell ⟨pi, 1, none⟩ (.int .i64 (icoV t (atS r s)).zero)).setCell ⟨pi, 2, none⟩ (.int .i64 (icoV t (atS r s)).err)) = V41 at *
          refine ⟨inEx XA9, ?_⟩
          repeat (refine tq_quiet rfl ?_; go_big_quiet_step (fail); refine wpQuiet_nil ?_)
          refine tq_done (r := [_]) rfl ?_
          go_wp2_with fail
          exact hrest V41 pi (icoV t (atS r s)) (icoE t (atS r s)) _ (XA9) yi bi (Lib.hid ⟨rfl, rfl⟩) (exFrame (by kernel_rfl))
      ·
       have e1 : decide (n < 0) = false := decide_eq_false h1
       clear h1
       have c1 := q2.cell 1
       have c0 := q2.cell 0
       have fc := q2.frozen0
       have lc := q2.lt
       simp at c0 c1
       rw [HK.out] at c0
       go_upto_region 8 with fail
       clear c0 c1 fc lc e1
       go_wp2_with (refine pause_at 71 rfl ?_)
       refine Paused.mk ?_
       refine wpList_load_row rfl 33 _ rfl _ rfl 33 _ (0, 0) _ (q2) Tryz.underlying33 rfl (by kernel_rfl) ?_
       go_wp2_with (refine pause_at 72 rfl ?_)
       refine Paused.mk ?_
       refine wpList_load_row rfl 82 _ rfl _ rfl 82 _ (0, 0) _ (bx) Tryz.underlying82 rfl (by kernel_rfl) ?_
       go_wp2_with fail
       refine (sr_play (atS r s) x _ HRS.out HXK.out hxa hxr hxo hxz).mono ?_
       rintro e V42 ⟨rfl, hV42⟩
       replace q1 := q1.below hV42 q1.lt
       replace q2 := q2.below hV42 q2.lt
       replace bx := bx.below hV42 bx.lt
       replace hz := (hz.below hV42).up hV42.size
       replace hi := (hi.below hV42).up hV42.size
       replace hg := hg.go hV42
       replace hh := (hh.below hV42).up hV42.size
       have B_V42 := ex_trans B_V8 hV42
       rw [HPN.out]
       by_cases h0 : n = 0
       rotate_left
       ·
        have e3 : (n != 0) = true := by simp [h0]
        clear h0
        go_wp2_with fail
        refine (sl_awake _).mono ?_
        rintro e V43 ⟨rfl, hV43⟩
        replace q1 := q1.below hV43 q1.lt
        replace q2 := q2.below hV43 q2.lt
        replace bx := bx.below hV43 bx.lt
        replace hz := (hz.below hV43).up hV43.size
        replace hi := (hi.below hV43).up hV43.size
        replace hg := hg.go hV43
        replace hh := (hh.below hV43).up hV43.size
        have B_V43 := ex_trans B_V42 hV43
        go_wp2
        go_ret
        exact ⟨rfl, B_V43⟩
       ·
        have HP0 : Hid (playW (atS r s) x = 0) := Lib.hid (by rw [HPN.out]; exact h0)
        have e3 : (n != 0) = false := by simp [h0]
        clear h0
        go_wp2_with (refine pause_at 76 rfl ?_)
        refine Paused.mk ?_
        refine wpList_load_rowG (by kernel_rfl) 29 _ rfl _ (by kernel_rfl) 29 _ (0, 0) _ (q1) Tryz.underlying29 rfl (by kernel_rfl) ?_
        go_wp2_with (refine pause_at 77 rfl ?_)
        refine Paused.mk ?_
        refine wpList_load_rowG (by kernel_rfl) 33 _ rfl _ (by kernel_rfl) 33 _ (0, 0) _ (q2) Tryz.underlying33 rfl (by kernel_rfl) ?_
        go_wp2_with (refine pause_at 78 rfl ?_)
        refine Paused.mk ?_
        refine wpList_load_rowG (by kernel_rfl) 82 _ rfl _ (by kernel_rfl) 82 _ (0, 0) _ (bx) Tryz.underlying82 rfl (by kernel_rfl) ?_
        clear e3
        go_wp2_with fail
        refine (sr_istruth t Ab Ad cb cd (atS r s) x _ (by have := HRS.out.err; omega) (by have := HRS.out.err; omega)).mono ?_
        rintro e V44 ⟨rfl, hV44⟩
        replace q1 := q1.below hV44 q1.lt
        replace q2 := q2.below hV44 q2.lt
        replace bx := bx.below hV44 bx.lt
        replace hz := (hz.below hV44).up hV44.size
        replace hi := (hi.below hV44).up hV44.size
        replace hg := hg.go hV44
        replace hh := (hh.below hV44).up hV44.size
        have B_V44 := ex_trans B_V42 hV44
        rcases Bool.eq_false_or_eq_true (txOk t (atS r s) x) with hok | hok
        rotate_left
        ·
         rw [hok]
         clear hok
         go_wp2_with fail
         refine (sl_awake _).mono ?_
         rintro e V45 ⟨rfl, hV45⟩
         replace q1 := q1.below hV45 q1.lt
         replace q2 := q2.below hV45 q2.lt
         replace bx := bx.below hV45 bx.lt
         replace hz := (hz.below hV45).up hV45.size
         replace hi := (hi.below hV45).up hV45.size
         replace hg := hg.go hV45
         replace hh := (hh.below hV45).up hV45.size
         have B_V45 := ex_trans B_V44 hV45
         go_wp2
         go_ret
         exact ⟨rfl, B_V45⟩
        ·
         rw [hok]
         have HIC := Lib.hid (ico_in HL.out ⟨by have := HK.out; omega, HO.out.rd⟩ HB.out HX.out hs HP0.out)
         clear hok
         go_upto_region 10 with fail
         rename_i K0 hK0
         have hrest : ∀ (V46 : World) (pi : Nat) (c : Ic) (ev : Int) (a : Act), Below V44.heap.size V44 V46 → V44.heap.size ≤ pi → Blk V46 pi 103 #[.int .i64 (c : Ic).day, .int .i64 (c : Ic).zero, .int .i64 (c : Ic).err] → Hid (c = icoV t (atS r s) ∧ ev = icoE t (atS r s)) → (∃ u : Nat → Value, a = ⟨List.toArray (u 0 :: .slice Ah h.length ch :: u 2 :: u 3 :: u 4 :: .pointer (some ⟨pq1, 0, none⟩) :: u 6 :: u 7 :: u 8 :: .pointer (some ⟨pq2, 0, none⟩) :: .bool false :: .slice Ai l.length ci :: .slice (some ⟨bv, ov, none⟩) h.length cz :: u 13 :: .pointer (some ⟨px, 0, none⟩) :: .pointer (some ⟨pi, 0, none⟩) :: .int .i64 ev :: u 17 :: u 18 :: u 19 :: u 20 :: u 21 :: u 22 :: u 23 :: u 24 :: u 25 :: u 26 :: u 27 :: u 28 :: u 29 :: u 30 :: u 31 :: u 32 :: u 33 :: u 34 :: u 35 :: u 36 :: u 37 :: u 38 :: u 39 :: u 40 :: u 41 :: u 42 :: u 43 :: u 44 :: u 45 :: u 46 :: u 47 :: u 48 :: u 49 :: u 50 :: u 51 :: u 52 :: u 53 :: u 54 :: u 55 :: u 56 :: u 57 :: u 58 :: u 59 :: u 60 :: u 61 :: u 62 :: u 63 :: u 64 :: u 65 :: u 66 :: u 67 :: u 68 :: u 69 :: u 70 :: u 71 :: u 72 :: u 73 :: u 74 :: u 75 :: u 76 :: u 77 :: u 78 :: u 79 :: u 80 :: u 81 :: u 82 :: u 83 :: u 84 :: u 85 :: u 86 :: u 87 :: u 88 :: u 89 :: u 90 :: u 91 :: u 92 :: u 93 :: u 94 :: u 95 :: u 96 :: u 97 :: u 98 :: u 99 :: u 100 :: u 101 :: u 102 :: u 103 :: u 104 :: u 105 :: u 106 :: u 107 :: u 108 :: u 109 :: u 110 :: u 111 :: u 112 :: u 113 :: u 114 :: u 115 :: u 116 :: u 117 :: u 118 :: u 119 :: u 120 :: u 121 :: u 122 :: u 123 :: u 124 :: u 125 :: u 126 :: u 127 :: u 128 :: u 129 :: u 130 :: u 131 :: u 132 :: u 133 :: u 134 :: u 135 :: u 136 :: u 137 :: u 138 :: u 139 :: u 140 :: u 141 :: u 142 :: u 143 :: u 144 :: u 145 :: u 146 :: u 147 :: u 148 :: u 149 :: u 150 :: u 151 :: u 152 :: u 153 :: u 154 :: u 155 :: u 156 :: u 157 :: u 158 :: u 159 :: u 160 :: []), []⟩) → K0 a V46 := by
          rintro V46 pi c ev a hX9 yi bi hc ⟨u, rfl⟩
          refine hK0 _ _ ?_
          clear hK0 K0
          replace q1 := q1.below hX9 q1.lt
          replace q2 := q2.below hX9 q2.lt
          replace bx := bx.below hX9 bx.lt
          replace hz := (hz.below hX9).up hX9.size
          replace hi := (hi.below hX9).up hX9.size
          replace hg := hg.go hX9
          replace hh := (hh.below hX9).up hX9.size
          have B_V46 := ex_trans B_V44 hX9
          have zi : w.heap.size ≤ pi := by have := B_V44.size; omega
          have hic : ev = 10 ∨ (ev = 0 ∧ IceIn r x.zero c) := by rw [hc.out.1, hc.out.2]; exact HIC.out
          clear hc HIC
          rcases hic with rfl | ⟨rfl, hic⟩
          ·
           go_wp2_with fail
           refine (sl_awake _).mono ?_
           rintro e V47 ⟨rfl, hV47⟩
           replace q1 := q1.below hV47 q1.lt
           replace q2 := q2.below hV47 q2.lt
           replace bx := bx.below hV47 bx.lt
           replace hz := (hz.below hV47).up hV47.size
           replace hi := (hi.below hV47).up hV47.size
           replace hg := hg.go hV47
           replace hh := (hh.below hV47).up hV47.size
           replace bi := bi.below hV47 bi.lt
           have B_V47 := ex_trans B_V46 hV47
           go_wp2
           go_ret
           exact ⟨rfl, B_V47⟩
          ·
           rw [HXZ.out] at hic
           have HIN := Lib.hid hic
           have HCD : Hid (c.day = (k : Int)) := Lib.hid (by rw [hic.day]; exact HK.out)
           have hce := hic.err
           have hcz := hic.zero
           have hcl := hic.lo
           have hch := hic.hi
           clear hic
           have i0 := bi.cell 0
           have i1 := bi.cell 1
           have i2 := bi.cell 2
           have li := bi.lt
           simp at i0 i1 i2
           go_upto_region 13 with fail
           rename_i K0 hK0
           have hrest : ∀ (V48 : World) (A7 : Option Addr) (c7 : Nat) (L : List Ic) (a : Act), Below V46.heap.size V46 V48 → SlAt V48 V48.heap.size 3 A7 L.length (fC L) → Hid (L = l ++ [c]) → (∃ u : Nat → Value, a = ⟨List.toArray (u 0 :: .slice Ah h.length ch :: u 2 :: u 3 :: u 4 :: .pointer (some ⟨pq1, 0, none⟩) :: u 6 :: u 7 :: u 8 :: .pointer (some ⟨pq2, 0, none⟩) :: .bool false :: .slice Ai l.length ci :: .slice (some ⟨bv, ov, none⟩) h.length cz :: u 13 :: .pointer (some ⟨px, 0, none⟩) :: .pointer (some ⟨pi, 0, none⟩) :: u 16 :: .slice A7 L.length c7 :: u 18 :: u 19 :: u 20 :: u 21 :: u 22 :: u 23 :: u 24 :: u 25 :: u 26 :: u 27 :: u 28 :: u 29 :: u 30 :: u 31 :: u 32 :: u 33 :: u 34 :: u 35 :: u 36 :: u 37 :: u 38 :: u 39 :: u 40 :: u 41 :: u 42 :: u 43 :: u 44 :: u 45 :: u 46 :: u 47 :: u 48 :: u 49 :: u 50 :: u 51 :: u 52 :: u 53 :: u 54 :: u 55 :: u 56 :: u 57 :: u 58 :: u 59 :: u 60 :: u 61 :: u 62 :: u 63 :: u 64 :: u 65 :: u 66 :: u 67 :: u 68 :: u 69 :: u 70 :: u 71 :: u 72 :: u 73 :: u 74 :: u 75 :: u 76 :: u 77 :: u 78 :: u 79 :: u 80 :: u 81 :: u 82 :: u 83 :: u 84 :: u 85 :: u 86 :: u 87 :: u 88 :: u 89 :: u 90 :: u 91 :: u 92 :: u 93 :: u 94 :: u 95 :: u 96 :: u 97 :: u 98 :: u 99 :: u 100 :: u 101 :: u 102 :: u 103 :: u 104 :: u 105 :: u 106 :: u 107 :: u 108 :: u 109 :: u 110 :: u 111 :: u 112 :: u 113 :: u 114 :: u 115 :: u 116 :: u 117 :: u 118 :: u 119 :: u 120 :: u 121 :: u 122 :: u 123 :: u 124 :: u 125 :: u 126 :: u 127 :: u 128 :: u 129 :: u 130 :: u 131 :: u 132 :: u 133 :: u 134 :: u 135 :: u 136 :: u 137 :: u 138 :: u 139 :: u 140 :: u 141 :: u 142 :: u 143 :: u 144 :: u 145 :: u 146 :: u 147 :: u 148 :: u 149 :: u 150 :: u 151 :: u 152 :: u 153 :: u 154 :: u 155 :: u 156 :: u 157 :: u 158 :: u 159 :: u 160 :: []), []⟩) → K0 a V48 := by
            rintro V48 A7 c7 L a hX9 hi7 HL7 ⟨u, rfl⟩
            refine hK0 _ _ ?_
            clear hK0 K0 i0 i1 i2 li
            replace q1 := q1.below hX9 q1.lt
            replace q2 := q2.below hX9 q2.lt
            replace bx := bx.below hX9 bx.lt
            replace hz := (hz.below hX9).up hX9.size
            replace hi := (hi.below hX9).up hX9.size
            replace hg := hg.go hX9
            replace hh := (hh.below hX9).up hX9.size
            replace bi := bi.below hX9 bi.lt
            have B_V48 := ex_trans B_V46 hX9
            have hl7 : L.length ≤ 5 := by rw [HL7.out]; simp; omega
            have HMO : Hid (iced t.g h L = 0 ∧ agreeB t.g h L off0 = true) := Lib.hid (by rw [HL7.out]; exact liv_more HL.out HK.out hkl (by rw [HVK.out]; exact HIN.out))
            have a0 : V48.cell? ⟨pq1, 0, none⟩ = some (.int .i64 t.g.base) := q1.cell 0
            have a1 : V48.cell? ⟨pq1, 1, none⟩ = some (.slice Ab t.g.bands.length cb) := q1.cell 1
            have a2 : V48.cell? ⟨pq1, 2, none⟩ = some (.slice Ad t.g.depths.length cd) := q1.cell 2
            have a3 : V48.cell? ⟨pq1, 3, none⟩ = some (.int .i64 t.g.blo) := q1.cell 3
            have a4 : V48.cell? ⟨pq1, 4, none⟩ = some (.int .i64 t.g.bhi) := q1.cell 4
            have la := q1.lt
            go_wp2_with fail
            refine (Glass_any t.g _ _ _ _ _ hg (by omega) (by omega)).mono ?_
            rintro e V49 ⟨⟨Ab2, Ad2, cb2, cd2, rfl, hg2⟩, hV49⟩
            replace q1 := q1.below hV49 q1.lt
            replace q2 := q2.below hV49 q2.lt
            replace bx := bx.below hV49 bx.lt
            replace hz := (hz.below hV49).up hV49.size
            replace hi := (hi.below hV49).up hV49.size
            replace hg := hg.go hV49
            replace hh := (hh.below hV49).up hV49.size
            replace bi := bi.below hV49 bi.lt
            replace hi7 := (hi7.below hV49).up hV49.size
            have B_V49 := ex_trans B_V48 hV49
            clear a0 a1 a2 a3 a4 la
            go_wp2_with fail
            refine (History_any _ _ h _ (by omega) hh).mono ?_
            rintro e V50 ⟨⟨Ah2, ch2, rfl, -, -, hh2⟩, hV50⟩
            replace q1 := q1.below hV50 q1.lt
            replace q2 := q2.below hV50 q2.lt
            replace bx := bx.below hV50 bx.lt
            replace hz := (hz.below hV50).up hV50.size
            replace hi := (hi.below hV50).up hV50.size
            replace hg := hg.go hV50
            replace hh := (hh.below hV50).up hV50.size
            replace bi := bi.below hV50 bi.lt
            replace hi7 := (hi7.below hV50).up hV50.size
            replace hg2 := hg2.go hV50
            have B_V50 := ex_trans B_V49 hV50
            go_wp2_with fail
            refine (Zeros_v t.g _ _ _ _ _ _ _ _ h L _ hg2 hh2 hi7 HMO.out.1).mono ?_
            rintro e V51 ⟨⟨A9, n9, ev9, zs, rfl, hzv, hsz⟩, hV51⟩
            replace q1 := q1.below hV51 q1.lt
            replace q2 := q2.below hV51 q2.lt
            replace bx := bx.below hV51 bx.lt
            replace hz := (hz.below hV51).up hV51.size
            replace hi := (hi.below hV51).up hV51.size
            replace hg := hg.go hV51
            replace hh := (hh.below hV51).up hV51.size
            replace bi := bi.below hV51 bi.lt
            replace hi7 := (hi7.below hV51).up hV51.size
            replace hg2 := hg2.go hV51
            replace hh2 := (hh2.below hV51).up hV51.size
            have B_V51 := ex_trans B_V50 hV51
            obtain ⟨rfl, rfl, hZ⟩ := zeros_ok2 HMO.out.2 hzv.out
            clear hZ hzv hsz hg2 hh2
            clear hi7 hg hh hi
            have i0 := bi.cell 0
            have i1 := bi.cell 1
            have i2 := bi.cell 2
            have li := bi.lt
            simp at i0 i1 i2
            rw [HCD.out] at i0
            have c0 := q2.cell 0
            have lc := q2.lt
            simp at c0
            rw [HK.out] at c0
            obtain ⟨b9, o9, hA9, hbv, v0⟩ := IsInts.at_ hz hkl
            injection hA9 with hA9
            injection hA9 with hA8 hA9
            subst hA8 hA9
            rw [HVK.out] at v0
            have d1 : decide (0 ≤ c.err) = true := decide_eq_true hce.1
            have d2 : decide (c.err ≤ 20) = true := decide_eq_true hce.2
            have d3 : decide (vz - c.zero ≤ c.err) = true := decide_eq_true hcl
            have d4 : decide (c.zero - vz ≤ c.err) = true := decide_eq_true hch
            go_upto_region 15 with fail
            refine wp_region_ext (by kernel_rfl) (by kernel_rfl) ?_
            repeat (go_big_quiet_step ((go_at_call 16; exact Calls.ext_of (sl_awake _))))
            refine wpQuiet_nil ?_; intro _ hw'; obtain ⟨X, rfl⟩ := hw'
            go_wp2
            go_ret
            exact ⟨rfl, ex_trans B_V51 X.h⟩
           obtain ⟨i0', hi0', hz0, hz1, hz2⟩ := info_parts icG_info
           have HI := Lib.hid hi0'
           clear hi0'
           have D := (Below.refl V46.heap.size V46).drew
           refine wp_region_ext_tq 5 (.quiet 0 (.quiet 2 (.fork 1 (.loud 3 (.loud 4 .done)) 3 (.loud 1 (.loud 4 .done))))) (by kernel_rfl) (by kernel_rfl) (by intro d _ _ _ _ h; cases d <;> exact h) ?_
           repeat (refine tq_quiet rfl ?_; go_big_quiet_step (fail); refine wpQuiet_nil ?_)
           refine tq_fork rfl rfl ?_ ?_
           ·
            go_wp2_with fail
            refine (Ices_own _ _ l _ (by omega) (hi.go (D))).mono ?_
            rintro e V52 ⟨⟨Ay, cy, rfl, o1⟩, hV52⟩
            replace o1 := own_base o1 (D).size
            have X_V52 := ex_trans (D) hV52
            go_wp2_with fail
            refine ⟨inEx X_V52, ?_⟩
            refine tq_loud rfl ?_
            go_wp2_with fail
            have N := ex_alloc X_V52 (.cells #[.int .i64 c.day, .int .i64 c.zero, .int .i64 c.err] 103)
            have qc : Blk (V52.alloc (.cells #[.int .i64 c.day, .int .i64 c.zero, .int .i64 c.err] 103)) V52.heap.size 103 #[.int .i64 c.day, .int .i64 c.zero, .int .i64 c.err] := Blk.new _ _ _
            replace o1 := own_below o1 (ex_alloc (Below.refl V52.heap.size V52) (.cells #[.int .i64 c.day, .int .i64 c.zero, .int .i64 c.err] 103))
            have hse := (X_V52).size
            obtain ⟨pc, hpc⟩ : ∃ p, V52.heap.size = p := ⟨_, rfl⟩
            rw [hpc] at qc
            try rw [hpc]
            have hpc0 : V46.heap.size ≤ pc := by omega
            clear hpc hse
            refine ⟨inEx N, ?_⟩
            have X_V53 := N
            generalize V52.alloc (.cells #[.int .i64 c.day, .int .i64 c.zero, .int .i64 c.err] 103) = V53 at *
            clear N
            refine tq_loud rfl ?_
            have hbs : V46.heap.size ≤ V53.heap.size := (X_V53).size
            go_wp2_with (at_builtin; refine wpList_append_list (f := cC) (F := fC) (sz := 3) cC_len cC_at cC_one rfl _ _ _ rfl V46.heap.size 103 i0' _ 24 Tryz.underlying49 HI.out hz0 hz1 hz2 rfl (by omega) Ay cy l rfl o1 (some ⟨pc, 0, none⟩) 1 [c] rfl (one_at qc (ice_row c.day c.zero c.err)) (by simp; unfold maxLen; omega) (by simp; omega) hbs (V53.heap.size) rfl ?_; intro L2 Bx kx V54 HX2 ox gx nx)
            have X_V54 := (X_V53).grown gx (X_V53).size (fun j hj => own_ge o1 hj)
            refine ⟨inEx X_V54, ?_⟩
            obtain ⟨Ax, cx, hv, _, _, hs2⟩ := own_C ox
            injection hv with hva hvb' hvc
            subst hva hvc
            clear hvb' ox gx nx o1 qc hbs
            refine tq_done (r := [_]) rfl ?_
            go_wp2_with fail
            exact hrest V54 Bx kx L2 _ X_V54 hs2 (Lib.hid HX2.out) (exFrame (by kernel_rfl))
           ·
            go_wp2_with fail
            have N := ex_alloc (Below.refl V46.heap.size V46) (.cells #[.int .i64 c.day, .int .i64 c.zero, .int .i64 c.err] 103)
            have qc : Blk (V46.alloc (.cells #[.int .i64 c.day, .int .i64 c.zero, .int .i64 c.err] 103)) V46.heap.size 103 #[.int .i64 c.day, .int .i64 c.zero, .int .i64 c.err] := Blk.new _ _ _
            have hse := ((Below.refl V46.heap.size V46)).size
            obtain ⟨pc, hpc⟩ : ∃ p, V46.heap.size = p := ⟨_, rfl⟩
            rw [hpc] at qc
            try rw [hpc]
            have hpc0 : V46.heap.size ≤ pc := by omega
            clear hpc hse
            replace N := N.drew
            replace qc := qc.drew
            refine ⟨inEx N, ?_⟩
            have X_V55 := N
            generalize (V46.alloc (.cells #[.int .i64 c.day, .int .i64 c.zero, .int .i64 c.err] 103)).drew = V55 at *
            clear N
            refine tq_loud rfl ?_
            go_wp2_with fail
            refine (Ices_own _ _ l _ (by omega) (hi.go (X_V55))).mono ?_
            rintro e V56 ⟨⟨Ay, cy, rfl, o1⟩, hV56⟩
            replace qc := qc.below hV56 qc.lt
            replace o1 := own_base o1 (X_V55).size
            have X_V56 := ex_trans (X_V55) hV56
            go_wp2_with fail
            refine ⟨inEx X_V56, ?_⟩
            refine tq_loud rfl ?_
            have hbs : V46.heap.size ≤ V56.heap.size := (X_V56).size
            go_wp2_with (at_builtin; refine wpList_append_list (f := cC) (F := fC) (sz := 3) cC_len cC_at cC_one rfl _ _ _ rfl V46.heap.size 103 i0' _ 24 Tryz.underlying49 HI.out hz0 hz1 hz2 rfl (by omega) Ay cy l rfl o1 (some ⟨pc, 0, none⟩) 1 [c] rfl (one_at qc (ice_row c.day c.zero c.err)) (by simp; unfold maxLen; omega) (by simp; omega) hbs (V56.heap.size) rfl ?_; intro L2 Bx kx V57 HX2 ox gx nx)
            have X_V57 := (X_V56).grown gx (X_V56).size (fun j hj => own_ge o1 hj)
            refine ⟨inEx X_V57, ?_⟩
            obtain ⟨Ax, cx, hv, _, _, hs2⟩ := own_C ox
            injection hv with hva hvb' hvc
            subst hva hvc
            clear hvb' ox gx nx o1 qc hbs
            refine tq_done (r := [_]) rfl ?_
            go_wp2_with fail
            exact hrest V57 Bx kx L2 _ X_V57 hs2 (Lib.hid HX2.out) (exFrame (by kernel_rfl))
         refine wp_region_ext_tq 10 (.quiet 0 (.quiet 2 (.fork 1 (.fork 3 (.fork 4 (.quiet 5 (.quiet 6 (.quiet 7 (.loud 8 (.loud 9 .done))))) 8 (.loud 4 (.quiet 5 (.quiet 6 (.quiet 7 (.loud 9 .done)))))) 8 (.loud 3 (.loud 4 (.quiet 5 (.quiet 6 (.quiet 7 (.loud 9 .done))))))) 8 (.loud 1 (.loud 3 (.loud 4 (.quiet 5 (.quiet 6 (.quiet 7 (.loud 9 .done)))))))))) (by kernel_rfl) (by kernel_rfl) (by intro d _ _ _ _ h; cases d <;> exact h) ?_
         have D0 := (Below.refl V44.heap.size V44).drew
         repeat (refine tq_quiet rfl ?_; first | (refine wpQuiet_load_row rfl 29 _ rfl _ rfl 29 _ (0, 0) _ q1.ex Tryz.underlying29 rfl (by kernel_rfl) ?_; simp only [Act.put, List.setIfInBounds_toArray, List.set_cons_zero, List.set_cons_succ]; refine wpQuiet_nil ?_) | (refine wpQuiet_load_row rfl 33 _ rfl _ rfl 33 _ (0, 0) _ q2.ex Tryz.underlying33 rfl (by kernel_rfl) ?_; simp only [Act.put, List.setIfInBounds_toArray, List.set_cons_zero, List.set_cons_succ]; refine wpQuiet_nil ?_) | (go_big_quiet_step (fail); refine wpQuiet_nil ?_))
         refine tq_fork rfl rfl ?_ ?_
         ·
          go_wp2_with fail
          refine (sr_Tube t Ab Ad cb cd _ (hg.go (((Below.refl V44.heap.size V44)).drew)) (by omega) (by omega)).mono ?_
          rintro e V58 ⟨⟨Ab1, Ad1, cb1, cd1, rfl, hg1⟩, hV58⟩
          have N1 := ex_trans ((Below.refl V44.heap.size V44)).drew hV58
          go_wp2_with fail
          refine ⟨inEx N1, ?_⟩
          repeat (refine tq_quiet rfl ?_; go_big_quiet_step (fail); refine wpQuiet_nil ?_)
          refine tq_fork rfl rfl ?_ ?_
          ·
           go_wp2_with fail
           refine (sr_Reading (atS r s) _).mono ?_
           rintro e V59 ⟨rfl, hV59⟩
           have N3 := ex_trans N1 hV59
           go_wp2_with fail
           replace hg1 := hg1.go hV59
           refine ⟨inEx N3, ?_⟩
           repeat (refine tq_quiet rfl ?_; go_big_quiet_step (fail); refine wpQuiet_nil ?_)
           refine tq_fork rfl rfl ?_ ?_
           ·
            go_wp2_with fail
            refine (IceOf_v t Ab1 Ad1 cb1 cd1 (atS r s) _ hg1).mono ?_
            rintro e V60 ⟨rfl, hV60⟩
            have N4 := ex_trans N3 hV60
            go_wp2_with fail
            refine ⟨inEx N4, ?_⟩
            repeat (refine tq_quiet rfl ?_; go_big_quiet_step (fail); refine wpQuiet_nil ?_)
            refine tq_loud rfl ?_
            go_wp2_with fail
            have si := (N4).size
            try simp at si
            have N8 := ex_alloc N4 (.cells #[.int .i64 0, .int .i64 0, .int .i64 0] 103)
            have bi : Blk (V60.alloc (.cells #[.int .i64 0, .int .i64 0, .int .i64 0] 103)) (V60.heap.size) 103 #[.int .i64 0, .int .i64 0, .int .i64 0] := Blk.new' _ _ _ (by first | rfl | (simp; done) | (simp; omega))
            obtain ⟨pi, hpi⟩ : ∃ p, V60.heap.size = p := ⟨_, rfl⟩
            rw [hpi] at bi
            try rw [hpi]
            have yi : V44.heap.size ≤ pi := by omega
            clear si
            refine ⟨inEx N8, ?_⟩
            repeat (refine tq_quiet rfl ?_; go_big_quiet_step (fail); refine wpQuiet_nil ?_)
            refine tq_loud rfl ?_
            have XA9 := N8
            generalize (V60.alloc (.cells #[.int .i64 0, .int .i64 0, .int .i64 0] 103)) = V61 at *
            have sc0 : V61.cell? ⟨pi, 0, none⟩ = some (.int .i64 0) := bi.cell 0
            have sc1 : V61.cell? ⟨pi, 1, none⟩ = some (.int .i64 0) := bi.cell 1
            have sc2 : V61.cell? ⟨pi, 2, none⟩ = some (.int .i64 0) := bi.cell 2
            have sf := bi.frozen0
            have sl := bi.lt
            go_wp2_with fail
            replace bi := bi.set_ 0 (.int .i64 (icoV t (atS r s)).day)
            replace XA9 := ex_set (p := ⟨pi, 0, none⟩) XA9 yi (.int .i64 (icoV t (atS r s)).day)
            replace bi := bi.set_ 1 (.int .i64 (icoV t (atS r s)).zero)
            replace XA9 := ex_set (p := ⟨pi, 1, none⟩) XA9 yi (.int .i64 (icoV t (atS r s)).zero)
            replace bi := bi.set_ 2 (.int .i64 (icoV t (atS r s)).err)
            replace XA9 := ex_set (p := ⟨pi, 2, none⟩) XA9 yi (.int .i64 (icoV t (atS r s)).err)
            simp only [List.setIfInBounds_toArray, List.set_cons_zero, List.set_cons_succ] at bi
            clear sf sl sc0 sc1 sc2
            generalize (((V61.setCell ⟨pi, 0, none⟩ (.int .i64 (icoV t (atS r s)).day)).setCell ⟨pi, 1, none⟩ (.int .i64 (icoV t (atS r s)).zero)).setCell ⟨pi, 2, none⟩ (.int .i64 (icoV t (atS r s)).err)) = V62 at *
            refine ⟨inEx XA9, ?_⟩
            repeat (refine tq_quiet rfl ?_; go_big_quiet_step (fail); refine wpQuiet_nil ?_)
            refine tq_done (r := [_]) rfl ?_
            go_wp2_with fail
            exact hrest V62 pi (icoV t (atS r s)) (icoE t (atS r s)) _ (XA9) yi bi (Lib.hid ⟨rfl, rfl⟩) (exFrame (by kernel_rfl))
           ·
            go_wp2_with fail
            have si := (N3).size
            try simp at si
            have N8 := ex_alloc N3 (.cells #[.int .i64 0, .int .i64 0, .int .i64 0] 103)
            have bi : Blk (V59.alloc (.cells #[.int .i64 0, .int .i64 0, .int .i64 0] 103)) (V59.heap.size) 103 #[.int .i64 0, .int .i64 0, .int .i64 0] := Blk.new' _ _ _ (by first | rfl | (simp; done) | (simp; omega))
            replace hg1 := hg1.go (ex_alloc (Below.refl V59.heap.size V59) (.cells #[.int .i64 0, .int .i64 0, .int .i64 0] 103))
            obtain ⟨pi, hpi⟩ : ∃ p, V59.heap.size = p := ⟨_, rfl⟩
            rw [hpi] at bi
            try rw [hpi]
            have yi : V44.heap.size ≤ pi := by omega
            clear si
            refine ⟨inEx N8, ?_⟩
            repeat (refine tq_quiet rfl ?_; go_big_quiet_step (fail); refine wpQuiet_nil ?_)
            refine tq_loud rfl ?_
            go_wp2_with fail
            refine (IceOf_v t Ab1 Ad1 cb1 cd1 (atS r s) _ hg1).mono ?_
            rintro e V63 ⟨rfl, hV63⟩
            replace bi := Blk.below bi hV63 bi.lt
            have N4 := ex_trans N8 hV63
            go_wp2_with fail
            refine ⟨inEx N4, ?_⟩
            repeat (refine tq_quiet rfl ?_; go_big_quiet_step (fail); refine wpQuiet_nil ?_)
            refine tq_loud rfl ?_
            have XA9 := N4
            generalize V63 = V64 at *
            have sc0 : V64.cell? ⟨pi, 0, none⟩ = some (.int .i64 0) := bi.cell 0
            have sc1 : V64.cell? ⟨pi, 1, none⟩ = some (.int .i64 0) := bi.cell 1
            have sc2 : V64.cell? ⟨pi, 2, none⟩ = some (.int .i64 0) := bi.cell 2
            have sf := bi.frozen0
            have sl := bi.lt
            go_wp2_with fail
            replace bi := bi.set_ 0 (.int .i64 (icoV t (atS r s)).day)
            replace XA9 := ex_set (p := ⟨pi, 0, none⟩) XA9 yi (.int .i64 (icoV t (atS r s)).day)
            replace bi := bi.set_ 1 (.int .i64 (icoV t (atS r s)).zero)
            replace XA9 := ex_set (p := ⟨pi, 1, none⟩) XA9 yi (.int .i64 (icoV t (atS r s)).zero)
            replace bi := bi.set_ 2 (.int .i64 (icoV t (atS r s)).err)
            replace XA9 := ex_set (p := ⟨pi, 2, none⟩) XA9 yi (.int .i64 (icoV t (atS r s)).err)
            simp only [List.setIfInBounds_toArray, List.set_cons_zero, List.set_cons_succ] at bi
            clear sf sl sc0 sc1 sc2
            generalize (((V64.setCell ⟨pi, 0, none⟩ (.int .i64 (icoV t (atS r s)).day)).setCell ⟨pi, 1, none⟩ (.int .i64 (icoV t (atS r s)).zero)).setCell ⟨pi, 2, none⟩ (.int .i64 (icoV t (atS r s)).err)) = V65 at *
            refine ⟨inEx XA9, ?_⟩
            repeat (refine tq_quiet rfl ?_; go_big_quiet_step (fail); refine wpQuiet_nil ?_)
            refine tq_done (r := [_]) rfl ?_
            go_wp2_with fail
            exact hrest V65 pi (icoV t (atS r s)) (icoE t (atS r s)) _ (XA9) yi bi (Lib.hid ⟨rfl, rfl⟩) (exFrame (by kernel_rfl))
          ·
           go_wp2_with fail
           have si := (N1).size
           try simp at si
           have N8 := ex_alloc N1 (.cells #[.int .i64 0, .int .i64 0, .int .i64 0] 103)
           have bi : Blk (V58.alloc (.cells #[.int .i64 0, .int .i64 0, .int .i64 0] 103)) (V58.heap.size) 103 #[.int .i64 0, .int .i64 0, .int .i64 0] := Blk.new' _ _ _ (by first | rfl | (simp; done) | (simp; omega))
           replace hg1 := hg1.go (ex_alloc (Below.refl V58.heap.size V58) (.cells #[.int .i64 0, .int .i64 0, .int .i64 0] 103))
           obtain ⟨pi, hpi⟩ : ∃ p, V58.heap.size = p := ⟨_, rfl⟩
           rw [hpi] at bi
           try rw [hpi]
           have yi : V44.heap.size ≤ pi := by omega
           clear si
           refine ⟨inEx N8, ?_⟩
           repeat (refine tq_quiet rfl ?_; go_big_quiet_step (fail); refine wpQuiet_nil ?_)
           refine tq_loud rfl ?_
           go_wp2_with fail
           refine (sr_Reading (atS r s) _).mono ?_
           rintro e V66 ⟨rfl, hV66⟩
           replace bi := Blk.below bi hV66 bi.lt
           have N3 := ex_trans N8 hV66
           go_wp2_with fail
           replace hg1 := hg1.go hV66
           refine ⟨inEx N3, ?_⟩
           repeat (refine tq_quiet rfl ?_; go_big_quiet_step (fail); refine wpQuiet_nil ?_)
           refine tq_loud rfl ?_
           go_wp2_with fail
           refine (IceOf_v t Ab1 Ad1 cb1 cd1 (atS r s) _ hg1).mono ?_
           rintro e V67 ⟨rfl, hV67⟩
           replace bi := Blk.below bi hV67 bi.lt
           have N4 := ex_trans N3 hV67
           go_wp2_with fail
           refine ⟨inEx N4, ?_⟩
           repeat (refine tq_quiet rfl ?_; go_big_quiet_step (fail); refine wpQuiet_nil ?_)
           refine tq_loud rfl ?_
           have XA9 := N4
           generalize V67 = V68 at *
           have sc0 : V68.cell? ⟨pi, 0, none⟩ = some (.int .i64 0) := bi.cell 0
           have sc1 : V68.cell? ⟨pi, 1, none⟩ = some (.int .i64 0) := bi.cell 1
           have sc2 : V68.cell? ⟨pi, 2, none⟩ = some (.int .i64 0) := bi.cell 2
           have sf := bi.frozen0
           have sl := bi.lt
           go_wp2_with fail
           replace bi := bi.set_ 0 (.int .i64 (icoV t (atS r s)).day)
           replace XA9 := ex_set (p := ⟨pi, 0, none⟩) XA9 yi (.int .i64 (icoV t (atS r s)).day)
           replace bi := bi.set_ 1 (.int .i64 (icoV t (atS r s)).zero)
           replace XA9 := ex_set (p := ⟨pi, 1, none⟩) XA9 yi (.int .i64 (icoV t (atS r s)).zero)
           replace bi := bi.set_ 2 (.int .i64 (icoV t (atS r s)).err)
           replace XA9 := ex_set (p := ⟨pi, 2, none⟩) XA9 yi (.int .i64 (icoV t (atS r s)).err)
           simp only [List.setIfInBounds_toArray, List.set_cons_zero, List.set_cons_succ] at bi
           clear sf sl sc0 sc1 sc2
           generalize (((V68.setCell ⟨pi, 0, none⟩ (.int .i64 (icoV t (atS r s)).day)).setCell ⟨pi, 1, none⟩ (.int .i64 (icoV t (atS r s)).zero)).setCell ⟨pi, 2, none⟩ (.int .i64 (icoV t (atS r s)).err)) = V69 at *
           refine ⟨inEx XA9, ?_⟩
           repeat (refine tq_quiet rfl ?_; go_big_quiet_step (fail); refine wpQuiet_nil ?_)
           refine tq_done (r := [_]) rfl ?_
           go_wp2_with fail
           exact hrest V69 pi (icoV t (atS r s)) (icoE t (atS r s)) _ (XA9) yi bi (Lib.hid ⟨rfl, rfl⟩) (exFrame (by kernel_rfl))
         ·
          go_wp2_with fail
          have si := ((Below.refl V44.heap.size V44)).size
          try simp at si
          have N8 := ex_alloc (Below.refl V44.heap.size V44) (.cells #[.int .i64 0, .int .i64 0, .int .i64 0] 103)
          have bi : Blk (V44.alloc (.cells #[.int .i64 0, .int .i64 0, .int .i64 0] 103)) (V44.heap.size) 103 #[.int .i64 0, .int .i64 0, .int .i64 0] := Blk.new' _ _ _ (by first | rfl | (simp; done) | (simp; omega))
          obtain ⟨pi, hpi⟩ : ∃ p, V44.heap.size = p := ⟨_, rfl⟩
          rw [hpi] at bi
          try rw [hpi]
          have yi : V44.heap.size ≤ pi := by omega
          clear si
          refine ⟨inEx (N8).drew, ?_⟩
          repeat (refine tq_quiet rfl ?_; go_big_quiet_step (fail); refine wpQuiet_nil ?_)
          refine tq_loud rfl ?_
          go_wp2_with fail
          refine (sr_Tube t Ab Ad cb cd _ (hg.go ((N8).drew)) (by omega) (by omega)).mono ?_
          rintro e V70 ⟨⟨Ab1, Ad1, cb1, cd1, rfl, hg1⟩, hV70⟩
          replace bi := Blk.below (Blk.drew bi) hV70 bi.lt
          have N1 := ex_trans (N8).drew hV70
          go_wp2_with fail
          refine ⟨inEx N1, ?_⟩
          repeat (refine tq_quiet rfl ?_; go_big_quiet_step (fail); refine wpQuiet_nil ?_)
          refine tq_loud rfl ?_
          go_wp2_with fail
          refine (sr_Reading (atS r s) _).mono ?_
          rintro e V71 ⟨rfl, hV71⟩
          replace bi := Blk.below bi hV71 bi.lt
          have N3 := ex_trans N1 hV71
          go_wp2_with fail
          replace hg1 := hg1.go hV71
          refine ⟨inEx N3, ?_⟩
          repeat (refine tq_quiet rfl ?_; go_big_quiet_step (fail); refine wpQuiet_nil ?_)
          refine tq_loud rfl ?_
          go_wp2_with fail
          refine (IceOf_v t Ab1 Ad1 cb1 cd1 (atS r s) _ hg1).mono ?_
          rintro e V72 ⟨rfl, hV72⟩
          replace bi := Blk.below bi hV72 bi.lt
          have N4 := ex_trans N3 hV72
          go_wp2_with fail
          refine ⟨inEx N4, ?_⟩
          repeat (refine tq_quiet rfl ?_; go_big_quiet_step (fail); refine wpQuiet_nil ?_)
          refine tq_loud rfl ?_
          have XA9 := N4
          generalize V72 = V73 at *
          have sc0 : V73.cell? ⟨pi, 0, none⟩ = some (.int .i64 0) := bi.cell 0
          have sc1 : V73.cell? ⟨pi, 1, none⟩ = some (.int .i64 0) := bi.cell 1
          have sc2 : V73.cell? ⟨pi, 2, none⟩ = some (.int .i64 0) := bi.cell 2
          have sf := bi.frozen0
          have sl := bi.lt
          go_wp2_with fail
          replace bi := bi.set_ 0 (.int .i64 (icoV t (atS r s)).day)
          replace XA9 := ex_set (p := ⟨pi, 0, none⟩) XA9 yi (.int .i64 (icoV t (atS r s)).day)
          replace bi := bi.set_ 1 (.int .i64 (icoV t (atS r s)).zero)
          replace XA9 := ex_set (p := ⟨pi, 1, none⟩) XA9 yi (.int .i64 (icoV t (atS r s)).zero)
          replace bi := bi.set_ 2 (.int .i64 (icoV t (atS r s)).err)
          replace XA9 := ex_set (p := ⟨pi, 2, none⟩) XA9 yi (.int .i64 (icoV t (atS r s)).err)
          simp only [List.setIfInBounds_toArray, List.set_cons_zero, List.set_cons_succ] at bi
          clear sf sl sc0 sc1 sc2
          generalize (((V73.setCell ⟨pi, 0, none⟩ (.int .i64 (icoV t (atS r s)).day)).setCell ⟨pi, 1, none⟩ (.int .i64 (icoV t (atS r s)).zero)).setCell ⟨pi, 2, none⟩ (.int .i64 (icoV t (atS r s)).err)) = V74 at *
          refine ⟨inEx XA9, ?_⟩
          repeat (refine tq_quiet rfl ?_; go_big_quiet_step (fail); refine wpQuiet_nil ?_)
          refine tq_done (r := [_]) rfl ?_
          go_wp2_with fail
          exact hrest V74 pi (icoV t (atS r s)) (icoE t (atS r s)) _ (XA9) yi bi (Lib.hid ⟨rfl, rfl⟩) (exFrame (by kernel_rfl))
    refine wp_region_ext_tq 10 (.quiet 0 (.quiet 1 (.quiet 2 (.quiet 3 (.quiet 4 (.quiet 5 (.quiet 6 (.quiet 7 (.fork 8 (.loud 9 .done) 9 (.loud 8 .done)))))))))) (by kernel_rfl) (by kernel_rfl) (by intro d _ _ _ _ h; cases d <;> exact h) ?_
    have D0 := (Below.refl V3.heap.size V3).drew
    repeat (refine tq_quiet rfl ?_; first | (refine wpQuiet_load_row rfl 29 _ rfl _ rfl 29 _ (0, 0) _ q1.ex Tryz.underlying29 rfl (by kernel_rfl) ?_; simp only [Act.put, List.setIfInBounds_toArray, List.set_cons_zero, List.set_cons_succ]; refine wpQuiet_nil ?_) | (refine wpQuiet_load_row rfl 33 _ rfl _ rfl 33 _ (0, 0) _ q2.ex Tryz.underlying33 rfl (by kernel_rfl) ?_; simp only [Act.put, List.setIfInBounds_toArray, List.set_cons_zero, List.set_cons_succ]; refine wpQuiet_nil ?_) | (go_big_quiet_step (fail); refine wpQuiet_nil ?_))
    refine tq_fork rfl rfl ?_ ?_
    ·
     go_wp2_with fail
     refine (sl_picked t _ _ _ _ Aw cw ws r vz _ (hw.go (((Below.refl V3.heap.size V3)).drew)) HWB.out hwl HO.out.tb HO.out.rd).mono ?_
     rintro e V75 ⟨⟨x, rfl, hx⟩, hV75⟩
     have N8 := ex_trans ((Below.refl V3.heap.size V3)).drew hV75
     go_wp2_with fail
     refine ⟨inEx N8, ?_⟩
     refine tq_loud rfl ?_
     go_wp2_with fail
     have sx := (N8).size
     try simp at sx
     have N9 := ex_alloc N8 (.cells #[.int .i64 0, .int .i64 0, .int .i64 0, .int .i64 0, .int .i64 0, .int .i64 0, .int .i64 0] 82)
     have bx : Blk (V75.alloc (.cells #[.int .i64 0, .int .i64 0, .int .i64 0, .int .i64 0, .int .i64 0, .int .i64 0, .int .i64 0] 82)) (V75.heap.size) 82 #[.int .i64 0, .int .i64 0, .int .i64 0, .int .i64 0, .int .i64 0, .int .i64 0, .int .i64 0] := Blk.new' _ _ _ (by first | rfl | (simp; done) | (simp; omega))
     obtain ⟨px, hpx⟩ : ∃ p, V75.heap.size = p := ⟨_, rfl⟩
     rw [hpx] at bx
     try rw [hpx]
     have yx : V3.heap.size ≤ px := by omega
     clear sx
     refine ⟨inEx N9, ?_⟩
     refine tq_done (r := [_]) rfl ?_
     have XA := N9
     generalize (V75.alloc (.cells #[.int .i64 0, .int .i64 0, .int .i64 0, .int .i64 0, .int .i64 0, .int .i64 0, .int .i64 0] 82)) = V76 at *
     have sc0 : V76.cell? ⟨px, 0, none⟩ = some (.int .i64 0) := bx.cell 0
     have sc1 : V76.cell? ⟨px, 1, none⟩ = some (.int .i64 0) := bx.cell 1
     have sc2 : V76.cell? ⟨px, 2, none⟩ = some (.int .i64 0) := bx.cell 2
     have sc3 : V76.cell? ⟨px, 3, none⟩ = some (.int .i64 0) := bx.cell 3
     have sc4 : V76.cell? ⟨px, 4, none⟩ = some (.int .i64 0) := bx.cell 4
     have sc5 : V76.cell? ⟨px, 5, none⟩ = some (.int .i64 0) := bx.cell 5
     have sc6 : V76.cell? ⟨px, 6, none⟩ = some (.int .i64 0) := bx.cell 6
     have sf := bx.frozen0
     have sl := bx.lt
     go_wp2_with fail
     replace bx := bx.set_ 0 (.int .i64 x.zero)
     replace XA := ex_set (p := ⟨px, 0, none⟩) XA yx (.int .i64 x.zero)
     replace bx := bx.set_ 1 (.int .i64 x.k)
     replace XA := ex_set (p := ⟨px, 1, none⟩) XA yx (.int .i64 x.k)
     replace bx := bx.set_ 2 (.int .i64 x.lag)
     replace XA := ex_set (p := ⟨px, 2, none⟩) XA yx (.int .i64 x.lag)
     replace bx := bx.set_ 3 (.int .i64 x.sq)
     replace XA := ex_set (p := ⟨px, 3, none⟩) XA yx (.int .i64 x.sq)
     replace bx := bx.set_ 4 (.int .i64 x.air)
     replace XA := ex_set (p := ⟨px, 4, none⟩) XA yx (.int .i64 x.air)
     replace bx := bx.set_ 5 (.int .i64 x.rate)
     replace XA := ex_set (p := ⟨px, 5, none⟩) XA yx (.int .i64 x.rate)
     replace bx := bx.set_ 6 (.int .i64 x.off)
     replace XA := ex_set (p := ⟨px, 6, none⟩) XA yx (.int .i64 x.off)
     simp only [List.setIfInBounds_toArray, List.set_cons_zero, List.set_cons_succ] at bx
     exact hrest _ px x _ XA yx bx hx (exFrame (by kernel_rfl))
    ·
     go_wp2_with fail
     have sx := ((Below.refl V3.heap.size V3)).size
     try simp at sx
     have N9 := ex_alloc (Below.refl V3.heap.size V3) (.cells #[.int .i64 0, .int .i64 0, .int .i64 0, .int .i64 0, .int .i64 0, .int .i64 0, .int .i64 0] 82)
     have bx : Blk (V3.alloc (.cells #[.int .i64 0, .int .i64 0, .int .i64 0, .int .i64 0, .int .i64 0, .int .i64 0, .int .i64 0] 82)) (V3.heap.size) 82 #[.int .i64 0, .int .i64 0, .int .i64 0, .int .i64 0, .int .i64 0, .int .i64 0, .int .i64 0] := Blk.new' _ _ _ (by first | rfl | (simp; done) | (simp; omega))
     obtain ⟨px, hpx⟩ : ∃ p, V3.heap.size = p := ⟨_, rfl⟩
     rw [hpx] at bx
     try rw [hpx]
     have yx : V3.heap.size ≤ px := by omega
     clear sx
     refine ⟨inEx (N9).drew, ?_⟩
     refine tq_loud rfl ?_
     go_wp2_with fail
     refine (sl_picked t _ _ _ _ Aw cw ws r vz _ (hw.go ((N9).drew)) HWB.out hwl HO.out.tb HO.out.rd).mono ?_
     rintro e V77 ⟨⟨x, rfl, hx⟩, hV77⟩
     replace bx := Blk.below (Blk.drew bx) hV77 bx.lt
     have N8 := ex_trans (N9).drew hV77
     go_wp2_with fail
     refine ⟨inEx N8, ?_⟩
     refine tq_done (r := [_]) rfl ?_
     have XA := N8
     generalize V77 = V78 at *
     have sc0 : V78.cell? ⟨px, 0, none⟩ = some (.int .i64 0) := bx.cell 0
     have sc1 : V78.cell? ⟨px, 1, none⟩ = some (.int .i64 0) := bx.cell 1
     have sc2 : V78.cell? ⟨px, 2, none⟩ = some (.int .i64 0) := bx.cell 2
     have sc3 : V78.cell? ⟨px, 3, none⟩ = some (.int .i64 0) := bx.cell 3
     have sc4 : V78.cell? ⟨px, 4, none⟩ = some (.int .i64 0) := bx.cell 4
     have sc5 : V78.cell? ⟨px, 5, none⟩ = some (.int .i64 0) := bx.cell 5
     have sc6 : V78.cell? ⟨px, 6, none⟩ = some (.int .i64 0) := bx.cell 6
     have sf := bx.frozen0
     have sl := bx.lt
     go_wp2_with fail
     replace bx := bx.set_ 0 (.int .i64 x.zero)
     replace XA := ex_set (p := ⟨px, 0, none⟩) XA yx (.int .i64 x.zero)
     replace bx := bx.set_ 1 (.int .i64 x.k)
     replace XA := ex_set (p := ⟨px, 1, none⟩) XA yx (.int .i64 x.k)
     replace bx := bx.set_ 2 (.int .i64 x.lag)
     replace XA := ex_set (p := ⟨px, 2, none⟩) XA yx (.int .i64 x.lag)
     replace bx := bx.set_ 3 (.int .i64 x.sq)
     replace XA := ex_set (p := ⟨px, 3, none⟩) XA yx (.int .i64 x.sq)
     replace bx := bx.set_ 4 (.int .i64 x.air)
     replace XA := ex_set (p := ⟨px, 4, none⟩) XA yx (.int .i64 x.air)
     replace bx := bx.set_ 5 (.int .i64 x.rate)
     replace XA := ex_set (p := ⟨px, 5, none⟩) XA yx (.int .i64 x.rate)
     replace bx := bx.set_ 6 (.int .i64 x.off)
     replace XA := ex_set (p := ⟨px, 6, none⟩) XA yx (.int .i64 x.off)
     simp only [List.setIfInBounds_toArray, List.set_cons_zero, List.set_cons_succ] at bx
     exact hrest _ px x _ XA yx bx hx (exFrame (by kernel_rfl))


end Go.Proofs.YtkaogjhnogkcdaaGreat
end

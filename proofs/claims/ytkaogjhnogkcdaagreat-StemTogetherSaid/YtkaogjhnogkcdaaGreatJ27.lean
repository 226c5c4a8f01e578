/- The law StemTogether (walk). -/
import Derived.Test.YtkaogjhnogkcdaaGreatJ21
import Derived.Test.YtkaogjhnogkcdaaGreatJ25
import Derived.Test.YtkaogjhnogkcdaaGreatJ23
import Derived.Test.YtkaogjhnogkcdaaGreatJ26
set_option linter.unusedVariables false
set_option linter.unusedSimpArgs false
set_option linter.unusedSectionVars false
section
namespace Go.Proofs.YtkaogjhnogkcdaaGreat
open Go.RowKit
attribute [local go_sem] Ex.cell? Ex.frozen?

def yR (r : Rd) (s e b d : Int) : Rd := { r with shown := s, err := e, bare := b, deep := d }
def zT (x : Tx) (o : Int) : Tx := { x with off := o }
theorem yR_bd {r : Rd} {s e b d : Int} (h : RdBd r) (hs : -5000 ≤ s ∧ s ≤ 5000) (he : 0 ≤ e ∧ e < 21) (hb : 0 ≤ b ∧ b < 301) (hd : 0 ≤ d ∧ d < 21) : RdBd (yR r s e b d) := ⟨hs, by simp only [yR]; omega, by simp only [yR]; omega, h.air, h.rate, by simp only [yR]; omega⟩
theorem yR_w {r : Rd} {s e b d : Int} (hs : -5000 ≤ s ∧ s ≤ 150000) (hb : 0 ≤ b ∧ b < 301) (hd : 0 ≤ d ∧ d < 21) : RdW (yR r s e b d) := ⟨hs, by simp only [yR]; omega, by simp only [yR]; omega⟩
theorem yR_ok {n : Nat} {r : Rd} {s e b d : Int} (h : rdOk n r = true) (hs : -5000 ≤ s ∧ s ≤ 5000) (he : 0 ≤ e ∧ e < 21) (hb : 0 ≤ b ∧ b < 301) (hd : 0 ≤ d ∧ d < 21) : rdOk n (yR r s e b d) = true :=
 rdOk_iff.2 ⟨(rdOk_iff.1 h).1, yR_bd (rdOk_iff.1 h).2 hs he hb hd⟩
theorem zT_in {t : Tb} {r : Rd} {x : Tx} {s e b d o : Int} (h : TxIn t r x) (ho : -e ≤ o ∧ o ≤ e) : TxIn t (yR r s e b d) (zT x o) := ⟨h.ki, h.air, h.rate, ho⟩
theorem tog_more {n : Nat} {t : Tb} {r : Rd} {x : Tx} {n0 : Int} {L : List Rd} {s e b d o : Int} (hT : Tog n r x.ki n0 L) (ht : TbBd t) (hr : rdOk n r = true) (hbr : r.broken = false) (hx : TxIn t r x) (hs : -5000 ≤ s ∧ s ≤ 5000) (he : 0 ≤ e ∧ e < 21) (hb : 0 ≤ b ∧ b < 301) (hd : 0 ≤ d ∧ d < 21) (ho : -e ≤ o ∧ o ≤ e)
  (hp : playW (yR r s e b d) (zT x o) = n0 - x.zero) : Tog n r x.ki n0 (L ++ [yR r s e b d]) :=
 hT.snoc (yR_ok hr hs he hb hd) rfl hbr (made_says (x := zT x o) (yR_bd (rdOk_iff.1 hr).2 hs he hb hd) ht (zT_in hx ho) hp)
theorem play_bdW {r : Rd} {x : Tx} {t : Tb} (ht : TbBd t) (hr : RdBd r) (hx : TxIn t r x) (hz : -100000 ≤ x.zero ∧ x.zero ≤ 100000) : -106000 ≤ playW r x ∧ playW r x ≤ 106000 := by
 have h1 := hr.air; have h2 := hr.rate; have h3 := hr.err; have h4 := hx.air; have h5 := hx.rate; have h6 := hx.off
 have := woP_bd (hx.ki.bd ht) hr (air := x.air) (rate := x.rate) (off := x.off) (by omega) (by omega) (by omega)
 unfold playW
 omega
theorem zAt_bdS {g : Gl} {h : List Rg} {t1 t2 t3 : List Int} (hok : Ok g h) (ht : truthB g h t1 t2 t3 = true) {d : Nat} (hd : d < h.length) : -100000 ≤ zAt g t1 t2 t3 d ∧ zAt g t1 t2 t3 d ≤ 100000 := by
 have h1 := riseTo_bd hok (truthB_iff.1 ht).2 (d := d + 1) (by omega)
 have h2 := sinkTo_bd hok (truthB_iff.1 ht).2 (d := d + 1) (by omega)
 have h3 := hok.base
 have h4 := hok.nh
 unfold zAt
 omega

theorem liv_bdS {t : Tb} {h : List Rg} {l : List Ic} {zl : List Int} {k : Nat} (hl : LivOk t h l zl) (hk : k < h.length) : -100000 ≤ gI zl k ∧ gI zl k ≤ 100000 := by
 obtain ⟨t1, t2, t3, ht, rfl, _⟩ := hl.truth
 rw [gI_play hk]
 exact zAt_bdS hl.ok ht hk
theorem rg_eq {R S : Rg} (h1 : R.lo = S.lo) (h2 : R.hi = S.hi) : R = S := by
 cases R; cases S; simp only at h1 h2; rw [h1, h2]
set_option maxRecDepth 100000 in
set_option maxHeartbeats 12800000 in
theorem sl_together (t : Tb) (Ab Ad : Option Addr) (cb cd : Nat) (Ah Aw Ao : Option Addr) (ch cw co : Nat) (h : List Rg) (ws oz : List Int) (m : Int) (r : Rd) (w : World) (hg : GlIn w w.heap.size t.g Ab Ad) (hh : SlAt w w.heap.size 2 Ah h.length (fR h)) (hw : SlAt w w.heap.size 1 Aw ws.length (fU ws)) (ho : SlAt w w.heap.size 1 Ao oz.length (fU oz))
  (hwb : ∀ k, k < ws.length → 0 ≤ gI ws k ∧ gI ws k ≤ 65535) (hob : ∀ k, k < oz.length → 0 ≤ gI oz k ∧ gI oz k ≤ 65535) (hwl : ws.length ≤ maxLen) (hol : oz.length ≤ maxLen) (hm : 0 ≤ m ∧ m ≤ 255) :
  Calls Tryz.prog 9 #[.agg #[.int .i64 t.g.base, .slice Ab t.g.bands.length cb, .slice Ad t.g.depths.length cd, .int .i64 t.g.blo, .int .i64 t.g.bhi, .int .i64 t.k.lo, .int .i64 t.k.hi, .int .i64 t.lag.lo, .int .i64 t.lag.hi, .int .i64 t.sq.lo, .int .i64 t.sq.hi, .int .i64 t.term], .slice Ah h.length ch, .slice Aw ws.length cw, .slice Ao oz.length co, .int .u8 m, .agg #[.int .i64 r.day, .int .i64 r.shown, .int .i64 r.err, .int .i64 r.bare, .int .i64 r.air.lo, .int .i64 r.air.hi, .int .i64 r.rate.lo, .int .i64 r.rate.hi, .int .i64 r.deep, .bool r.broken]] w fun e w' => e = .returned (.bool true) ∧ Below w.heap.size w w' := by
 obtain ⟨i0, hi0, hz0, hz1, hz2⟩ := info_parts rd6_info
 have HI := Lib.hid hi0
 clear hi0
 have HWB := Lib.hid hwb
 have HOB := Lib.hid hob
 clear hwb hob
 go_enter Tryz.func9, Tryz.ntmps9
 go_upto_region 1 with fail
 show Code.wp _ _ _ _ _
 refine box2 (K := fun V => Code.wp _ _ _ _ V) ?_
 intro V hb1 q1 q2
 replace hg := hg.go hb1
 replace hh := (hh.below hb1).up hb1.size
 replace hw := (hw.below hb1).up hb1.size
 replace ho := (ho.below hb1).up hb1.size
 obtain ⟨pq1, hpq1⟩ : ∃ p, w.heap.size = p := ⟨_, rfl⟩
 obtain ⟨pq2, hpq2⟩ : ∃ p, w.heap.size + 1 = p := ⟨_, rfl⟩
 rw [hpq2] at q2 ⊢
 rw [hpq1] at q1 ⊢
 have hp1 : w.heap.size ≤ pq1 := by omega
 have hp2 : w.heap.size ≤ pq2 := by omega
 clear hpq1 hpq2
 go_wp2_with (refine pause_at 30 rfl ?_)
 refine Paused.mk ?_
 refine wpList_load_row rfl 29 _ rfl _ rfl 29 _ (0, 0) _ (q1) Tryz.underlying29 rfl (by kernel_rfl) ?_
 go_wp2_with fail
 refine (sl_lives t Ab Ad cb cd Ah Aw ch cw h ws m _ hg hh hw HWB.out hwl hm).mono ?_
 rintro e V1 ⟨hlv, hV1⟩
 replace q1 := q1.below hV1 q1.lt
 replace q2 := q2.below hV1 q2.lt
 replace hg := hg.go hV1
 replace hh := (hh.below hV1).up hV1.size
 replace hw := (hw.below hV1).up hV1.size
 replace ho := (ho.below hV1).up hV1.size
 have B_V1 := ex_trans hb1 hV1
 obtain ⟨hlv⟩ := hlv
 rcases hlv with ⟨A0, n0, c0, A0', n0', c0', rfl⟩ | ⟨Ai, ci, l, Az, cz, zl, rfl, hl, hci1, hci2, hi, hz⟩
 ·
  go_wp2_with fail
  refine (sl_awake _).mono ?_
  rintro e V2 ⟨rfl, hV2⟩
  replace q1 := q1.below hV2 q1.lt
  replace q2 := q2.below hV2 q2.lt
  replace hg := hg.go hV2
  replace hh := (hh.below hV2).up hV2.size
  replace hw := (hw.below hV2).up hV2.size
  replace ho := (ho.below hV2).up hV2.size
  have B_V2 := ex_trans B_V1 hV2
  go_wp2
  go_ret
  exact ⟨rfl, B_V2⟩
 ·
  have HL := Lib.hid hl
  have hnb := hl.nb
  have hnd := hl.nd
  have hnh := hl.nh
  have hl4 := hl.l4
  clear hl
  go_wp2_with (refine pause_at 41 rfl ?_)
  refine Paused.mk ?_
  refine wpList_load_rowG (by kernel_rfl) 33 _ rfl _ (by kernel_rfl) 33 _ (0, 0) _ (q2) Tryz.underlying33 rfl (by kernel_rfl) ?_
  go_wp2_with fail
  refine (sr_isreading h.length r _ (by omega)).mono ?_
  rintro e V3 ⟨rfl, hV3⟩
  replace q1 := q1.below hV3 q1.lt
  replace q2 := q2.below hV3 q2.lt
  replace hg := hg.go hV3
  replace hh := (hh.below hV3).up hV3.size
  replace hw := (hw.below hV3).up hV3.size
  replace ho := (ho.below hV3).up hV3.size
  replace hi := (hi.below hV3).up hV3.size
  replace hz := (hz.below hV3).up hV3.size
  have B_V3 := ex_trans B_V1 hV3
  rcases Bool.eq_false_or_eq_true (rdOk h.length r) with hd | hd
  rotate_left
  ·
   rw [hd]
   clear hd
   go_wp2_with fail
   refine (sl_awake _).mono ?_
   rintro e V4 ⟨rfl, hV4⟩
   replace q1 := q1.below hV4 q1.lt
   replace q2 := q2.below hV4 q2.lt
   replace hg := hg.go hV4
   replace hh := (hh.below hV4).up hV4.size
   replace hw := (hw.below hV4).up hV4.size
   replace ho := (ho.below hV4).up hV4.size
   replace hi := (hi.below hV4).up hV4.size
   replace hz := (hz.below hV4).up hV4.size
   have B_V4 := ex_trans B_V3 hV4
   go_wp2
   go_ret
   exact ⟨rfl, B_V4⟩
  ·
   rw [hd]
   have HA := Lib.hid (ask_of HL.out.use0 hd)
   have HO := Lib.hid (ask_bd HA.out)
   obtain ⟨k, hk, hkl⟩ := HO.out.day
   have hday : 0 ≤ r.day ∧ r.day ≤ 1000000 := by omega
   have HK := Lib.hid hk
   have HKT : Hid (r.day.toNat = k) := Lib.hid (by omega)
   clear hk hd
   rcases Bool.eq_false_or_eq_true r.broken with hb | hb
   ·
    have b9 : V3.cell? ⟨pq2, 9, none⟩ = some (.bool r.broken) := q2.cell 9
    rw [hb] at b9
    have lb := q2.lt
    clear hb
    go_wp2_with fail
    refine (sl_awake _).mono ?_
    rintro e V5 ⟨rfl, hV5⟩
    replace q1 := q1.below hV5 q1.lt
    replace q2 := q2.below hV5 q2.lt
    replace hg := hg.go hV5
    replace hh := (hh.below hV5).up hV5.size
    replace hw := (hw.below hV5).up hV5.size
    replace ho := (ho.below hV5).up hV5.size
    replace hi := (hi.below hV5).up hV5.size
    replace hz := (hz.below hV5).up hV5.size
    have B_V5 := ex_trans B_V3 hV5
    go_wp2
    go_ret
    exact ⟨rfl, B_V5⟩
   ·
    have b9 : V3.cell? ⟨pq2, 9, none⟩ = some (.bool r.broken) := q2.cell 9
    rw [hb] at b9
    have lb := q2.lt
    have HB := Lib.hid hb
    clear hb
    go_wp2_with (refine pause_at 52 rfl ?_)
    refine Paused.mk ?_
    refine wpList_load_rowG (by kernel_rfl) 29 _ rfl _ (by kernel_rfl) 29 _ (0, 0) _ (q1) Tryz.underlying29 rfl (by kernel_rfl) ?_
    go_wp2_with (refine pause_at 54 rfl ?_)
    refine Paused.mk ?_
    refine wpList_load_rowG (by kernel_rfl) 33 _ rfl _ (by kernel_rfl) 33 _ (0, 0) _ (q2) Tryz.underlying33 rfl (by kernel_rfl) ?_
    clear b9 lb
    go_wp2_with fail
    refine (sr_stale t Ab Ad cb cd _ _ l r _ hi (by omega) hday).mono ?_
    rintro e V6 ⟨rfl, hV6⟩
    replace q1 := q1.below hV6 q1.lt
    replace q2 := q2.below hV6 q2.lt
    replace hg := hg.go hV6
    replace hh := (hh.below hV6).up hV6.size
    replace hw := (hw.below hV6).up hV6.size
    replace ho := (ho.below hV6).up hV6.size
    replace hi := (hi.below hV6).up hV6.size
    replace hz := (hz.below hV6).up hV6.size
    have B_V6 := ex_trans B_V3 hV6
    rcases Bool.eq_false_or_eq_true (staleB t l r.day) with hs | hs
    ·
     rw [hs]
     clear hs
     go_wp2_with fail
     refine (sl_awake _).mono ?_
     rintro e V7 ⟨rfl, hV7⟩
     replace q1 := q1.below hV7 q1.lt
     replace q2 := q2.below hV7 q2.lt
     replace hg := hg.go hV7
     replace hh := (hh.below hV7).up hV7.size
     replace hw := (hw.below hV7).up hV7.size
     replace ho := (ho.below hV7).up hV7.size
     replace hi := (hi.below hV7).up hV7.size
     replace hz := (hz.below hV7).up hV7.size
     have B_V7 := ex_trans B_V6 hV7
     go_wp2
     go_ret
     exact ⟨rfl, B_V7⟩
    ·
     rw [hs]
     have HS := Lib.hid hs
     clear hs
     have HR : Hid (refE t l r (agreeB t.g h l off0) = 0) := Lib.hid (by rw [HL.out.ag]; exact ref_of HB.out HS.out)
     obtain ⟨vz, hvk⟩ : ∃ v, gI zl k = v := ⟨_, rfl⟩
     have hvb := liv_bdS HL.out hkl
     obtain ⟨bv, ov, hAz, hbv, v0⟩ := IsInts.at_ hz hkl
     subst hAz
     rw [hvk] at v0 hvb
     have HVK := Lib.hid hvk
     clear hvk
     have b0 : V6.cell? ⟨pq2, 0, none⟩ = some (.int .i64 r.day) := q2.cell 0
     rw [HK.out] at b0
     have lb := q2.lt
     go_upto_region 4 with fail
     rename_i K0 hK0
     have hrest : ∀ (V8 : World) (px : Nat) (x : Tx) (a : Act), Below V6.heap.size V6 V8 → V6.heap.size ≤ px → Blk V8 px 82 #[.int .i64 x.zero, .int .i64 x.k, .int .i64 x.lag, .int .i64 x.sq, .int .i64 x.air, .int .i64 x.rate, .int .i64 x.off] → Hid (TxIn t r x ∧ x.zero = vz) → (∃ u : Nat → Value, a = ⟨List.toArray (u 0 :: .slice Ah h.length ch :: u 2 :: .slice Ao oz.length co :: u 4 :: u 5 :: .pointer (some ⟨pq1, 0, none⟩) :: u 7 :: u 8 :: u 9 :: u 10 :: .pointer (some ⟨pq2, 0, none⟩) :: .bool false :: .slice Ai l.length ci :: u 14 :: u 15 :: .pointer (some ⟨px, 0, none⟩) :: u 17 :: u 18 :: u 19 :: u 20 :: u 21 :: u 22 :: u 23 :: u 24 :: u 25 :: u 26 :: u 27 :: u 28 :: u 29 :: u 30 :: u 31 :: u 32 :: u 33 :: u 34 :: u 35 :: u 36 :: u 37 :: u 38 :: u 39 :: u 40 :: u 41 :: u 42 :: u 43 :: u 44 :: u 45 :: u 46 :: u 47 :: u 48 :: u 49 :: u 50 :: u 51 :: u 52 :: u 53 :: u 54 :: u 55 :: u 56 :: u 57 :: u 58 :: u 59 :: u 60 :: u 61 :: u 62 :: u 63 :: u 64 :: u 65 :: u 66 :: u 67 :: u 68 :: u 69 :: u 70 :: u 71 :: u 72 :: u 73 :: u 74 :: u 75 :: u 76 :: u 77 :: u 78 :: u 79 :: u 80 :: u 81 :: u 82 :: u 83 :: u 84 :: u 85 :: u 86 :: u 87 :: u 88 :: u 89 :: u 90 :: u 91 :: u 92 :: u 93 :: u 94 :: u 95 :: u 96 :: u 97 :: u 98 :: u 99 :: u 100 :: u 101 :: u 102 :: u 103 :: u 104 :: u 105 :: u 106 :: u 107 :: u 108 :: u 109 :: u 110 :: u 111 :: u 112 :: u 113 :: u 114 :: u 115 :: u 116 :: u 117 :: u 118 :: u 119 :: u 120 :: u 121 :: u 122 :: u 123 :: u 124 :: u 125 :: u 126 :: u 127 :: u 128 :: u 129 :: u 130 :: u 131 :: u 132 :: u 133 :: u 134 :: u 135 :: u 136 :: u 137 :: u 138 :: u 139 :: u 140 :: u 141 :: u 142 :: u 143 :: u 144 :: u 145 :: u 146 :: u 147 :: u 148 :: u 149 :: u 150 :: u 151 :: u 152 :: u 153 :: u 154 :: u 155 :: u 156 :: u 157 :: u 158 :: u 159 :: u 160 :: u 161 :: u 162 :: u 163 :: u 164 :: u 165 :: u 166 :: u 167 :: u 168 :: u 169 :: u 170 :: u 171 :: u 172 :: u 173 :: u 174 :: u 175 :: u 176 :: u 177 :: u 178 :: u 179 :: u 180 :: u 181 :: u 182 :: u 183 :: u 184 :: u 185 :: u 186 :: u 187 :: u 188 :: u 189 :: u 190 :: u 191 :: u 192 :: u 193 :: u 194 :: u 195 :: u 196 :: u 197 :: u 198 :: u 199 :: u 200 :: u 201 :: u 202 :: u 203 :: u 204 :: u 205 :: u 206 :: u 207 :: u 208 :: u 209 :: u 210 :: u 211 :: u 212 :: u 213 :: u 214 :: u 215 :: u 216 :: u 217 :: u 218 :: u 219 :: u 220 :: u 221 :: u 222 :: u 223 :: u 224 :: u 225 :: u 226 :: u 227 :: u 228 :: []), []⟩) → K0 a V8 := by
      rintro V8 px x a hX9 yx bx hx ⟨u, rfl⟩
      refine hK0 _ _ ?_
      clear hK0 K0
      replace q1 := q1.below hX9 q1.lt
      replace q2 := q2.below hX9 q2.lt
      replace hg := hg.go hX9
      replace hh := (hh.below hX9).up hX9.size
      replace hw := (hw.below hX9).up hX9.size
      replace ho := (ho.below hX9).up hX9.size
      replace hi := (hi.below hX9).up hX9.size
      replace hz := (hz.below hX9).up hX9.size
      have B_V8 := ex_trans B_V6 hX9
      have zx : w.heap.size ≤ px := by have := B_V6.size; omega
      have HX := Lib.hid hx.out.1
      have HXZ := Lib.hid hx.out.2
      clear hx
      clear b0 v0 hbv lb
      clear hw HWB hz
      have hxk := HX.out.ki.bd HO.out.tb
      have HXK := Lib.hid hxk
      have hxa : -100 ≤ x.air ∧ x.air ≤ 100 := by have := HX.out.air; have := HO.out.rd.air; omega
      have hxr : -20 ≤ x.rate ∧ x.rate ≤ 20 := by have := HX.out.rate; have := HO.out.rd.rate; omega
      have hxo : -1000000 ≤ x.off ∧ x.off ≤ 1000000 := by have := HX.out.off; have := HO.out.rd.err; omega
      have hxz5 : -100000 ≤ x.zero ∧ x.zero ≤ 100000 := by rw [HXZ.out]; exact hvb
      have hxz : -1000000 ≤ x.zero ∧ x.zero ≤ 1000000 := by omega
      clear hxk
      go_wp2_with (refine pause_at 67 rfl ?_)
      refine Paused.mk ?_
      refine wpList_load_row rfl 33 _ rfl _ rfl 33 _ (0, 0) _ (q2) Tryz.underlying33 rfl (by kernel_rfl) ?_
      go_wp2_with (refine pause_at 68 rfl ?_)
      refine Paused.mk ?_
      refine wpList_load_row rfl 82 _ rfl _ rfl 82 _ (0, 0) _ (bx) Tryz.underlying82 rfl (by kernel_rfl) ?_
      go_wp2_with fail
      refine (sr_play r x _ HO.out.rd HXK.out hxa hxr hxo hxz).mono ?_
      rintro e V9 ⟨rfl, hV9⟩
      replace q1 := q1.below hV9 q1.lt
      replace q2 := q2.below hV9 q2.lt
      replace hg := hg.go hV9
      replace hh := (hh.below hV9).up hV9.size
      replace ho := (ho.below hV9).up hV9.size
      replace hi := (hi.below hV9).up hV9.size
      replace bx := bx.below hV9 bx.lt
      have B_V9 := ex_trans B_V8 hV9
      have hwb := play_bdW HO.out.tb HO.out.rd HX.out hxz5
      obtain ⟨wv, hwv⟩ : ∃ n, playW r x = n := ⟨_, rfl⟩
      rw [hwv] at hwb
      rw [hwv]
      have HWV := Lib.hid hwv
      clear hwv
      have HRO := Lib.hid (ask_0 HA.out).2
      have HTG : Hid (Tog h.length r x.ki (wv + vz) [r]) := Lib.hid (Tog.one HRO.out rfl HB.out (made_says HO.out.rd HO.out.tb HX.out (by rw [HWV.out, HXZ.out]; omega)))
      go_wp2_with (refine pause_at 70 rfl ?_)
      refine Paused.mk ?_
      refine wpList_load_row rfl 33 _ rfl _ rfl 33 _ (0, 0) _ (q2) Tryz.underlying33 rfl (by kernel_rfl) ?_
      have q1_0 := q1
      have q2_0 := q2
      have hg_0 := hg
      have hh_0 := hh
      have ho_0 := ho
      have hi_0 := hi
      have bx_0 := bx
      have NG := ex_alloc (Below.refl V9.heap.size V9) (.cells #[.int .i64 r.day, .int .i64 r.shown, .int .i64 r.err, .int .i64 r.bare, .int .i64 r.air.lo, .int .i64 r.air.hi, .int .i64 r.rate.lo, .int .i64 r.rate.hi, .int .i64 r.deep, .bool r.broken] 33)
      have ql : Blk (V9.alloc (.cells #[.int .i64 r.day, .int .i64 r.shown, .int .i64 r.err, .int .i64 r.bare, .int .i64 r.air.lo, .int .i64 r.air.hi, .int .i64 r.rate.lo, .int .i64 r.rate.hi, .int .i64 r.deep, .bool r.broken] 33)) V9.heap.size 33 #[.int .i64 r.day, .int .i64 r.shown, .int .i64 r.err, .int .i64 r.bare, .int .i64 r.air.lo, .int .i64 r.air.hi, .int .i64 r.rate.lo, .int .i64 r.rate.hi, .int .i64 r.deep, .bool r.broken] := Blk.new _ _ _
      have lt_q1 := q1.lt
      have lt_q2 := q2.lt
      have lt_bx := bx.lt
      go_wp2_with fail
      obtain ⟨pl, hpl'⟩ : ∃ p, V9.heap.size = p := ⟨_, rfl⟩
      rw [hpl'] at ql lt_q1 lt_q2 lt_bx ⊢
      have zpl : w.heap.size ≤ pl := by have := B_V9.size; omega
      have yl : V9.heap.size ≤ pl := Nat.le_of_eq hpl'
      clear hpl'
      have nq1_pl : pq1 ≠ pl := by omega
      clear lt_q1
      have nq2_pl : pq2 ≠ pl := by omega
      clear lt_q2
      have nbx_pl : px ≠ pl := by omega
      clear lt_bx
      replace q1 := q1.below NG q1.lt
      replace q2 := q2.below NG q2.lt
      replace hg := hg.go NG
      replace hh := hh.go NG
      replace ho := ho.go NG
      replace hi := hi.go NG
      replace bx := bx.below NG bx.lt
      have B_V10 := ex_trans B_V9 NG
      have X_V10 := ex_trans (Below.refl V9.heap.size V9) NG
      clear NG
      generalize V9.alloc (.cells #[.int .i64 r.day, .int .i64 r.shown, .int .i64 r.err, .int .i64 r.bare, .int .i64 r.air.lo, .int .i64 r.air.hi, .int .i64 r.rate.lo, .int .i64 r.rate.hi, .int .i64 r.deep, .bool r.broken] 33) = V10 at *
      have hown := own_one ql yl
      refine wp_loop (fun a wr => Rel (fun a wr => ∃ (i : Nat) (L : List Rd) (A : Option Addr) (cap : Nat), i ≤ 2 ∧ Hid (0 < L.length ∧ L.length ≤ i + 1) ∧ Hid (Tog h.length r x.ki (wv + vz) L) ∧ Below V9.heap.size V9 wr ∧ wr.ownsRow V9.heap.size 33 10 (.slice A L.length cap) L.length (L.flatMap cRd) ∧ ∃ u : Nat → Value, a = ⟨List.toArray (u 0 :: .slice Ah h.length ch :: u 2 :: .slice Ao oz.length co :: u 4 :: u 5 :: .pointer (some ⟨pq1, 0, none⟩) :: u 7 :: u 8 :: u 9 :: u 10 :: .pointer (some ⟨pq2, 0, none⟩) :: .bool false :: .slice Ai l.length ci :: u 14 :: u 15 :: .pointer (some ⟨px, 0, none⟩) :: .int .i64 wv :: .slice A L.length cap :: .int .i64 (i : Int) :: u 20 :: u 21 :: u 22 :: u 23 :: u 24 :: u 25 :: u 26 :: u 27 :: u 28 :: u 29 :: u 30 :: u 31 :: u 32 :: u 33 :: u 34 :: u 35 :: u 36 :: u 37 :: u 38 :: u 39 :: u 40 :: u 41 :: u 42 :: u 43 :: u 44 :: u 45 :: u 46 :: u 47 :: u 48 :: u 49 :: u 50 :: u 51 :: u 52 :: u 53 :: u 54 :: u 55 :: u 56 :: u 57 :: u 58 :: u 59 :: u 60 :: u 61 :: u 62 :: u 63 :: u 64 :: u 65 :: u 66 :: u 67 :: u 68 :: u 69 :: u 70 :: u 71 :: u 72 :: u 73 :: u 74 :: u 75 :: u 76 :: u 77 :: u 78 :: u 79 :: u 80 :: u 81 :: u 82 :: u 83 :: u 84 :: u 85 :: u 86 :: u 87 :: u 88 :: u 89 :: u 90 :: u 91 :: u 92 :: u 93 :: u 94 :: u 95 :: u 96 :: u 97 :: u 98 :: u 99 :: u 100 :: u 101 :: u 102 :: u 103 :: u 104 :: u 105 :: u 106 :: u 107 :: u 108 :: u 109 :: u 110 :: u 111 :: u 112 :: u 113 :: u 114 :: u 115 :: u 116 :: u 117 :: u 118 :: u 119 :: u 120 :: u 121 :: u 122 :: u 123 :: u 124 :: u 125 :: u 126 :: u 127 :: u 128 :: u 129 :: u 130 :: u 131 :: u 132 :: u 133 :: u 134 :: u 135 :: u 136 :: u 137 :: u 138 :: u 139 :: u 140 :: u 141 :: u 142 :: u 143 :: u 144 :: u 145 :: u 146 :: u 147 :: u 148 :: u 149 :: u 150 :: u 151 :: u 152 :: u 153 :: u 154 :: u 155 :: u 156 :: u 157 :: u 158 :: u 159 :: u 160 :: u 161 :: u 162 :: u 163 :: u 164 :: u 165 :: u 166 :: u 167 :: u 168 :: u 169 :: u 170 :: u 171 :: u 172 :: u 173 :: u 174 :: u 175 :: u 176 :: u 177 :: u 178 :: u 179 :: u 180 :: u 181 :: u 182 :: u 183 :: u 184 :: u 185 :: u 186 :: u 187 :: u 188 :: u 189 :: u 190 :: u 191 :: u 192 :: u 193 :: u 194 :: u 195 :: u 196 :: u 197 :: u 198 :: u 199 :: u 200 :: u 201 :: u 202 :: u 203 :: u 204 :: u 205 :: u 206 :: u 207 :: u 208 :: u 209 :: u 210 :: u 211 :: u 212 :: u 213 :: u 214 :: u 215 :: u 216 :: u 217 :: u 218 :: u 219 :: u 220 :: u 221 :: u 222 :: u 223 :: u 224 :: u 225 :: u 226 :: u 227 :: u 228 :: []), []⟩) a wr) (fun a _ => 2 - (intOf (a.tmps.getD 19 undef)).toNat) ⟨⟨0, [r], some ⟨pl, 0, none⟩, 1, by omega, Lib.hid ⟨by simp, by simp⟩, HTG, X_V10, hown, exFrame (by kernel_rfl)⟩⟩ ?_
      clear hown HTG ql q1 q2 hg hh ho hi bx X_V10
      rintro a wr ⟨⟨i, L, A, cap, hi2, HLL, HTG, hX, hown, u, rfl⟩⟩
      have hB := ex_trans B_V9 hX
      have q1 := q1_0.below hX q1_0.lt
      have q2 := q2_0.below hX q2_0.lt
      have hg := hg_0.go hX
      have hh := hh_0.go hX
      have ho := ho_0.go hX
      have hi := hi_0.go hX
      have bx := bx_0.below hX bx_0.lt
      by_cases hlt : i < 2
      ·
       have hil : (i : Int) < 2 := by omega
       have hi0' : (0 : Int) ≤ (i : Int) := by omega
       have q1_1 := q1
       have q2_1 := q2
       have hg_1 := hg
       have hh_1 := hh
       have ho_1 := ho
       have hi_1 := hi
       have bx_1 := bx
       have hown_1 := hown
       go_wp2_with (refine pause_at 76 rfl ?_)
       refine Paused.mk ?_
       refine wpList_load_row rfl 33 _ rfl _ rfl 33 _ (0, 0) _ (q2) Tryz.underlying33 rfl (by kernel_rfl) ?_
       have NG := ex_alloc (Below.refl wr.heap.size wr) (.cells #[.int .i64 0, .int .i64 0, .int .i64 0, .int .i64 0, .int .i64 0, .int .i64 0, .int .i64 0, .int .i64 0, .int .i64 0, .bool false] 33)
       have yb : Blk (wr.alloc (.cells #[.int .i64 0, .int .i64 0, .int .i64 0, .int .i64 0, .int .i64 0, .int .i64 0, .int .i64 0, .int .i64 0, .int .i64 0, .bool false] 33)) wr.heap.size 33 #[.int .i64 0, .int .i64 0, .int .i64 0, .int .i64 0, .int .i64 0, .int .i64 0, .int .i64 0, .int .i64 0, .int .i64 0, .bool false] := Blk.new _ _ _
       have lt_q1 := q1.lt
       have lt_q2 := q2.lt
       have lt_bx := bx.lt
       go_wp2_with (refine pause_store 33 rfl ?_)
       obtain ⟨py, hpy'⟩ : ∃ p, wr.heap.size = p := ⟨_, rfl⟩
       rw [hpy'] at yb lt_q1 lt_q2 lt_bx ⊢
       have zpy : w.heap.size ≤ py := by have := hB.size; omega
       have tyb : wr.heap.size ≤ py := Nat.le_of_eq hpy'
       clear hpy'
       have nq1_py : pq1 ≠ py := by omega
       clear lt_q1
       have nq2_py : pq2 ≠ py := by omega
       clear lt_q2
       have nbx_py : px ≠ py := by omega
       clear lt_bx
       replace q1 := q1.below NG q1.lt
       replace q2 := q2.below NG q2.lt
       replace hg := hg.go NG
       replace hh := hh.go NG
       replace ho := ho.go NG
       replace hi := hi.go NG
       replace bx := bx.below NG bx.lt
       replace hown := own_below hown NG
       have B_V11 := ex_trans hB NG
       have X_V11 := ex_trans (Below.refl wr.heap.size wr) NG
       clear NG
       generalize wr.alloc (.cells #[.int .i64 0, .int .i64 0, .int .i64 0, .int .i64 0, .int .i64 0, .int .i64 0, .int .i64 0, .int .i64 0, .int .i64 0, .bool false] 33) = V11 at *
       have yyb : wr.heap.size ≤ py := Nat.le_trans ((Below.refl wr.heap.size wr)).size tyb
       refine Paused.mk ?_
       refine wpList_store_row rfl 33 _ _ rfl _ #[.int .i64 r.day, .int .i64 r.shown, .int .i64 r.err, .int .i64 r.bare, .int .i64 r.air.lo, .int .i64 r.air.hi, .int .i64 r.rate.lo, .int .i64 r.rate.hi, .int .i64 r.deep, .bool r.broken] (by kernel_rfl) (by kernel_rfl) 33 _ yb (by kernel_rfl) (by kernel_rfl) (by kernel_rfl) ?_
       replace yb := yb.setRow #[.int .i64 r.day, .int .i64 r.shown, .int .i64 r.err, .int .i64 r.bare, .int .i64 r.air.lo, .int .i64 r.air.hi, .int .i64 r.rate.lo, .int .i64 r.rate.hi, .int .i64 r.deep, .bool r.broken]
       have XS := ex_row X_V11 yyb #[.int .i64 r.day, .int .i64 r.shown, .int .i64 r.err, .int .i64 r.bare, .int .i64 r.air.lo, .int .i64 r.air.hi, .int .i64 r.rate.lo, .int .i64 r.rate.hi, .int .i64 r.deep, .bool r.broken]
       generalize V11.setRow py #[.int .i64 r.day, .int .i64 r.shown, .int .i64 r.err, .int .i64 r.bare, .int .i64 r.air.lo, .int .i64 r.air.hi, .int .i64 r.rate.lo, .int .i64 r.rate.hi, .int .i64 r.deep, .bool r.broken] = V12 at *
       replace q1 := q1_1.below XS q1_1.lt
       replace q2 := q2_1.below XS q2_1.lt
       replace hg := hg_1.go XS
       replace hh := hh_1.go XS
       replace ho := ho_1.go XS
       replace hi := hi_1.go XS
       replace bx := bx_1.below XS bx_1.lt
       replace hown := own_below hown_1 XS
       have B_V12 := ex_trans hB XS
       have X_V12 := XS
       clear XS
       go_wp2_with fail
       refine (sl_word Ao co oz _ _ ho HOB.out (by omega) (by omega) hol).mono ?_
       rintro e V13 ⟨⟨n1, rfl, hn1, hm1⟩, hV13⟩
       replace q1 := q1.below hV13 q1.lt
       replace q2 := q2.below hV13 q2.lt
       replace hg := hg.go hV13
       replace hh := (hh.below hV13).up hV13.size
       replace ho := (ho.below hV13).up hV13.size
       replace hi := (hi.below hV13).up hV13.size
       replace bx := bx.below hV13 bx.lt
       replace hown := own_below hown hV13
       replace yb := yb.below hV13 yb.lt
       have B_V13 := ex_trans B_V12 hV13
       have X_V13 := ex_trans X_V12 hV13
       go_wp2_with fail
       refine (sl_word Ao co oz _ _ ho HOB.out (by omega) (by omega) hol).mono ?_
       rintro e V14 ⟨⟨n2, rfl, hn2, hm2⟩, hV14⟩
       replace q1 := q1.below hV14 q1.lt
       replace q2 := q2.below hV14 q2.lt
       replace hg := hg.go hV14
       replace hh := (hh.below hV14).up hV14.size
       replace ho := (ho.below hV14).up hV14.size
       replace hi := (hi.below hV14).up hV14.size
       replace bx := bx.below hV14 bx.lt
       replace hown := own_below hown hV14
       replace yb := yb.below hV14 yb.lt
       have B_V14 := ex_trans B_V13 hV14
       have X_V14 := ex_trans X_V13 hV14
       go_wp2_with fail
       refine (sl_word Ao co oz _ _ ho HOB.out (by omega) (by omega) hol).mono ?_
       rintro e V15 ⟨⟨n3, rfl, hn3, hm3⟩, hV15⟩
       replace q1 := q1.below hV15 q1.lt
       replace q2 := q2.below hV15 q2.lt
       replace hg := hg.go hV15
       replace hh := (hh.below hV15).up hV15.size
       replace ho := (ho.below hV15).up hV15.size
       replace hi := (hi.below hV15).up hV15.size
       replace bx := bx.below hV15 bx.lt
       replace hown := own_below hown hV15
       replace yb := yb.below hV15 yb.lt
       have B_V15 := ex_trans B_V14 hV15
       have X_V15 := ex_trans X_V14 hV15
       have hvb_ : 0 ≤ n1 % 301 ∧ n1 % 301 < 301 := ⟨Int.emod_nonneg _ (by omega), Int.emod_lt_of_pos _ (by omega)⟩
       have hvd : 0 ≤ n2 % 21 ∧ n2 % 21 < 21 := ⟨Int.emod_nonneg _ (by omega), Int.emod_lt_of_pos _ (by omega)⟩
       have hve : 0 ≤ n3 % 21 ∧ n3 % 21 < 21 := ⟨Int.emod_nonneg _ (by omega), Int.emod_lt_of_pos _ (by omega)⟩
       have u2 := yb.cell 2
       have u3 := yb.cell 3
       have u8 := yb.cell 8
       have fu := yb.frozen0
       have lu := yb.lt
       simp at u2 u3 u8
       go_wp2_with (refine pause_at 97 rfl ?_)
       clear u2 u3 u8 fu lu
       replace yb := yb.set_ 3 (.int .i64 (n1 % 301))
       replace yb := yb.set_ 8 (.int .i64 (n2 % 21))
       replace yb := yb.set_ 2 (.int .i64 (n3 % 21))
       simp only [List.setIfInBounds_toArray, List.set_cons_zero, List.set_cons_succ] at yb
       have XS := ex_set (p := ⟨py, 2, none⟩) (ex_set (p := ⟨py, 8, none⟩) (ex_set (p := ⟨py, 3, none⟩) (X_V15) yyb (.int .i64 (n1 % 301))) yyb (.int .i64 (n2 % 21))) yyb (.int .i64 (n3 % 21))
       generalize (((V15.setCell ⟨py, 3, none⟩ (.int .i64 (n1 % 301))).setCell ⟨py, 8, none⟩ (.int .i64 (n2 % 21))).setCell ⟨py, 2, none⟩ (.int .i64 (n3 % 21))) = V16 at *
       replace q1 := q1_1.below XS q1_1.lt
       replace q2 := q2_1.below XS q2_1.lt
       replace hg := hg_1.go XS
       replace hh := hh_1.go XS
       replace ho := ho_1.go XS
       replace hi := hi_1.go XS
       replace bx := bx_1.below XS bx_1.lt
       replace hown := own_below hown_1 XS
       have B_V16 := ex_trans hB XS
       have X_V16 := XS
       clear XS
       generalize n1 % 301 = vb at *
       generalize n2 % 21 = vd at *
       generalize n3 % 21 = ve at *
       clear hn1 hm1 hn2 hm2 hn3 hm3
       refine Paused.mk ?_
       refine wpList_load_row rfl 82 _ rfl _ rfl 82 _ (0, 0) _ (bx) Tryz.underlying82 rfl (by kernel_rfl) ?_
       have NG := ex_alloc (Below.refl V16.heap.size V16) (.cells #[.int .i64 0, .int .i64 0, .int .i64 0, .int .i64 0, .int .i64 0, .int .i64 0, .int .i64 0] 82)
       have zb : Blk (V16.alloc (.cells #[.int .i64 0, .int .i64 0, .int .i64 0, .int .i64 0, .int .i64 0, .int .i64 0, .int .i64 0] 82)) V16.heap.size 82 #[.int .i64 0, .int .i64 0, .int .i64 0, .int .i64 0, .int .i64 0, .int .i64 0, .int .i64 0] := Blk.new _ _ _
       have lt_q1 := q1.lt
       have lt_q2 := q2.lt
       have lt_bx := bx.lt
       have lt_yb := yb.lt
       go_wp2_with (refine pause_store 82 rfl ?_)
       obtain ⟨pz, hpz'⟩ : ∃ p, V16.heap.size = p := ⟨_, rfl⟩
       rw [hpz'] at zb lt_q1 lt_q2 lt_bx lt_yb ⊢
       have zpz : w.heap.size ≤ pz := by have := B_V16.size; omega
       have tzb : V16.heap.size ≤ pz := Nat.le_of_eq hpz'
       clear hpz'
       have nq1_pz : pq1 ≠ pz := by omega
       clear lt_q1
       have nq2_pz : pq2 ≠ pz := by omega
       clear lt_q2
       have nbx_pz : px ≠ pz := by omega
       clear lt_bx
       have nyb_pz : py ≠ pz := by omega
       clear lt_yb
       replace q1 := q1.below NG q1.lt
       replace q2 := q2.below NG q2.lt
       replace hg := hg.go NG
       replace hh := hh.go NG
       replace ho := ho.go NG
       replace hi := hi.go NG
       replace bx := bx.below NG bx.lt
       replace hown := own_below hown NG
       replace yb := yb.below NG yb.lt
       have B_V17 := ex_trans B_V16 NG
       have X_V17 := ex_trans X_V16 NG
       clear NG
       generalize V16.alloc (.cells #[.int .i64 0, .int .i64 0, .int .i64 0, .int .i64 0, .int .i64 0, .int .i64 0, .int .i64 0] 82) = V17 at *
       have yzb : wr.heap.size ≤ pz := Nat.le_trans (X_V16).size tzb
       refine Paused.mk ?_
       refine wpList_store_row rfl 82 _ _ rfl _ #[.int .i64 x.zero, .int .i64 x.k, .int .i64 x.lag, .int .i64 x.sq, .int .i64 x.air, .int .i64 x.rate, .int .i64 x.off] (by kernel_rfl) (by kernel_rfl) 82 _ zb (by kernel_rfl) (by kernel_rfl) (by kernel_rfl) ?_
       replace zb := zb.setRow #[.int .i64 x.zero, .int .i64 x.k, .int .i64 x.lag, .int .i64 x.sq, .int .i64 x.air, .int .i64 x.rate, .int .i64 x.off]
       replace yb := yb.offRow nyb_pz #[.int .i64 x.zero, .int .i64 x.k, .int .i64 x.lag, .int .i64 x.sq, .int .i64 x.air, .int .i64 x.rate, .int .i64 x.off]
       have XS := ex_row X_V17 yzb #[.int .i64 x.zero, .int .i64 x.k, .int .i64 x.lag, .int .i64 x.sq, .int .i64 x.air, .int .i64 x.rate, .int .i64 x.off]
       generalize V17.setRow pz #[.int .i64 x.zero, .int .i64 x.k, .int .i64 x.lag, .int .i64 x.sq, .int .i64 x.air, .int .i64 x.rate, .int .i64 x.off] = V18 at *
       replace q1 := q1_1.below XS q1_1.lt
       replace q2 := q2_1.below XS q2_1.lt
       replace hg := hg_1.go XS
       replace hh := hh_1.go XS
       replace ho := ho_1.go XS
       replace hi := hi_1.go XS
       replace bx := bx_1.below XS bx_1.lt
       replace hown := own_below hown_1 XS
       have B_V18 := ex_trans hB XS
       have X_V18 := XS
       clear XS
       have u2 := yb.cell 2
       have lu := yb.lt
       simp at u2
       go_upto_region 13 with fail
       simp only [Act.put]
       have D13 := (Below.refl V18.heap.size V18).drew
       refine wp_region_ext_mix 12 [(false, 0), (false, 1), (false, 2), (false, 3), (false, 4), (false, 5), (false, 6), (false, 7), (false, 8), (false, 9), (true, 10), (true, 11)] (by kernel_rfl) (by kernel_rfl) (by intro d _ _ _ _ h; cases d <;> exact h) ?_
       repeat (refine mix_quiet rfl ?_; go_big_quiet_step (fail); refine wpQuiet_nil ?_)
       refine mix_loud rfl ?_
       go_wp2_with fail
       refine (sl_word Ao co oz _ _ (ho.go D13) HOB.out (by omega) (by omega) hol).mono ?_
       rintro e V19 ⟨⟨n4, rfl, hn4, hm4⟩, hV19⟩
       have N1 := ex_trans D13 hV19
       go_wp2_with fail
       refine ⟨inEx N1, ?_⟩
       refine mix_loud rfl ?_
       go_wp2_with fail
       refine (sl_picked1 (-ve) ve n4 _ hn4 hm4 (by omega) (by omega) (by omega)).mono ?_
       rintro e V20 ⟨⟨o, rfl, ho1, ho2⟩, hV20⟩
       have N2 := ex_trans N1 hV20
       go_wp2_with fail
       refine ⟨inEx N2, ?_⟩
       refine mix_nil (r := [_, _]) rfl ?_
       clear u2 lu
       replace q1 := q1.below N2 q1.lt
       replace q2 := q2.below N2 q2.lt
       replace hg := hg.go N2
       replace hh := (hh.below N2).up N2.size
       replace ho := (ho.below N2).up N2.size
       replace hi := (hi.below N2).up N2.size
       replace bx := bx.below N2 bx.lt
       replace hown := own_below hown N2
       replace yb := yb.below N2 yb.lt
       replace zb := zb.below N2 zb.lt
       have B_V20 := ex_trans B_V18 N2
       have X_V20 := ex_trans X_V18 N2
       clear N1 N2 D13 hV20 hV19 hn4 hm4
       have u6 := zb.cell 6
       have fu := zb.frozen0
       have lu := zb.lt
       have v1 := yb.cell 1
       have fv := yb.frozen0
       have lv := yb.lt
       simp at u6 v1
       go_wp2_with fail
       clear u6 fu lu v1 fv lv
       obtain ⟨s0, hs0⟩ : ∃ s, max (-5000) (wv - 200) = s := ⟨_, rfl⟩
       rw [hs0]
       have hsb : -5000 ≤ s0 ∧ s0 ≤ 150000 := by omega
       clear hs0
       have nzy : pz ≠ py := fun e => nyb_pz e.symm
       replace zb := zb.set_ 6 (.int .i64 o)
       simp only [List.setIfInBounds_toArray, List.set_cons_zero, List.set_cons_succ] at zb
       replace yb := yb.far (p := ⟨pz, 6, none⟩) nyb_pz (.int .i64 o)
       replace yb := yb.set_ 1 (.int .i64 s0)
       simp only [List.setIfInBounds_toArray, List.set_cons_zero, List.set_cons_succ] at yb
       replace zb := zb.far (p := ⟨py, 1, none⟩) nzy (.int .i64 s0)
       have XS := ex_set (p := ⟨py, 1, none⟩) (ex_set (p := ⟨pz, 6, none⟩) (X_V20) yzb (.int .i64 o)) yyb (.int .i64 s0)
       generalize ((V20.setCell ⟨pz, 6, none⟩ (.int .i64 o)).setCell ⟨py, 1, none⟩ (.int .i64 s0)) = V21 at *
       replace q1 := q1_1.below XS q1_1.lt
       replace q2 := q2_1.below XS q2_1.lt
       replace hg := hg_1.go XS
       replace hh := hh_1.go XS
       replace ho := ho_1.go XS
       replace hi := hi_1.go XS
       replace bx := bx_1.below XS bx_1.lt
       replace hown := own_below hown_1 XS
       have B_V21 := ex_trans hB XS
       have X_V21 := XS
       clear XS
       refine wp_loop_ghost (fun n a wq => Rel (fun a wq => ∃ s : Int, (-5000 ≤ s ∧ s ≤ 150000) ∧ Hid ((n : Int) + s = 150000) ∧ Below wr.heap.size wr wq ∧ Blk wq py 33 #[.int .i64 r.day, .int .i64 s, .int .i64 ve, .int .i64 vb, .int .i64 r.air.lo, .int .i64 r.air.hi, .int .i64 r.rate.lo, .int .i64 r.rate.hi, .int .i64 vd, .bool r.broken] ∧ Blk wq pz 82 #[.int .i64 x.zero, .int .i64 x.k, .int .i64 x.lag, .int .i64 x.sq, .int .i64 x.air, .int .i64 x.rate, .int .i64 o] ∧ ∃ u : Nat → Value, a = ⟨List.toArray (u 0 :: .slice Ah h.length ch :: u 2 :: .slice Ao oz.length co :: u 4 :: u 5 :: .pointer (some ⟨pq1, 0, none⟩) :: u 7 :: u 8 :: u 9 :: u 10 :: .pointer (some ⟨pq2, 0, none⟩) :: .bool false :: .slice Ai l.length ci :: u 14 :: u 15 :: .pointer (some ⟨px, 0, none⟩) :: .int .i64 wv :: .slice A L.length cap :: .int .i64 (i : Int) :: .pointer (some ⟨py, 0, none⟩) :: .pointer (some ⟨pz, 0, none⟩) :: u 22 :: u 23 :: u 24 :: u 25 :: u 26 :: u 27 :: u 28 :: u 29 :: u 30 :: u 31 :: u 32 :: u 33 :: u 34 :: u 35 :: u 36 :: u 37 :: u 38 :: u 39 :: u 40 :: u 41 :: u 42 :: u 43 :: u 44 :: u 45 :: u 46 :: u 47 :: u 48 :: u 49 :: u 50 :: u 51 :: u 52 :: u 53 :: u 54 :: u 55 :: u 56 :: u 57 :: u 58 :: u 59 :: u 60 :: u 61 :: u 62 :: u 63 :: u 64 :: u 65 :: u 66 :: u 67 :: u 68 :: u 69 :: u 70 :: u 71 :: u 72 :: u 73 :: u 74 :: u 75 :: u 76 :: u 77 :: u 78 :: u 79 :: u 80 :: u 81 :: u 82 :: u 83 :: u 84 :: u 85 :: u 86 :: u 87 :: u 88 :: u 89 :: u 90 :: u 91 :: u 92 :: u 93 :: u 94 :: u 95 :: u 96 :: u 97 :: u 98 :: u 99 :: u 100 :: u 101 :: u 102 :: u 103 :: u 104 :: u 105 :: u 106 :: u 107 :: u 108 :: u 109 :: u 110 :: u 111 :: u 112 :: u 113 :: u 114 :: u 115 :: u 116 :: u 117 :: u 118 :: u 119 :: u 120 :: u 121 :: u 122 :: u 123 :: u 124 :: u 125 :: u 126 :: u 127 :: u 128 :: u 129 :: u 130 :: u 131 :: u 132 :: u 133 :: u 134 :: u 135 :: u 136 :: u 137 :: u 138 :: u 139 :: u 140 :: u 141 :: u 142 :: u 143 :: u 144 :: u 145 :: u 146 :: u 147 :: u 148 :: u 149 :: u 150 :: u 151 :: u 152 :: u 153 :: u 154 :: u 155 :: u 156 :: u 157 :: u 158 :: u 159 :: u 160 :: u 161 :: u 162 :: u 163 :: u 164 :: u 165 :: u 166 :: u 167 :: u 168 :: u 169 :: u 170 :: u 171 :: u 172 :: u 173 :: u 174 :: u 175 :: u 176 :: u 177 :: u 178 :: u 179 :: u 180 :: u 181 :: u 182 :: u 183 :: u 184 :: u 185 :: u 186 :: u 187 :: u 188 :: u 189 :: u 190 :: u 191 :: u 192 :: u 193 :: u 194 :: u 195 :: u 196 :: u 197 :: u 198 :: u 199 :: u 200 :: u 201 :: u 202 :: u 203 :: u 204 :: u 205 :: u 206 :: u 207 :: u 208 :: u 209 :: u 210 :: u 211 :: u 212 :: u 213 :: u 214 :: u 215 :: u 216 :: u 217 :: u 218 :: u 219 :: u 220 :: u 221 :: u 222 :: u 223 :: u 224 :: u 225 :: u 226 :: u 227 :: u 228 :: []), []⟩) a wq) (150000 - s0).toNat ⟨⟨s0, hsb, Lib.hid (by omega), X_V21, yb, zb, exFrame (by kernel_rfl)⟩⟩ ?_
       clear yb zb hsb X_V21 q1 q2 hg hh ho hi bx hown
       rintro m0 a wi ⟨⟨s, hs, HN, hY, yb, zb, u, rfl⟩⟩
       have hBi := ex_trans hB hY
       have HRW : Hid (RdW (yR r s ve vb vd)) := Lib.hid (yR_w hs hvb_ hvd)
       have hoo : -1000000 ≤ o ∧ o ≤ 1000000 := by omega
       go_wp2_with (refine pause_at 115 rfl ?_)
       refine Paused.mk ?_
       refine wpList_load_row rfl 33 _ rfl _ rfl 33 _ (0, 0) _ (yb) Tryz.underlying33 rfl (by kernel_rfl) ?_
       go_wp2_with (refine pause_at 116 rfl ?_)
       refine Paused.mk ?_
       refine wpList_load_row rfl 82 _ rfl _ rfl 82 _ (0, 0) _ (zb) Tryz.underlying82 rfl (by kernel_rfl) ?_
       go_wp2_with fail
       refine (sr_playW (yR r s ve vb vd) (zT x o) _ HRW.out HXK.out hxa hxr hoo hxz).mono ?_
       rintro e V22 ⟨rfl, hV22⟩
       replace yb := yb.below hV22 yb.lt
       replace zb := zb.below hV22 zb.lt
       have B_V22 := ex_trans hBi hV22
       have X_V22 := ex_trans hY hV22
       obtain ⟨n, hn⟩ : ∃ n, playW (yR r s ve vb vd) (zT x o) = n := ⟨_, rfl⟩
       rw [hn]
       have HPN := Lib.hid hn
       clear hn
       by_cases hlt2 : n < wv ∧ s < 5000
       ·
        have e1 : decide (n < wv) = true := decide_eq_true hlt2.1
        have e2 : decide (s < 5000) = true := decide_eq_true hlt2.2
        have hs1 : s < 5000 := hlt2.2
        clear hlt2
        have hs2 : -5000 ≤ s + 1 ∧ s + 1 ≤ 150000 := by omega
        have HNN : Hid ((((m0 : Int) - 1).toNat : Int) + (s + 1) = 150000) := Lib.hid (by have := HN.out; omega)
        have hm0 : ((m0 : Int) - 1).toNat < m0 := by have := HN.out; omega
        have v1 := yb.cell 1
        have fv := yb.frozen0
        have lv := yb.lt
        simp at v1
        have mq := yb.set_ 1 (.int .i64 (s + 1))
        simp only [List.setIfInBounds_toArray, List.set_cons_zero, List.set_cons_succ] at mq
        have mz := zb.far (p := ⟨py, 1, none⟩) nzy (.int .i64 (s + 1))
        have mX := ex_set (p := ⟨py, 1, none⟩) X_V22 yyb (.int .i64 (s + 1))
        have MM := Lib.hid (And.intro mq (And.intro mz mX))
        clear mq mz mX
        go_wp2
        exact ⟨_, hm0, ⟨⟨s + 1, hs2, HNN, MM.out.2.2, MM.out.1, MM.out.2.1, exFrame (by kernel_rfl)⟩⟩⟩
       ·
        by_cases h1 : n < wv
        ·
         have e1 : decide (n < wv) = true := decide_eq_true h1
         have e2 : decide (s < 5000) = false := decide_eq_false (fun h => hlt2 ⟨h1, h⟩)
         have e5 : (n == wv) = false := by rw [beq_eq_false_iff_ne]; omega
         clear hlt2 h1
         have v1 := yb.cell 1
         have fv := yb.frozen0
         have lv := yb.lt
         simp at v1
         by_cases h5 : s ≤ 5000
         ·
          have e3 : decide (s ≤ 5000) = true := decide_eq_true h5
          clear h5
          go_wp2_with (refine pause_at 133 rfl ?_)
          refine Paused.mk ?_
          refine wpList_load_rowG (by kernel_rfl) 33 _ rfl _ (by kernel_rfl) 33 _ (0, 0) _ (yb) Tryz.underlying33 rfl (by kernel_rfl) ?_
          go_wp2_with (refine pause_at 134 rfl ?_)
          refine Paused.mk ?_
          refine wpList_load_rowG (by kernel_rfl) 82 _ rfl _ (by kernel_rfl) 82 _ (0, 0) _ (zb) Tryz.underlying82 rfl (by kernel_rfl) ?_
          go_wp2_with fail
          refine (sr_playW (yR r s ve vb vd) (zT x o) _ HRW.out HXK.out hxa hxr hoo hxz).mono ?_
          rintro e V23 ⟨rfl, hV23⟩
          replace yb := yb.below hV23 yb.lt
          replace zb := zb.below hV23 zb.lt
          have B_V23 := ex_trans B_V22 hV23
          have X_V23 := ex_trans X_V22 hV23
          rw [HPN.out]
          have hown := own_below hown_1 X_V23
          have HXE := ex_trans hX X_V23
          go_wp2
          refine ⟨⟨⟨i + 1, L, A, cap, by omega, Lib.hid ⟨HLL.out.1, by have := HLL.out.2; omega⟩, HTG, HXE, hown, exFrame (by kernel_rfl)⟩⟩, ?_⟩
          show 2 - (intOf (.int .i64 ((i : Int) + 1))).toNat < 2 - (intOf (.int .i64 (i : Int))).toNat
          simp [intOf]
          omega
         ·
          have e3 : decide (s ≤ 5000) = false := decide_eq_false h5
          clear h5
          have hown := own_below hown_1 X_V22
          have HXE := ex_trans hX X_V22
          go_wp2
          refine ⟨⟨⟨i + 1, L, A, cap, by omega, Lib.hid ⟨HLL.out.1, by have := HLL.out.2; omega⟩, HTG, HXE, hown, exFrame (by kernel_rfl)⟩⟩, ?_⟩
          show 2 - (intOf (.int .i64 ((i : Int) + 1))).toNat < 2 - (intOf (.int .i64 (i : Int))).toNat
          simp [intOf]
          omega
        ·
         have e1 : decide (n < wv) = false := decide_eq_false h1
         clear hlt2
         have v1 := yb.cell 1
         have fv := yb.frozen0
         have lv := yb.lt
         simp at v1
         by_cases h5 : s ≤ 5000
         ·
          have e3 : decide (s ≤ 5000) = true := decide_eq_true h5
          have hs5 : -5000 ≤ s ∧ s ≤ 5000 := by omega
          clear h5 h1
          go_wp2_with (refine pause_at 133 rfl ?_)
          refine Paused.mk ?_
          refine wpList_load_rowG (by kernel_rfl) 33 _ rfl _ (by kernel_rfl) 33 _ (0, 0) _ (yb) Tryz.underlying33 rfl (by kernel_rfl) ?_
          go_wp2_with (refine pause_at 134 rfl ?_)
          refine Paused.mk ?_
          refine wpList_load_rowG (by kernel_rfl) 82 _ rfl _ (by kernel_rfl) 82 _ (0, 0) _ (zb) Tryz.underlying82 rfl (by kernel_rfl) ?_
          go_wp2_with fail
          refine (sr_playW (yR r s ve vb vd) (zT x o) _ HRW.out HXK.out hxa hxr hoo hxz).mono ?_
          rintro e V24 ⟨rfl, hV24⟩
          replace yb := yb.below hV24 yb.lt
          replace zb := zb.below hV24 zb.lt
          have B_V24 := ex_trans B_V22 hV24
          have X_V24 := ex_trans X_V22 hV24
          rw [HPN.out]
          by_cases h6 : n = wv
          ·
           have e5 : (n == wv) = true := by simp [h6]
           have HPW : Hid (playW (yR r s ve vb vd) (zT x o) = wv + vz - x.zero) := Lib.hid (by rw [HPN.out, HXZ.out, h6]; omega)
           clear h6
           have HTM : Hid (Tog h.length r x.ki (wv + vz) (L ++ [yR r s ve vb vd])) := Lib.hid (tog_more HTG.out HO.out.tb HRO.out HB.out HX.out hs5 hve hvb_ hvd ⟨ho1, ho2⟩ HPW.out)
           have hown := own_below hown_1 X_V24
           have HXE := ex_trans hX X_V24
           go_wp2_with (refine pause_at 140 rfl ?_)
           refine Paused.mk ?_
           refine wpList_load_row rfl 33 _ rfl _ rfl 33 _ (0, 0) _ (yb) Tryz.underlying33 rfl (by kernel_rfl) ?_
           have NG := ex_alloc (Below.refl V24.heap.size V24) (.cells #[.int .i64 r.day, .int .i64 s, .int .i64 ve, .int .i64 vb, .int .i64 r.air.lo, .int .i64 r.air.hi, .int .i64 r.rate.lo, .int .i64 r.rate.hi, .int .i64 vd, .bool r.broken] 33)
           have qa : Blk (V24.alloc (.cells #[.int .i64 r.day, .int .i64 s, .int .i64 ve, .int .i64 vb, .int .i64 r.air.lo, .int .i64 r.air.hi, .int .i64 r.rate.lo, .int .i64 r.rate.hi, .int .i64 vd, .bool r.broken] 33)) V24.heap.size 33 #[.int .i64 r.day, .int .i64 s, .int .i64 ve, .int .i64 vb, .int .i64 r.air.lo, .int .i64 r.air.hi, .int .i64 r.rate.lo, .int .i64 r.rate.hi, .int .i64 vd, .bool r.broken] := Blk.new _ _ _
           have lt_yb := yb.lt
           have lt_zb := zb.lt
           go_wp2_with (refine pause_at 142 rfl ?_)
           obtain ⟨pa, hpa'⟩ : ∃ p, V24.heap.size = p := ⟨_, rfl⟩
           rw [hpa'] at qa lt_yb lt_zb ⊢
           have zpa : w.heap.size ≤ pa := by have := B_V24.size; omega
           clear hpa'
           have nyb_pa : py ≠ pa := by omega
           clear lt_yb
           have nzb_pa : pz ≠ pa := by omega
           clear lt_zb
           replace yb := yb.below NG yb.lt
           replace zb := zb.below NG zb.lt
           replace hown := own_below hown NG
           have B_V25 := ex_trans B_V24 NG
           have X_V25 := ex_trans HXE NG
           clear NG
           generalize V24.alloc (.cells #[.int .i64 r.day, .int .i64 s, .int .i64 ve, .int .i64 vb, .int .i64 r.air.lo, .int .i64 r.air.hi, .int .i64 r.rate.lo, .int .i64 r.rate.hi, .int .i64 vd, .bool r.broken] 33) = V25 at *
           refine Paused.mk ?_
           have hbs : V9.heap.size ≤ V25.heap.size := (X_V25).size
           have hl3 : L.length ≤ 3 := by have := HLL.out.2; omega
           refine wpList_append_list (f := cRd) (F := fE) (sz := 10) cRd_len cRd_at cRd_one rfl _ _ _ rfl V9.heap.size 33 i0 _ 80 Tryz.underlying60 HI.out hz0 hz1 hz2 rfl (by omega) A cap L rfl hown (some ⟨pa, 0, none⟩) 1 [yR r s ve vb vd] rfl (one_at qa (rd_row (yR r s ve vb vd))) (by simp; unfold maxLen; omega) (by simp; omega) hbs (V25.heap.size) rfl ?_
           intro L2 A2 k2 V26 HL2 ox gx nx
           have HXF := (X_V25).grown gx (X_V25).size (fun j hj => own_ge hown hj)
           have HTG2 : Hid (Tog h.length r x.ki (wv + vz) L2) := Lib.hid (by rw [HL2.out]; exact HTM.out)
           have HLL2 : Hid (0 < L2.length ∧ L2.length ≤ i + 1 + 1) := Lib.hid (by rw [HL2.out]; have := HLL.out; simp; omega)
           clear nx gx hown qa HL2 hl3 hbs
           go_wp2
           refine ⟨⟨⟨i + 1, L2, A2, k2, by omega, HLL2, HTG2, HXF, ox, exFrame (by kernel_rfl)⟩⟩, ?_⟩
           show 2 - (intOf (.int .i64 ((i : Int) + 1))).toNat < 2 - (intOf (.int .i64 (i : Int))).toNat
           simp [intOf]
           omega
          ·
           have e5 : (n == wv) = false := by rw [beq_eq_false_iff_ne]; exact h6
           clear h6
           have hown := own_below hown_1 X_V24
           have HXE := ex_trans hX X_V24
           go_wp2
           refine ⟨⟨⟨i + 1, L, A, cap, by omega, Lib.hid ⟨HLL.out.1, by have := HLL.out.2; omega⟩, HTG, HXE, hown, exFrame (by kernel_rfl)⟩⟩, ?_⟩
           show 2 - (intOf (.int .i64 ((i : Int) + 1))).toNat < 2 - (intOf (.int .i64 (i : Int))).toNat
           simp [intOf]
           omega
         ·
          have e3 : decide (s ≤ 5000) = false := decide_eq_false h5
          clear h5 h1
          have hown := own_below hown_1 X_V22
          have HXE := ex_trans hX X_V22
          go_wp2
          refine ⟨⟨⟨i + 1, L, A, cap, by omega, Lib.hid ⟨HLL.out.1, by have := HLL.out.2; omega⟩, HTG, HXE, hown, exFrame (by kernel_rfl)⟩⟩, ?_⟩
          show 2 - (intOf (.int .i64 ((i : Int) + 1))).toNat < 2 - (intOf (.int .i64 (i : Int))).toNat
          simp [intOf]
          omega
      ·
       obtain rfl : i = 2 := by omega
       obtain ⟨Al, cl, hv, hl1, hl2, hs⟩ := own_Rd hown
       injection hv with hva hvb' hvc
       subst hva hvc
       clear hvb' hown
       obtain ⟨bl, ol, hA2, _⟩ := IsRds.at10 hs HLL.out.1
       subst hA2
       have hL3 : L.length ≤ 3 := by have := HLL.out.2; omega
       have x0 := bx.cell 0
       have lx := bx.lt
       simp at x0
       rw [HXZ.out] at x0
       go_wp2_with fail
       refine (In_any _ _ _ _).mono ?_
       rintro e w' ⟨rfl, rfl⟩
       clear x0 lx
       rcases Bool.eq_false_or_eq_true (inB vz (-2000) 2000) with hin | hin
       rotate_left
       ·
        rw [hin]
        clear hin
        go_wp2_with fail
        refine (sl_awake _).mono ?_
        rintro e V27 ⟨rfl, hV27⟩
        replace q1 := q1.below hV27 q1.lt
        replace q2 := q2.below hV27 q2.lt
        replace hg := hg.go hV27
        replace hh := (hh.below hV27).up hV27.size
        replace ho := (ho.below hV27).up hV27.size
        replace hi := (hi.below hV27).up hV27.size
        replace bx := bx.below hV27 bx.lt
        replace hs := (hs.below hV27).up hV27.size
        have B_V27 := ex_trans hB hV27
        go_wp2
        go_ret
        exact ⟨rfl, B_V27⟩
       ·
        rw [hin]
        clear hin
        clear ho
        clear bx
        clear q2
        go_wp2_with (refine pause_at 149 rfl ?_)
        refine Paused.mk ?_
        refine wpList_load_row rfl 29 _ rfl _ rfl 29 _ (0, 0) _ (q1) Tryz.underlying29 rfl (by kernel_rfl) ?_
        go_wp2_with fail
        refine (sr_Tube t Ab Ad cb cd _ hg (by omega) (by omega)).mono ?_
        rintro e V28 ⟨⟨Ab1, Ad1, cb1, cd1, rfl, hg1⟩, hV28⟩
        replace q1 := q1.below hV28 q1.lt
        replace hg := hg.go hV28
        replace hh := (hh.below hV28).up hV28.size
        replace hi := (hi.below hV28).up hV28.size
        replace hs := (hs.below hV28).up hV28.size
        have B_V28 := ex_trans hB hV28
        go_wp2_with fail
        refine (History_any _ _ h _ (by omega) hh).mono ?_
        rintro e V29 ⟨⟨Ah1, ch1, rfl, -, -, hh1⟩, hV29⟩
        replace q1 := q1.below hV29 q1.lt
        replace hg := hg.go hV29
        replace hh := (hh.below hV29).up hV29.size
        replace hi := (hi.below hV29).up hV29.size
        replace hs := (hs.below hV29).up hV29.size
        replace hg1 := hg1.go hV29
        have B_V29 := ex_trans B_V28 hV29
        go_wp2_with fail
        refine (Ices_any _ _ l _ (by omega) hi).mono ?_
        rintro e V30 ⟨⟨Ai1, ci1, rfl, -, -, hi1⟩, hV30⟩
        replace q1 := q1.below hV30 q1.lt
        replace hg := hg.go hV30
        replace hh := (hh.below hV30).up hV30.size
        replace hi := (hi.below hV30).up hV30.size
        replace hs := (hs.below hV30).up hV30.size
        replace hg1 := hg1.go hV30
        replace hh1 := (hh1.below hV30).up hV30.size
        have B_V30 := ex_trans B_V29 hV30
        go_wp2_with fail
        refine (sl_readings _ _ L _ (by omega) hs).mono ?_
        rintro e V31 ⟨⟨Ar1, cr1, rfl, -, -, hs1⟩, hV31⟩
        replace q1 := q1.below hV31 q1.lt
        replace hg := hg.go hV31
        replace hh := (hh.below hV31).up hV31.size
        replace hi := (hi.below hV31).up hV31.size
        replace hs := (hs.below hV31).up hV31.size
        replace hg1 := hg1.go hV31
        replace hh1 := (hh1.below hV31).up hV31.size
        replace hi1 := (hi1.below hV31).up hV31.size
        have B_V31 := ex_trans B_V30 hV31
        go_wp2_with fail
        refine (Same_v t Ab1 Ad1 cb1 cd1 Ah1 Ai1 Ar1 ch1 ci1 cr1 h l L _ hg1 hh1 hi1 hs1 (by omega) (by omega)).mono ?_
        rintro e V32 ⟨⟨R1, ev1, rfl, hc1⟩, hV32⟩
        replace q1 := q1.below hV32 q1.lt
        replace hg := hg.go hV32
        replace hh := (hh.below hV32).up hV32.size
        replace hi := (hi.below hV32).up hV32.size
        replace hs := (hs.below hV32).up hV32.size
        replace hg1 := hg1.go hV32
        replace hh1 := (hh1.below hV32).up hV32.size
        replace hi1 := (hi1.below hV32).up hV32.size
        replace hs1 := (hs1.below hV32).up hV32.size
        have B_V32 := ex_trans B_V31 hV32
        clear hg1
        clear hh1
        clear hi1
        clear hs1
        obtain ⟨hev, zs, hZ, hR⟩ := tog_s HTG.out HL.out HX.out.ki HLL.out.1 (by omega) HS.out HKT.out hkl hc1.out
        subst hev
        have HZ := Lib.hid hZ
        have HR1 := Lib.hid hR
        have hwl := hR.lo
        have hwh := hR.hi
        rw [HVK.out] at hwl hwh
        replace hwl : R1.lo ≤ wv := by omega
        replace hwh : wv ≤ R1.hi := by omega
        clear hR hZ hc1
        have q1_2 := q1
        have hg_2 := hg
        have hh_2 := hh
        have hi_2 := hi
        have hs_2 := hs
        have NG := ex_alloc (Below.refl V32.heap.size V32) (.cells #[.int .i64 0, .int .i64 0] 41)
        have bs : Blk (V32.alloc (.cells #[.int .i64 0, .int .i64 0] 41)) V32.heap.size 41 #[.int .i64 0, .int .i64 0] := Blk.new _ _ _
        have lt_q1 := q1.lt
        go_wp2_with (refine pause_store 41 rfl ?_)
        obtain ⟨ps, hps'⟩ : ∃ p, V32.heap.size = p := ⟨_, rfl⟩
        rw [hps'] at bs lt_q1 ⊢
        have zps : w.heap.size ≤ ps := by have := B_V32.size; omega
        have tbs : V32.heap.size ≤ ps := Nat.le_of_eq hps'
        clear hps'
        have nq1_ps : pq1 ≠ ps := by omega
        clear lt_q1
        replace q1 := q1.below NG q1.lt
        replace hg := hg.go NG
        replace hh := hh.go NG
        replace hi := hi.go NG
        replace hs := hs.go NG
        have B_V33 := ex_trans B_V32 NG
        have X_V33 := ex_trans (Below.refl V32.heap.size V32) NG
        clear NG
        generalize V32.alloc (.cells #[.int .i64 0, .int .i64 0] 41) = V33 at *
        have ybs : V32.heap.size ≤ ps := tbs
        refine Paused.mk ?_
        have u0 := bs.cell 0
        have u1 := bs.cell 1
        have fu := bs.frozen0
        have lu := bs.lt
        simp at u0 u1
        skip
        have d1 : decide (wv < R1.lo) = false := decide_eq_false (by omega)
        have d2 : decide (R1.hi < wv) = false := decide_eq_false (by omega)
        go_wp2_with fail
        clear u0 u1 fu lu d1 d2 hwl hwh
        replace bs := bs.set_ 0 (.int .i64 R1.lo)
        replace bs := bs.set_ 1 (.int .i64 R1.hi)
        simp only [List.setIfInBounds_toArray, List.set_cons_zero, List.set_cons_succ] at bs
        have XS := ex_set (p := ⟨ps, 1, none⟩) (ex_set (p := ⟨ps, 0, none⟩) (X_V33) ybs (.int .i64 R1.lo)) ybs (.int .i64 R1.hi)
        generalize ((V33.setCell ⟨ps, 0, none⟩ (.int .i64 R1.lo)).setCell ⟨ps, 1, none⟩ (.int .i64 R1.hi)) = V34 at *
        replace q1 := q1_2.below XS q1_2.lt
        replace hg := hg_2.go XS
        replace hh := hh_2.go XS
        replace hi := hi_2.go XS
        replace hs := hs_2.go XS
        have B_V34 := ex_trans B_V32 XS
        have X_V34 := XS
        clear XS
        have q1_3 := q1
        have hg_3 := hg
        have hh_3 := hh
        have hi_3 := hi
        have hs_3 := hs
        have bs_3 := bs
        refine wp_loop (fun a wr => Rel (fun a wr => ∃ j : Nat, j ≤ L.length ∧ Below V34.heap.size V34 wr ∧ ∃ u : Nat → Value, a = ⟨List.toArray (u 0 :: .slice Ah h.length ch :: u 2 :: u 3 :: u 4 :: u 5 :: .pointer (some ⟨pq1, 0, none⟩) :: u 7 :: u 8 :: u 9 :: u 10 :: u 11 :: .bool false :: .slice Ai l.length ci :: u 14 :: u 15 :: u 16 :: .int .i64 wv :: .slice (some ⟨bl, ol, none⟩) L.length cap :: u 19 :: u 20 :: u 21 :: .pointer (some ⟨ps, 0, none⟩) :: u 23 :: .int .i64 (j : Int) :: u 25 :: u 26 :: u 27 :: u 28 :: u 29 :: u 30 :: u 31 :: u 32 :: u 33 :: u 34 :: u 35 :: u 36 :: u 37 :: u 38 :: u 39 :: u 40 :: u 41 :: u 42 :: u 43 :: u 44 :: u 45 :: u 46 :: u 47 :: u 48 :: u 49 :: u 50 :: u 51 :: u 52 :: u 53 :: u 54 :: u 55 :: u 56 :: u 57 :: u 58 :: u 59 :: u 60 :: u 61 :: u 62 :: u 63 :: u 64 :: u 65 :: u 66 :: u 67 :: u 68 :: u 69 :: u 70 :: u 71 :: u 72 :: u 73 :: u 74 :: u 75 :: u 76 :: u 77 :: u 78 :: u 79 :: u 80 :: u 81 :: u 82 :: u 83 :: u 84 :: u 85 :: u 86 :: u 87 :: u 88 :: u 89 :: u 90 :: u 91 :: u 92 :: u 93 :: u 94 :: u 95 :: u 96 :: u 97 :: u 98 :: u 99 :: u 100 :: u 101 :: u 102 :: u 103 :: u 104 :: u 105 :: u 106 :: u 107 :: u 108 :: u 109 :: u 110 :: u 111 :: u 112 :: u 113 :: u 114 :: u 115 :: u 116 :: u 117 :: u 118 :: u 119 :: u 120 :: u 121 :: u 122 :: u 123 :: u 124 :: u 125 :: u 126 :: u 127 :: u 128 :: u 129 :: u 130 :: u 131 :: u 132 :: u 133 :: u 134 :: u 135 :: u 136 :: u 137 :: u 138 :: u 139 :: u 140 :: u 141 :: u 142 :: u 143 :: u 144 :: u 145 :: u 146 :: u 147 :: u 148 :: u 149 :: u 150 :: u 151 :: u 152 :: u 153 :: u 154 :: u 155 :: u 156 :: u 157 :: u 158 :: u 159 :: u 160 :: u 161 :: u 162 :: u 163 :: u 164 :: u 165 :: u 166 :: u 167 :: u 168 :: u 169 :: u 170 :: u 171 :: u 172 :: u 173 :: u 174 :: u 175 :: u 176 :: u 177 :: u 178 :: u 179 :: u 180 :: u 181 :: u 182 :: u 183 :: u 184 :: u 185 :: u 186 :: u 187 :: u 188 :: u 189 :: u 190 :: u 191 :: u 192 :: u 193 :: u 194 :: u 195 :: u 196 :: u 197 :: u 198 :: u 199 :: u 200 :: u 201 :: u 202 :: u 203 :: u 204 :: u 205 :: u 206 :: u 207 :: u 208 :: u 209 :: u 210 :: u 211 :: u 212 :: u 213 :: u 214 :: u 215 :: u 216 :: u 217 :: u 218 :: u 219 :: u 220 :: u 221 :: u 222 :: u 223 :: u 224 :: u 225 :: u 226 :: u 227 :: u 228 :: []), []⟩) a wr) (fun a _ => L.length - (intOf (a.tmps.getD 24 undef)).toNat) ⟨⟨0, by omega, Below.refl _ _, exFrame (by kernel_rfl)⟩⟩ ?_
        clear q1 hg hh hi hs bs
        rintro a wr2 ⟨⟨j, hj, hX3, u, rfl⟩⟩
        have hB3 := ex_trans B_V34 hX3
        have q1 := q1_3.below hX3 q1_3.lt
        have hg := hg_3.go hX3
        have hh := hh_3.go hX3
        have hi := hi_3.go hX3
        have hs := hs_3.go hX3
        have bs := bs_3.below hX3 bs_3.lt
        by_cases hlt : j < L.length
        ·
         obtain ⟨b9, o9, hA9, hb9, g0, g1, g2, g3, g4, g5, g6, g7, g8, g9⟩ := IsRds.at10 hs hlt
         injection hA9 with hA9
         injection hA9 with hA8 hA9
         subst hA8 hA9
         go_upto_region 27 with fail
         rename_i K0 hK0
         have hrest : ∀ (V35 : World) (pc : Nat) (R2 : Rg) (ev2 : Int) (a : Act), Below wr2.heap.size wr2 V35 → wr2.heap.size ≤ pc → Blk V35 pc 41 #[.int .i64 (R2 : Rg).lo, .int .i64 (R2 : Rg).hi] → Hid (CorV t h l (gE L j) R2 ev2) → (∃ u : Nat → Value, a = ⟨List.toArray (u 0 :: .slice Ah h.length ch :: u 2 :: u 3 :: u 4 :: u 5 :: .pointer (some ⟨pq1, 0, none⟩) :: u 7 :: u 8 :: u 9 :: u 10 :: u 11 :: .bool false :: .slice Ai l.length ci :: u 14 :: u 15 :: u 16 :: .int .i64 wv :: .slice (some ⟨bl, ol, none⟩) L.length cap :: u 19 :: u 20 :: u 21 :: .pointer (some ⟨ps, 0, none⟩) :: u 23 :: .int .i64 (j : Int) :: .pointer (some ⟨pc, 0, none⟩) :: .int .i64 ev2 :: u 27 :: u 28 :: u 29 :: u 30 :: u 31 :: u 32 :: u 33 :: u 34 :: u 35 :: u 36 :: u 37 :: u 38 :: u 39 :: u 40 :: u 41 :: u 42 :: u 43 :: u 44 :: u 45 :: u 46 :: u 47 :: u 48 :: u 49 :: u 50 :: u 51 :: u 52 :: u 53 :: u 54 :: u 55 :: u 56 :: u 57 :: u 58 :: u 59 :: u 60 :: u 61 :: u 62 :: u 63 :: u 64 :: u 65 :: u 66 :: u 67 :: u 68 :: u 69 :: u 70 :: u 71 :: u 72 :: u 73 :: u 74 :: u 75 :: u 76 :: u 77 :: u 78 :: u 79 :: u 80 :: u 81 :: u 82 :: u 83 :: u 84 :: u 85 :: u 86 :: u 87 :: u 88 :: u 89 :: u 90 :: u 91 :: u 92 :: u 93 :: u 94 :: u 95 :: u 96 :: u 97 :: u 98 :: u 99 :: u 100 :: u 101 :: u 102 :: u 103 :: u 104 :: u 105 :: u 106 :: u 107 :: u 108 :: u 109 :: u 110 :: u 111 :: u 112 :: u 113 :: u 114 :: u 115 :: u 116 :: u 117 :: u 118 :: u 119 :: u 120 :: u 121 :: u 122 :: u 123 :: u 124 :: u 125 :: u 126 :: u 127 :: u 128 :: u 129 :: u 130 :: u 131 :: u 132 :: u 133 :: u 134 :: u 135 :: u 136 :: u 137 :: u 138 :: u 139 :: u 140 :: u 141 :: u 142 :: u 143 :: u 144 :: u 145 :: u 146 :: u 147 :: u 148 :: u 149 :: u 150 :: u 151 :: u 152 :: u 153 :: u 154 :: u 155 :: u 156 :: u 157 :: u 158 :: u 159 :: u 160 :: u 161 :: u 162 :: u 163 :: u 164 :: u 165 :: u 166 :: u 167 :: u 168 :: u 169 :: u 170 :: u 171 :: u 172 :: u 173 :: u 174 :: u 175 :: u 176 :: u 177 :: u 178 :: u 179 :: u 180 :: u 181 :: u 182 :: u 183 :: u 184 :: u 185 :: u 186 :: u 187 :: u 188 :: u 189 :: u 190 :: u 191 :: u 192 :: u 193 :: u 194 :: u 195 :: u 196 :: u 197 :: u 198 :: u 199 :: u 200 :: u 201 :: u 202 :: u 203 :: u 204 :: u 205 :: u 206 :: u 207 :: u 208 :: u 209 :: u 210 :: u 211 :: u 212 :: u 213 :: u 214 :: u 215 :: u 216 :: u 217 :: u 218 :: u 219 :: u 220 :: u 221 :: u 222 :: u 223 :: u 224 :: u 225 :: u 226 :: u 227 :: u 228 :: []), []⟩) → K0 a V35 := by
          rintro V35 pc R2 ev2 a hX9 yc bc hc2 ⟨u, rfl⟩
          refine hK0 _ _ ?_
          clear hK0 K0
          replace q1 := q1.below hX9 q1.lt
          replace hg := hg.go hX9
          replace hh := (hh.below hX9).up hX9.size
          replace hi := (hi.below hX9).up hX9.size
          replace hs := (hs.below hX9).up hX9.size
          replace bs := bs.below hX9 bs.lt
          have B_V35 := ex_trans hB3 hX9
          have X_V35 := ex_trans hX3 hX9
          have zc : w.heap.size ≤ pc := by have := hB3.size; omega
          clear g0 g1 g2 g3 g4 g5 g6 g7 g8 g9 hb9
          have hcc := tog_c HTG.out HL.out HS.out HKT.out HZ.out hlt hc2.out
          have hev := hcc.1
          subst hev
          have HCC := Lib.hid hcc.2
          clear hcc hc2
          have hs9 := hs.single hlt
          go_upto_region 28 with fail
          rename_i K0 hK0
          have hrest : ∀ (V36 : World) (pd : Nat) (R3 : Rg) (ev3 : Int) (a : Act), Below V35.heap.size V35 V36 → V35.heap.size ≤ pd → Blk V36 pd 41 #[.int .i64 (R3 : Rg).lo, .int .i64 (R3 : Rg).hi] → Hid (SamV t h l [gE L j] R3 ev3) → (∃ u : Nat → Value, a = ⟨List.toArray (u 0 :: .slice Ah h.length ch :: u 2 :: u 3 :: u 4 :: u 5 :: .pointer (some ⟨pq1, 0, none⟩) :: u 7 :: u 8 :: u 9 :: u 10 :: u 11 :: .bool false :: .slice Ai l.length ci :: u 14 :: u 15 :: u 16 :: .int .i64 wv :: .slice (some ⟨bl, ol, none⟩) L.length cap :: u 19 :: u 20 :: u 21 :: .pointer (some ⟨ps, 0, none⟩) :: u 23 :: .int .i64 (j : Int) :: .pointer (some ⟨pc, 0, none⟩) :: .int .i64 0 :: .pointer (some ⟨pd, 0, none⟩) :: .int .i64 ev3 :: u 29 :: u 30 :: u 31 :: u 32 :: u 33 :: u 34 :: u 35 :: u 36 :: u 37 :: u 38 :: u 39 :: u 40 :: u 41 :: u 42 :: u 43 :: u 44 :: u 45 :: u 46 :: u 47 :: u 48 :: u 49 :: u 50 :: u 51 :: u 52 :: u 53 :: u 54 :: u 55 :: u 56 :: u 57 :: u 58 :: u 59 :: u 60 :: u 61 :: u 62 :: u 63 :: u 64 :: u 65 :: u 66 :: u 67 :: u 68 :: u 69 :: u 70 :: u 71 :: u 72 :: u 73 :: u 74 :: u 75 :: u 76 :: u 77 :: u 78 :: u 79 :: u 80 :: u 81 :: u 82 :: u 83 :: u 84 :: u 85 :: u 86 :: u 87 :: u 88 :: u 89 :: u 90 :: u 91 :: u 92 :: u 93 :: u 94 :: u 95 :: u 96 :: u 97 :: u 98 :: u 99 :: u 100 :: u 101 :: u 102 :: u 103 :: u 104 :: u 105 :: u 106 :: u 107 :: u 108 :: u 109 :: u 110 :: u 111 :: u 112 :: u 113 :: u 114 :: u 115 :: u 116 :: u 117 :: u 118 :: u 119 :: u 120 :: u 121 :: u 122 :: u 123 :: u 124 :: u 125 :: u 126 :: u 127 :: u 128 :: u 129 :: u 130 :: u 131 :: u 132 :: u 133 :: u 134 :: u 135 :: u 136 :: u 137 :: u 138 :: u 139 :: u 140 :: u 141 :: u 142 :: u 143 :: u 144 :: u 145 :: u 146 :: u 147 :: u 148 :: u 149 :: u 150 :: u 151 :: u 152 :: u 153 :: u 154 :: u 155 :: u 156 :: u 157 :: u 158 :: u 159 :: u 160 :: u 161 :: u 162 :: u 163 :: u 164 :: u 165 :: u 166 :: u 167 :: u 168 :: u 169 :: u 170 :: u 171 :: u 172 :: u 173 :: u 174 :: u 175 :: u 176 :: u 177 :: u 178 :: u 179 :: u 180 :: u 181 :: u 182 :: u 183 :: u 184 :: u 185 :: u 186 :: u 187 :: u 188 :: u 189 :: u 190 :: u 191 :: u 192 :: u 193 :: u 194 :: u 195 :: u 196 :: u 197 :: u 198 :: u 199 :: u 200 :: u 201 :: u 202 :: u 203 :: u 204 :: u 205 :: u 206 :: u 207 :: u 208 :: u 209 :: u 210 :: u 211 :: u 212 :: u 213 :: u 214 :: u 215 :: u 216 :: u 217 :: u 218 :: u 219 :: u 220 :: u 221 :: u 222 :: u 223 :: u 224 :: u 225 :: u 226 :: u 227 :: u 228 :: []), []⟩) → K0 a V36 := by
           rintro V36 pd R3 ev3 a hX9 yd bd hc3 ⟨u, rfl⟩
           refine hK0 _ _ ?_
           clear hK0 K0
           replace q1 := q1.below hX9 q1.lt
           replace hg := hg.go hX9
           replace hh := (hh.below hX9).up hX9.size
           replace hi := (hi.below hX9).up hX9.size
           replace hs := (hs.below hX9).up hX9.size
           replace bs := bs.below hX9 bs.lt
           replace bc := bc.below hX9 bc.lt
           replace hs9 := (hs9.below hX9).up hX9.size
           have B_V36 := ex_trans B_V35 hX9
           have X_V36 := ex_trans X_V35 hX9
           have zd : w.heap.size ≤ pd := by have := B_V35.size; omega
           have hdd := tog_d HTG.out HL.out HX.out.ki HS.out HKT.out HZ.out hlt hc3.out
           have hev := hdd.1
           subst hev
           have hR23 : R3 = R2 := rg_eq (by rw [hdd.2.1, HCC.out.1]) (by rw [hdd.2.2, HCC.out.2])
           subst hR23
           have hal := HR1.out.all j hlt
           have hin1 : R3.lo ≤ R1.lo := by have := HCC.out.1; omega
           have hin2 : R1.hi ≤ R3.hi := by have := HCC.out.2; omega
           clear hdd hc3 hal HCC
           have s0 := bs.cell 0
           have s1 := bs.cell 1
           have ls := bs.lt
           simp at s0 s1
           have c0 := bc.cell 0
           have c1 := bc.cell 1
           have lc := bc.lt
           simp at c0 c1
           have d0 := bd.cell 0
           have d1 := bd.cell 1
           have ld := bd.lt
           simp at d0 d1
           go_wp2_with fail
           refine (sl_in R1 R3 _).mono ?_
           rintro e V37 ⟨rfl, hV37⟩
           replace q1 := q1.below hV37 q1.lt
           replace hg := hg.go hV37
           replace hh := (hh.below hV37).up hV37.size
           replace hi := (hi.below hV37).up hV37.size
           replace hs := (hs.below hV37).up hV37.size
           replace bs := bs.below hV37 bs.lt
           replace bc := bc.below hV37 bc.lt
           replace hs9 := (hs9.below hV37).up hV37.size
           replace bd := bd.below hV37 bd.lt
           have B_V37 := ex_trans B_V36 hV37
           have X_V37 := ex_trans X_V36 hV37
           rw [decide_eq_true hin1, decide_eq_true hin2]
           dsimp only [Bool.and_self]
           clear s0 s1 ls c0 c1 lc d0 d1 ld
           have c0 := bc.cell 0
           have c1 := bc.cell 1
           have lc := bc.lt
           simp at c0 c1
           have d0 := bd.cell 0
           have d1 := bd.cell 1
           have ld := bd.lt
           simp at d0 d1
           go_wp2
           refine ⟨⟨⟨j + 1, by omega, X_V37, exFrame (by kernel_rfl)⟩⟩, ?_⟩
           show L.length - (intOf (.int .i64 ((j : Int) + 1))).toNat < L.length - (intOf (.int .i64 (j : Int))).toNat
           simp [intOf]
           omega
          refine wp_region_ext_tq 18 (.quiet 0 (.quiet 2 (.quiet 4 (.quiet 6 (.quiet 7 (.quiet 8 (.quiet 9 (.quiet 10 (.fork 1 (.fork 3 (.fork 5 (.fork 11 (.fork 12 (.quiet 13 (.quiet 14 (.quiet 15 (.loud 16 (.loud 17 .done))))) 16 (.loud 12 (.quiet 13 (.quiet 14 (.quiet 15 (.loud 17 .done)))))) 16 (.loud 11 (.loud 12 (.quiet 13 (.quiet 14 (.quiet 15 (.loud 17 .done))))))) 16 (.loud 5 (.loud 11 (.loud 12 (.quiet 13 (.quiet 14 (.quiet 15 (.loud 17 .done)))))))) 16 (.loud 3 (.loud 5 (.loud 11 (.loud 12 (.quiet 13 (.quiet 14 (.quiet 15 (.loud 17 .done))))))))) 16 (.loud 1 (.loud 3 (.loud 5 (.loud 11 (.loud 12 (.quiet 13 (.quiet 14 (.quiet 15 (.loud 17 .done)))))))))))))))))) (by kernel_rfl) (by kernel_rfl) (by intro d _ _ _ _ h; cases d <;> exact h) ?_
          have D0 := (Below.refl V35.heap.size V35).drew
          repeat (refine tq_quiet rfl ?_; first | (refine wpQuiet_sliceRd rfl _ _ _ rfl bl ol L.length cap j (by omega) (by omega) rfl rfl rfl ?_; simp only [Act.put, List.setIfInBounds_toArray, List.set_cons_zero, List.set_cons_succ]; refine wpQuiet_nil ?_) | (refine wpQuiet_load_row rfl 29 _ rfl _ rfl 29 _ (0, 0) _ q1.ex Tryz.underlying29 rfl (by kernel_rfl) ?_; simp only [Act.put, List.setIfInBounds_toArray, List.set_cons_zero, List.set_cons_succ]; refine wpQuiet_nil ?_) | (go_big_quiet_step (fail); refine wpQuiet_nil ?_))
          refine tq_fork rfl rfl ?_ ?_
          ·
           go_wp2_with fail
           refine (sr_Tube t Ab Ad cb cd _ (hg.go (((Below.refl V35.heap.size V35)).drew)) (by omega) (by omega)).mono ?_
           rintro e V38 ⟨⟨Ab1, Ad1, cb1, cd1, rfl, hg1⟩, hV38⟩
           have N1 := ex_trans ((Below.refl V35.heap.size V35)).drew hV38
           go_wp2_with fail
           refine ⟨inEx N1, ?_⟩
           repeat (refine tq_quiet rfl ?_; go_big_quiet_step (fail); refine wpQuiet_nil ?_)
           refine tq_fork rfl rfl ?_ ?_
           ·
            go_wp2_with fail
            refine (History_any _ _ h _ (by omega) (hh.go (N1))).mono ?_
            rintro e V39 ⟨⟨Ah1, ch1, rfl, -, -, hh1⟩, hV39⟩
            have N3 := ex_trans N1 hV39
            go_wp2_with fail
            replace hg1 := hg1.go hV39
            refine ⟨inEx N3, ?_⟩
            repeat (refine tq_quiet rfl ?_; go_big_quiet_step (fail); refine wpQuiet_nil ?_)
            refine tq_fork rfl rfl ?_ ?_
            ·
             go_wp2_with fail
             refine (Ices_any _ _ l _ (by omega) (hi.go (N3))).mono ?_
             rintro e V40 ⟨⟨Ai1, ci1, rfl, -, -, hi1⟩, hV40⟩
             have N5 := ex_trans N3 hV40
             go_wp2_with fail
             replace hg1 := hg1.go hV40
             replace hh1 := hh1.go hV40
             refine ⟨inEx N5, ?_⟩
             repeat (refine tq_quiet rfl ?_; go_big_quiet_step (fail); refine wpQuiet_nil ?_)
             refine tq_fork rfl rfl ?_ ?_
             ·
              go_wp2_with fail
              refine (sl_readings _ _ [gE L j] _ (by simp) (hs9.go (N5))).mono ?_
              rintro e V41 ⟨⟨Ar1, cr1, rfl, -, -, hs1⟩, hV41⟩
              have N11 := ex_trans N5 hV41
              go_wp2_with fail
              replace hg1 := hg1.go hV41
              replace hh1 := hh1.go hV41
              replace hi1 := hi1.go hV41
              refine ⟨inEx N11, ?_⟩
              repeat (refine tq_quiet rfl ?_; go_big_quiet_step (fail); refine wpQuiet_nil ?_)
              refine tq_fork rfl rfl ?_ ?_
              ·
               go_wp2_with fail
               refine (Same_v t Ab1 Ad1 cb1 cd1 Ah1 Ai1 Ar1 ch1 ci1 cr1 h l [gE L j] _ hg1 hh1 hi1 hs1 (by omega) (by simp)).mono ?_
               rintro e V42 ⟨⟨R3, ev3, rfl, hc3⟩, hV42⟩
               have N12 := ex_trans N11 hV42
               go_wp2_with fail
               refine ⟨inEx N12, ?_⟩
               repeat (refine tq_quiet rfl ?_; go_big_quiet_step (fail); refine wpQuiet_nil ?_)
               refine tq_loud rfl ?_
               go_wp2_with fail
               have sd := (N12).size
               try simp at sd
               have N16 := ex_alloc N12 (.cells #[.int .i64 0, .int .i64 0] 41)
               have bd : Blk (V42.alloc (.cells #[.int .i64 0, .int .i64 0] 41)) (V42.heap.size) 41 #[.int .i64 0, .int .i64 0] := Blk.new' _ _ _ (by first | rfl | (simp; done) | (simp; omega))
               obtain ⟨pd, hpd⟩ : ∃ p, V42.heap.size = p := ⟨_, rfl⟩
               rw [hpd] at bd
               try rw [hpd]
               have yd : V35.heap.size ≤ pd := by omega
               clear sd
               refine ⟨inEx N16, ?_⟩
               repeat (refine tq_quiet rfl ?_; go_big_quiet_step (fail); refine wpQuiet_nil ?_)
               refine tq_loud rfl ?_
               have XA17 := N16
               generalize (V42.alloc (.cells #[.int .i64 0, .int .i64 0] 41)) = V43 at *
               have sc0 : V43.cell? ⟨pd, 0, none⟩ = some (.int .i64 0) := bd.cell 0
               have sc1 : V43.cell? ⟨pd, 1, none⟩ = some (.int .i64 0) := bd.cell 1
               have sf := bd.frozen0
               have sl := bd.lt
               go_wp2_with fail
               replace bd := bd.set_ 0 (.int .i64 R3.lo)
               replace XA17 := ex_set (p := ⟨pd, 0, none⟩) XA17 yd (.int .i64 R3.lo)
               replace bd := bd.set_ 1 (.int .i64 R3.hi)
               replace XA17 := ex_set (p := ⟨pd, 1, none⟩) XA17 yd (.int .i64 R3.hi)
               simp only [List.setIfInBounds_toArray, List.set_cons_zero, List.set_cons_succ] at bd
               clear sf sl sc0 sc1
               generalize ((V43.setCell ⟨pd, 0, none⟩ (.int .i64 R3.lo)).setCell ⟨pd, 1, none⟩ (.int .i64 R3.hi)) = V44 at *
               refine ⟨inEx XA17, ?_⟩
               repeat (refine tq_quiet rfl ?_; go_big_quiet_step (fail); refine wpQuiet_nil ?_)
               refine tq_done (r := [_]) rfl ?_
               go_wp2_with fail
               exact hrest V44 pd R3 ev3 _ (XA17) yd bd hc3 (exFrame (by kernel_rfl))
              ·
               go_wp2_with fail
               have sd := (N11).size
               try simp at sd
               have N16 := ex_alloc N11 (.cells #[.int .i64 0, .int .i64 0] 41)
               have bd : Blk (V41.alloc (.cells #[.int .i64 0, .int .i64 0] 41)) (V41.heap.size) 41 #[.int .i64 0, .int .i64 0] := Blk.new' _ _ _ (by first | rfl | (simp; done) | (simp; omega))
               replace hg1 := hg1.go (ex_alloc (Below.refl V41.heap.size V41) (.cells #[.int .i64 0, .int .i64 0] 41))
               replace hh1 := hh1.go (ex_alloc (Below.refl V41.heap.size V41) (.cells #[.int .i64 0, .int .i64 0] 41))
               replace hi1 := hi1.go (ex_alloc (Below.refl V41.heap.size V41) (.cells #[.int .i64 0, .int .i64 0] 41))
               replace hs1 := hs1.go (ex_alloc (Below.refl V41.heap.size V41) (.cells #[.int .i64 0, .int .i64 0] 41))
               obtain ⟨pd, hpd⟩ : ∃ p, V41.heap.size = p := ⟨_, rfl⟩
               rw [hpd] at bd
               try rw [hpd]
               have yd : V35.heap.size ≤ pd := by omega
               clear sd
               refine ⟨inEx N16, ?_⟩
               repeat (refine tq_quiet rfl ?_; go_big_quiet_step (fail); refine wpQuiet_nil ?_)
               refine tq_loud rfl ?_
               go_wp2_with fail
               refine (Same_v t Ab1 Ad1 cb1 cd1 Ah1 Ai1 Ar1 ch1 ci1 cr1 h l [gE L j] _ hg1 hh1 hi1 hs1 (by omega) (by simp)).mono ?_
               rintro e V45 ⟨⟨R3, ev3, rfl, hc3⟩, hV45⟩
               replace bd := Blk.below bd hV45 bd.lt
               have N12 := ex_trans N16 hV45
               go_wp2_with fail
               refine ⟨inEx N12, ?_⟩
               repeat (refine tq_quiet rfl ?_; go_big_quiet_step (fail); refine wpQuiet_nil ?_)
               refine tq_loud rfl ?_
               have XA17 := N12
               generalize V45 = V46 at *
               have sc0 : V46.cell? ⟨pd, 0, none⟩ = some (.int .i64 0) := bd.cell 0
               have sc1 : V46.cell? ⟨pd, 1, none⟩ = some (.int .i64 0) := bd.cell 1
               have sf := bd.frozen0
               have sl := bd.lt
               go_wp2_with fail
               replace bd := bd.set_ 0 (.int .i64 R3.lo)
               replace XA17 := ex_set (p := ⟨pd, 0, none⟩) XA17 yd (.int .i64 R3.lo)
               replace bd := bd.set_ 1 (.int .i64 R3.hi)
               replace XA17 := ex_set (p := ⟨pd, 1, none⟩) XA17 yd (.int .i64 R3.hi)
               simp only [List.setIfInBounds_toArray, List.set_cons_zero, List.set_cons_succ] at bd
               clear sf sl sc0 sc1
               generalize ((V46.setCell ⟨pd, 0, none⟩ (.int .i64 R3.lo)).setCell ⟨pd, 1, none⟩ (.int .i64 R3.hi)) = V47 at *
               refine ⟨inEx XA17, ?_⟩
               repeat (refine tq_quiet rfl ?_; go_big_quiet_step (fail); refine wpQuiet_nil ?_)
               refine tq_done (r := [_]) rfl ?_
               go_wp2_with fail
               exact hrest V47 pd R3 ev3 _ (XA17) yd bd hc3 (exFrame (by kernel_rfl))
             ·
              go_wp2_with fail
              have sd := (N5).size
              try simp at sd
              have N16 := ex_alloc N5 (.cells #[.int .i64 0, .int .i64 0] 41)
              have bd : Blk (V40.alloc (.cells #[.int .i64 0, .int .i64 0] 41)) (V40.heap.size) 41 #[.int .i64 0, .int .i64 0] := Blk.new' _ _ _ (by first | rfl | (simp; done) | (simp; omega))
              replace hg1 := hg1.go (ex_alloc (Below.refl V40.heap.size V40) (.cells #[.int .i64 0, .int .i64 0] 41))
              replace hh1 := hh1.go (ex_alloc (Below.refl V40.heap.size V40) (.cells #[.int .i64 0, .int .i64 0] 41))
              replace hi1 := hi1.go (ex_alloc (Below.refl V40.heap.size V40) (.cells #[.int .i64 0, .int .i64 0] 41))
              obtain ⟨pd, hpd⟩ : ∃ p, V40.heap.size = p := ⟨_, rfl⟩
              rw [hpd] at bd
              try rw [hpd]
              have yd : V35.heap.size ≤ pd := by omega
              clear sd
              refine ⟨inEx N16, ?_⟩
              repeat (refine tq_quiet rfl ?_; go_big_quiet_step (fail); refine wpQuiet_nil ?_)
              refine tq_loud rfl ?_
              go_wp2_with fail
              refine (sl_readings _ _ [gE L j] _ (by simp) (hs9.go (N16))).mono ?_
              rintro e V48 ⟨⟨Ar1, cr1, rfl, -, -, hs1⟩, hV48⟩
              replace bd := Blk.below bd hV48 bd.lt
              have N11 := ex_trans N16 hV48
              go_wp2_with fail
              replace hg1 := hg1.go hV48
              replace hh1 := hh1.go hV48
              replace hi1 := hi1.go hV48
              refine ⟨inEx N11, ?_⟩
              repeat (refine tq_quiet rfl ?_; go_big_quiet_step (fail); refine wpQuiet_nil ?_)
              refine tq_loud rfl ?_
              go_wp2_with fail
              refine (Same_v t Ab1 Ad1 cb1 cd1 Ah1 Ai1 Ar1 ch1 ci1 cr1 h l [gE L j] _ hg1 hh1 hi1 hs1 (by omega) (by simp)).mono ?_
              rintro e V49 ⟨⟨R3, ev3, rfl, hc3⟩, hV49⟩
              replace bd := Blk.below bd hV49 bd.lt
              have N12 := ex_trans N11 hV49
              go_wp2_with fail
              refine ⟨inEx N12, ?_⟩
              repeat (refine tq_quiet rfl ?_; go_big_quiet_step (fail); refine wpQuiet_nil ?_)
              refine tq_loud rfl ?_
              have XA17 := N12
              generalize V49 = V50 at *
              have sc0 : V50.cell? ⟨pd, 0, none⟩ = some (.int .i64 0) := bd.cell 0
              have sc1 : V50.cell? ⟨pd, 1, none⟩ = some (.int .i64 0) := bd.cell 1
              have sf := bd.frozen0
              have sl := bd.lt
              go_wp2_with fail
              replace bd := bd.set_ 0 (.int .i64 R3.lo)
              replace XA17 := ex_set (p := ⟨pd, 0, none⟩) XA17 yd (.int .i64 R3.lo)
              replace bd := bd.set_ 1 (.int .i64 R3.hi)
              replace XA17 := ex_set (p := ⟨pd, 1, none⟩) XA17 yd (.int .i64 R3.hi)
              simp only [List.setIfInBounds_toArray, List.set_cons_zero, List.set_cons_succ] at bd
              clear sf sl sc0 sc1
              generalize ((V50.setCell ⟨pd, 0, none⟩ (.int .i64 R3.lo)).setCell ⟨pd, 1, none⟩ (.int .i64 R3.hi)) = V51 at *
              refine ⟨inEx XA17, ?_⟩
              repeat (refine tq_quiet rfl ?_; go_big_quiet_step (fail); refine wpQuiet_nil ?_)
              refine tq_done (r := [_]) rfl ?_
              go_wp2_with fail
              exact hrest V51 pd R3 ev3 _ (XA17) yd bd hc3 (exFrame (by kernel_rfl))
            ·
             go_wp2_with fail
             have sd := (N3).size
             try simp at sd
             have N16 := ex_alloc N3 (.cells #[.int .i64 0, .int .i64 0] 41)
             have bd : Blk (V39.alloc (.cells #[.int .i64 0, .int .i64 0] 41)) (V39.heap.size) 41 #[.int .i64 0, .int .i64 0] := Blk.new' _ _ _ (by first | rfl | (simp; done) | (simp; omega))
             replace hg1 := hg1.go (ex_alloc (Below.refl V39.heap.size V39) (.cells #[.int .i64 0, .int .i64 0] 41))
             replace hh1 := hh1.go (ex_alloc (Below.refl V39.heap.size V39) (.cells #[.int .i64 0, .int .i64 0] 41))
             obtain ⟨pd, hpd⟩ : ∃ p, V39.heap.size = p := ⟨_, rfl⟩
             rw [hpd] at bd
             try rw [hpd]
             have yd : V35.heap.size ≤ pd := by omega
             clear sd
             refine ⟨inEx N16, ?_⟩
             repeat (refine tq_quiet rfl ?_; go_big_quiet_step (fail); refine wpQuiet_nil ?_)
             refine tq_loud rfl ?_
             go_wp2_with fail
             refine (Ices_any _ _ l _ (by omega) (hi.go (N16))).mono ?_
             rintro e V52 ⟨⟨Ai1, ci1, rfl, -, -, hi1⟩, hV52⟩
             replace bd := Blk.below bd hV52 bd.lt
             have N5 := ex_trans N16 hV52
             go_wp2_with fail
             replace hg1 := hg1.go hV52
             replace hh1 := hh1.go hV52
             refine ⟨inEx N5, ?_⟩
             repeat (refine tq_quiet rfl ?_; go_big_quiet_step (fail); refine wpQuiet_nil ?_)
             refine tq_loud rfl ?_
             go_wp2_with fail
             refine (sl_readings _ _ [gE L j] _ (by simp) (hs9.go (N5))).mono ?_
             rintro e V53 ⟨⟨Ar1, cr1, rfl, -, -, hs1⟩, hV53⟩
             replace bd := Blk.below bd hV53 bd.lt
             have N11 := ex_trans N5 hV53
             go_wp2_with fail
             replace hg1 := hg1.go hV53
             replace hh1 := hh1.go hV53
             replace hi1 := hi1.go hV53
             refine ⟨inEx N11, ?_⟩
             repeat (refine tq_quiet rfl ?_; go_big_quiet_step (fail); refine wpQuiet_nil ?_)
             refine tq_loud rfl ?_
             go_wp2_with fail
             refine (Same_v t Ab1 Ad1 cb1 cd1 Ah1 Ai1 Ar1 ch1 ci1 cr1 h l [gE L j] _ hg1 hh1 hi1 hs1 (by omega) (by simp)).mono ?_
             rintro e V54 ⟨⟨R3, ev3, rfl, hc3⟩, hV54⟩
             replace bd := Blk.below bd hV54 bd.lt
             have N12 := ex_trans N11 hV54
             go_wp2_with fail
             refine ⟨inEx N12, ?_⟩
             repeat (refine tq_quiet rfl ?_; go_big_quiet_step (fail); refine wpQuiet_nil ?_)
             refine tq_loud rfl ?_
             have XA17 := N12
             generalize V54 = V55 at *
             have sc0 : V55.cell? ⟨pd, 0, none⟩ = some (.int .i64 0) := bd.cell 0
             have sc1 : V55.cell? ⟨pd, 1, none⟩ = some (.int .i64 0) := bd.cell 1
             have sf := bd.frozen0
             have sl := bd.lt
             go_wp2_with fail
             replace bd := bd.set_ 0 (.int .i64 R3.lo)
             replace XA17 := ex_set (p := ⟨pd, 0, none⟩) XA17 yd (.int .i64 R3.lo)
             replace bd := bd.set_ 1 (.int .i64 R3.hi)
             replace XA17 := ex_set (p := ⟨pd, 1, none⟩) XA17 yd (.int .i64 R3.hi)
             simp only [List.setIfInBounds_toArray, List.set_cons_zero, List.set_cons_succ] at bd
             clear sf sl sc0 sc1
             generalize ((V55.setCell ⟨pd, 0, none⟩ (.int .i64 R3.lo)).setCell ⟨pd, 1, none⟩ (.int .i64 R3.hi)) = V56 at *
             refine ⟨inEx XA17, ?_⟩
             repeat (refine tq_quiet rfl ?_; go_big_quiet_step (fail); refine wpQuiet_nil ?_)
             refine tq_done (r := [_]) rfl ?_
             go_wp2_with fail
             exact hrest V56 pd R3 ev3 _ (XA17) yd bd hc3 (exFrame (by kernel_rfl))
           ·
            go_wp2_with fail
            have sd := (N1).size
            try simp at sd
            have N16 := ex_alloc N1 (.cells #[.int .i64 0, .int .i64 0] 41)
            have bd : Blk (V38.alloc (.cells #[.int .i64 0, .int .i64 0] 41)) (V38.heap.size) 41 #[.int .i64 0, .int .i64 0] := Blk.new' _ _ _ (by first | rfl | (simp; done) | (simp; omega))
            replace hg1 := hg1.go (ex_alloc (Below.refl V38.heap.size V38) (.cells #[.int .i64 0, .int .i64 0] 41))
            obtain ⟨pd, hpd⟩ : ∃ p, V38.heap.size = p := ⟨_, rfl⟩
            rw [hpd] at bd
            try rw [hpd]
            have yd : V35.heap.size ≤ pd := by omega
            clear sd
            refine ⟨inEx N16, ?_⟩
            repeat (refine tq_quiet rfl ?_; go_big_quiet_step (fail); refine wpQuiet_nil ?_)
            refine tq_loud rfl ?_
            go_wp2_with fail
            refine (History_any _ _ h _ (by omega) (hh.go (N16))).mono ?_
            rintro e V57 ⟨⟨Ah1, ch1, rfl, -, -, hh1⟩, hV57⟩
            replace bd := Blk.below bd hV57 bd.lt
            have N3 := ex_trans N16 hV57
            go_wp2_with fail
            replace hg1 := hg1.go hV57
            refine ⟨inEx N3, ?_⟩
            repeat (refine tq_quiet rfl ?_; go_big_quiet_step (fail); refine wpQuiet_nil ?_)
            refine tq_loud rfl ?_
            go_wp2_with fail
            refine (Ices_any _ _ l _ (by omega) (hi.go (N3))).mono ?_
            rintro e V58 ⟨⟨Ai1, ci1, rfl, -, -, hi1⟩, hV58⟩
            replace bd := Blk.below bd hV58 bd.lt
            have N5 := ex_trans N3 hV58
            go_wp2_with fail
            replace hg1 := hg1.go hV58
            replace hh1 := hh1.go hV58
            refine ⟨inEx N5, ?_⟩
            repeat (refine tq_quiet rfl ?_; go_big_quiet_step (fail); refine wpQuiet_nil ?_)
            refine tq_loud rfl ?_
            go_wp2_with fail
            refine (sl_readings _ _ [gE L j] _ (by simp) (hs9.go (N5))).mono ?_
            rintro e V59 ⟨⟨Ar1, cr1, rfl, -, -, hs1⟩, hV59⟩
            replace bd := Blk.below bd hV59 bd.lt
            have N11 := ex_trans N5 hV59
            go_wp2_with fail
            replace hg1 := hg1.go hV59
            replace hh1 := hh1.go hV59
            replace hi1 := hi1.go hV59
            refine ⟨inEx N11, ?_⟩
            repeat (refine tq_quiet rfl ?_; go_big_quiet_step (fail); refine wpQuiet_nil ?_)
            refine tq_loud rfl ?_
            go_wp2_with fail
            refine (Same_v t Ab1 Ad1 cb1 cd1 Ah1 Ai1 Ar1 ch1 ci1 cr1 h l [gE L j] _ hg1 hh1 hi1 hs1 (by omega) (by simp)).mono ?_
            rintro e V60 ⟨⟨R3, ev3, rfl, hc3⟩, hV60⟩
            replace bd := Blk.below bd hV60 bd.lt
            have N12 := ex_trans N11 hV60
            go_wp2_with fail
            refine ⟨inEx N12, ?_⟩
            repeat (refine tq_quiet rfl ?_; go_big_quiet_step (fail); refine wpQuiet_nil ?_)
            refine tq_loud rfl ?_
            have XA17 := N12
            generalize V60 = V61 at *
            have sc0 : V61.cell? ⟨pd, 0, none⟩ = some (.int .i64 0) := bd.cell 0
            have sc1 : V61.cell? ⟨pd, 1, none⟩ = some (.int .i64 0) := bd.cell 1
            have sf := bd.frozen0
            have sl := bd.lt
            go_wp2_with fail
            replace bd := bd.set_ 0 (.int .i64 R3.lo)
            replace XA17 := ex_set (p := ⟨pd, 0, none⟩) XA17 yd (.int .i64 R3.lo)
            replace bd := bd.set_ 1 (.int .i64 R3.hi)
            replace XA17 := ex_set (p := ⟨pd, 1, none⟩) XA17 yd (.int .i64 R3.hi)
            simp only [List.setIfInBounds_toArray, List.set_cons_zero, List.set_cons_succ] at bd
            clear sf sl sc0 sc1
            generalize ((V61.setCell ⟨pd, 0, none⟩ (.int .i64 R3.lo)).setCell ⟨pd, 1, none⟩ (.int .i64 R3.hi)) = V62 at *
            refine ⟨inEx XA17, ?_⟩
            repeat (refine tq_quiet rfl ?_; go_big_quiet_step (fail); refine wpQuiet_nil ?_)
            refine tq_done (r := [_]) rfl ?_
            go_wp2_with fail
            exact hrest V62 pd R3 ev3 _ (XA17) yd bd hc3 (exFrame (by kernel_rfl))
          ·
           go_wp2_with fail
           have sd := ((Below.refl V35.heap.size V35)).size
           try simp at sd
           have N16 := ex_alloc (Below.refl V35.heap.size V35) (.cells #[.int .i64 0, .int .i64 0] 41)
           have bd : Blk (V35.alloc (.cells #[.int .i64 0, .int .i64 0] 41)) (V35.heap.size) 41 #[.int .i64 0, .int .i64 0] := Blk.new' _ _ _ (by first | rfl | (simp; done) | (simp; omega))
           obtain ⟨pd, hpd⟩ : ∃ p, V35.heap.size = p := ⟨_, rfl⟩
           rw [hpd] at bd
           try rw [hpd]
           have yd : V35.heap.size ≤ pd := by omega
           clear sd
           refine ⟨inEx (N16).drew, ?_⟩
           repeat (refine tq_quiet rfl ?_; go_big_quiet_step (fail); refine wpQuiet_nil ?_)
           refine tq_loud rfl ?_
           go_wp2_with fail
           refine (sr_Tube t Ab Ad cb cd _ (hg.go ((N16).drew)) (by omega) (by omega)).mono ?_
           rintro e V63 ⟨⟨Ab1, Ad1, cb1, cd1, rfl, hg1⟩, hV63⟩
           replace bd := Blk.below (Blk.drew bd) hV63 bd.lt
           have N1 := ex_trans (N16).drew hV63
           go_wp2_with fail
           refine ⟨inEx N1, ?_⟩
           repeat (refine tq_quiet rfl ?_; go_big_quiet_step (fail); refine wpQuiet_nil ?_)
           refine tq_loud rfl ?_
           go_wp2_with fail
           refine (History_any _ _ h _ (by omega) (hh.go (N1))).mono ?_
           rintro e V64 ⟨⟨Ah1, ch1, rfl, -, -, hh1⟩, hV64⟩
           replace bd := Blk.below bd hV64 bd.lt
           have N3 := ex_trans N1 hV64
           go_wp2_with fail
           replace hg1 := hg1.go hV64
           refine ⟨inEx N3, ?_⟩
           repeat (refine tq_quiet rfl ?_; go_big_quiet_step (fail); refine wpQuiet_nil ?_)
           refine tq_loud rfl ?_
           go_wp2_with fail
           refine (Ices_any _ _ l _ (by omega) (hi.go (N3))).mono ?_
           rintro e V65 ⟨⟨Ai1, ci1, rfl, -, -, hi1⟩, hV65⟩
           replace bd := Blk.below bd hV65 bd.lt
           have N5 := ex_trans N3 hV65
           go_wp2_with fail
           replace hg1 := hg1.go hV65
           replace hh1 := hh1.go hV65
           refine ⟨inEx N5, ?_⟩
           repeat (refine tq_quiet rfl ?_; go_big_quiet_step (fail); refine wpQuiet_nil ?_)
           refine tq_loud rfl ?_
           go_wp2_with fail
           refine (sl_readings _ _ [gE L j] _ (by simp) (hs9.go (N5))).mono ?_
           rintro e V66 ⟨⟨Ar1, cr1, rfl, -, -, hs1⟩, hV66⟩
           replace bd := Blk.below bd hV66 bd.lt
           have N11 := ex_trans N5 hV66
           go_wp2_with fail
           replace hg1 := hg1.go hV66
           replace hh1 := hh1.go hV66
           replace hi1 := hi1.go hV66
           refine ⟨inEx N11, ?_⟩
           repeat (refine tq_quiet rfl ?_; go_big_quiet_step (fail); refine wpQuiet_nil ?_)
           refine tq_loud rfl ?_
           go_wp2_with fail
           refine (Same_v t Ab1 Ad1 cb1 cd1 Ah1 Ai1 Ar1 ch1 ci1 cr1 h l [gE L j] _ hg1 hh1 hi1 hs1 (by omega) (by simp)).mono ?_
           rintro e V67 ⟨⟨R3, ev3, rfl, hc3⟩, hV67⟩
           replace bd := Blk.below bd hV67 bd.lt
           have N12 := ex_trans N11 hV67
           go_wp2_with fail
           refine ⟨inEx N12, ?_⟩
           repeat (refine tq_quiet rfl ?_; go_big_quiet_step (fail); refine wpQuiet_nil ?_)
           refine tq_loud rfl ?_
           have XA17 := N12
           generalize V67 = V68 at *
           have sc0 : V68.cell? ⟨pd, 0, none⟩ = some (.int .i64 0) := bd.cell 0
           have sc1 : V68.cell? ⟨pd, 1, none⟩ = some (.int .i64 0) := bd.cell 1
           have sf := bd.frozen0
           have sl := bd.lt
           go_wp2_with fail
           replace bd := bd.set_ 0 (.int .i64 R3.lo)
           replace XA17 := ex_set (p := ⟨pd, 0, none⟩) XA17 yd (.int .i64 R3.lo)
           replace bd := bd.set_ 1 (.int .i64 R3.hi)
           replace XA17 := ex_set (p := ⟨pd, 1, none⟩) XA17 yd (.int .i64 R3.hi)
           simp only [List.setIfInBounds_toArray, List.set_cons_zero, List.set_cons_succ] at bd
           clear sf sl sc0 sc1
           generalize ((V68.setCell ⟨pd, 0, none⟩ (.int .i64 R3.lo)).setCell ⟨pd, 1, none⟩ (.int .i64 R3.hi)) = V69 at *
           refine ⟨inEx XA17, ?_⟩
           repeat (refine tq_quiet rfl ?_; go_big_quiet_step (fail); refine wpQuiet_nil ?_)
           refine tq_done (r := [_]) rfl ?_
           go_wp2_with fail
           exact hrest V69 pd R3 ev3 _ (XA17) yd bd hc3 (exFrame (by kernel_rfl))
         refine wp_region_ext_tq 17 (.quiet 0 (.quiet 2 (.quiet 4 (.quiet 6 (.quiet 7 (.quiet 8 (.quiet 9 (.fork 1 (.fork 3 (.fork 5 (.fork 10 (.fork 11 (.quiet 12 (.quiet 13 (.quiet 14 (.loud 15 (.loud 16 .done))))) 15 (.loud 11 (.quiet 12 (.quiet 13 (.quiet 14 (.loud 16 .done)))))) 15 (.loud 10 (.loud 11 (.quiet 12 (.quiet 13 (.quiet 14 (.loud 16 .done))))))) 15 (.loud 5 (.loud 10 (.loud 11 (.quiet 12 (.quiet 13 (.quiet 14 (.loud 16 .done)))))))) 15 (.loud 3 (.loud 5 (.loud 10 (.loud 11 (.quiet 12 (.quiet 13 (.quiet 14 (.loud 16 .done))))))))) 15 (.loud 1 (.loud 3 (.loud 5 (.loud 10 (.loud 11 (.quiet 12 (.quiet 13 (.quiet 14 (.loud 16 .done))))))))))))))))) (by kernel_rfl) (by kernel_rfl) (by intro d _ _ _ _ h; cases d <;> exact h) ?_
         have D0 := (Below.refl wr2.heap.size wr2).drew
         repeat (refine tq_quiet rfl ?_; first | (refine wpQuiet_load_row rfl 29 _ rfl _ rfl 29 _ (0, 0) _ q1.ex Tryz.underlying29 rfl (by kernel_rfl) ?_; simp only [Act.put, List.setIfInBounds_toArray, List.set_cons_zero, List.set_cons_succ]; refine wpQuiet_nil ?_) | (go_big_quiet_step (fail); refine wpQuiet_nil ?_))
         refine tq_fork rfl rfl ?_ ?_
         ·
          go_wp2_with fail
          refine (sr_Tube t Ab Ad cb cd _ (hg.go (((Below.refl wr2.heap.size wr2)).drew)) (by omega) (by omega)).mono ?_
          rintro e V70 ⟨⟨Ab1, Ad1, cb1, cd1, rfl, hg1⟩, hV70⟩
          have N1 := ex_trans ((Below.refl wr2.heap.size wr2)).drew hV70
          go_wp2_with fail
          refine ⟨inEx N1, ?_⟩
          repeat (refine tq_quiet rfl ?_; go_big_quiet_step (fail); refine wpQuiet_nil ?_)
          refine tq_fork rfl rfl ?_ ?_
          ·
           go_wp2_with fail
           refine (History_any _ _ h _ (by omega) (hh.go (N1))).mono ?_
           rintro e V71 ⟨⟨Ah1, ch1, rfl, -, -, hh1⟩, hV71⟩
           have N3 := ex_trans N1 hV71
           go_wp2_with fail
           replace hg1 := hg1.go hV71
           refine ⟨inEx N3, ?_⟩
           repeat (refine tq_quiet rfl ?_; go_big_quiet_step (fail); refine wpQuiet_nil ?_)
           refine tq_fork rfl rfl ?_ ?_
           ·
            go_wp2_with fail
            refine (Ices_any _ _ l _ (by omega) (hi.go (N3))).mono ?_
            rintro e V72 ⟨⟨Ai1, ci1, rfl, -, -, hi1⟩, hV72⟩
            have N5 := ex_trans N3 hV72
            go_wp2_with fail
            replace hg1 := hg1.go hV72
            replace hh1 := hh1.go hV72
            refine ⟨inEx N5, ?_⟩
            repeat (refine tq_quiet rfl ?_; go_big_quiet_step (fail); refine wpQuiet_nil ?_)
            refine tq_fork rfl rfl ?_ ?_
            ·
             go_wp2_with fail
             refine (sr_Reading (gE L j) _).mono ?_
             rintro e V73 ⟨rfl, hV73⟩
             have N10 := ex_trans N5 hV73
             go_wp2_with fail
             replace hg1 := hg1.go hV73
             replace hh1 := hh1.go hV73
             replace hi1 := hi1.go hV73
             refine ⟨inEx N10, ?_⟩
             repeat (refine tq_quiet rfl ?_; go_big_quiet_step (fail); refine wpQuiet_nil ?_)
             refine tq_fork rfl rfl ?_ ?_
             ·
              go_wp2_with fail
              refine (Correct_v t Ab1 Ad1 cb1 cd1 Ah1 Ai1 ch1 ci1 h l (gE L j) _ hg1 hh1 hi1 (by omega)).mono ?_
              rintro e V74 ⟨⟨R2, ev2, rfl, hc2⟩, hV74⟩
              have N11 := ex_trans N10 hV74
              go_wp2_with fail
              refine ⟨inEx N11, ?_⟩
              repeat (refine tq_quiet rfl ?_; go_big_quiet_step (fail); refine wpQuiet_nil ?_)
              refine tq_loud rfl ?_
              go_wp2_with fail
              have sc := (N11).size
              try simp at sc
              have N15 := ex_alloc N11 (.cells #[.int .i64 0, .int .i64 0] 41)
              have bc : Blk (V74.alloc (.cells #[.int .i64 0, .int .i64 0] 41)) (V74.heap.size) 41 #[.int .i64 0, .int .i64 0] := Blk.new' _ _ _ (by first | rfl | (simp; done) | (simp; omega))
              obtain ⟨pc, hpc⟩ : ∃ p, V74.heap.size = p := ⟨_, rfl⟩
              rw [hpc] at bc
              try rw [hpc]
              have yc : wr2.heap.size ≤ pc := by omega
              clear sc
              refine ⟨inEx N15, ?_⟩
              repeat (refine tq_quiet rfl ?_; go_big_quiet_step (fail); refine wpQuiet_nil ?_)
              refine tq_loud rfl ?_
              have XA16 := N15
              generalize (V74.alloc (.cells #[.int .i64 0, .int .i64 0] 41)) = V75 at *
              have sc0 : V75.cell? ⟨pc, 0, none⟩ = some (.int .i64 0) := bc.cell 0
              have sc1 : V75.cell? ⟨pc, 1, none⟩ = some (.int .i64 0) := bc.cell 1
              have sf := bc.frozen0
              have sl := bc.lt
              go_wp2_with fail
              replace bc := bc.set_ 0 (.int .i64 R2.lo)
              replace XA16 := ex_set (p := ⟨pc, 0, none⟩) XA16 yc (.int .i64 R2.lo)
              replace bc := bc.set_ 1 (.int .i64 R2.hi)
              replace XA16 := ex_set (p := ⟨pc, 1, none⟩) XA16 yc (.int .i64 R2.hi)
              simp only [List.setIfInBounds_toArray, List.set_cons_zero, List.set_cons_succ] at bc
              clear sf sl sc0 sc1
              generalize ((V75.setCell ⟨pc, 0, none⟩ (.int .i64 R2.lo)).setCell ⟨pc, 1, none⟩ (.int .i64 R2.hi)) = V76 at *
              refine ⟨inEx XA16, ?_⟩
              repeat (refine tq_quiet rfl ?_; go_big_quiet_step (fail); refine wpQuiet_nil ?_)
              refine tq_done (r := [_]) rfl ?_
              go_wp2_with fail
              exact hrest V76 pc R2 ev2 _ (XA16) yc bc hc2 (exFrame (by kernel_rfl))
             ·
              go_wp2_with fail
              have sc := (N10).size
              try simp at sc
              have N15 := ex_alloc N10 (.cells #[.int .i64 0, .int .i64 0] 41)
              have bc : Blk (V73.alloc (.cells #[.int .i64 0, .int .i64 0] 41)) (V73.heap.size) 41 #[.int .i64 0, .int .i64 0] := Blk.new' _ _ _ (by first | rfl | (simp; done) | (simp; omega))
              replace hg1 := hg1.go (ex_alloc (Below.refl V73.heap.size V73) (.cells #[.int .i64 0, .int .i64 0] 41))
              replace hh1 := hh1.go (ex_alloc (Below.refl V73.heap.size V73) (.cells #[.int .i64 0, .int .i64 0] 41))
              replace hi1 := hi1.go (ex_alloc (Below.refl V73.heap.size V73) (.cells #[.int .i64 0, .int .i64 0] 41))
              obtain ⟨pc, hpc⟩ : ∃ p, V73.heap.size = p := ⟨_, rfl⟩
              rw [hpc] at bc
              try rw [hpc]
              have yc : wr2.heap.size ≤ pc := by omega
              clear sc
              refine ⟨inEx N15, ?_⟩
              repeat (refine tq_quiet rfl ?_; go_big_quiet_step (fail); refine wpQuiet_nil ?_)
              refine tq_loud rfl ?_
              go_wp2_with fail
              refine (Correct_v t Ab1 Ad1 cb1 cd1 Ah1 Ai1 ch1 ci1 h l (gE L j) _ hg1 hh1 hi1 (by omega)).mono ?_
              rintro e V77 ⟨⟨R2, ev2, rfl, hc2⟩, hV77⟩
              replace bc := Blk.below bc hV77 bc.lt
              have N11 := ex_trans N15 hV77
              go_wp2_with fail
              refine ⟨inEx N11, ?_⟩
              repeat (refine tq_quiet rfl ?_; go_big_quiet_step (fail); refine wpQuiet_nil ?_)
              refine tq_loud rfl ?_
              have XA16 := N11
              generalize V77 = V78 at *
              have sc0 : V78.cell? ⟨pc, 0, none⟩ = some (.int .i64 0) := bc.cell 0
              have sc1 : V78.cell? ⟨pc, 1, none⟩ = some (.int .i64 0) := bc.cell 1
              have sf := bc.frozen0
              have sl := bc.lt
              go_wp2_with fail
              replace bc := bc.set_ 0 (.int .i64 R2.lo)
              replace XA16 := ex_set (p := ⟨pc, 0, none⟩) XA16 yc (.int .i64 R2.lo)
              replace bc := bc.set_ 1 (.int .i64 R2.hi)
              replace XA16 := ex_set (p := ⟨pc, 1, none⟩) XA16 yc (.int .i64 R2.hi)
              simp only [List.setIfInBounds_toArray, List.set_cons_zero, List.set_cons_succ] at bc
              clear sf sl sc0 sc1
              generalize ((V78.setCell ⟨pc, 0, none⟩ (.int .i64 R2.lo)).setCell ⟨pc, 1, none⟩ (.int .i64 R2.hi)) = V79 at *
              refine ⟨inEx XA16, ?_⟩
              repeat (refine tq_quiet rfl ?_; go_big_quiet_step (fail); refine wpQuiet_nil ?_)
              refine tq_done (r := [_]) rfl ?_
              go_wp2_with fail
              exact hrest V79 pc R2 ev2 _ (XA16) yc bc hc2 (exFrame (by kernel_rfl))
            ·
             go_wp2_with fail
             have sc := (N5).size
             try simp at sc
             have N15 := ex_alloc N5 (.cells #[.int .i64 0, .int .i64 0] 41)
             have bc : Blk (V72.alloc (.cells #[.int .i64 0, .int .i64 0] 41)) (V72.heap.size) 41 #[.int .i64 0, .int .i64 0] := Blk.new' _ _ _ (by first | rfl | (simp; done) | (simp; omega))
             replace hg1 := hg1.go (ex_alloc (Below.refl V72.heap.size V72) (.cells #[.int .i64 0, .int .i64 0] 41))
             replace hh1 := hh1.go (ex_alloc (Below.refl V72.heap.size V72) (.cells #[.int .i64 0, .int .i64 0] 41))
             replace hi1 := hi1.go (ex_alloc (Below.refl V72.heap.size V72) (.cells #[.int .i64 0, .int .i64 0] 41))
             obtain ⟨pc, hpc⟩ : ∃ p, V72.heap.size = p := ⟨_, rfl⟩
             rw [hpc] at bc
             try rw [hpc]
             have yc : wr2.heap.size ≤ pc := by omega
             clear sc
             refine ⟨inEx N15, ?_⟩
             repeat (refine tq_quiet rfl ?_; go_big_quiet_step (fail); refine wpQuiet_nil ?_)
             refine tq_loud rfl ?_
             go_wp2_with fail
             refine (sr_Reading (gE L j) _).mono ?_
             rintro e V80 ⟨rfl, hV80⟩
             replace bc := Blk.below bc hV80 bc.lt
             have N10 := ex_trans N15 hV80
             go_wp2_with fail
             replace hg1 := hg1.go hV80
             replace hh1 := hh1.go hV80
             replace hi1 := hi1.go hV80
             refine ⟨inEx N10, ?_⟩
             repeat (refine tq_quiet rfl ?_; go_big_quiet_step (fail); refine wpQuiet_nil ?_)
             refine tq_loud rfl ?_
             go_wp2_with fail
             refine (Correct_v t Ab1 Ad1 cb1 cd1 Ah1 Ai1 ch1 ci1 h l (gE L j) _ hg1 hh1 hi1 (by omega)).mono ?_
             rintro e V81 ⟨⟨R2, ev2, rfl, hc2⟩, hV81⟩
             replace bc := Blk.below bc hV81 bc.lt
             have N11 := ex_trans N10 hV81
             go_wp2_with fail
             refine ⟨inEx N11, ?_⟩
             repeat (refine tq_quiet rfl ?_; go_big_quiet_step (fail); refine wpQuiet_nil ?_)
             refine tq_loud rfl ?_
             have XA16 := N11
             generalize V81 = V82 at *
             have sc0 : V82.cell? ⟨pc, 0, none⟩ = some (.int .i64 0) := bc.cell 0
             have sc1 : V82.cell? ⟨pc, 1, none⟩ = some (.int .i64 0) := bc.cell 1
             have sf := bc.frozen0
             have sl := bc.lt
             go_wp2_with fail
             replace bc := bc.set_ 0 (.int .i64 R2.lo)
             replace XA16 := ex_set (p := ⟨pc, 0, none⟩) XA16 yc (.int .i64 R2.lo)
             replace bc := bc.set_ 1 (.int .i64 R2.hi)
             replace XA16 := ex_set (p := ⟨pc, 1, none⟩) XA16 yc (.int .i64 R2.hi)
             simp only [List.setIfInBounds_toArray, List.set_cons_zero, List.set_cons_succ] at bc
             clear sf sl sc0 sc1
             generalize ((V82.setCell ⟨pc, 0, none⟩ (.int .i64 R2.lo)).setCell ⟨pc, 1, none⟩ (.int .i64 R2.hi)) = V83 at *
             refine ⟨inEx XA16, ?_⟩
             repeat (refine tq_quiet rfl ?_; go_big_quiet_step (fail); refine wpQuiet_nil ?_)
             refine tq_done (r := [_]) rfl ?_
             go_wp2_with fail
             exact hrest V83 pc R2 ev2 _ (XA16) yc bc hc2 (exFrame (by kernel_rfl))
           ·
            go_wp2_with fail
            have sc := (N3).size
            try simp at sc
            have N15 := ex_alloc N3 (.cells #[.int .i64 0, .int .i64 0] 41)
            have bc : Blk (V71.alloc (.cells #[.int .i64 0, .int .i64 0] 41)) (V71.heap.size) 41 #[.int .i64 0, .int .i64 0] := Blk.new' _ _ _ (by first | rfl | (simp; done) | (simp; omega))
            replace hg1 := hg1.go (ex_alloc (Below.refl V71.heap.size V71) (.cells #[.int .i64 0, .int .i64 0] 41))
            replace hh1 := hh1.go (ex_alloc (Below.refl V71.heap.size V71) (.cells #[.int .i64 0, .int .i64 0] 41))
            obtain ⟨pc, hpc⟩ : ∃ p, V71.heap.size = p := ⟨_, rfl⟩
            rw [hpc] at bc
            try rw [hpc]
            have yc : wr2.heap.size ≤ pc := by omega
            clear sc
            refine ⟨inEx N15, ?_⟩
            repeat (refine tq_quiet rfl ?_; go_big_quiet_step (fail); refine wpQuiet_nil ?_)
            refine tq_loud rfl ?_
            go_wp2_with fail
            refine (Ices_any _ _ l _ (by omega) (hi.go (N15))).mono ?_
            rintro e V84 ⟨⟨Ai1, ci1, rfl, -, -, hi1⟩, hV84⟩
            replace bc := Blk.below bc hV84 bc.lt
            have N5 := ex_trans N15 hV84
            go_wp2_with fail
            replace hg1 := hg1.go hV84
            replace hh1 := hh1.go hV84
            refine ⟨inEx N5, ?_⟩
            repeat (refine tq_quiet rfl ?_; go_big_quiet_step (fail); refine wpQuiet_nil ?_)
            refine tq_loud rfl ?_
            go_wp2_with fail
            refine (sr_Reading (gE L j) _).mono ?_
            rintro e V85 ⟨rfl, hV85⟩
            replace bc := Blk.below bc hV85 bc.lt
            have N10 := ex_trans N5 hV85
            go_wp2_with fail
            replace hg1 := hg1.go hV85
            replace hh1 := hh1.go hV85
            replace hi1 := hi1.go hV85
            refine ⟨inEx N10, ?_⟩
            repeat (refine tq_quiet rfl ?_; go_big_quiet_step (fail); refine wpQuiet_nil ?_)
            refine tq_loud rfl ?_
            go_wp2_with fail
            refine (Correct_v t Ab1 Ad1 cb1 cd1 Ah1 Ai1 ch1 ci1 h l (gE L j) _ hg1 hh1 hi1 (by omega)).mono ?_
            rintro e V86 ⟨⟨R2, ev2, rfl, hc2⟩, hV86⟩
            replace bc := Blk.below bc hV86 bc.lt
            have N11 := ex_trans N10 hV86
            go_wp2_with fail
            refine ⟨inEx N11, ?_⟩
            repeat (refine tq_quiet rfl ?_; go_big_quiet_step (fail); refine wpQuiet_nil ?_)
            refine tq_loud rfl ?_
            have XA16 := N11
            generalize V86 = V87 at *
            have sc0 : V87.cell? ⟨pc, 0, none⟩ = some (.int .i64 0) := bc.cell 0
            have sc1 : V87.cell? ⟨pc, 1, none⟩ = some (.int .i64 0) := bc.cell 1
            have sf := bc.frozen0
            have sl := bc.lt
            go_wp2_with fail
            replace bc := bc.set_ 0 (.int .i64 R2.lo)
            replace XA16 := ex_set (p := ⟨pc, 0, none⟩) XA16 yc (.int .i64 R2.lo)
            replace bc := bc.set_ 1 (.int .i64 R2.hi)
            replace XA16 := ex_set (p := ⟨pc, 1, none⟩) XA16 yc (.int .i64 R2.hi)
            simp only [List.setIfInBounds_toArray, List.set_cons_zero, List.set_cons_succ] at bc
            clear sf sl sc0 sc1
            generalize ((V87.setCell ⟨pc, 0, none⟩ (.int .i64 R2.lo)).setCell ⟨pc, 1, none⟩ (.int .i64 R2.hi)) = V88 at *
            refine ⟨inEx XA16, ?_⟩
            repeat (refine tq_quiet rfl ?_; go_big_quiet_step (fail); refine wpQuiet_nil ?_)
            refine tq_done (r := [_]) rfl ?_
            go_wp2_with fail
            exact hrest V88 pc R2 ev2 _ (XA16) yc bc hc2 (exFrame (by kernel_rfl))
          ·
           go_wp2_with fail
           have sc := (N1).size
           try simp at sc
           have N15 := ex_alloc N1 (.cells #[.int .i64 0, .int .i64 0] 41)
           have bc : Blk (V70.alloc (.cells #[.int .i64 0, .int .i64 0] 41)) (V70.heap.size) 41 #[.int .i64 0, .int .i64 0] := Blk.new' _ _ _ (by first | rfl | (simp; done) | (simp; omega))
           replace hg1 := hg1.go (ex_alloc (Below.refl V70.heap.size V70) (.cells #[.int .i64 0, .int .i64 0] 41))
           obtain ⟨pc, hpc⟩ : ∃ p, V70.heap.size = p := ⟨_, rfl⟩
           rw [hpc] at bc
           try rw [hpc]
           have yc : wr2.heap.size ≤ pc := by omega
           clear sc
           refine ⟨inEx N15, ?_⟩
           repeat (refine tq_quiet rfl ?_; go_big_quiet_step (fail); refine wpQuiet_nil ?_)
           refine tq_loud rfl ?_
           go_wp2_with fail
           refine (History_any _ _ h _ (by omega) (hh.go (N15))).mono ?_
           rintro e V89 ⟨⟨Ah1, ch1, rfl, -, -, hh1⟩, hV89⟩
           replace bc := Blk.below bc hV89 bc.lt
           have N3 := ex_trans N15 hV89
           go_wp2_with fail
           replace hg1 := hg1.go hV89
           refine ⟨inEx N3, ?_⟩
           repeat (refine tq_quiet rfl ?_; go_big_quiet_step (fail); refine wpQuiet_nil ?_)
           refine tq_loud rfl ?_
           go_wp2_with fail
           refine (Ices_any _ _ l _ (by omega) (hi.go (N3))).mono ?_
           rintro e V90 ⟨⟨Ai1, ci1, rfl, -, -, hi1⟩, hV90⟩
           replace bc := Blk.below bc hV90 bc.lt
           have N5 := ex_trans N3 hV90
           go_wp2_with fail
           replace hg1 := hg1.go hV90
           replace hh1 := hh1.go hV90
           refine ⟨inEx N5, ?_⟩
           repeat (refine tq_quiet rfl ?_; go_big_quiet_step (fail); refine wpQuiet_nil ?_)
           refine tq_loud rfl ?_
           go_wp2_with fail
           refine (sr_Reading (gE L j) _).mono ?_
           rintro e V91 ⟨rfl, hV91⟩
           replace bc := Blk.below bc hV91 bc.lt
           have N10 := ex_trans N5 hV91
           go_wp2_with fail
           replace hg1 := hg1.go hV91
           replace hh1 := hh1.go hV91
           replace hi1 := hi1.go hV91
           refine ⟨inEx N10, ?_⟩
           repeat (refine tq_quiet rfl ?_; go_big_quiet_step (fail); refine wpQuiet_nil ?_)
           refine tq_loud rfl ?_
           go_wp2_with fail
           refine (Correct_v t Ab1 Ad1 cb1 cd1 Ah1 Ai1 ch1 ci1 h l (gE L j) _ hg1 hh1 hi1 (by omega)).mono ?_
           rintro e V92 ⟨⟨R2, ev2, rfl, hc2⟩, hV92⟩
           replace bc := Blk.below bc hV92 bc.lt
           have N11 := ex_trans N10 hV92
           go_wp2_with fail
           refine ⟨inEx N11, ?_⟩
           repeat (refine tq_quiet rfl ?_; go_big_quiet_step (fail); refine wpQuiet_nil ?_)
           refine tq_loud rfl ?_
           have XA16 := N11
           generalize V92 = V93 at *
           have sc0 : V93.cell? ⟨pc, 0, none⟩ = some (.int .i64 0) := bc.cell 0
           have sc1 : V93.cell? ⟨pc, 1, none⟩ = some (.int .i64 0) := bc.cell 1
           have sf := bc.frozen0
           have sl := bc.lt
           go_wp2_with fail
           replace bc := bc.set_ 0 (.int .i64 R2.lo)
           replace XA16 := ex_set (p := ⟨pc, 0, none⟩) XA16 yc (.int .i64 R2.lo)
           replace bc := bc.set_ 1 (.int .i64 R2.hi)
           replace XA16 := ex_set (p := ⟨pc, 1, none⟩) XA16 yc (.int .i64 R2.hi)
           simp only [List.setIfInBounds_toArray, List.set_cons_zero, List.set_cons_succ] at bc
           clear sf sl sc0 sc1
           generalize ((V93.setCell ⟨pc, 0, none⟩ (.int .i64 R2.lo)).setCell ⟨pc, 1, none⟩ (.int .i64 R2.hi)) = V94 at *
           refine ⟨inEx XA16, ?_⟩
           repeat (refine tq_quiet rfl ?_; go_big_quiet_step (fail); refine wpQuiet_nil ?_)
           refine tq_done (r := [_]) rfl ?_
           go_wp2_with fail
           exact hrest V94 pc R2 ev2 _ (XA16) yc bc hc2 (exFrame (by kernel_rfl))
         ·
          go_wp2_with fail
          have sc := ((Below.refl wr2.heap.size wr2)).size
          try simp at sc
          have N15 := ex_alloc (Below.refl wr2.heap.size wr2) (.cells #[.int .i64 0, .int .i64 0] 41)
          have bc : Blk (wr2.alloc (.cells #[.int .i64 0, .int .i64 0] 41)) (wr2.heap.size) 41 #[.int .i64 0, .int .i64 0] := Blk.new' _ _ _ (by first | rfl | (simp; done) | (simp; omega))
          obtain ⟨pc, hpc⟩ : ∃ p, wr2.heap.size = p := ⟨_, rfl⟩
          rw [hpc] at bc
          try rw [hpc]
          have yc : wr2.heap.size ≤ pc := by omega
          clear sc
          refine ⟨inEx (N15).drew, ?_⟩
          repeat (refine tq_quiet rfl ?_; go_big_quiet_step (fail); refine wpQuiet_nil ?_)
          refine tq_loud rfl ?_
          go_wp2_with fail
          refine (sr_Tube t Ab Ad cb cd _ (hg.go ((N15).drew)) (by omega) (by omega)).mono ?_
          rintro e V95 ⟨⟨Ab1, Ad1, cb1, cd1, rfl, hg1⟩, hV95⟩
          replace bc := Blk.below (Blk.drew bc) hV95 bc.lt
          have N1 := ex_trans (N15).drew hV95
          go_wp2_with fail
          refine ⟨inEx N1, ?_⟩
          repeat (refine tq_quiet rfl ?_; go_big_quiet_step (fail); refine wpQuiet_nil ?_)
          refine tq_loud rfl ?_
          go_wp2_with fail
          refine (History_any _ _ h _ (by omega) (hh.go (N1))).mono ?_
          rintro e V96 ⟨⟨Ah1, ch1, rfl, -, -, hh1⟩, hV96⟩
          replace bc := Blk.below bc hV96 bc.lt
          have N3 := ex_trans N1 hV96
          go_wp2_with fail
          replace hg1 := hg1.go hV96
          refine ⟨inEx N3, ?_⟩
          repeat (refine tq_quiet rfl ?_; go_big_quiet_step (fail); refine wpQuiet_nil ?_)
          refine tq_loud rfl ?_
          go_wp2_with fail
          refine (Ices_any _ _ l _ (by omega) (hi.go (N3))).mono ?_
          rintro e V97 ⟨⟨Ai1, ci1, rfl, -, -, hi1⟩, hV97⟩
          replace bc := Blk.below bc hV97 bc.lt
          have N5 := ex_trans N3 hV97
          go_wp2_with fail
          replace hg1 := hg1.go hV97
          replace hh1 := hh1.go hV97
          refine ⟨inEx N5, ?_⟩
          repeat (refine tq_quiet rfl ?_; go_big_quiet_step (fail); refine wpQuiet_nil ?_)
          refine tq_loud rfl ?_
          go_wp2_with fail
          refine (sr_Reading (gE L j) _).mono ?_
          rintro e V98 ⟨rfl, hV98⟩
          replace bc := Blk.below bc hV98 bc.lt
          have N10 := ex_trans N5 hV98
          go_wp2_with fail
          replace hg1 := hg1.go hV98
          replace hh1 := hh1.go hV98
          replace hi1 := hi1.go hV98
          refine ⟨inEx N10, ?_⟩
          repeat (refine tq_quiet rfl ?_; go_big_quiet_step (fail); refine wpQuiet_nil ?_)
          refine tq_loud rfl ?_
          go_wp2_with fail
          refine (Correct_v t Ab1 Ad1 cb1 cd1 Ah1 Ai1 ch1 ci1 h l (gE L j) _ hg1 hh1 hi1 (by omega)).mono ?_
          rintro e V99 ⟨⟨R2, ev2, rfl, hc2⟩, hV99⟩
          replace bc := Blk.below bc hV99 bc.lt
          have N11 := ex_trans N10 hV99
          go_wp2_with fail
          refine ⟨inEx N11, ?_⟩
          repeat (refine tq_quiet rfl ?_; go_big_quiet_step (fail); refine wpQuiet_nil ?_)
          refine tq_loud rfl ?_
          have XA16 := N11
          generalize V99 = V100 at *
          have sc0 : V100.cell? ⟨pc, 0, none⟩ = some (.int .i64 0) := bc.cell 0
          have sc1 : V100.cell? ⟨pc, 1, none⟩ = some (.int .i64 0) := bc.cell 1
          have sf := bc.frozen0
          have sl := bc.lt
          go_wp2_with fail
          replace bc := bc.set_ 0 (.int .i64 R2.lo)
          replace XA16 := ex_set (p := ⟨pc, 0, none⟩) XA16 yc (.int .i64 R2.lo)
          replace bc := bc.set_ 1 (.int .i64 R2.hi)
          replace XA16 := ex_set (p := ⟨pc, 1, none⟩) XA16 yc (.int .i64 R2.hi)
          simp only [List.setIfInBounds_toArray, List.set_cons_zero, List.set_cons_succ] at bc
          clear sf sl sc0 sc1
          generalize ((V100.setCell ⟨pc, 0, none⟩ (.int .i64 R2.lo)).setCell ⟨pc, 1, none⟩ (.int .i64 R2.hi)) = V101 at *
          refine ⟨inEx XA16, ?_⟩
          repeat (refine tq_quiet rfl ?_; go_big_quiet_step (fail); refine wpQuiet_nil ?_)
          refine tq_done (r := [_]) rfl ?_
          go_wp2_with fail
          exact hrest V101 pc R2 ev2 _ (XA16) yc bc hc2 (exFrame (by kernel_rfl))
        ·
         obtain rfl : j = L.length := by omega
         go_wp2_with fail
         refine (sl_awake _).mono ?_
         rintro e V102 ⟨rfl, hV102⟩
         replace q1 := q1.below hV102 q1.lt
         replace hg := hg.go hV102
         replace hh := (hh.below hV102).up hV102.size
         replace hi := (hi.below hV102).up hV102.size
         replace hs := (hs.below hV102).up hV102.size
         replace bs := bs.below hV102 bs.lt
         have B_V102 := ex_trans hB3 hV102
         have X_V102 := ex_trans hX3 hV102
         go_wp2
         go_ret
         exact ⟨rfl, B_V102⟩
     refine wp_region_ext_tq 10 (.quiet 0 (.quiet 1 (.quiet 2 (.quiet 3 (.quiet 4 (.quiet 5 (.quiet 6 (.quiet 7 (.fork 8 (.loud 9 .done) 9 (.loud 8 .done)))))))))) (by kernel_rfl) (by kernel_rfl) (by intro d _ _ _ _ h; cases d <;> exact h) ?_
     have D0 := (Below.refl V6.heap.size V6).drew
     repeat (refine tq_quiet rfl ?_; first | (refine wpQuiet_load_row rfl 29 _ rfl _ rfl 29 _ (0, 0) _ q1.ex Tryz.underlying29 rfl (by kernel_rfl) ?_; simp only [Act.put, List.setIfInBounds_toArray, List.set_cons_zero, List.set_cons_succ]; refine wpQuiet_nil ?_) | (refine wpQuiet_load_row rfl 33 _ rfl _ rfl 33 _ (0, 0) _ q2.ex Tryz.underlying33 rfl (by kernel_rfl) ?_; simp only [Act.put, List.setIfInBounds_toArray, List.set_cons_zero, List.set_cons_succ]; refine wpQuiet_nil ?_) | (go_big_quiet_step (fail); refine wpQuiet_nil ?_))
     refine tq_fork rfl rfl ?_ ?_
     ·
      go_wp2_with fail
      refine (sl_picked t _ _ _ _ Aw cw ws r vz _ (hw.go (((Below.refl V6.heap.size V6)).drew)) HWB.out hwl HO.out.tb HO.out.rd).mono ?_
      rintro e V103 ⟨⟨x, rfl, hx⟩, hV103⟩
      have N8 := ex_trans ((Below.refl V6.heap.size V6)).drew hV103
      go_wp2_with fail
      refine ⟨inEx N8, ?_⟩
      refine tq_loud rfl ?_
      go_wp2_with fail
      have sx := (N8).size
      try simp at sx
      have N9 := ex_alloc N8 (.cells #[.int .i64 0, .int .i64 0, .int .i64 0, .int .i64 0, .int .i64 0, .int .i64 0, .int .i64 0] 82)
      have bx : Blk (V103.alloc (.cells #[.int .i64 0, .int .i64 0, .int .i64 0, .int .i64 0, .int .i64 0, .int .i64 0, .int .i64 0] 82)) (V103.heap.size) 82 #[.int .i64 0, .int .i64 0, .int .i64 0, .int .i64 0, .int .i64 0, .int .i64 0, .int .i64 0] := Blk.new' _ _ _ (by first | rfl | (simp; done) | (simp; omega))
      obtain ⟨px, hpx⟩ : ∃ p, V103.heap.size = p := ⟨_, rfl⟩
      rw [hpx] at bx
      try rw [hpx]
      have yx : V6.heap.size ≤ px := by omega
      clear sx
      refine ⟨inEx N9, ?_⟩
      refine tq_done (r := [_]) rfl ?_
      have XA := N9
      generalize (V103.alloc (.cells #[.int .i64 0, .int .i64 0, .int .i64 0, .int .i64 0, .int .i64 0, .int .i64 0, .int .i64 0] 82)) = V104 at *
      have sc0 : V104.cell? ⟨px, 0, none⟩ = some (.int .i64 0) := bx.cell 0
      have sc1 : V104.cell? ⟨px, 1, none⟩ = some (.int .i64 0) := bx.cell 1
      have sc2 : V104.cell? ⟨px, 2, none⟩ = some (.int .i64 0) := bx.cell 2
      have sc3 : V104.cell? ⟨px, 3, none⟩ = some (.int .i64 0) := bx.cell 3
      have sc4 : V104.cell? ⟨px, 4, none⟩ = some (.int .i64 0) := bx.cell 4
      have sc5 : V104.cell? ⟨px, 5, none⟩ = some (.int .i64 0) := bx.cell 5
      have sc6 : V104.cell? ⟨px, 6, none⟩ = some (.int .i64 0) := bx.cell 6
      have sf := bx.frozen0
      have sl := bx.lt
      go_wp2_with fail
      replace bx := bx.set_ 0 (.int .i64 x.zero)
      replace XA := ex_set (p := ⟨px, 0, none⟩) XA yx (.int .i64 x.zero)
      replace bx := bx.set_ 1 (.int .i64 x.k)
      replace XA := ex_set (p := ⟨px, 1, none⟩) XA yx (.int .i64 x.k)
      replace bx := bx.set_ 2 (.int .i64 x.lag)
      replace XA := ex_set (p := ⟨px, 2, none⟩) XA yx (.int .i64 x.lag)
      replace bx := bx.set_ 3 (.int .i64 x.sq)
      replace XA := ex_set (p := ⟨px, 3, none⟩) XA yx (.int .i64 x.sq)
      replace bx := bx.set_ 4 (.int .i64 x.air)
      replace XA := ex_set (p := ⟨px, 4, none⟩) XA yx (.int .i64 x.air)
      replace bx := bx.set_ 5 (.int .i64 x.rate)
      replace XA := ex_set (p := ⟨px, 5, none⟩) XA yx (.int .i64 x.rate)
      replace bx := bx.set_ 6 (.int .i64 x.off)
      replace XA := ex_set (p := ⟨px, 6, none⟩) XA yx (.int .i64 x.off)
      simp only [List.setIfInBounds_toArray, List.set_cons_zero, List.set_cons_succ] at bx
      exact hrest _ px x _ XA yx bx hx (exFrame (by kernel_rfl))
     ·
      go_wp2_with fail
      have sx := ((Below.refl V6.heap.size V6)).size
      try simp at sx
      have N9 := ex_alloc (Below.refl V6.heap.size V6) (.cells #[.int .i64 0, .int .i64 0, .int .i64 0, .int .i64 0, .int .i64 0, .int .i64 0, .int .i64 0] 82)
      have bx : Blk (V6.alloc (.cells #[.int .i64 0, .int .i64 0, .int .i64 0, .int .i64 0, .int .i64 0, .int .i64 0, .int .i64 0] 82)) (V6.heap.size) 82 #[.int .i64 0, .int .i64 0, .int .i64 0, .int .i64 0, .int .i64 0, .int .i64 0, .int .i64 0] := Blk.new' _ _ _ (by first | rfl | (simp; done) | (simp; omega))
      obtain ⟨px, hpx⟩ : ∃ p, V6.heap.size = p := ⟨_, rfl⟩
      rw [hpx] at bx
      try rw [hpx]
      have yx : V6.heap.size ≤ px := by omega
      clear sx
      refine ⟨inEx (N9).drew, ?_⟩
      refine tq_loud rfl ?_
      go_wp2_with fail
      refine (sl_picked t _ _ _ _ Aw cw ws r vz _ (hw.go ((N9).drew)) HWB.out hwl HO.out.tb HO.out.rd).mono ?_
      rintro e V105 ⟨⟨x, rfl, hx⟩, hV105⟩
      replace bx := Blk.below (Blk.drew bx) hV105 bx.lt
      have N8 := ex_trans (N9).drew hV105
      go_wp2_with fail
      refine ⟨inEx N8, ?_⟩
      refine tq_done (r := [_]) rfl ?_
      have XA := N8
      generalize V105 = V106 at *
      have sc0 : V106.cell? ⟨px, 0, none⟩ = some (.int .i64 0) := bx.cell 0
      have sc1 : V106.cell? ⟨px, 1, none⟩ = some (.int .i64 0) := bx.cell 1
      have sc2 : V106.cell? ⟨px, 2, none⟩ = some (.int .i64 0) := bx.cell 2
      have sc3 : V106.cell? ⟨px, 3, none⟩ = some (.int .i64 0) := bx.cell 3
      have sc4 : V106.cell? ⟨px, 4, none⟩ = some (.int .i64 0) := bx.cell 4
      have sc5 : V106.cell? ⟨px, 5, none⟩ = some (.int .i64 0) := bx.cell 5
      have sc6 : V106.cell? ⟨px, 6, none⟩ = some (.int .i64 0) := bx.cell 6
      have sf := bx.frozen0
      have sl := bx.lt
      go_wp2_with fail
      replace bx := bx.set_ 0 (.int .i64 x.zero)
      replace XA := ex_set (p := ⟨px, 0, none⟩) XA yx (.int .i64 x.zero)
      replace bx := bx.set_ 1 (.int .i64 x.k)
      replace XA := ex_set (p := ⟨px, 1, none⟩) XA yx (.int .i64 x.k)
      replace bx := bx.set_ 2 (.int .i64 x.lag)
      replace XA := ex_set (p := ⟨px, 2, none⟩) XA yx (.int .i64 x.lag)
      replace bx := bx.set_ 3 (.int .i64 x.sq)
      replace XA := ex_set (p := ⟨px, 3, none⟩) XA yx (.int .i64 x.sq)
      replace bx := bx.set_ 4 (.int .i64 x.air)
      replace XA := ex_set (p := ⟨px, 4, none⟩) XA yx (.int .i64 x.air)
      replace bx := bx.set_ 5 (.int .i64 x.rate)
      replace XA := ex_set (p := ⟨px, 5, none⟩) XA yx (.int .i64 x.rate)
      replace bx := bx.set_ 6 (.int .i64 x.off)
      replace XA := ex_set (p := ⟨px, 6, none⟩) XA yx (.int .i64 x.off)
      simp only [List.setIfInBounds_toArray, List.set_cons_zero, List.set_cons_succ] at bx
      exact hrest _ px x _ XA yx bx hx (exFrame (by kernel_rfl))


end Go.Proofs.YtkaogjhnogkcdaaGreat
end

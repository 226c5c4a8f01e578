/- The law StemCorrects (walk). -/
import Derived.Test.YtkaogjhnogkcdaaGreatF21
import Derived.Test.YtkaogjhnogkcdaaGreatF26
import Derived.Test.YtkaogjhnogkcdaaGreatF19
import Derived.Test.YtkaogjhnogkcdaaGreatF10
set_option linter.unusedVariables false
set_option linter.unusedSimpArgs false
set_option linter.unusedSectionVars false
section
namespace Go.Proofs.YtkaogjhnogkcdaaGreat
open Go.RowKit
attribute [local go_sem] Ex.cell? Ex.frozen?

theorem cor_acc {t : Tb} {h : List Rg} {l : List Ic} {r : Rd} {most e1 e2 : Int} {R1 R2 : Rg} (h1 : CorV t h l r R1 e1) (h2 : AccV t h l r most R2 e2) :
  (askE t h l r ≠ 0 ∧ R1 = ⟨0, 0⟩ ∧ e1 = askE t h l r ∧ R2 = ⟨0, 0⟩ ∧ e2 = askE t h l r) ∨
  (askE t h l r = 0 ∧ refE t l r (agreeB t.g h l off0) ≠ 0 ∧ R1 = ⟨0, 0⟩ ∧ e1 = refE t l r (agreeB t.g h l off0) ∧ R2 = ⟨0, 0⟩ ∧ ((most < 0 ∧ e2 = 2) ∨ (0 ≤ most ∧ e2 = refE t l r (agreeB t.g h l off0)))) ∨
  (askE t h l r = 0 ∧ refE t l r (agreeB t.g h l off0) = 0 ∧ ∃ zs, ZsOf t.g h l zs ∧ R1 = corP2 t r (gR zs r.day.toNat) ∧ e1 = 0 ∧ ((most < 0 ∧ R2 = ⟨0, 0⟩ ∧ e2 = 2) ∨ (0 ≤ most ∧ R1.hi - R1.lo ≤ most ∧ R2 = R1 ∧ e2 = 0) ∨ (0 ≤ most ∧ most < R1.hi - R1.lo ∧ R2 = ⟨0, 0⟩ ∧ e2 = 10))) := by
 obtain ⟨c1, c2⟩ := h1
 by_cases ha : askE t h l r = 0
 ·
  have ce : corE t h l r = refE t l r (agreeB t.g h l off0) := by unfold corE; rw [if_neg (by simp [ha])]
  rw [ce] at c1
  by_cases hr : refE t l r (agreeB t.g h l off0) = 0
  ·
   refine .inr (.inr ⟨ha, hr, ?_⟩)
   rcases c2 with ⟨c2, _⟩ | ⟨_, zs, hz, c3⟩
   ·
    exact absurd (c1.trans hr) c2
   ·
    refine ⟨zs, hz, c3, c1.trans hr, ?_⟩
    rcases h2 with ⟨h2, rfl, h3⟩ | ⟨_, h0, _, _, zs', hz', h4⟩
    ·
     by_cases hm : most < 0
     ·
      exact .inl ⟨hm, h3, by rw [(acc_1 (.inr hm)).1, ha]; rfl⟩
     ·
      exact absurd (by rw [acc_2 ha (by omega), hr]) h2
    ·
     obtain rfl := ZsOf.uniq hz hz'
     rw [← c3] at h4
     rcases h4 with ⟨a, b, c⟩ | ⟨a, b, c⟩
     ·
      exact .inr (.inl ⟨h0, a, c, b⟩)
     ·
      exact .inr (.inr ⟨h0, a, c, b⟩)
  ·
   refine .inr (.inl ⟨ha, hr, ?_⟩)
   have f1 : R1 = ⟨0, 0⟩ := by
    rcases c2 with ⟨_, c⟩ | ⟨c, _⟩
    ·
     exact c
    ·
     exact absurd (c1.symm.trans c) hr
   rcases h2 with ⟨h2, rfl, h3⟩ | ⟨_, h0, _, h3, _⟩
   ·
    refine ⟨f1, c1, h3, ?_⟩
    by_cases hm : most < 0
    ·
     exact .inl ⟨hm, by rw [(acc_1 (.inr hm)).1, ha]; rfl⟩
    ·
     exact .inr ⟨by omega, acc_2 ha (by omega)⟩
   ·
    exact absurd h3 hr
 ·
  have ce : corE t h l r = askE t h l r := if_pos ha
  rw [ce] at c1
  refine .inl ⟨ha, ?_, c1, ?_⟩
  ·
   rcases c2 with ⟨_, c⟩ | ⟨c, _⟩
   ·
    exact c
   ·
    exact absurd (c1.symm.trans c) ha
  ·
   have e := (acc_1 (most := most) (.inl ha)).1
   have eb : badE (askE t h l r) = askE t h l r := if_pos ha
   rcases h2 with ⟨_, b, c⟩ | ⟨_, _, a, _⟩
   ·
    exact ⟨c, by rw [b, e, eb]⟩
   ·
    exact absurd a ha
set_option maxRecDepth 100000 in
set_option maxHeartbeats 12800000 in
theorem sl_corrects (t : Tb) (Ab Ad : Option Addr) (cb cd : Nat) (Ah Ai : Option Addr) (ch ci : Nat) (h : List Rg) (l : List Ic) (r : Rd) (most : Int) (w : World) (hg : GlIn w w.heap.size t.g Ab Ad) (hh : SlAt w w.heap.size 2 Ah h.length (fR h)) (hi : SlAt w w.heap.size 3 Ai l.length (fC l)) :
  Calls Tryz.prog 10 #[.agg #[.int .i64 t.g.base, .slice Ab t.g.bands.length cb, .slice Ad t.g.depths.length cd, .int .i64 t.g.blo, .int .i64 t.g.bhi, .int .i64 t.k.lo, .int .i64 t.k.hi, .int .i64 t.lag.lo, .int .i64 t.lag.hi, .int .i64 t.sq.lo, .int .i64 t.sq.hi, .int .i64 t.term], .slice Ah h.length ch, .slice Ai l.length ci, .agg #[.int .i64 r.day, .int .i64 r.shown, .int .i64 r.err, .int .i64 r.bare, .int .i64 r.air.lo, .int .i64 r.air.hi, .int .i64 r.rate.lo, .int .i64 r.rate.hi, .int .i64 r.deep, .bool r.broken], .int .i64 most] w fun e w' => e = .returned (.bool true) ∧ Below w.heap.size w w' := by
 cases hth : thinB t.g.bands.length t.g.depths.length h.length l.length
 ·
  have HTH := Lib.hid hth
  clear hth
  go_enter Tryz.func10, Tryz.ntmps10
  go_upto_region 1 with fail
  show Code.wp _ _ _ _ _
  refine box2 (K := fun V => Code.wp _ _ _ _ V) ?_
  intro V hb1 q1 q2
  replace hg := hg.go hb1
  replace hh := (hh.below hb1).up hb1.size
  replace hi := (hi.below hb1).up hb1.size
  obtain ⟨pq1, hpq1⟩ : ∃ p, w.heap.size = p := ⟨_, rfl⟩
  obtain ⟨pq2, hpq2⟩ : ∃ p, w.heap.size + 1 = p := ⟨_, rfl⟩
  rw [hpq2] at q2 ⊢
  rw [hpq1] at q1 ⊢
  have hp1 : w.heap.size ≤ pq1 := by omega
  have hp2 : w.heap.size ≤ pq2 := by omega
  clear hpq1 hpq2
  go_wp2_with (refine pause_at 18 rfl ?_)
  refine Paused.mk ?_
  refine wpList_load_row rfl 29 _ rfl _ rfl 29 _ (0, 0) _ (q1) Tryz.underlying29 rfl (by kernel_rfl) ?_
  go_wp2_with fail
  refine (sr_thin t Ab Ad cb cd Ah Ai h.length l.length ch ci _).mono ?_
  rintro e V1 ⟨rfl, hV1⟩
  replace q1 := q1.below hV1 q1.lt
  replace q2 := q2.below hV1 q2.lt
  replace hg := hg.go hV1
  replace hh := (hh.below hV1).up hV1.size
  replace hi := (hi.below hV1).up hV1.size
  have B_V1 := ex_trans hb1 hV1
  rw [HTH.out]
  go_wp2_with fail
  refine (sl_awake _).mono ?_
  rintro e V2 ⟨rfl, hV2⟩
  replace q1 := q1.below hV2 q1.lt
  replace q2 := q2.below hV2 q2.lt
  replace hg := hg.go hV2
  replace hh := (hh.below hV2).up hV2.size
  replace hi := (hi.below hV2).up hV2.size
  have B_V2 := ex_trans B_V1 hV2
  go_wp2
  go_ret
  exact ⟨rfl, B_V2⟩
 ·
  have HTH := Lib.hid hth
  obtain ⟨hnb, hnd, hnh, hni⟩ := thinB_iff.1 hth
  clear hth
  go_enter Tryz.func10, Tryz.ntmps10
  go_upto_region 1 with fail
  show Code.wp _ _ _ _ _
  refine box2 (K := fun V => Code.wp _ _ _ _ V) ?_
  intro V hb1 q1 q2
  replace hg := hg.go hb1
  replace hh := (hh.below hb1).up hb1.size
  replace hi := (hi.below hb1).up hb1.size
  obtain ⟨pq1, hpq1⟩ : ∃ p, w.heap.size = p := ⟨_, rfl⟩
  obtain ⟨pq2, hpq2⟩ : ∃ p, w.heap.size + 1 = p := ⟨_, rfl⟩
  rw [hpq2] at q2 ⊢
  rw [hpq1] at q1 ⊢
  have hp1 : w.heap.size ≤ pq1 := by omega
  have hp2 : w.heap.size ≤ pq2 := by omega
  clear hpq1 hpq2
  go_wp2_with (refine pause_at 18 rfl ?_)
  refine Paused.mk ?_
  refine wpList_load_row rfl 29 _ rfl _ rfl 29 _ (0, 0) _ (q1) Tryz.underlying29 rfl (by kernel_rfl) ?_
  go_wp2_with fail
  refine (sr_thin t Ab Ad cb cd Ah Ai h.length l.length ch ci _).mono ?_
  rintro e V3 ⟨rfl, hV3⟩
  replace q1 := q1.below hV3 q1.lt
  replace q2 := q2.below hV3 q2.lt
  replace hg := hg.go hV3
  replace hh := (hh.below hV3).up hV3.size
  replace hi := (hi.below hV3).up hV3.size
  have B_V3 := ex_trans hb1 hV3
  rw [HTH.out]
  go_upto_region 3 with fail
  rename_i K0 hK0
  have hrest : ∀ (V4 : World) (pi : Nat) (R1 : Rg) (ev1 : Int) (a : Act), Below V3.heap.size V3 V4 → V3.heap.size ≤ pi → Blk V4 pi 41 #[.int .i64 (R1 : Rg).lo, .int .i64 (R1 : Rg).hi] → Hid (CorV t h l r R1 ev1) → (∃ u : Nat → Value, a = ⟨List.toArray (u 0 :: .slice Ah h.length ch :: .slice Ai l.length ci :: u 3 :: .int .i64 most :: .pointer (some ⟨pq1, 0, none⟩) :: u 6 :: u 7 :: .pointer (some ⟨pq2, 0, none⟩) :: u 9 :: .bool false :: .pointer (some ⟨pi, 0, none⟩) :: .int .i64 ev1 :: u 13 :: u 14 :: u 15 :: u 16 :: u 17 :: u 18 :: u 19 :: u 20 :: u 21 :: u 22 :: u 23 :: u 24 :: u 25 :: u 26 :: u 27 :: u 28 :: u 29 :: u 30 :: u 31 :: u 32 :: u 33 :: u 34 :: u 35 :: u 36 :: u 37 :: u 38 :: u 39 :: u 40 :: u 41 :: u 42 :: u 43 :: u 44 :: u 45 :: u 46 :: u 47 :: u 48 :: u 49 :: u 50 :: u 51 :: u 52 :: u 53 :: u 54 :: u 55 :: u 56 :: u 57 :: u 58 :: u 59 :: u 60 :: u 61 :: u 62 :: u 63 :: u 64 :: u 65 :: u 66 :: u 67 :: u 68 :: u 69 :: u 70 :: u 71 :: u 72 :: u 73 :: u 74 :: u 75 :: u 76 :: u 77 :: u 78 :: u 79 :: u 80 :: u 81 :: u 82 :: u 83 :: u 84 :: u 85 :: u 86 :: u 87 :: u 88 :: u 89 :: u 90 :: u 91 :: u 92 :: u 93 :: u 94 :: u 95 :: u 96 :: u 97 :: u 98 :: u 99 :: u 100 :: u 101 :: u 102 :: u 103 :: u 104 :: u 105 :: u 106 :: u 107 :: u 108 :: u 109 :: u 110 :: u 111 :: u 112 :: u 113 :: u 114 :: u 115 :: u 116 :: u 117 :: u 118 :: u 119 :: u 120 :: u 121 :: u 122 :: u 123 :: u 124 :: u 125 :: u 126 :: u 127 :: u 128 :: u 129 :: u 130 :: u 131 :: u 132 :: u 133 :: u 134 :: u 135 :: []), []⟩) → K0 a V4 := by
   rintro V4 pi R1 ev1 a hX9 yi bi hc1 ⟨u, rfl⟩
   refine hK0 _ _ ?_
   clear hK0 K0
   replace q1 := q1.below hX9 q1.lt
   replace q2 := q2.below hX9 q2.lt
   replace hg := hg.go hX9
   replace hh := (hh.below hX9).up hX9.size
   replace hi := (hi.below hX9).up hX9.size
   have B_V4 := ex_trans B_V3 hX9
   have zi : w.heap.size ≤ pi := by have := B_V3.size; omega
   go_upto_region 4 with fail
   rename_i K0 hK0
   have hrest : ∀ (V5 : World) (pj : Nat) (R2 : Rg) (ev2 : Int) (a : Act), Below V4.heap.size V4 V5 → V4.heap.size ≤ pj → Blk V5 pj 41 #[.int .i64 (R2 : Rg).lo, .int .i64 (R2 : Rg).hi] → Hid (AccV t h l r most R2 ev2) → (∃ u : Nat → Value, a = ⟨List.toArray (u 0 :: .slice Ah h.length ch :: .slice Ai l.length ci :: u 3 :: .int .i64 most :: .pointer (some ⟨pq1, 0, none⟩) :: u 6 :: u 7 :: .pointer (some ⟨pq2, 0, none⟩) :: u 9 :: .bool false :: .pointer (some ⟨pi, 0, none⟩) :: .int .i64 ev1 :: .pointer (some ⟨pj, 0, none⟩) :: .int .i64 ev2 :: u 15 :: u 16 :: u 17 :: u 18 :: u 19 :: u 20 :: u 21 :: u 22 :: u 23 :: u 24 :: u 25 :: u 26 :: u 27 :: u 28 :: u 29 :: u 30 :: u 31 :: u 32 :: u 33 :: u 34 :: u 35 :: u 36 :: u 37 :: u 38 :: u 39 :: u 40 :: u 41 :: u 42 :: u 43 :: u 44 :: u 45 :: u 46 :: u 47 :: u 48 :: u 49 :: u 50 :: u 51 :: u 52 :: u 53 :: u 54 :: u 55 :: u 56 :: u 57 :: u 58 :: u 59 :: u 60 :: u 61 :: u 62 :: u 63 :: u 64 :: u 65 :: u 66 :: u 67 :: u 68 :: u 69 :: u 70 :: u 71 :: u 72 :: u 73 :: u 74 :: u 75 :: u 76 :: u 77 :: u 78 :: u 79 :: u 80 :: u 81 :: u 82 :: u 83 :: u 84 :: u 85 :: u 86 :: u 87 :: u 88 :: u 89 :: u 90 :: u 91 :: u 92 :: u 93 :: u 94 :: u 95 :: u 96 :: u 97 :: u 98 :: u 99 :: u 100 :: u 101 :: u 102 :: u 103 :: u 104 :: u 105 :: u 106 :: u 107 :: u 108 :: u 109 :: u 110 :: u 111 :: u 112 :: u 113 :: u 114 :: u 115 :: u 116 :: u 117 :: u 118 :: u 119 :: u 120 :: u 121 :: u 122 :: u 123 :: u 124 :: u 125 :: u 126 :: u 127 :: u 128 :: u 129 :: u 130 :: u 131 :: u 132 :: u 133 :: u 134 :: u 135 :: []), []⟩) → K0 a V5 := by
    rintro V5 pj R2 ev2 a hX9 yj bj hc2 ⟨u, rfl⟩
    refine hK0 _ _ ?_
    clear hK0 K0
    replace q1 := q1.below hX9 q1.lt
    replace q2 := q2.below hX9 q2.lt
    replace hg := hg.go hX9
    replace hh := (hh.below hX9).up hX9.size
    replace hi := (hi.below hX9).up hX9.size
    replace bi := bi.below hX9 bi.lt
    have B_V5 := ex_trans B_V4 hX9
    have zj : w.heap.size ≤ pj := by have := B_V4.size; omega
    have CA := Lib.hid (cor_acc hc1.out hc2.out)
    clear hc1 hc2
    rcases CA.out with ⟨ha, rfl, rfl, rfl, rfl⟩ | ⟨ha, hr, rfl, rfl, rfl, hm⟩ | ⟨ha, hr, zs, hz, hR1, rfl, hm⟩
    ·
     clear CA
     have e1 : (askE t h l r != 0) = true := by simp [ha]
     clear ha
     go_wp2_with (refine pause_at 49 rfl ?_)
     refine Paused.mk ?_
     refine wpList_load_row rfl 29 _ rfl _ rfl 29 _ (0, 0) _ (q1) Tryz.underlying29 rfl (by kernel_rfl) ?_
     go_wp2_with (refine pause_at 52 rfl ?_)
     refine Paused.mk ?_
     refine wpList_load_row rfl 33 _ rfl _ rfl 33 _ (0, 0) _ (q2) Tryz.underlying33 rfl (by kernel_rfl) ?_
     go_wp2_with fail
     refine (sr_asked t Ab Ad cb cd Ah Ai ch ci h l r _ hg hh hi (by omega)).mono ?_
     rintro e V6 ⟨rfl, hV6⟩
     replace q1 := q1.below hV6 q1.lt
     replace q2 := q2.below hV6 q2.lt
     replace hg := hg.go hV6
     replace hh := (hh.below hV6).up hV6.size
     replace hi := (hi.below hV6).up hV6.size
     replace bi := bi.below hV6 bi.lt
     replace bj := bj.below hV6 bj.lt
     have B_V6 := ex_trans B_V5 hV6
     have i0 := bi.cell 0
     have i1 := bi.cell 1
     have li := bi.lt
     simp at i0 i1
     have j0 := bj.cell 0
     have j1 := bj.cell 1
     have lj := bj.lt
     simp at j0 j1
     go_wp2_with fail
     refine (sl_awake _).mono ?_
     rintro e V7 ⟨rfl, hV7⟩
     replace q1 := q1.below hV7 q1.lt
     replace q2 := q2.below hV7 q2.lt
     replace hg := hg.go hV7
     replace hh := (hh.below hV7).up hV7.size
     replace hi := (hi.below hV7).up hV7.size
     replace bi := bi.below hV7 bi.lt
     replace bj := bj.below hV7 bj.lt
     have B_V7 := ex_trans B_V6 hV7
     go_wp2
     go_ret
     exact ⟨rfl, B_V7⟩
    ·
     clear CA
     have HA := Lib.hid ha
     have HO := Lib.hid (ask_bd ha)
     have HBD := Lib.hid (iced_bd (useE_0 (ask_0 ha).1).2)
     obtain ⟨k, hk, hkl⟩ := HO.out.day
     have hday : 0 ≤ r.day ∧ r.day ≤ 1000000 := by omega
     have HK := Lib.hid hk
     have HKT : Hid (r.day.toNat = k) := Lib.hid (by omega)
     clear hk ha
     have e1 : (refE t l r (agreeB t.g h l off0) != 0) = true := by simp [hr]
     have e2 : (refE t l r (agreeB t.g h l off0) == 0) = false := by simp [hr]
     clear hr
     have HM := Lib.hid hm
     clear hm
     go_wp2_with (refine pause_at 49 rfl ?_)
     refine Paused.mk ?_
     refine wpList_load_row rfl 29 _ rfl _ rfl 29 _ (0, 0) _ (q1) Tryz.underlying29 rfl (by kernel_rfl) ?_
     go_wp2_with (refine pause_at 52 rfl ?_)
     refine Paused.mk ?_
     refine wpList_load_row rfl 33 _ rfl _ rfl 33 _ (0, 0) _ (q2) Tryz.underlying33 rfl (by kernel_rfl) ?_
     go_wp2_with fail
     refine (sr_asked t Ab Ad cb cd Ah Ai ch ci h l r _ hg hh hi (by omega)).mono ?_
     rintro e V8 ⟨rfl, hV8⟩
     replace q1 := q1.below hV8 q1.lt
     replace q2 := q2.below hV8 q2.lt
     replace hg := hg.go hV8
     replace hh := (hh.below hV8).up hV8.size
     replace hi := (hi.below hV8).up hV8.size
     replace bi := bi.below hV8 bi.lt
     replace bj := bj.below hV8 bj.lt
     have B_V8 := ex_trans B_V5 hV8
     rw [HA.out]
     go_wp2_with (refine pause_at 77 rfl ?_)
     refine Paused.mk ?_
     refine wpList_load_row rfl 29 _ rfl _ rfl 29 _ (0, 0) _ (q1) Tryz.underlying29 rfl (by kernel_rfl) ?_
     go_wp2_with (refine pause_at 80 rfl ?_)
     refine Paused.mk ?_
     refine wpList_load_row rfl 33 _ rfl _ rfl 33 _ (0, 0) _ (q2) Tryz.underlying33 rfl (by kernel_rfl) ?_
     go_wp2_with fail
     refine (sr_refused t Ab Ad cb cd Ah Ai ch ci h l r _ hg hh hi HO.out.ok HBD.out (by omega) hday).mono ?_
     rintro e V9 ⟨rfl, hV9⟩
     replace q1 := q1.below hV9 q1.lt
     replace q2 := q2.below hV9 q2.lt
     replace hg := hg.go hV9
     replace hh := (hh.below hV9).up hV9.size
     replace hi := (hi.below hV9).up hV9.size
     replace bi := bi.below hV9 bi.lt
     replace bj := bj.below hV9 bj.lt
     have B_V9 := ex_trans B_V8 hV9
     have NG := ex_alloc (Below.refl V9.heap.size V9) (.cells #[.int .i64 0, .int .i64 0] 25)
     have q7 : Blk (V9.alloc (.cells #[.int .i64 0, .int .i64 0] 25)) V9.heap.size 25 #[.int .i64 0, .int .i64 0] := Blk.new _ _ _
     have lt_q1 := q1.lt
     have lt_q2 := q2.lt
     have lt_bi := bi.lt
     have lt_bj := bj.lt
     go_upto_region 12 with fail
     obtain ⟨p7, hp7'⟩ : ∃ p, V9.heap.size = p := ⟨_, rfl⟩
     rw [hp7'] at q7 lt_q1 lt_q2 lt_bi lt_bj ⊢
     have zp7 : w.heap.size ≤ p7 := by have := B_V9.size; omega
     clear hp7'
     have nq1_p7 : pq1 ≠ p7 := by omega
     clear lt_q1
     have nq2_p7 : pq2 ≠ p7 := by omega
     clear lt_q2
     have nbi_p7 : pi ≠ p7 := by omega
     clear lt_bi
     have nbj_p7 : pj ≠ p7 := by omega
     clear lt_bj
     replace q1 := q1.below NG q1.lt
     replace q2 := q2.below NG q2.lt
     replace hg := hg.go NG
     replace hh := hh.go NG
     replace hi := hi.go NG
     replace bi := bi.below NG bi.lt
     replace bj := bj.below NG bj.lt
     have B_V10 := ex_trans B_V9 NG
     clear NG
     generalize V9.alloc (.cells #[.int .i64 0, .int .i64 0] 25) = V10 at *
     have i0 := bi.cell 0
     have i1 := bi.cell 1
     have li := bi.lt
     simp at i0 i1
     have y0 := q7.cell 0
     have y1 := q7.cell 1
     have ly := q7.lt
     simp at y0 y1
     refine wp_region_ext (by kernel_rfl) (by kernel_rfl) ?_
     repeat (go_big_quiet_step ((go_at_call 31; exact Calls.ext_of (sr_to ⟨0, 0⟩ _))))
     refine wpQuiet_nil ?_; intro _ hw'; obtain ⟨⟨V12, hV12⟩, rfl⟩ := hw'
     try dsimp only
     clear i0 i1 li y0 y1 ly
     replace q1 := q1.below hV12 q1.lt
     replace q2 := q2.below hV12 q2.lt
     replace hg := hg.go hV12
     replace hh := (hh.below hV12).up hV12.size
     replace hi := (hi.below hV12).up hV12.size
     replace bi := bi.below hV12 bi.lt
     replace bj := bj.below hV12 bj.lt
     replace q7 := q7.below hV12 q7.lt
     have B_V12 := ex_trans B_V10 hV12
     rcases HM.out with ⟨hm, rfl⟩ | ⟨hm, rfl⟩
     ·
      have d1 : decide (most < 0) = true := decide_eq_true (by omega)
      have j0 := bj.cell 0
      have j1 := bj.cell 1
      have lj := bj.lt
      simp at j0 j1
      go_wp2_with fail
      refine (sl_awake _).mono ?_
      rintro e V11 ⟨rfl, hV11⟩
      replace q1 := q1.below hV11 q1.lt
      replace q2 := q2.below hV11 q2.lt
      replace hg := hg.go hV11
      replace hh := (hh.below hV11).up hV11.size
      replace hi := (hi.below hV11).up hV11.size
      replace bi := bi.below hV11 bi.lt
      replace bj := bj.below hV11 bj.lt
      replace q7 := q7.below hV11 q7.lt
      have B_V11 := ex_trans B_V12 hV11
      go_wp2
      go_ret
      exact ⟨rfl, B_V11⟩
     ·
      have d1 : decide (most < 0) = false := decide_eq_false (by omega)
      have j0 := bj.cell 0
      have j1 := bj.cell 1
      have lj := bj.lt
      simp at j0 j1
      go_wp2_with fail
      refine (sl_awake _).mono ?_
      rintro e V12 ⟨rfl, hV12⟩
      replace q1 := q1.below hV12 q1.lt
      replace q2 := q2.below hV12 q2.lt
      replace hg := hg.go hV12
      replace hh := (hh.below hV12).up hV12.size
      replace hi := (hi.below hV12).up hV12.size
      replace bi := bi.below hV12 bi.lt
      replace bj := bj.below hV12 bj.lt
      replace q7 := q7.below hV12 q7.lt
      have B_V12 := ex_trans B_V12 hV12
      go_wp2
      go_ret
      exact ⟨rfl, B_V12⟩
    ·
     clear CA
     have HA := Lib.hid ha
     have HO := Lib.hid (ask_bd ha)
     have HBD := Lib.hid (iced_bd (useE_0 (ask_0 ha).1).2)
     obtain ⟨k, hk, hkl⟩ := HO.out.day
     have hday : 0 ≤ r.day ∧ r.day ≤ 1000000 := by omega
     have HK := Lib.hid hk
     have HKT : Hid (r.day.toNat = k) := Lib.hid (by omega)
     clear hk ha
     have HR := Lib.hid hr
     have HZ := Lib.hid hz
     have HR1 : Hid (corP2 t r (gR zs k) = R1) := Lib.hid (by rw [hR1, HKT.out])
     have HAG := Lib.hid (ref_ag hr)
     have hrb := cor_bd HO.out.tb HO.out.rd (zs_bd HO.out.ok hz k hkl)
     rw [HR1.out] at hrb
     clear hr hz hR1
     have HM := Lib.hid hm
     clear hm
     go_wp2_with (refine pause_at 49 rfl ?_)
     refine Paused.mk ?_
     refine wpList_load_row rfl 29 _ rfl _ rfl 29 _ (0, 0) _ (q1) Tryz.underlying29 rfl (by kernel_rfl) ?_
     go_wp2_with (refine pause_at 52 rfl ?_)
     refine Paused.mk ?_
     refine wpList_load_row rfl 33 _ rfl _ rfl 33 _ (0, 0) _ (q2) Tryz.underlying33 rfl (by kernel_rfl) ?_
     go_wp2_with fail
     refine (sr_asked t Ab Ad cb cd Ah Ai ch ci h l r _ hg hh hi (by omega)).mono ?_
     rintro e V13 ⟨rfl, hV13⟩
     replace q1 := q1.below hV13 q1.lt
     replace q2 := q2.below hV13 q2.lt
     replace hg := hg.go hV13
     replace hh := (hh.below hV13).up hV13.size
     replace hi := (hi.below hV13).up hV13.size
     replace bi := bi.below hV13 bi.lt
     replace bj := bj.below hV13 bj.lt
     have B_V13 := ex_trans B_V5 hV13
     rw [HA.out]
     go_wp2_with (refine pause_at 77 rfl ?_)
     refine Paused.mk ?_
     refine wpList_load_row rfl 29 _ rfl _ rfl 29 _ (0, 0) _ (q1) Tryz.underlying29 rfl (by kernel_rfl) ?_
     go_wp2_with (refine pause_at 80 rfl ?_)
     refine Paused.mk ?_
     refine wpList_load_row rfl 33 _ rfl _ rfl 33 _ (0, 0) _ (q2) Tryz.underlying33 rfl (by kernel_rfl) ?_
     go_wp2_with fail
     refine (sr_refused t Ab Ad cb cd Ah Ai ch ci h l r _ hg hh hi HO.out.ok HBD.out (by omega) hday).mono ?_
     rintro e V14 ⟨rfl, hV14⟩
     replace q1 := q1.below hV14 q1.lt
     replace q2 := q2.below hV14 q2.lt
     replace hg := hg.go hV14
     replace hh := (hh.below hV14).up hV14.size
     replace hi := (hi.below hV14).up hV14.size
     replace bi := bi.below hV14 bi.lt
     replace bj := bj.below hV14 bj.lt
     have B_V14 := ex_trans B_V13 hV14
     rw [HR.out]
     have NG := ex_alloc (Below.refl V14.heap.size V14) (.cells #[.int .i64 0, .int .i64 0] 25)
     have q7 : Blk (V14.alloc (.cells #[.int .i64 0, .int .i64 0] 25)) V14.heap.size 25 #[.int .i64 0, .int .i64 0] := Blk.new _ _ _
     have lt_q1 := q1.lt
     have lt_q2 := q2.lt
     have lt_bi := bi.lt
     have lt_bj := bj.lt
     go_upto_region 11 with fail
     obtain ⟨p7, hp7'⟩ : ∃ p, V14.heap.size = p := ⟨_, rfl⟩
     rw [hp7'] at q7 lt_q1 lt_q2 lt_bi lt_bj ⊢
     have zp7 : w.heap.size ≤ p7 := by have := B_V14.size; omega
     clear hp7'
     have nq1_p7 : pq1 ≠ p7 := by omega
     clear lt_q1
     have nq2_p7 : pq2 ≠ p7 := by omega
     clear lt_q2
     have nbi_p7 : pi ≠ p7 := by omega
     clear lt_bi
     have nbj_p7 : pj ≠ p7 := by omega
     clear lt_bj
     replace q1 := q1.below NG q1.lt
     replace q2 := q2.below NG q2.lt
     replace hg := hg.go NG
     replace hh := hh.go NG
     replace hi := hi.go NG
     replace bi := bi.below NG bi.lt
     replace bj := bj.below NG bj.lt
     have B_V15 := ex_trans B_V14 NG
     clear NG
     generalize V14.alloc (.cells #[.int .i64 0, .int .i64 0] 25) = V15 at *
     go_wp2_with (refine pause_at 84 rfl ?_)
     refine Paused.mk ?_
     refine wpList_load_row rfl 29 _ rfl _ rfl 29 _ (0, 0) _ (q1) Tryz.underlying29 rfl (by kernel_rfl) ?_
     go_wp2_with (refine pause_at 87 rfl ?_)
     refine Paused.mk ?_
     refine wpList_load_row rfl 33 _ rfl _ rfl 33 _ (0, 0) _ (q2) Tryz.underlying33 rfl (by kernel_rfl) ?_
     go_wp2_with fail
     refine (sr_correct t Ab Ad cb cd Ah Ai ch ci h l r _ hg hh hi zs k HO.out.tb HO.out.rd HO.out.ok HBD.out (by omega) HZ.out HAG.out HK.out hkl).mono ?_
     rintro e V16 ⟨rfl, hV16⟩
     replace q1 := q1.below hV16 q1.lt
     replace q2 := q2.below hV16 q2.lt
     replace hg := hg.go hV16
     replace hh := (hh.below hV16).up hV16.size
     replace hi := (hi.below hV16).up hV16.size
     replace bi := bi.below hV16 bi.lt
     replace bj := bj.below hV16 bj.lt
     replace q7 := q7.below hV16 q7.lt
     have B_V16 := ex_trans B_V15 hV16
     rw [HR1.out]
     have u0 := q7.cell 0
     have u1 := q7.cell 1
     have fu := q7.frozen0
     have lu := q7.lt
     simp at u0 u1
     go_upto_region 12 with fail
     clear fu lu u0 u1
     clear q1
     clear q2
     clear hg
     clear hh
     clear hi
     replace q7 := q7.set_ 0 (.int .i64 R1.lo)
     replace bi := bi.far (p := ⟨p7, 0, none⟩) nbi_p7 (.int .i64 R1.lo)
     replace bj := bj.far (p := ⟨p7, 0, none⟩) nbj_p7 (.int .i64 R1.lo)
     replace q7 := q7.set_ 1 (.int .i64 R1.hi)
     replace bi := bi.far (p := ⟨p7, 1, none⟩) nbi_p7 (.int .i64 R1.hi)
     replace bj := bj.far (p := ⟨p7, 1, none⟩) nbj_p7 (.int .i64 R1.hi)
     simp only [List.setIfInBounds_toArray, List.set_cons_zero, List.set_cons_succ] at q7
     have B_V17 := ex_set (p := ⟨p7, 1, none⟩) (ex_set (p := ⟨p7, 0, none⟩) (B_V16) zp7 (.int .i64 R1.lo)) zp7 (.int .i64 R1.hi)
     generalize ((V16.setCell ⟨p7, 0, none⟩ (.int .i64 R1.lo)).setCell ⟨p7, 1, none⟩ (.int .i64 R1.hi)) = V17 at *
     have i0 := bi.cell 0
     have i1 := bi.cell 1
     have li := bi.lt
     simp at i0 i1
     have y0 := q7.cell 0
     have y1 := q7.cell 1
     have ly := q7.lt
     simp at y0 y1
     refine wp_region_ext (by kernel_rfl) (by kernel_rfl) ?_
     repeat (go_big_quiet_step ((go_at_call 31; exact Calls.ext_of (sr_to R1 _))))
     refine wpQuiet_nil ?_; intro _ hw'; obtain ⟨⟨V12, hV12⟩, rfl⟩ := hw'
     try dsimp only
     clear i0 i1 li y0 y1 ly
     replace bi := bi.below hV12 bi.lt
     replace bj := bj.below hV12 bj.lt
     replace q7 := q7.below hV12 q7.lt
     have B_V12 := ex_trans B_V17 hV12
     rcases HM.out with ⟨hm, rfl, rfl⟩ | ⟨hm, hw, rfl, rfl⟩ | ⟨hm, hw, rfl, rfl⟩
     ·
      have d1 : decide (most < 0) = true := decide_eq_true (by omega)
      have i0 := bi.cell 0
      have i1 := bi.cell 1
      have li := bi.lt
      simp at i0 i1
      have j0 := bj.cell 0
      have j1 := bj.cell 1
      have lj := bj.lt
      simp at j0 j1
      have y0 := q7.cell 0
      have y1 := q7.cell 1
      have ly := q7.lt
      simp at y0 y1
      go_wp2_with fail
      refine (sl_awake _).mono ?_
      rintro e V18 ⟨rfl, hV18⟩
      replace bi := bi.below hV18 bi.lt
      replace bj := bj.below hV18 bj.lt
      replace q7 := q7.below hV18 q7.lt
      have B_V18 := ex_trans B_V12 hV18
      go_wp2
      go_ret
      exact ⟨rfl, B_V18⟩
     ·
      have d1 : decide (most < 0) = false := decide_eq_false (by omega)
      have d2 : decide (most < R2.hi - R2.lo) = false := decide_eq_false (by omega)
      have i0 := bi.cell 0
      have i1 := bi.cell 1
      have li := bi.lt
      simp at i0 i1
      have j0 := bj.cell 0
      have j1 := bj.cell 1
      have lj := bj.lt
      simp at j0 j1
      have y0 := q7.cell 0
      have y1 := q7.cell 1
      have ly := q7.lt
      simp at y0 y1
      go_wp2_with fail
      refine (sl_awake _).mono ?_
      rintro e V19 ⟨rfl, hV19⟩
      replace bi := bi.below hV19 bi.lt
      replace bj := bj.below hV19 bj.lt
      replace q7 := q7.below hV19 q7.lt
      have B_V19 := ex_trans B_V12 hV19
      go_wp2
      go_ret
      exact ⟨rfl, B_V19⟩
     ·
      have d1 : decide (most < 0) = false := decide_eq_false (by omega)
      have d2 : decide (most < R1.hi - R1.lo) = true := decide_eq_true (by omega)
      have i0 := bi.cell 0
      have i1 := bi.cell 1
      have li := bi.lt
      simp at i0 i1
      have j0 := bj.cell 0
      have j1 := bj.cell 1
      have lj := bj.lt
      simp at j0 j1
      have y0 := q7.cell 0
      have y1 := q7.cell 1
      have ly := q7.lt
      simp at y0 y1
      go_wp2_with fail
      refine (sl_awake _).mono ?_
      rintro e V20 ⟨rfl, hV20⟩
      replace bi := bi.below hV20 bi.lt
      replace bj := bj.below hV20 bj.lt
      replace q7 := q7.below hV20 q7.lt
      have B_V20 := ex_trans B_V12 hV20
      go_wp2
      go_ret
      exact ⟨rfl, B_V20⟩
   refine wp_region_ext_tq 15 (.quiet 0 (.quiet 2 (.quiet 4 (.quiet 6 (.quiet 8 (.fork 1 (.fork 3 (.fork 5 (.fork 7 (.fork 9 (.quiet 10 (.quiet 11 (.quiet 12 (.loud 13 (.loud 14 .done))))) 13 (.loud 9 (.quiet 10 (.quiet 11 (.quiet 12 (.loud 14 .done)))))) 13 (.loud 7 (.loud 9 (.quiet 10 (.quiet 11 (.quiet 12 (.loud 14 .done))))))) 13 (.loud 5 (.loud 7 (.loud 9 (.quiet 10 (.quiet 11 (.quiet 12 (.loud 14 .done)))))))) 13 (.loud 3 (.loud 5 (.loud 7 (.loud 9 (.quiet 10 (.quiet 11 (.quiet 12 (.loud 14 .done))))))))) 13 (.loud 1 (.loud 3 (.loud 5 (.loud 7 (.loud 9 (.quiet 10 (.quiet 11 (.quiet 12 (.loud 14 .done))))))))))))))) (by kernel_rfl) (by kernel_rfl) (by intro d _ _ _ _ h; cases d <;> exact h) ?_
   have D0 := (Below.refl V4.heap.size V4).drew
   repeat (refine tq_quiet rfl ?_; first | (refine wpQuiet_load_row rfl 29 _ rfl _ rfl 29 _ (0, 0) _ q1.ex Tryz.underlying29 rfl (by kernel_rfl) ?_; simp only [Act.put, List.setIfInBounds_toArray, List.set_cons_zero, List.set_cons_succ]; refine wpQuiet_nil ?_) | (refine wpQuiet_load_row rfl 33 _ rfl _ rfl 33 _ (0, 0) _ q2.ex Tryz.underlying33 rfl (by kernel_rfl) ?_; simp only [Act.put, List.setIfInBounds_toArray, List.set_cons_zero, List.set_cons_succ]; refine wpQuiet_nil ?_) | (go_big_quiet_step (fail); refine wpQuiet_nil ?_))
   refine tq_fork rfl rfl ?_ ?_
   ·
    go_wp2_with fail
    refine (sr_Tube t Ab Ad cb cd _ (hg.go (((Below.refl V4.heap.size V4)).drew)) (by omega) (by omega)).mono ?_
    rintro e V21 ⟨⟨Ab1, Ad1, cb1, cd1, rfl, hg1⟩, hV21⟩
    have N1 := ex_trans ((Below.refl V4.heap.size V4)).drew hV21
    go_wp2_with fail
    refine ⟨inEx N1, ?_⟩
    repeat (refine tq_quiet rfl ?_; go_big_quiet_step (fail); refine wpQuiet_nil ?_)
    refine tq_fork rfl rfl ?_ ?_
    ·
     go_wp2_with fail
     refine (History_any _ _ h _ (by omega) (hh.go (N1))).mono ?_
     rintro e V22 ⟨⟨Ah1, ch1, rfl, -, -, hh1⟩, hV22⟩
     have N3 := ex_trans N1 hV22
     go_wp2_with fail
     replace hg1 := hg1.go hV22
     refine ⟨inEx N3, ?_⟩
     repeat (refine tq_quiet rfl ?_; go_big_quiet_step (fail); refine wpQuiet_nil ?_)
     refine tq_fork rfl rfl ?_ ?_
     ·
      go_wp2_with fail
      refine (Ices_any _ _ l _ (by omega) (hi.go (N3))).mono ?_
      rintro e V23 ⟨⟨Ai1, ci1, rfl, -, -, hi1⟩, hV23⟩
      have N5 := ex_trans N3 hV23
      go_wp2_with fail
      replace hg1 := hg1.go hV23
      replace hh1 := hh1.go hV23
      refine ⟨inEx N5, ?_⟩
      repeat (refine tq_quiet rfl ?_; go_big_quiet_step (fail); refine wpQuiet_nil ?_)
      refine tq_fork rfl rfl ?_ ?_
      ·
       go_wp2_with fail
       refine (sr_Reading r _).mono ?_
       rintro e V24 ⟨rfl, hV24⟩
       have N7 := ex_trans N5 hV24
       go_wp2_with fail
       replace hg1 := hg1.go hV24
       replace hh1 := hh1.go hV24
       replace hi1 := hi1.go hV24
       refine ⟨inEx N7, ?_⟩
       repeat (refine tq_quiet rfl ?_; go_big_quiet_step (fail); refine wpQuiet_nil ?_)
       refine tq_fork rfl rfl ?_ ?_
       ·
        go_wp2_with fail
        refine (Accept_v t Ab1 Ad1 cb1 cd1 Ah1 Ai1 ch1 ci1 h l r most _ hg1 hh1 hi1 (by omega)).mono ?_
        rintro e V25 ⟨⟨R2, ev2, rfl, hc2⟩, hV25⟩
        have N9 := ex_trans N7 hV25
        go_wp2_with fail
        refine ⟨inEx N9, ?_⟩
        repeat (refine tq_quiet rfl ?_; go_big_quiet_step (fail); refine wpQuiet_nil ?_)
        refine tq_loud rfl ?_
        go_wp2_with fail
        have sj := (N9).size
        try simp at sj
        have N13 := ex_alloc N9 (.cells #[.int .i64 0, .int .i64 0] 41)
        have bj : Blk (V25.alloc (.cells #[.int .i64 0, .int .i64 0] 41)) (V25.heap.size) 41 #[.int .i64 0, .int .i64 0] := Blk.new' _ _ _ (by first | rfl | (simp; done) | (simp; omega))
        obtain ⟨pj, hpj⟩ : ∃ p, V25.heap.size = p := ⟨_, rfl⟩
        rw [hpj] at bj
        try rw [hpj]
        have yj : V4.heap.size ≤ pj := by omega
        clear sj
        refine ⟨inEx N13, ?_⟩
        repeat (refine tq_quiet rfl ?_; go_big_quiet_step (fail); refine wpQuiet_nil ?_)
        refine tq_loud rfl ?_
        have XA14 := N13
        generalize (V25.alloc (.cells #[.int .i64 0, .int .i64 0] 41)) = V26 at *
        have sc0 : V26.cell? ⟨pj, 0, none⟩ = some (.int .i64 0) := bj.cell 0
        have sc1 : V26.cell? ⟨pj, 1, none⟩ = some (.int .i64 0) := bj.cell 1
        have sf := bj.frozen0
        have sl := bj.lt
        go_wp2_with fail
        replace bj := bj.set_ 0 (.int .i64 R2.lo)
        replace XA14 := ex_set (p := ⟨pj, 0, none⟩) XA14 yj (.int .i64 R2.lo)
        replace bj := bj.set_ 1 (.int .i64 R2.hi)
        replace XA14 := ex_set (p := ⟨pj, 1, none⟩) XA14 yj (.int .i64 R2.hi)
        simp only [List.setIfInBounds_toArray, List.set_cons_zero, List.set_cons_succ] at bj
        clear sf sl sc0 sc1
        generalize ((V26.setCell ⟨pj, 0, none⟩ (.int .i64 R2.lo)).setCell ⟨pj, 1, none⟩ (.int .i64 R2.hi)) = V27 at *
        refine ⟨inEx XA14, ?_⟩
        repeat (refine tq_quiet rfl ?_; go_big_quiet_step (fail); refine wpQuiet_nil ?_)
        refine tq_done (r := [_]) rfl ?_
        go_wp2_with fail
        exact hrest V27 pj R2 ev2 _ (XA14) yj bj hc2 (exFrame (by kernel_rfl))
       ·
        go_wp2_with fail
        have sj := (N7).size
        try simp at sj
        have N13 := ex_alloc N7 (.cells #[.int .i64 0, .int .i64 0] 41)
        have bj : Blk (V24.alloc (.cells #[.int .i64 0, .int .i64 0] 41)) (V24.heap.size) 41 #[.int .i64 0, .int .i64 0] := Blk.new' _ _ _ (by first | rfl | (simp; done) | (simp; omega))
        replace hg1 := hg1.go (ex_alloc (Below.refl V24.heap.size V24) (.cells #[.int .i64 0, .int .i64 0] 41))
        replace hh1 := hh1.go (ex_alloc (Below.refl V24.heap.size V24) (.cells #[.int .i64 0, .int .i64 0] 41))
        replace hi1 := hi1.go (ex_alloc (Below.refl V24.heap.size V24) (.cells #[.int .i64 0, .int .i64 0] 41))
        obtain ⟨pj, hpj⟩ : ∃ p, V24.heap.size = p := ⟨_, rfl⟩
        rw [hpj] at bj
        try rw [hpj]
        have yj : V4.heap.size ≤ pj := by omega
        clear sj
        refine ⟨inEx N13, ?_⟩
        repeat (refine tq_quiet rfl ?_; go_big_quiet_step (fail); refine wpQuiet_nil ?_)
        refine tq_loud rfl ?_
        go_wp2_with fail
        refine (Accept_v t Ab1 Ad1 cb1 cd1 Ah1 Ai1 ch1 ci1 h l r most _ hg1 hh1 hi1 (by omega)).mono ?_
        rintro e V28 ⟨⟨R2, ev2, rfl, hc2⟩, hV28⟩
        replace bj := Blk.below bj hV28 bj.lt
        have N9 := ex_trans N13 hV28
        go_wp2_with fail
        refine ⟨inEx N9, ?_⟩
        repeat (refine tq_quiet rfl ?_; go_big_quiet_step (fail); refine wpQuiet_nil ?_)
        refine tq_loud rfl ?_
        have XA14 := N9
        generalize V28 = V29 at *
        have sc0 : V29.cell? ⟨pj, 0, none⟩ = some (.int .i64 0) := bj.cell 0
        have sc1 : V29.cell? ⟨pj, 1, none⟩ = some (.int .i64 0) := bj.cell 1
        have sf := bj.frozen0
        have sl := bj.lt
        go_wp2_with fail
        replace bj := bj.set_ 0 (.int .i64 R2.lo)
        replace XA14 := ex_set (p := ⟨pj, 0, none⟩) XA14 yj (.int .i64 R2.lo)
        replace bj := bj.set_ 1 (.int .i64 R2.hi)
        replace XA14 := ex_set (p := ⟨pj, 1, none⟩) XA14 yj (.int .i64 R2.hi)
        simp only [List.setIfInBounds_toArray, List.set_cons_zero, List.set_cons_succ] at bj
        clear sf sl sc0 sc1
        generalize ((V29.setCell ⟨pj, 0, none⟩ (.int .i64 R2.lo)).setCell ⟨pj, 1, none⟩ (.int .i64 R2.hi)) = V30 at *
        refine ⟨inEx XA14, ?_⟩
        repeat (refine tq_quiet rfl ?_; go_big_quiet_step (fail); refine wpQuiet_nil ?_)
        refine tq_done (r := [_]) rfl ?_
        go_wp2_with fail
        exact hrest V30 pj R2 ev2 _ (XA14) yj bj hc2 (exFrame (by kernel_rfl))
      ·
       go_wp2_with fail
       have sj := (N5).size
       try simp at sj
       have N13 := ex_alloc N5 (.cells #[.int .i64 0, .int .i64 0] 41)
       have bj : Blk (V23.alloc (.cells #[.int .i64 0, .int .i64 0] 41)) (V23.heap.size) 41 #[.int .i64 0, .int .i64 0] := Blk.new' _ _ _ (by first | rfl | (simp; done) | (simp; omega))
       replace hg1 := hg1.go (ex_alloc (Below.refl V23.heap.size V23) (.cells #[.int .i64 0, .int .i64 0] 41))
       replace hh1 := hh1.go (ex_alloc (Below.refl V23.heap.size V23) (.cells #[.int .i64 0, .int .i64 0] 41))
       replace hi1 := hi1.go (ex_alloc (Below.refl V23.heap.size V23) (.cells #[.int .i64 0, .int .i64 0] 41))
       obtain ⟨pj, hpj⟩ : ∃ p, V23.heap.size = p := ⟨_, rfl⟩
       rw [hpj] at bj
       try rw [hpj]
       have yj : V4.heap.size ≤ pj := by omega
       clear sj
       refine ⟨inEx N13, ?_⟩
       repeat (refine tq_quiet rfl ?_; go_big_quiet_step (fail); refine wpQuiet_nil ?_)
       refine tq_loud rfl ?_
       go_wp2_with fail
       refine (sr_Reading r _).mono ?_
       rintro e V31 ⟨rfl, hV31⟩
       replace bj := Blk.below bj hV31 bj.lt
       have N7 := ex_trans N13 hV31
       go_wp2_with fail
       replace hg1 := hg1.go hV31
       replace hh1 := hh1.go hV31
       replace hi1 := hi1.go hV31
       refine ⟨inEx N7, ?_⟩
       repeat (refine tq_quiet rfl ?_; go_big_quiet_step (fail); refine wpQuiet_nil ?_)
       refine tq_loud rfl ?_
       go_wp2_with fail
       refine (Accept_v t Ab1 Ad1 cb1 cd1 Ah1 Ai1 ch1 ci1 h l r most _ hg1 hh1 hi1 (by omega)).mono ?_
       rintro e V32 ⟨⟨R2, ev2, rfl, hc2⟩, hV32⟩
       replace bj := Blk.below bj hV32 bj.lt
       have N9 := ex_trans N7 hV32
       go_wp2_with fail
       refine ⟨inEx N9, ?_⟩
       repeat (refine tq_quiet rfl ?_; go_big_quiet_step (fail); refine wpQuiet_nil ?_)
       refine tq_loud rfl ?_
       have XA14 := N9
       generalize V32 = V33 at *
       have sc0 : V33.cell? ⟨pj, 0, none⟩ = some (.int .i64 0) := bj.cell 0
       have sc1 : V33.cell? ⟨pj, 1, none⟩ = some (.int .i64 0) := bj.cell 1
       have sf := bj.frozen0
       have sl := bj.lt
       go_wp2_with fail
       replace bj := bj.set_ 0 (.int .i64 R2.lo)
       replace XA14 := ex_set (p := ⟨pj, 0, none⟩) XA14 yj (.int .i64 R2.lo)
       replace bj := bj.set_ 1 (.int .i64 R2.hi)
       replace XA14 := ex_set (p := ⟨pj, 1, none⟩) XA14 yj (.int .i64 R2.hi)
       simp only [List.setIfInBounds_toArray, List.set_cons_zero, List.set_cons_succ] at bj
       clear sf sl sc0 sc1
       generalize ((V33.setCell ⟨pj, 0, none⟩ (.int .i64 R2.lo)).setCell ⟨pj, 1, none⟩ (.int .i64 R2.hi)) = V34 at *
       refine ⟨inEx XA14, ?_⟩
       repeat (refine tq_quiet rfl ?_; go_big_quiet_step (fail); refine wpQuiet_nil ?_)
       refine tq_done (r := [_]) rfl ?_
       go_wp2_with fail
       exact hrest V34 pj R2 ev2 _ (XA14) yj bj hc2 (exFrame (by kernel_rfl))
     ·
      go_wp2_with fail
      have sj := (N3).size
      try simp at sj
      have N13 := ex_alloc N3 (.cells #[.int .i64 0, .int .i64 0] 41)
      have bj : Blk (V22.alloc (.cells #[.int .i64 0, .int .i64 0] 41)) (V22.heap.size) 41 #[.int .i64 0, .int .i64 0] := Blk.new' _ _ _ (by first | rfl | (simp; done) | (simp; omega))
      replace hg1 := hg1.go (ex_alloc (Below.refl V22.heap.size V22) (.cells #[.int .i64 0, .int .i64 0] 41))
      replace hh1 := hh1.go (ex_alloc (Below.refl V22.heap.size V22) (.cells #[.int .i64 0, .int .i64 0] 41))
      obtain ⟨pj, hpj⟩ : ∃ p, V22.heap.size = p := ⟨_, rfl⟩
      rw [hpj] at bj
      try rw [hpj]
      have yj : V4.heap.size ≤ pj := by omega
      clear sj
      refine ⟨inEx N13, ?_⟩
      repeat (refine tq_quiet rfl ?_; go_big_quiet_step (fail); refine wpQuiet_nil ?_)
      refine tq_loud rfl ?_
      go_wp2_with fail
      refine (Ices_any _ _ l _ (by omega) (hi.go (N13))).mono ?_
      rintro e V35 ⟨⟨Ai1, ci1, rfl, -, -, hi1⟩, hV35⟩
      replace bj := Blk.below bj hV35 bj.lt
      have N5 := ex_trans N13 hV35
      go_wp2_with fail
      replace hg1 := hg1.go hV35
      replace hh1 := hh1.go hV35
      refine ⟨inEx N5, ?_⟩
      repeat (refine tq_quiet rfl ?_; go_big_quiet_step (fail); refine wpQuiet_nil ?_)
      refine tq_loud rfl ?_
      go_wp2_with fail
      refine (sr_Reading r _).mono ?_
      rintro e V36 ⟨rfl, hV36⟩
      replace bj := Blk.below bj hV36 bj.lt
      have N7 := ex_trans N5 hV36
      go_wp2_with fail
      replace hg1 := hg1.go hV36
      replace hh1 := hh1.go hV36
      replace hi1 := hi1.go hV36
      refine ⟨inEx N7, ?_⟩
      repeat (refine tq_quiet rfl ?_; go_big_quiet_step (fail); refine wpQuiet_nil ?_)
      refine tq_loud rfl ?_
      go_wp2_with fail
      refine (Accept_v t Ab1 Ad1 cb1 cd1 Ah1 Ai1 ch1 ci1 h l r most _ hg1 hh1 hi1 (by omega)).mono ?_
      rintro e V37 ⟨⟨R2, ev2, rfl, hc2⟩, hV37⟩
      replace bj := Blk.below bj hV37 bj.lt
      have N9 := ex_trans N7 hV37
      go_wp2_with fail
      refine ⟨inEx N9, ?_⟩
      repeat (refine tq_quiet rfl ?_; go_big_quiet_step (fail); refine wpQuiet_nil ?_)
      refine tq_loud rfl ?_
      have XA14 := N9
      generalize V37 = V38 at *
      have sc0 : V38.cell? ⟨pj, 0, none⟩ = some (.int .i64 0) := bj.cell 0
      have sc1 : V38.cell? ⟨pj, 1, none⟩ = some (.int .i64 0) := bj.cell 1
      have sf := bj.frozen0
      have sl := bj.lt
      go_wp2_with fail
      replace bj := bj.set_ 0 (.int .i64 R2.lo)
      replace XA14 := ex_set (p := ⟨pj, 0, none⟩) XA14 yj (.int .i64 R2.lo)
      replace bj := bj.set_ 1 (.int .i64 R2.hi)
      replace XA14 := ex_set (p := ⟨pj, 1, none⟩) XA14 yj (.int .i64 R2.hi)
      simp only [List.setIfInBounds_toArray, List.set_cons_zero, List.set_cons_succ] at bj
      clear sf sl sc0 sc1
      generalize ((V38.setCell ⟨pj, 0, none⟩ (.int .i64 R2.lo)).setCell ⟨pj, 1, none⟩ (.int .i64 R2.hi)) = V39 at *
      refine ⟨inEx XA14, ?_⟩
      repeat (refine tq_quiet rfl ?_; go_big_quiet_step (fail); refine wpQuiet_nil ?_)
      refine tq_done (r := [_]) rfl ?_
      go_wp2_with fail
      exact hrest V39 pj R2 ev2 _ (XA14) yj bj hc2 (exFrame (by kernel_rfl))
    ·
     go_wp2_with fail
     have sj := (N1).size
     try simp at sj
     have N13 := ex_alloc N1 (.cells #[.int .i64 0, .int .i64 0] 41)
     have bj : Blk (V21.alloc (.cells #[.int .i64 0, .int .i64 0] 41)) (V21.heap.size) 41 #[.int .i64 0, .int .i64 0] := Blk.new' _ _ _ (by first | rfl | (simp; done) | (simp; omega))
     replace hg1 := hg1.go (ex_alloc (Below.refl V21.heap.size V21) (.cells #[.int .i64 0, .int .i64 0] 41))
     obtain ⟨pj, hpj⟩ : ∃ p, V21.heap.size = p := ⟨_, rfl⟩
     rw [hpj] at bj
     try rw [hpj]
     have yj : V4.heap.size ≤ pj := by omega
     clear sj
     refine ⟨inEx N13, ?_⟩
     repeat (refine tq_quiet rfl ?_; go_big_quiet_step (fail); refine wpQuiet_nil ?_)
     refine tq_loud rfl ?_
     go_wp2_with fail
     refine (History_any _ _ h _ (by omega) (hh.go (N13))).mono ?_
     rintro e V40 ⟨⟨Ah1, ch1, rfl, -, -, hh1⟩, hV40⟩
     replace bj := Blk.below bj hV40 bj.lt
     have N3 := ex_trans N13 hV40
     go_wp2_with fail
     replace hg1 := hg1.go hV40
     refine ⟨inEx N3, ?_⟩
     repeat (refine tq_quiet rfl ?_; go_big_quiet_step (fail); refine wpQuiet_nil ?_)
     refine tq_loud rfl ?_
     go_wp2_with fail
     refine (Ices_any _ _ l _ (by omega) (hi.go (N3))).mono ?_
     rintro e V41 ⟨⟨Ai1, ci1, rfl, -, -, hi1⟩, hV41⟩
     replace bj := Blk.below bj hV41 bj.lt
     have N5 := ex_trans N3 hV41
     go_wp2_with fail
     replace hg1 := hg1.go hV41
     replace hh1 := hh1.go hV41
     refine ⟨inEx N5, ?_⟩
     repeat (refine tq_quiet rfl ?_; go_big_quiet_step (fail); refine wpQuiet_nil ?_)
     refine tq_loud rfl ?_
     go_wp2_with fail
     refine (sr_Reading r _).mono ?_
     rintro e V42 ⟨rfl, hV42⟩
     replace bj := Blk.below bj hV42 bj.lt
     have N7 := ex_trans N5 hV42
     go_wp2_with fail
     replace hg1 := hg1.go hV42
     replace hh1 := hh1.go hV42
     replace hi1 := hi1.go hV42
     refine ⟨inEx N7, ?_⟩
     repeat (refine tq_quiet rfl ?_; go_big_quiet_step (fail); refine wpQuiet_nil ?_)
     refine tq_loud rfl ?_
     go_wp2_with fail
     refine (Accept_v t Ab1 Ad1 cb1 cd1 Ah1 Ai1 ch1 ci1 h l r most _ hg1 hh1 hi1 (by omega)).mono ?_
     rintro e V43 ⟨⟨R2, ev2, rfl, hc2⟩, hV43⟩
     replace bj := Blk.below bj hV43 bj.lt
     have N9 := ex_trans N7 hV43
     go_wp2_with fail
     refine ⟨inEx N9, ?_⟩
     repeat (refine tq_quiet rfl ?_; go_big_quiet_step (fail); refine wpQuiet_nil ?_)
     refine tq_loud rfl ?_
     have XA14 := N9
     generalize V43 = V44 at *
     have sc0 : V44.cell? ⟨pj, 0, none⟩ = some (.int .i64 0) := bj.cell 0
     have sc1 : V44.cell? ⟨pj, 1, none⟩ = some (.int .i64 0) := bj.cell 1
     have sf := bj.frozen0
     have sl := bj.lt
     go_wp2_with fail
     replace bj := bj.set_ 0 (.int .i64 R2.lo)
     replace XA14 := ex_set (p := ⟨pj, 0, none⟩) XA14 yj (.int .i64 R2.lo)
     replace bj := bj.set_ 1 (.int .i64 R2.hi)
     replace XA14 := ex_set (p := ⟨pj, 1, none⟩) XA14 yj (.int .i64 R2.hi)
     simp only [List.setIfInBounds_toArray, List.set_cons_zero, List.set_cons_succ] at bj
     clear sf sl sc0 sc1
     generalize ((V44.setCell ⟨pj, 0, none⟩ (.int .i64 R2.lo)).setCell ⟨pj, 1, none⟩ (.int .i64 R2.hi)) = V45 at *
     refine ⟨inEx XA14, ?_⟩
     repeat (refine tq_quiet rfl ?_; go_big_quiet_step (fail); refine wpQuiet_nil ?_)
     refine tq_done (r := [_]) rfl ?_
     go_wp2_with fail
     exact hrest V45 pj R2 ev2 _ (XA14) yj bj hc2 (exFrame (by kernel_rfl))
   ·
    go_wp2_with fail
    have sj := ((Below.refl V4.heap.size V4)).size
    try simp at sj
    have N13 := ex_alloc (Below.refl V4.heap.size V4) (.cells #[.int .i64 0, .int .i64 0] 41)
    have bj : Blk (V4.alloc (.cells #[.int .i64 0, .int .i64 0] 41)) (V4.heap.size) 41 #[.int .i64 0, .int .i64 0] := Blk.new' _ _ _ (by first | rfl | (simp; done) | (simp; omega))
    obtain ⟨pj, hpj⟩ : ∃ p, V4.heap.size = p := ⟨_, rfl⟩
    rw [hpj] at bj
    try rw [hpj]
    have yj : V4.heap.size ≤ pj := by omega
    clear sj
    refine ⟨inEx (N13).drew, ?_⟩
    repeat (refine tq_quiet rfl ?_; go_big_quiet_step (fail); refine wpQuiet_nil ?_)
    refine tq_loud rfl ?_
    go_wp2_with fail
    refine (sr_Tube t Ab Ad cb cd _ (hg.go ((N13).drew)) (by omega) (by omega)).mono ?_
    rintro e V46 ⟨⟨Ab1, Ad1, cb1, cd1, rfl, hg1⟩, hV46⟩
    replace bj := Blk.below (Blk.drew bj) hV46 bj.lt
    have N1 := ex_trans (N13).drew hV46
    go_wp2_with fail
    refine ⟨inEx N1, ?_⟩
    repeat (refine tq_quiet rfl ?_; go_big_quiet_step (fail); refine wpQuiet_nil ?_)
    refine tq_loud rfl ?_
    go_wp2_with fail
    refine (History_any _ _ h _ (by omega) (hh.go (N1))).mono ?_
    rintro e V47 ⟨⟨Ah1, ch1, rfl, -, -, hh1⟩, hV47⟩
    replace bj := Blk.below bj hV47 bj.lt
    have N3 := ex_trans N1 hV47
    go_wp2_with fail
    replace hg1 := hg1.go hV47
    refine ⟨inEx N3, ?_⟩
    repeat (refine tq_quiet rfl ?_; go_big_quiet_step (fail); refine wpQuiet_nil ?_)
    refine tq_loud rfl ?_
    go_wp2_with fail
    refine (Ices_any _ _ l _ (by omega) (hi.go (N3))).mono ?_
    rintro e V48 ⟨⟨Ai1, ci1, rfl, -, -, hi1⟩, hV48⟩
    replace bj := Blk.below bj hV48 bj.lt
    have N5 := ex_trans N3 hV48
    go_wp2_with fail
    replace hg1 := hg1.go hV48
    replace hh1 := hh1.go hV48
    refine ⟨inEx N5, ?_⟩
    repeat (refine tq_quiet rfl ?_; go_big_quiet_step (fail); refine wpQuiet_nil ?_)
    refine tq_loud rfl ?_
    go_wp2_with fail
    refine (sr_Reading r _).mono ?_
    rintro e V49 ⟨rfl, hV49⟩
    replace bj := Blk.below bj hV49 bj.lt
    have N7 := ex_trans N5 hV49
    go_wp2_with fail
    replace hg1 := hg1.go hV49
    replace hh1 := hh1.go hV49
    replace hi1 := hi1.go hV49
    refine ⟨inEx N7, ?_⟩
    repeat (refine tq_quiet rfl ?_; go_big_quiet_step (fail); refine wpQuiet_nil ?_)
    refine tq_loud rfl ?_
    go_wp2_with fail
    refine (Accept_v t Ab1 Ad1 cb1 cd1 Ah1 Ai1 ch1 ci1 h l r most _ hg1 hh1 hi1 (by omega)).mono ?_
    rintro e V50 ⟨⟨R2, ev2, rfl, hc2⟩, hV50⟩
    replace bj := Blk.below bj hV50 bj.lt
    have N9 := ex_trans N7 hV50
    go_wp2_with fail
    refine ⟨inEx N9, ?_⟩
    repeat (refine tq_quiet rfl ?_; go_big_quiet_step (fail); refine wpQuiet_nil ?_)
    refine tq_loud rfl ?_
    have XA14 := N9
    generalize V50 = V51 at *
    have sc0 : V51.cell? ⟨pj, 0, none⟩ = some (.int .i64 0) := bj.cell 0
    have sc1 : V51.cell? ⟨pj, 1, none⟩ = some (.int .i64 0) := bj.cell 1
    have sf := bj.frozen0
    have sl := bj.lt
    go_wp2_with fail
    replace bj := bj.set_ 0 (.int .i64 R2.lo)
    replace XA14 := ex_set (p := ⟨pj, 0, none⟩) XA14 yj (.int .i64 R2.lo)
    replace bj := bj.set_ 1 (.int .i64 R2.hi)
    replace XA14 := ex_set (p := ⟨pj, 1, none⟩) XA14 yj (.int .i64 R2.hi)
    simp only [List.setIfInBounds_toArray, List.set_cons_zero, List.set_cons_succ] at bj
    clear sf sl sc0 sc1
    generalize ((V51.setCell ⟨pj, 0, none⟩ (.int .i64 R2.lo)).setCell ⟨pj, 1, none⟩ (.int .i64 R2.hi)) = V52 at *
    refine ⟨inEx XA14, ?_⟩
    repeat (refine tq_quiet rfl ?_; go_big_quiet_step (fail); refine wpQuiet_nil ?_)
    refine tq_done (r := [_]) rfl ?_
    go_wp2_with fail
    exact hrest V52 pj R2 ev2 _ (XA14) yj bj hc2 (exFrame (by kernel_rfl))
  refine wp_region_ext_tq 14 (.quiet 0 (.quiet 2 (.quiet 4 (.quiet 6 (.fork 1 (.fork 3 (.fork 5 (.fork 7 (.fork 8 (.quiet 9 (.quiet 10 (.quiet 11 (.loud 12 (.loud 13 .done))))) 12 (.loud 8 (.quiet 9 (.quiet 10 (.quiet 11 (.loud 13 .done)))))) 12 (.loud 7 (.loud 8 (.quiet 9 (.quiet 10 (.quiet 11 (.loud 13 .done))))))) 12 (.loud 5 (.loud 7 (.loud 8 (.quiet 9 (.quiet 10 (.quiet 11 (.loud 13 .done)))))))) 12 (.loud 3 (.loud 5 (.loud 7 (.loud 8 (.quiet 9 (.quiet 10 (.quiet 11 (.loud 13 .done))))))))) 12 (.loud 1 (.loud 3 (.loud 5 (.loud 7 (.loud 8 (.quiet 9 (.quiet 10 (.quiet 11 (.loud 13 .done)))))))))))))) (by kernel_rfl) (by kernel_rfl) (by intro d _ _ _ _ h; cases d <;> exact h) ?_
  have D0 := (Below.refl V3.heap.size V3).drew
  repeat (refine tq_quiet rfl ?_; first | (refine wpQuiet_load_row rfl 29 _ rfl _ rfl 29 _ (0, 0) _ q1.ex Tryz.underlying29 rfl (by kernel_rfl) ?_; simp only [Act.put, List.setIfInBounds_toArray, List.set_cons_zero, List.set_cons_succ]; refine wpQuiet_nil ?_) | (refine wpQuiet_load_row rfl 33 _ rfl _ rfl 33 _ (0, 0) _ q2.ex Tryz.underlying33 rfl (by kernel_rfl) ?_; simp only [Act.put, List.setIfInBounds_toArray, List.set_cons_zero, List.set_cons_succ]; refine wpQuiet_nil ?_) | (go_big_quiet_step (fail); refine wpQuiet_nil ?_))
  refine tq_fork rfl rfl ?_ ?_
  ·
   go_wp2_with fail
   refine (sr_Tube t Ab Ad cb cd _ (hg.go (((Below.refl V3.heap.size V3)).drew)) (by omega) (by omega)).mono ?_
   rintro e V53 ⟨⟨Ab1, Ad1, cb1, cd1, rfl, hg1⟩, hV53⟩
   have N1 := ex_trans ((Below.refl V3.heap.size V3)).drew hV53
   go_wp2_with fail
   refine ⟨inEx N1, ?_⟩
   repeat (refine tq_quiet rfl ?_; go_big_quiet_step (fail); refine wpQuiet_nil ?_)
   refine tq_fork rfl rfl ?_ ?_
   ·
    go_wp2_with fail
    refine (History_any _ _ h _ (by omega) (hh.go (N1))).mono ?_
    rintro e V54 ⟨⟨Ah1, ch1, rfl, -, -, hh1⟩, hV54⟩
    have N3 := ex_trans N1 hV54
    go_wp2_with fail
    replace hg1 := hg1.go hV54
    refine ⟨inEx N3, ?_⟩
    repeat (refine tq_quiet rfl ?_; go_big_quiet_step (fail); refine wpQuiet_nil ?_)
    refine tq_fork rfl rfl ?_ ?_
    ·
     go_wp2_with fail
     refine (Ices_any _ _ l _ (by omega) (hi.go (N3))).mono ?_
     rintro e V55 ⟨⟨Ai1, ci1, rfl, -, -, hi1⟩, hV55⟩
     have N5 := ex_trans N3 hV55
     go_wp2_with fail
     replace hg1 := hg1.go hV55
     replace hh1 := hh1.go hV55
     refine ⟨inEx N5, ?_⟩
     repeat (refine tq_quiet rfl ?_; go_big_quiet_step (fail); refine wpQuiet_nil ?_)
     refine tq_fork rfl rfl ?_ ?_
     ·
      go_wp2_with fail
      refine (sr_Reading r _).mono ?_
      rintro e V56 ⟨rfl, hV56⟩
      have N7 := ex_trans N5 hV56
      go_wp2_with fail
      replace hg1 := hg1.go hV56
      replace hh1 := hh1.go hV56
      replace hi1 := hi1.go hV56
      refine ⟨inEx N7, ?_⟩
      repeat (refine tq_quiet rfl ?_; go_big_quiet_step (fail); refine wpQuiet_nil ?_)
      refine tq_fork rfl rfl ?_ ?_
      ·
       go_wp2_with fail
       refine (Correct_v t Ab1 Ad1 cb1 cd1 Ah1 Ai1 ch1 ci1 h l r _ hg1 hh1 hi1 (by omega)).mono ?_
       rintro e V57 ⟨⟨R1, ev1, rfl, hc1⟩, hV57⟩
       have N8 := ex_trans N7 hV57
       go_wp2_with fail
       refine ⟨inEx N8, ?_⟩
       repeat (refine tq_quiet rfl ?_; go_big_quiet_step (fail); refine wpQuiet_nil ?_)
       refine tq_loud rfl ?_
       go_wp2_with fail
       have si := (N8).size
       try simp at si
       have N12 := ex_alloc N8 (.cells #[.int .i64 0, .int .i64 0] 41)
       have bi : Blk (V57.alloc (.cells #[.int .i64 0, .int .i64 0] 41)) (V57.heap.size) 41 #[.int .i64 0, .int .i64 0] := Blk.new' _ _ _ (by first | rfl | (simp; done) | (simp; omega))
       obtain ⟨pi, hpi⟩ : ∃ p, V57.heap.size = p := ⟨_, rfl⟩
       rw [hpi] at bi
       try rw [hpi]
       have yi : V3.heap.size ≤ pi := by omega
       clear si
       refine ⟨inEx N12, ?_⟩
       repeat (refine tq_quiet rfl ?_; go_big_quiet_step (fail); refine wpQuiet_nil ?_)
       refine tq_loud rfl ?_
       have XA13 := N12
       generalize (V57.alloc (.cells #[.int .i64 0, .int .i64 0] 41)) = V58 at *
       have sc0 : V58.cell? ⟨pi, 0, none⟩ = some (.int .i64 0) := bi.cell 0
       have sc1 : V58.cell? ⟨pi, 1, none⟩ = some (.int .i64 0) := bi.cell 1
       have sf := bi.frozen0
       have sl := bi.lt
       go_wp2_with fail
       replace bi := bi.set_ 0 (.int .i64 R1.lo)
       replace XA13 := ex_set (p := ⟨pi, 0, none⟩) XA13 yi (.int .i64 R1.lo)
       replace bi := bi.set_ 1 (.int .i64 R1.hi)
       replace XA13 := ex_set (p := ⟨pi, 1, none⟩) XA13 yi (.int .i64 R1.hi)
       simp only [List.setIfInBounds_toArray, List.set_cons_zero, List.set_cons_succ] at bi
       clear sf sl sc0 sc1
       generalize ((V58.setCell ⟨pi, 0, none⟩ (.int .i64 R1.lo)).setCell ⟨pi, 1, none⟩ (.int .i64 R1.hi)) = V59 at *
       refine ⟨inEx XA13, ?_⟩
       repeat (refine tq_quiet rfl ?_; go_big_quiet_step (fail); refine wpQuiet_nil ?_)
       refine tq_done (r := [_]) rfl ?_
       go_wp2_with fail
       exact hrest V59 pi R1 ev1 _ (XA13) yi bi hc1 (exFrame (by kernel_rfl))
      ·
       go_wp2_with fail
       have si := (N7).size
       try simp at si
       have N12 := ex_alloc N7 (.cells #[.int .i64 0, .int .i64 0] 41)
       have bi : Blk (V56.alloc (.cells #[.int .i64 0, .int .i64 0] 41)) (V56.heap.size) 41 #[.int .i64 0, .int .i64 0] := Blk.new' _ _ _ (by first | rfl | (simp; done) | (simp; omega))
       replace hg1 := hg1.go (ex_alloc (Below.refl V56.heap.size V56) (.cells #[.int .i64 0, .int .i64 0] 41))
       replace hh1 := hh1.go (ex_alloc (Below.refl V56.heap.size V56) (.cells #[.int .i64 0, .int .i64 0] 41))
       replace hi1 := hi1.go (ex_alloc (Below.refl V56.heap.size V56) (.cells #[.int .i64 0, .int .i64 0] 41))
       obtain ⟨pi, hpi⟩ : ∃ p, V56.heap.size = p := ⟨_, rfl⟩
       rw [hpi] at bi
       try rw [hpi]
       have yi : V3.heap.size ≤ pi := by omega
       clear si
       refine ⟨inEx N12, ?_⟩
       repeat (refine tq_quiet rfl ?_; go_big_quiet_step (fail); refine wpQuiet_nil ?_)
       refine tq_loud rfl ?_
       go_wp2_with fail
       refine (Correct_v t Ab1 Ad1 cb1 cd1 Ah1 Ai1 ch1 ci1 h l r _ hg1 hh1 hi1 (by omega)).mono ?_
       rintro e V60 ⟨⟨R1, ev1, rfl, hc1⟩, hV60⟩
       replace bi := Blk.below bi hV60 bi.lt
       have N8 := ex_trans N12 hV60
       go_wp2_with fail
       refine ⟨inEx N8, ?_⟩
       repeat (refine tq_quiet rfl ?_; go_big_quiet_step (fail); refine wpQuiet_nil ?_)
       refine tq_loud rfl ?_
       have XA13 := N8
       generalize V60 = V61 at *
       have sc0 : V61.cell? ⟨pi, 0, none⟩ = some (.int .i64 0) := bi.cell 0
       have sc1 : V61.cell? ⟨pi, 1, none⟩ = some (.int .i64 0) := bi.cell 1
       have sf := bi.frozen0
       have sl := bi.lt
       go_wp2_with fail
       replace bi := bi.set_ 0 (.int .i64 R1.lo)
       replace XA13 := ex_set (p := ⟨pi, 0, none⟩) XA13 yi (.int .i64 R1.lo)
       replace bi := bi.set_ 1 (.int .i64 R1.hi)
       replace XA13 := ex_set (p := ⟨pi, 1, none⟩) XA13 yi (.int .i64 R1.hi)
       simp only [List.setIfInBounds_toArray, List.set_cons_zero, List.set_cons_succ] at bi
       clear sf sl sc0 sc1
       generalize ((V61.setCell ⟨pi, 0, none⟩ (.int .i64 R1.lo)).setCell ⟨pi, 1, none⟩ (.int .i64 R1.hi)) = V62 at *
       refine ⟨inEx XA13, ?_⟩
       repeat (refine tq_quiet rfl ?_; go_big_quiet_step (fail); refine wpQuiet_nil ?_)
       refine tq_done (r := [_]) rfl ?_
       go_wp2_with fail
       exact hrest V62 pi R1 ev1 _ (XA13) yi bi hc1 (exFrame (by kernel_rfl))
     ·
      go_wp2_with fail
      have si := (N5).size
      try simp at si
      have N12 := ex_alloc N5 (.cells #[.int .i64 0, .int .i64 0] 41)
      have bi : Blk (V55.alloc (.cells #[.int .i64 0, .int .i64 0] 41)) (V55.heap.size) 41 #[.int .i64 0, .int .i64 0] := Blk.new' _ _ _ (by first | rfl | (simp; done) | (simp; omega))
      replace hg1 := hg1.go (ex_alloc (Below.refl V55.heap.size V55) (.cells #[.int .i64 0, .int .i64 0] 41))
      replace hh1 := hh1.go (ex_alloc (Below.refl V55.heap.size V55) (.cells #[.int .i64 0, .int .i64 0] 41))
      replace hi1 := hi1.go (ex_alloc (Below.refl V55.heap.size V55) (.cells #[.int .i64 0, .int .i64 0] 41))
      obtain ⟨pi, hpi⟩ : ∃ p, V55.heap.size = p := ⟨_, rfl⟩
      rw [hpi] at bi
      try rw [hpi]
      have yi : V3.heap.size ≤ pi := by omega
      clear si
      refine ⟨inEx N12, ?_⟩
      repeat (refine tq_quiet rfl ?_; go_big_quiet_step (fail); refine wpQuiet_nil ?_)
      refine tq_loud rfl ?_
      go_wp2_with fail
      refine (sr_Reading r _).mono ?_
      rintro e V63 ⟨rfl, hV63⟩
      replace bi := Blk.below bi hV63 bi.lt
      have N7 := ex_trans N12 hV63
      go_wp2_with fail
      replace hg1 := hg1.go hV63
      replace hh1 := hh1.go hV63
      replace hi1 := hi1.go hV63
      refine ⟨inEx N7, ?_⟩
      repeat (refine tq_quiet rfl ?_; go_big_quiet_step (fail); refine wpQuiet_nil ?_)
      refine tq_loud rfl ?_
      go_wp2_with fail
      refine (Correct_v t Ab1 Ad1 cb1 cd1 Ah1 Ai1 ch1 ci1 h l r _ hg1 hh1 hi1 (by omega)).mono ?_
      rintro e V64 ⟨⟨R1, ev1, rfl, hc1⟩, hV64⟩
      replace bi := Blk.below bi hV64 bi.lt
      have N8 := ex_trans N7 hV64
      go_wp2_with fail
      refine ⟨inEx N8, ?_⟩
      repeat (refine tq_quiet rfl ?_; go_big_quiet_step (fail); refine wpQuiet_nil ?_)
      refine tq_loud rfl ?_
      have XA13 := N8
      generalize V64 = V65 at *
      have sc0 : V65.cell? ⟨pi, 0, none⟩ = some (.int .i64 0) := bi.cell 0
      have sc1 : V65.cell? ⟨pi, 1, none⟩ = some (.int .i64 0) := bi.cell 1
      have sf := bi.frozen0
      have sl := bi.lt
      go_wp2_with fail
      replace bi := bi.set_ 0 (.int .i64 R1.lo)
      replace XA13 := ex_set (p := ⟨pi, 0, none⟩) XA13 yi (.int .i64 R1.lo)
      replace bi := bi.set_ 1 (.int .i64 R1.hi)
      replace XA13 := ex_set (p := ⟨pi, 1, none⟩) XA13 yi (.int .i64 R1.hi)
      simp only [List.setIfInBounds_toArray, List.set_cons_zero, List.set_cons_succ] at bi
      clear sf sl sc0 sc1
      generalize ((V65.setCell ⟨pi, 0, none⟩ (.int .i64 R1.lo)).setCell ⟨pi, 1, none⟩ (.int .i64 R1.hi)) = V66 at *
      refine ⟨inEx XA13, ?_⟩
      repeat (refine tq_quiet rfl ?_; go_big_quiet_step (fail); refine wpQuiet_nil ?_)
      refine tq_done (r := [_]) rfl ?_
      go_wp2_with fail
      exact hrest V66 pi R1 ev1 _ (XA13) yi bi hc1 (exFrame (by kernel_rfl))
    ·
     go_wp2_with fail
     have si := (N3).size
     try simp at si
     have N12 := ex_alloc N3 (.cells #[.int .i64 0, .int .i64 0] 41)
     have bi : Blk (V54.alloc (.cells #[.int .i64 0, .int .i64 0] 41)) (V54.heap.size) 41 #[.int .i64 0, .int .i64 0] := Blk.new' _ _ _ (by first | rfl | (simp; done) | (simp; omega))
     replace hg1 := hg1.go (ex_alloc (Below.refl V54.heap.size V54) (.cells #[.int .i64 0, .int .i64 0] 41))
     replace hh1 := hh1.go (ex_alloc (Below.refl V54.heap.size V54) (.cells #[.int .i64 0, .int .i64 0] 41))
     obtain ⟨pi, hpi⟩ : ∃ p, V54.heap.size = p := ⟨_, rfl⟩
     rw [hpi] at bi
     try rw [hpi]
     have yi : V3.heap.size ≤ pi := by omega
     clear si
     refine ⟨inEx N12, ?_⟩
     repeat (refine tq_quiet rfl ?_; go_big_quiet_step (fail); refine wpQuiet_nil ?_)
     refine tq_loud rfl ?_
     go_wp2_with fail
     refine (Ices_any _ _ l _ (by omega) (hi.go (N12))).mono ?_
     rintro e V67 ⟨⟨Ai1, ci1, rfl, -, -, hi1⟩, hV67⟩
     replace bi := Blk.below bi hV67 bi.lt
     have N5 := ex_trans N12 hV67
     go_wp2_with fail
     replace hg1 := hg1.go hV67
     replace hh1 := hh1.go hV67
     refine ⟨inEx N5, ?_⟩
     repeat (refine tq_quiet rfl ?_; go_big_quiet_step (fail); refine wpQuiet_nil ?_)
     refine tq_loud rfl ?_
     go_wp2_with fail
     refine (sr_Reading r _).mono ?_
     rintro e V68 ⟨rfl, hV68⟩
     replace bi := Blk.below bi hV68 bi.lt
     have N7 := ex_trans N5 hV68
     go_wp2_with fail
     replace hg1 := hg1.go hV68
     replace hh1 := hh1.go hV68
     replace hi1 := hi1.go hV68
     refine ⟨inEx N7, ?_⟩
     repeat (refine tq_quiet rfl ?_; go_big_quiet_step (fail); refine wpQuiet_nil ?_)
     refine tq_loud rfl ?_
     go_wp2_with fail
     refine (Correct_v t Ab1 Ad1 cb1 cd1 Ah1 Ai1 ch1 ci1 h l r _ hg1 hh1 hi1 (by omega)).mono ?_
     rintro e V69 ⟨⟨R1, ev1, rfl, hc1⟩, hV69⟩
     replace bi := Blk.below bi hV69 bi.lt
     have N8 := ex_trans N7 hV69
     go_wp2_with fail
     refine ⟨inEx N8, ?_⟩
     repeat (refine tq_quiet rfl ?_; go_big_quiet_step (fail); refine wpQuiet_nil ?_)
     refine tq_loud rfl ?_
     have XA13 := N8
     generalize V69 = V70 at *
     have sc0 : V70.cell? ⟨pi, 0, none⟩ = some (.int .i64 0) := bi.cell 0
     have sc1 : V70.cell? ⟨pi, 1, none⟩ = some (.int .i64 0) := bi.cell 1
     have sf := bi.frozen0
     have sl := bi.lt
     go_wp2_with fail
     replace bi := bi.set_ 0 (.int .i64 R1.lo)
     replace XA13 := ex_set (p := ⟨pi, 0, none⟩) XA13 yi (.int .i64 R1.lo)
     replace bi := bi.set_ 1 (.int .i64 R1.hi)
     replace XA13 := ex_set (p := ⟨pi, 1, none⟩) XA13 yi (.int .i64 R1.hi)
     simp only [List.setIfInBounds_toArray, List.set_cons_zero, List.set_cons_succ] at bi
     clear sf sl sc0 sc1
     generalize ((V70.setCell ⟨pi, 0, none⟩ (.int .i64 R1.lo)).setCell ⟨pi, 1, none⟩ (.int .i64 R1.hi)) = V71 at *
     refine ⟨inEx XA13, ?_⟩
     repeat (refine tq_quiet rfl ?_; go_big_quiet_step (fail); refine wpQuiet_nil ?_)
     refine tq_done (r := [_]) rfl ?_
     go_wp2_with fail
     exact hrest V71 pi R1 ev1 _ (XA13) yi bi hc1 (exFrame (by kernel_rfl))
   ·
    go_wp2_with fail
    have si := (N1).size
    try simp at si
    have N12 := ex_alloc N1 (.cells #[.int .i64 0, .int .i64 0] 41)
    have bi : Blk (V53.alloc (.cells #[.int .i64 0, .int .i64 0] 41)) (V53.heap.size) 41 #[.int .i64 0, .int .i64 0] := Blk.new' _ _ _ (by first | rfl | (simp; done) | (simp; omega))
    replace hg1 := hg1.go (ex_alloc (Below.refl V53.heap.size V53) (.cells #[.int .i64 0, .int .i64 0] 41))
    obtain ⟨pi, hpi⟩ : ∃ p, V53.heap.size = p := ⟨_, rfl⟩
    rw [hpi] at bi
    try rw [hpi]
    have yi : V3.heap.size ≤ pi := by omega
    clear si
    refine ⟨inEx N12, ?_⟩
    repeat (refine tq_quiet rfl ?_; go_big_quiet_step (fail); refine wpQuiet_nil ?_)
    refine tq_loud rfl ?_
    go_wp2_with fail
    refine (History_any _ _ h _ (by omega) (hh.go (N12))).mono ?_
    rintro e V72 ⟨⟨Ah1, ch1, rfl, -, -, hh1⟩, hV72⟩
    replace bi := Blk.below bi hV72 bi.lt
    have N3 := ex_trans N12 hV72
    go_wp2_with fail
    replace hg1 := hg1.go hV72
    refine ⟨inEx N3, ?_⟩
    repeat (refine tq_quiet rfl ?_; go_big_quiet_step (fail); refine wpQuiet_nil ?_)
    refine tq_loud rfl ?_
    go_wp2_with fail
    refine (Ices_any _ _ l _ (by omega) (hi.go (N3))).mono ?_
    rintro e V73 ⟨⟨Ai1, ci1, rfl, -, -, hi1⟩, hV73⟩
    replace bi := Blk.below bi hV73 bi.lt
    have N5 := ex_trans N3 hV73
    go_wp2_with fail
    replace hg1 := hg1.go hV73
    replace hh1 := hh1.go hV73
    refine ⟨inEx N5, ?_⟩
    repeat (refine tq_quiet rfl ?_; go_big_quiet_step (fail); refine wpQuiet_nil ?_)
    refine tq_loud rfl ?_
    go_wp2_with fail
    refine (sr_Reading r _).mono ?_
    rintro e V74 ⟨rfl, hV74⟩
    replace bi := Blk.below bi hV74 bi.lt
    have N7 := ex_trans N5 hV74
    go_wp2_with fail
    replace hg1 := hg1.go hV74
    replace hh1 := hh1.go hV74
    replace hi1 := hi1.go hV74
    refine ⟨inEx N7, ?_⟩
    repeat (refine tq_quiet rfl ?_; go_big_quiet_step (fail); refine wpQuiet_nil ?_)
    refine tq_loud rfl ?_
    go_wp2_with fail
    refine (Correct_v t Ab1 Ad1 cb1 cd1 Ah1 Ai1 ch1 ci1 h l r _ hg1 hh1 hi1 (by omega)).mono ?_
    rintro e V75 ⟨⟨R1, ev1, rfl, hc1⟩, hV75⟩
    replace bi := Blk.below bi hV75 bi.lt
    have N8 := ex_trans N7 hV75
    go_wp2_with fail
    refine ⟨inEx N8, ?_⟩
    repeat (refine tq_quiet rfl ?_; go_big_quiet_step (fail); refine wpQuiet_nil ?_)
    refine tq_loud rfl ?_
    have XA13 := N8
    generalize V75 = V76 at *
    have sc0 : V76.cell? ⟨pi, 0, none⟩ = some (.int .i64 0) := bi.cell 0
    have sc1 : V76.cell? ⟨pi, 1, none⟩ = some (.int .i64 0) := bi.cell 1
    have sf := bi.frozen0
    have sl := bi.lt
    go_wp2_with fail
    replace bi := bi.set_ 0 (.int .i64 R1.lo)
    replace XA13 := ex_set (p := ⟨pi, 0, none⟩) XA13 yi (.int .i64 R1.lo)
    replace bi := bi.set_ 1 (.int .i64 R1.hi)
    replace XA13 := ex_set (p := ⟨pi, 1, none⟩) XA13 yi (.int .i64 R1.hi)
    simp only [List.setIfInBounds_toArray, List.set_cons_zero, List.set_cons_succ] at bi
    clear sf sl sc0 sc1
    generalize ((V76.setCell ⟨pi, 0, none⟩ (.int .i64 R1.lo)).setCell ⟨pi, 1, none⟩ (.int .i64 R1.hi)) = V77 at *
    refine ⟨inEx XA13, ?_⟩
    repeat (refine tq_quiet rfl ?_; go_big_quiet_step (fail); refine wpQuiet_nil ?_)
    refine tq_done (r := [_]) rfl ?_
    go_wp2_with fail
    exact hrest V77 pi R1 ev1 _ (XA13) yi bi hc1 (exFrame (by kernel_rfl))
  ·
   go_wp2_with fail
   have si := ((Below.refl V3.heap.size V3)).size
   try simp at si
   have N12 := ex_alloc (Below.refl V3.heap.size V3) (.cells #[.int .i64 0, .int .i64 0] 41)
   have bi : Blk (V3.alloc (.cells #[.int .i64 0, .int .i64 0] 41)) (V3.heap.size) 41 #[.int .i64 0, .int .i64 0] := Blk.new' _ _ _ (by first | rfl | (simp; done) | (simp; omega))
   obtain ⟨pi, hpi⟩ : ∃ p, V3.heap.size = p := ⟨_, rfl⟩
   rw [hpi] at bi
   try rw [hpi]
   have yi : V3.heap.size ≤ pi := by omega
   clear si
   refine ⟨inEx (N12).drew, ?_⟩
   repeat (refine tq_quiet rfl ?_; go_big_quiet_step (fail); refine wpQuiet_nil ?_)
   refine tq_loud rfl ?_
   go_wp2_with fail
   refine (sr_Tube t Ab Ad cb cd _ (hg.go ((N12).drew)) (by omega) (by omega)).mono ?_
   rintro e V78 ⟨⟨Ab1, Ad1, cb1, cd1, rfl, hg1⟩, hV78⟩
   replace bi := Blk.below (Blk.drew bi) hV78 bi.lt
   have N1 := ex_trans (N12).drew hV78
   go_wp2_with fail
   refine ⟨inEx N1, ?_⟩
   repeat (refine tq_quiet rfl ?_; go_big_quiet_step (fail); refine wpQuiet_nil ?_)
   refine tq_loud rfl ?_
   go_wp2_with fail
   refine (History_any _ _ h _ (by omega) (hh.go (N1))).mono ?_
   rintro e V79 ⟨⟨Ah1, ch1, rfl, -, -, hh1⟩, hV79⟩
   replace bi := Blk.below bi hV79 bi.lt
   have N3 := ex_trans N1 hV79
   go_wp2_with fail
   replace hg1 := hg1.go hV79
   refine ⟨inEx N3, ?_⟩
   repeat (refine tq_quiet rfl ?_; go_big_quiet_step (fail); refine wpQuiet_nil ?_)
   refine tq_loud rfl ?_
   go_wp2_with fail
   refine (Ices_any _ _ l _ (by omega) (hi.go (N3))).mono ?_
   rintro e V80 ⟨⟨Ai1, ci1, rfl, -, -, hi1⟩, hV80⟩
   replace bi := Blk.below bi hV80 bi.lt
   have N5 := ex_trans N3 hV80
   go_wp2_with fail
   replace hg1 := hg1.go hV80
   replace hh1 := hh1.go hV80
   refine ⟨inEx N5, ?_⟩
   repeat (refine tq_quiet rfl ?_; go_big_quiet_step (fail); refine wpQuiet_nil ?_)
   refine tq_loud rfl ?_
   go_wp2_with fail
   refine (sr_Reading r _).mono ?_
   rintro e V81 ⟨rfl, hV81⟩
   replace bi := Blk.below bi hV81 bi.lt
   have N7 := ex_trans N5 hV81
   go_wp2_with fail
   replace hg1 := hg1.go hV81
   replace hh1 := hh1.go hV81
   replace hi1 := hi1.go hV81
   refine ⟨inEx N7, ?_⟩
   repeat (refine tq_quiet rfl ?_; go_big_quiet_step (fail); refine wpQuiet_nil ?_)
   refine tq_loud rfl ?_
   go_wp2_with fail
   refine (Correct_v t Ab1 Ad1 cb1 cd1 Ah1 Ai1 ch1 ci1 h l r _ hg1 hh1 hi1 (by omega)).mono ?_
   rintro e V82 ⟨⟨R1, ev1, rfl, hc1⟩, hV82⟩
   replace bi := Blk.below bi hV82 bi.lt
   have N8 := ex_trans N7 hV82
   go_wp2_with fail
   refine ⟨inEx N8, ?_⟩
   repeat (refine tq_quiet rfl ?_; go_big_quiet_step (fail); refine wpQuiet_nil ?_)
   refine tq_loud rfl ?_
   have XA13 := N8
   generalize V82 = V83 at *
   have sc0 : V83.cell? ⟨pi, 0, none⟩ = some (.int .i64 0) := bi.cell 0
   have sc1 : V83.cell? ⟨pi, 1, none⟩ = some (.int .i64 0) := bi.cell 1
   have sf := bi.frozen0
   have sl := bi.lt
   go_wp2_with fail
   replace bi := bi.set_ 0 (.int .i64 R1.lo)
   replace XA13 := ex_set (p := ⟨pi, 0, none⟩) XA13 yi (.int .i64 R1.lo)
   replace bi := bi.set_ 1 (.int .i64 R1.hi)
   replace XA13 := ex_set (p := ⟨pi, 1, none⟩) XA13 yi (.int .i64 R1.hi)
   simp only [List.setIfInBounds_toArray, List.set_cons_zero, List.set_cons_succ] at bi
   clear sf sl sc0 sc1
   generalize ((V83.setCell ⟨pi, 0, none⟩ (.int .i64 R1.lo)).setCell ⟨pi, 1, none⟩ (.int .i64 R1.hi)) = V84 at *
   refine ⟨inEx XA13, ?_⟩
   repeat (refine tq_quiet rfl ?_; go_big_quiet_step (fail); refine wpQuiet_nil ?_)
   refine tq_done (r := [_]) rfl ?_
   go_wp2_with fail
   exact hrest V84 pi R1 ev1 _ (XA13) yi bi hc1 (exFrame (by kernel_rfl))


end Go.Proofs.YtkaogjhnogkcdaaGreat
end

/- Stem's reference and law: the rest of what has no loop but one (walks). · Stem: readings of arguments: tubes, readings, lists of readings. · Stem's reference: wide, Play, IsTruth (walks). · Stem's reference: Bare (walk). · Stem's reference: Without (walk). · Stem's reference: Stale, Refused, Correct (walks). -/
import Derived.Test.YtkaogjhnogkcdaaGreatF20
import Derived.Test.YtkaogjhnogkcdaaGreatF19
import Derived.Test.YtkaogjhnogkcdaaGreatF18
import Derived.Test.YtkaogjhnogkcdaaGreatF14
import Derived.Test.YtkaogjhnogkcdaaGreatF13
import Derived.Test.YtkaogjhnogkcdaaGreatF22
import Derived.Test.YtkaogjhnogkcdaaGreatF15
import Derived.Test.YtkaogjhnogkcdaaGreatF10
import Derived.Test.YtkaogjhnogkcdaaGreatF17
import Derived.Test.YtkaogjhnogkcdaaGreatF16
import Derived.Test.YtkaogjhnogkcdaaGreatF23
set_option linter.unusedVariables false
set_option linter.unusedSimpArgs false
set_option linter.unusedSectionVars false
section
namespace Go.Proofs.YtkaogjhnogkcdaaGreat
open Go.RowKit
attribute [local go_sem] Ex.cell? Ex.frozen?

set_option maxRecDepth 100000 in
set_option maxHeartbeats 800000 in
theorem sr_down (n : Int) (w : World) (hn : -1000000000 ≤ n ∧ n ≤ 1000000000) :
  Calls Tryz.prog 119 #[.int .i64 n, .int .i64 100000] w fun e w' => e = .returned (.int .i64 (n / 100000)) ∧ w = w' := by
 obtain ⟨d1, d2⟩ := down_eq (n := n)
 by_cases h : n.tmod 100000 < 0
 ·
  have HR := Lib.hid (d1 h)
  have h' : decide (n.tmod 100000 < 0) = true := decide_eq_true h
  have hq : -10001 ≤ n.tdiv 100000 ∧ n.tdiv 100000 ≤ 10001 := by have := HR.out; omega
  clear d1 d2 h
  go_enter Tryz.func119, Tryz.ntmps119
  go_wp2
  go_ret
  exact ⟨ret_int HR.out, rfl⟩
 ·
  have HR := Lib.hid (d2 h)
  have h' : decide (n.tmod 100000 < 0) = false := decide_eq_false h
  clear d1 d2 h
  go_enter Tryz.func119, Tryz.ntmps119
  go_wp2
  go_ret
  exact ⟨ret_int HR.out, rfl⟩
set_option maxRecDepth 100000 in
set_option maxHeartbeats 1600000 in
theorem sr_stem (r : Rd) (k air : Int) (w : World) (hr : RdBd r) (hk : 0 ≤ k ∧ k ≤ 20) (ha : -100 ≤ air ∧ air ≤ 100) :
  Calls Tryz.prog 89 #[.agg #[.int .i64 r.day, .int .i64 r.shown, .int .i64 r.err, .int .i64 r.bare, .int .i64 r.air.lo, .int .i64 r.air.hi, .int .i64 r.rate.lo, .int .i64 r.rate.hi, .int .i64 r.deep, .bool r.broken], .int .i64 k, .int .i64 air] w fun e w' => e = .returned (.int .i64 (stemP r k air)) ∧ Below w.heap.size w w' := by
 obtain ⟨b1, b2, _⟩ := stem_bd hr hk ha
 have b3 := hr.shown
 go_enter Tryz.func89, Tryz.ntmps89
 go_upto_region 1 with fail
 show Code.wp _ _ _ _ _
 refine box1 (K := fun V => Code.wp _ _ _ _ V) ?_
 intro V hb1 q1
 obtain ⟨pq1, hpq1⟩ : ∃ p, w.heap.size = p := ⟨_, rfl⟩
 rw [hpq1] at q1 ⊢
 have hp1 : w.heap.size ≤ pq1 := by omega
 clear hpq1
 have a0 : V.cell? ⟨pq1, 0, none⟩ = some (.int .i64 r.day) := q1.cell 0
 have a1 : V.cell? ⟨pq1, 1, none⟩ = some (.int .i64 r.shown) := q1.cell 1
 have a2 : V.cell? ⟨pq1, 2, none⟩ = some (.int .i64 r.err) := q1.cell 2
 have a3 : V.cell? ⟨pq1, 3, none⟩ = some (.int .i64 r.bare) := q1.cell 3
 have a4 : V.cell? ⟨pq1, 4, none⟩ = some (.int .i64 r.air.lo) := q1.cell 4
 have a5 : V.cell? ⟨pq1, 5, none⟩ = some (.int .i64 r.air.hi) := q1.cell 5
 have a6 : V.cell? ⟨pq1, 6, none⟩ = some (.int .i64 r.rate.lo) := q1.cell 6
 have a7 : V.cell? ⟨pq1, 7, none⟩ = some (.int .i64 r.rate.hi) := q1.cell 7
 have a8 : V.cell? ⟨pq1, 8, none⟩ = some (.int .i64 r.deep) := q1.cell 8
 have a9 : V.cell? ⟨pq1, 9, none⟩ = some (.bool r.broken) := q1.cell 9
 have la := q1.lt
 go_wp2_with fail
 refine (sr_down _ _ (by omega)).mono ?_
 rintro e w' ⟨rfl, rfl⟩
 go_wp2
 go_ret
 exact ⟨rfl, hb1⟩

def lifeF (h : List Rg) (l : List Ic) : Int := if hisF h ≠ 0 then hisF h else icsF h.length l
theorem use_life {t : Tb} {h : List Rg} {l : List Ic} : useE t h l = if ckTube t ≠ 0 then ckTube t else lifeF h l := by
 by_cases hc : ckTube t = 0
 ·
  rw [if_neg (by simp [hc]), useE_2 hc, iced_eq', lived_eq]
  have e : ckGlass t.g = 0 := ck_glass hc
  rw [if_neg (by simp [e] : ¬ ckGlass t.g ≠ 0)]
  rfl
 ·
  rw [if_pos hc, useE_1 hc]
set_option maxRecDepth 100000 in
set_option maxHeartbeats 1600000 in
theorem sr_life (Ah Ai : Option Addr) (ch ci : Nat) (h : List Rg) (l : List Ic) (w : World) (hh : SlAt w w.heap.size 2 Ah h.length (fR h)) (hi : SlAt w w.heap.size 3 Ai l.length (fC l)) (hhl : h.length ≤ 1000000) :
  Calls Tryz.prog 72 #[.slice Ah h.length ch, .slice Ai l.length ci] w fun e w' => e = .returned (.int .i64 (lifeF h l)) ∧ Below w.heap.size w w' := by
 by_cases hc : hisF h = 0
 ·
  have HR : Hid (lifeF h l = icsF h.length l) := Lib.hid (if_neg (by simp [hc]))
  have HC := Lib.hid hc
  clear hc
  go_enter Tryz.func72, Tryz.ntmps72
  go_wp2_with fail
  refine (HistoryFault_any Ah ch h _ hh).mono ?_
  rintro e V1 ⟨rfl, hV1⟩
  replace hi := (hi.below hV1).up hV1.size
  have B_V1 := ex_trans (Below.refl w.heap.size w) hV1
  rw [HC.out]
  go_wp2_with fail
  refine (IcesFault_any Ah Ai ch ci h.length l _ hhl hi).mono ?_
  rintro e V2 ⟨rfl, hV2⟩
  replace hi := (hi.below hV2).up hV2.size
  have B_V2 := ex_trans B_V1 hV2
  go_wp2
  go_ret
  exact ⟨ret_int HR.out.symm, B_V2⟩
 ·
  have HR : Hid (lifeF h l = hisF h) := Lib.hid (if_pos hc)
  have e1 : (hisF h != 0) = true := by simp [hc]
  clear hc
  go_enter Tryz.func72, Tryz.ntmps72
  go_wp2_with fail
  refine (HistoryFault_any Ah ch h _ hh).mono ?_
  rintro e V3 ⟨rfl, hV3⟩
  replace hi := (hi.below hV3).up hV3.size
  have B_V3 := ex_trans (Below.refl w.heap.size w) hV3
  go_wp2
  go_ret
  exact ⟨ret_int HR.out.symm, B_V3⟩

set_option maxRecDepth 100000 in
set_option maxHeartbeats 1600000 in
theorem sr_faultL (t : Tb) (Ab Ad : Option Addr) (cb cd : Nat) (w : World) (hg : GlIn w w.heap.size t.g Ab Ad) :
  Calls Tryz.prog 51 #[.agg #[.int .i64 t.g.base, .slice Ab t.g.bands.length cb, .slice Ad t.g.depths.length cd, .int .i64 t.g.blo, .int .i64 t.g.bhi, .int .i64 t.k.lo, .int .i64 t.k.hi, .int .i64 t.lag.lo, .int .i64 t.lag.hi, .int .i64 t.sq.lo, .int .i64 t.sq.hi, .int .i64 t.term]] w fun e w' => e = .returned (.int .i64 (ckTube t)) ∧ Below w.heap.size w w' := by
 go_enter Tryz.func51, Tryz.ntmps51
 go_upto_region 1 with fail
 show Code.wp _ _ _ _ _
 refine box1 (K := fun V => Code.wp _ _ _ _ V) ?_
 intro V hb1 q1
 replace hg := hg.go hb1
 obtain ⟨pq1, hpq1⟩ : ∃ p, w.heap.size = p := ⟨_, rfl⟩
 rw [hpq1] at q1 ⊢
 have hp1 : w.heap.size ≤ pq1 := by omega
 clear hpq1
 go_wp2_with (refine pause_at 3 rfl ?_)
 refine Paused.mk ?_
 refine wpList_load_row rfl 29 _ rfl _ rfl 29 _ (0, 0) _ (q1) Tryz.underlying29 rfl (by kernel_rfl) ?_
 go_wp2_with fail
 refine (sr_fault t Ab Ad cb cd _ hg).mono ?_
 rintro e V1 ⟨rfl, hV1⟩
 replace q1 := q1.below hV1 q1.lt
 replace hg := hg.go hV1
 have B_V1 := ex_trans hb1 hV1
 go_wp2
 go_ret
 exact ⟨rfl, B_V1⟩

set_option maxRecDepth 100000 in
set_option maxHeartbeats 1600000 in
theorem sr_lived (t : Tb) (Ab Ad : Option Addr) (cb cd : Nat) (Ah Ai : Option Addr) (ch ci : Nat) (h : List Rg) (l : List Ic) (w : World) (hg : GlIn w w.heap.size t.g Ab Ad) (hh : SlAt w w.heap.size 2 Ah h.length (fR h)) (hi : SlAt w w.heap.size 3 Ai l.length (fC l)) (hhl : h.length ≤ 1000000) :
  Calls Tryz.prog 28 #[.agg #[.int .i64 t.g.base, .slice Ab t.g.bands.length cb, .slice Ad t.g.depths.length cd, .int .i64 t.g.blo, .int .i64 t.g.bhi, .int .i64 t.k.lo, .int .i64 t.k.hi, .int .i64 t.lag.lo, .int .i64 t.lag.hi, .int .i64 t.sq.lo, .int .i64 t.sq.hi, .int .i64 t.term], .slice Ah h.length ch, .slice Ai l.length ci] w fun e w' => e = .returned (.int .i64 (useE t h l)) ∧ Below w.heap.size w w' := by
 by_cases hc : ckTube t = 0
 ·
  have HR : Hid (useE t h l = lifeF h l) := Lib.hid (by rw [use_life, if_neg (by simp [hc])])
  have HC := Lib.hid hc
  clear hc
  go_enter Tryz.func28, Tryz.ntmps28
  go_upto_region 1 with fail
  show Code.wp _ _ _ _ _
  refine box1 (K := fun V => Code.wp _ _ _ _ V) ?_
  intro V hb1 q1
  replace hg := hg.go hb1
  replace hh := (hh.below hb1).up hb1.size
  replace hi := (hi.below hb1).up hb1.size
  obtain ⟨pq1, hpq1⟩ : ∃ p, w.heap.size = p := ⟨_, rfl⟩
  rw [hpq1] at q1 ⊢
  have hp1 : w.heap.size ≤ pq1 := by omega
  clear hpq1
  go_wp2_with (refine pause_at 8 rfl ?_)
  refine Paused.mk ?_
  refine wpList_load_row rfl 29 _ rfl _ rfl 29 _ (0, 0) _ (q1) Tryz.underlying29 rfl (by kernel_rfl) ?_
  go_wp2_with fail
  refine (sr_faultL t Ab Ad cb cd _ hg).mono ?_
  rintro e V1 ⟨rfl, hV1⟩
  replace q1 := q1.below hV1 q1.lt
  replace hg := hg.go hV1
  replace hh := (hh.below hV1).up hV1.size
  replace hi := (hi.below hV1).up hV1.size
  have B_V1 := ex_trans hb1 hV1
  rw [HC.out]
  go_wp2_with fail
  refine (sr_life Ah Ai ch ci h l _ hh hi hhl).mono ?_
  rintro e V2 ⟨rfl, hV2⟩
  replace q1 := q1.below hV2 q1.lt
  replace hg := hg.go hV2
  replace hh := (hh.below hV2).up hV2.size
  replace hi := (hi.below hV2).up hV2.size
  have B_V2 := ex_trans B_V1 hV2
  go_wp2
  go_ret
  exact ⟨ret_int HR.out.symm, B_V2⟩
 ·
  have HR : Hid (useE t h l = ckTube t) := Lib.hid (by rw [use_life, if_pos hc])
  have e1 : (ckTube t != 0) = true := by simp [hc]
  clear hc
  go_enter Tryz.func28, Tryz.ntmps28
  go_upto_region 1 with fail
  show Code.wp _ _ _ _ _
  refine box1 (K := fun V => Code.wp _ _ _ _ V) ?_
  intro V hb1 q1
  replace hg := hg.go hb1
  replace hh := (hh.below hb1).up hb1.size
  replace hi := (hi.below hb1).up hb1.size
  obtain ⟨pq1, hpq1⟩ : ∃ p, w.heap.size = p := ⟨_, rfl⟩
  rw [hpq1] at q1 ⊢
  have hp1 : w.heap.size ≤ pq1 := by omega
  clear hpq1
  go_wp2_with (refine pause_at 8 rfl ?_)
  refine Paused.mk ?_
  refine wpList_load_row rfl 29 _ rfl _ rfl 29 _ (0, 0) _ (q1) Tryz.underlying29 rfl (by kernel_rfl) ?_
  go_wp2_with fail
  refine (sr_faultL t Ab Ad cb cd _ hg).mono ?_
  rintro e V3 ⟨rfl, hV3⟩
  replace q1 := q1.below hV3 q1.lt
  replace hg := hg.go hV3
  replace hh := (hh.below hV3).up hV3.size
  replace hi := (hi.below hV3).up hV3.size
  have B_V3 := ex_trans hb1 hV3
  go_wp2
  go_ret
  exact ⟨ret_int HR.out.symm, B_V3⟩

set_option maxRecDepth 100000 in
set_option maxHeartbeats 1600000 in
theorem sr_asked (t : Tb) (Ab Ad : Option Addr) (cb cd : Nat) (Ah Ai : Option Addr) (ch ci : Nat) (h : List Rg) (l : List Ic) (r : Rd) (w : World) (hg : GlIn w w.heap.size t.g Ab Ad) (hh : SlAt w w.heap.size 2 Ah h.length (fR h)) (hi : SlAt w w.heap.size 3 Ai l.length (fC l)) (hhl : h.length ≤ 1000000) :
  Calls Tryz.prog 22 #[.agg #[.int .i64 t.g.base, .slice Ab t.g.bands.length cb, .slice Ad t.g.depths.length cd, .int .i64 t.g.blo, .int .i64 t.g.bhi, .int .i64 t.k.lo, .int .i64 t.k.hi, .int .i64 t.lag.lo, .int .i64 t.lag.hi, .int .i64 t.sq.lo, .int .i64 t.sq.hi, .int .i64 t.term], .slice Ah h.length ch, .slice Ai l.length ci, .agg #[.int .i64 r.day, .int .i64 r.shown, .int .i64 r.err, .int .i64 r.bare, .int .i64 r.air.lo, .int .i64 r.air.hi, .int .i64 r.rate.lo, .int .i64 r.rate.hi, .int .i64 r.deep, .bool r.broken]] w fun e w' => e = .returned (.int .i64 (askE t h l r)) ∧ Below w.heap.size w w' := by
 by_cases hc : useE t h l = 0
 ·
  cases hr : rdOk h.length r
  ·
   have HR : Hid (askE t h l r = 2) := Lib.hid (by unfold askE; rw [if_neg (by simp [hc]), hr]; rfl)
   have HC := Lib.hid hc
   have HD := Lib.hid hr
   clear hc hr
   go_enter Tryz.func22, Tryz.ntmps22
   go_upto_region 1 with fail
   show Code.wp _ _ _ _ _
   refine box2 (K := fun V => Code.wp _ _ _ _ V) ?_
   intro V hb1 q1 q2
   replace hg := hg.go hb1
   replace hh := (hh.below hb1).up hb1.size
   replace hi := (hi.below hb1).up hb1.size
   obtain ⟨pq1, hpq1⟩ : ∃ p, w.heap.size = p := ⟨_, rfl⟩
   obtain ⟨pq2, hpq2⟩ : ∃ p, w.heap.size + 1 = p := ⟨_, rfl⟩
   rw [hpq2] at q2 ⊢
   rw [hpq1] at q1 ⊢
   have hp1 : w.heap.size ≤ pq1 := by omega
   have hp2 : w.heap.size ≤ pq2 := by omega
   clear hpq1 hpq2
   go_wp2_with (refine pause_at 10 rfl ?_)
   refine Paused.mk ?_
   refine wpList_load_row rfl 29 _ rfl _ rfl 29 _ (0, 0) _ (q1) Tryz.underlying29 rfl (by kernel_rfl) ?_
   go_wp2_with fail
   refine (sr_lived t Ab Ad cb cd Ah Ai ch ci h l _ hg hh hi hhl).mono ?_
   rintro e V1 ⟨rfl, hV1⟩
   replace q1 := q1.below hV1 q1.lt
   replace q2 := q2.below hV1 q2.lt
   replace hg := hg.go hV1
   replace hh := (hh.below hV1).up hV1.size
   replace hi := (hi.below hV1).up hV1.size
   have B_V1 := ex_trans hb1 hV1
   rw [HC.out]
   go_wp2_with (refine pause_at 17 rfl ?_)
   refine Paused.mk ?_
   refine wpList_load_row rfl 33 _ rfl _ rfl 33 _ (0, 0) _ (q2) Tryz.underlying33 rfl (by kernel_rfl) ?_
   go_wp2_with fail
   refine (sr_isreading h.length r _ (by omega)).mono ?_
   rintro e V2 ⟨rfl, hV2⟩
   replace q1 := q1.below hV2 q1.lt
   replace q2 := q2.below hV2 q2.lt
   replace hg := hg.go hV2
   replace hh := (hh.below hV2).up hV2.size
   replace hi := (hi.below hV2).up hV2.size
   have B_V2 := ex_trans B_V1 hV2
   rw [HD.out]
   go_wp2
   go_ret
   exact ⟨ret_int HR.out.symm, B_V2⟩
  ·
   have HR : Hid (askE t h l r = 0) := Lib.hid (by unfold askE; rw [if_neg (by simp [hc]), hr]; rfl)
   have HC := Lib.hid hc
   have HD := Lib.hid hr
   clear hc hr
   go_enter Tryz.func22, Tryz.ntmps22
   go_upto_region 1 with fail
   show Code.wp _ _ _ _ _
   refine box2 (K := fun V => Code.wp _ _ _ _ V) ?_
   intro V hb1 q1 q2
   replace hg := hg.go hb1
   replace hh := (hh.below hb1).up hb1.size
   replace hi := (hi.below hb1).up hb1.size
   obtain ⟨pq1, hpq1⟩ : ∃ p, w.heap.size = p := ⟨_, rfl⟩
   obtain ⟨pq2, hpq2⟩ : ∃ p, w.heap.size + 1 = p := ⟨_, rfl⟩
   rw [hpq2] at q2 ⊢
   rw [hpq1] at q1 ⊢
   have hp1 : w.heap.size ≤ pq1 := by omega
   have hp2 : w.heap.size ≤ pq2 := by omega
   clear hpq1 hpq2
   go_wp2_with (refine pause_at 10 rfl ?_)
   refine Paused.mk ?_
   refine wpList_load_row rfl 29 _ rfl _ rfl 29 _ (0, 0) _ (q1) Tryz.underlying29 rfl (by kernel_rfl) ?_
   go_wp2_with fail
   refine (sr_lived t Ab Ad cb cd Ah Ai ch ci h l _ hg hh hi hhl).mono ?_
   rintro e V3 ⟨rfl, hV3⟩
   replace q1 := q1.below hV3 q1.lt
   replace q2 := q2.below hV3 q2.lt
   replace hg := hg.go hV3
   replace hh := (hh.below hV3).up hV3.size
   replace hi := (hi.below hV3).up hV3.size
   have B_V3 := ex_trans hb1 hV3
   rw [HC.out]
   go_wp2_with (refine pause_at 17 rfl ?_)
   refine Paused.mk ?_
   refine wpList_load_row rfl 33 _ rfl _ rfl 33 _ (0, 0) _ (q2) Tryz.underlying33 rfl (by kernel_rfl) ?_
   go_wp2_with fail
   refine (sr_isreading h.length r _ (by omega)).mono ?_
   rintro e V4 ⟨rfl, hV4⟩
   replace q1 := q1.below hV4 q1.lt
   replace q2 := q2.below hV4 q2.lt
   replace hg := hg.go hV4
   replace hh := (hh.below hV4).up hV4.size
   replace hi := (hi.below hV4).up hV4.size
   have B_V4 := ex_trans B_V3 hV4
   rw [HD.out]
   go_wp2
   go_ret
   exact ⟨ret_int HR.out.symm, B_V4⟩
 ·
  have HR : Hid (askE t h l r = useE t h l) := Lib.hid (by unfold askE; rw [if_pos hc])
  have e1 : (useE t h l != 0) = true := by simp [hc]
  clear hc
  go_enter Tryz.func22, Tryz.ntmps22
  go_upto_region 1 with fail
  show Code.wp _ _ _ _ _
  refine box2 (K := fun V => Code.wp _ _ _ _ V) ?_
  intro V hb1 q1 q2
  replace hg := hg.go hb1
  replace hh := (hh.below hb1).up hb1.size
  replace hi := (hi.below hb1).up hb1.size
  obtain ⟨pq1, hpq1⟩ : ∃ p, w.heap.size = p := ⟨_, rfl⟩
  obtain ⟨pq2, hpq2⟩ : ∃ p, w.heap.size + 1 = p := ⟨_, rfl⟩
  rw [hpq2] at q2 ⊢
  rw [hpq1] at q1 ⊢
  have hp1 : w.heap.size ≤ pq1 := by omega
  have hp2 : w.heap.size ≤ pq2 := by omega
  clear hpq1 hpq2
  go_wp2_with (refine pause_at 10 rfl ?_)
  refine Paused.mk ?_
  refine wpList_load_row rfl 29 _ rfl _ rfl 29 _ (0, 0) _ (q1) Tryz.underlying29 rfl (by kernel_rfl) ?_
  go_wp2_with fail
  refine (sr_lived t Ab Ad cb cd Ah Ai ch ci h l _ hg hh hi hhl).mono ?_
  rintro e V5 ⟨rfl, hV5⟩
  replace q1 := q1.below hV5 q1.lt
  replace q2 := q2.below hV5 q2.lt
  replace hg := hg.go hV5
  replace hh := (hh.below hV5).up hV5.size
  replace hi := (hi.below hV5).up hV5.size
  have B_V5 := ex_trans hb1 hV5
  go_wp2
  go_ret
  exact ⟨ret_int HR.out.symm, B_V5⟩

set_option maxRecDepth 100000 in
set_option maxHeartbeats 1600000 in
theorem sr_thin (t : Tb) (Ab Ad : Option Addr) (cb cd : Nat) (Ah Ai : Option Addr) (nh ni ch ci : Nat) (w : World) :
  Calls Tryz.prog 15 #[.agg #[.int .i64 t.g.base, .slice Ab t.g.bands.length cb, .slice Ad t.g.depths.length cd, .int .i64 t.g.blo, .int .i64 t.g.bhi, .int .i64 t.k.lo, .int .i64 t.k.hi, .int .i64 t.lag.lo, .int .i64 t.lag.hi, .int .i64 t.sq.lo, .int .i64 t.sq.hi, .int .i64 t.term], .slice Ah nh ch, .slice Ai ni ci] w fun e w' => e = .returned (.bool (thinB t.g.bands.length t.g.depths.length nh ni)) ∧ Below w.heap.size w w' := by
 go_enter Tryz.func15, Tryz.ntmps15
 go_upto_region 1 with fail
 show Code.wp _ _ _ _ _
 refine box1 (K := fun V => Code.wp _ _ _ _ V) ?_
 intro V hb1 q1
 obtain ⟨pq1, hpq1⟩ : ∃ p, w.heap.size = p := ⟨_, rfl⟩
 rw [hpq1] at q1 ⊢
 have hp1 : w.heap.size ≤ pq1 := by omega
 clear hpq1
 have a0 : V.cell? ⟨pq1, 0, none⟩ = some (.int .i64 t.g.base) := q1.cell 0
 have a1 : V.cell? ⟨pq1, 1, none⟩ = some (.slice Ab t.g.bands.length cb) := q1.cell 1
 have a2 : V.cell? ⟨pq1, 2, none⟩ = some (.slice Ad t.g.depths.length cd) := q1.cell 2
 have a3 : V.cell? ⟨pq1, 3, none⟩ = some (.int .i64 t.g.blo) := q1.cell 3
 have a4 : V.cell? ⟨pq1, 4, none⟩ = some (.int .i64 t.g.bhi) := q1.cell 4
 have a5 : V.cell? ⟨pq1, 5, none⟩ = some (.int .i64 t.k.lo) := q1.cell 5
 have a6 : V.cell? ⟨pq1, 6, none⟩ = some (.int .i64 t.k.hi) := q1.cell 6
 have a7 : V.cell? ⟨pq1, 7, none⟩ = some (.int .i64 t.lag.lo) := q1.cell 7
 have a8 : V.cell? ⟨pq1, 8, none⟩ = some (.int .i64 t.lag.hi) := q1.cell 8
 have a9 : V.cell? ⟨pq1, 9, none⟩ = some (.int .i64 t.sq.lo) := q1.cell 9
 have a10 : V.cell? ⟨pq1, 10, none⟩ = some (.int .i64 t.sq.hi) := q1.cell 10
 have a11 : V.cell? ⟨pq1, 11, none⟩ = some (.int .i64 t.term) := q1.cell 11
 have la := q1.lt
 go_wp2_with fail
 refine (Thin_any t.g.base t.g.blo t.g.bhi Ab Ad Ah Ai t.g.bands.length t.g.depths.length nh ni cb cd ch ci _).mono ?_
 rintro e V1 ⟨rfl, hV1⟩
 replace q1 := q1.below hV1 q1.lt
 have B_V1 := ex_trans hb1 hV1
 clear a0 a1 a2 a3 a4 a5 a6 a7 a8 a9 a10 a11 la
 go_wp2
 go_ret
 exact ⟨rfl, B_V1⟩

set_option maxRecDepth 100000 in
set_option maxHeartbeats 3200000 in
theorem sr_Reading (r : Rd) (w : World) :
  Calls Tryz.prog 21 #[.agg #[.int .i64 r.day, .int .i64 r.shown, .int .i64 r.err, .int .i64 r.bare, .int .i64 r.air.lo, .int .i64 r.air.hi, .int .i64 r.rate.lo, .int .i64 r.rate.hi, .int .i64 r.deep, .bool r.broken]] w fun e w' => e = .returned (.agg #[.int .i64 r.day, .int .i64 r.shown, .int .i64 r.err, .int .i64 r.bare, .int .i64 r.air.lo, .int .i64 r.air.hi, .int .i64 r.rate.lo, .int .i64 r.rate.hi, .int .i64 r.deep, .bool r.broken]) ∧ Below w.heap.size w w' := by
 go_enter Tryz.func21, Tryz.ntmps21
 go_upto_region 1 with fail
 show Code.wp _ _ _ _ _
 refine box2 (K := fun V => Code.wp _ _ _ _ V) ?_
 intro V hb1 q1 q3
 obtain ⟨pq1, hpq1⟩ : ∃ p, w.heap.size = p := ⟨_, rfl⟩
 obtain ⟨pq3, hpq3⟩ : ∃ p, w.heap.size + 1 = p := ⟨_, rfl⟩
 rw [hpq3] at q3 ⊢
 rw [hpq1] at q1 ⊢
 have hp1 : w.heap.size ≤ pq1 := by omega
 have hp3 : w.heap.size ≤ pq3 := by omega
 clear hpq1 hpq3
 have a0 : V.cell? ⟨pq1, 0, none⟩ = some (.int .i64 r.day) := q1.cell 0
 have a1 : V.cell? ⟨pq1, 1, none⟩ = some (.int .i64 r.shown) := q1.cell 1
 have a2 : V.cell? ⟨pq1, 2, none⟩ = some (.int .i64 r.err) := q1.cell 2
 have a3 : V.cell? ⟨pq1, 3, none⟩ = some (.int .i64 r.bare) := q1.cell 3
 have a4 : V.cell? ⟨pq1, 4, none⟩ = some (.int .i64 r.air.lo) := q1.cell 4
 have a5 : V.cell? ⟨pq1, 5, none⟩ = some (.int .i64 r.air.hi) := q1.cell 5
 have a6 : V.cell? ⟨pq1, 6, none⟩ = some (.int .i64 r.rate.lo) := q1.cell 6
 have a7 : V.cell? ⟨pq1, 7, none⟩ = some (.int .i64 r.rate.hi) := q1.cell 7
 have a8 : V.cell? ⟨pq1, 8, none⟩ = some (.int .i64 r.deep) := q1.cell 8
 have a9 : V.cell? ⟨pq1, 9, none⟩ = some (.bool r.broken) := q1.cell 9
 have la := q1.lt
 go_wp2_with fail
 refine wp_region_ext_tq 19 (.quiet 0 (.quiet 1 (.quiet 2 (.quiet 3 (.quiet 4 (.quiet 5 (.quiet 6 (.quiet 7 (.quiet 8 (.quiet 9 (.quiet 11 (.quiet 12 (.quiet 14 (.quiet 15 (.quiet 16 (.quiet 17 (.loud 10 (.loud 13 (.quiet 18 .done))))))))))))))))))) (by kernel_rfl) (by kernel_rfl) (by intro d _ _ _ _ h; cases d <;> exact h) ?_
 have D0 := (Below.refl V.heap.size V).drew
 repeat (refine tq_quiet rfl ?_; go_big_quiet_step (fail); refine wpQuiet_nil ?_)
 refine tq_loud rfl ?_
 go_wp2_with fail
 refine (sr_to r.air _).mono ?_
 rintro e V1 ⟨rfl, hV1⟩
 have N10 := ex_trans ((Below.refl V.heap.size V)).drew hV1
 go_wp2_with fail
 refine ⟨inEx N10, ?_⟩
 repeat (refine tq_quiet rfl ?_; go_big_quiet_step (fail); refine wpQuiet_nil ?_)
 refine tq_loud rfl ?_
 go_wp2_with fail
 refine (sr_to r.rate _).mono ?_
 rintro e V2 ⟨rfl, hV2⟩
 have N13 := ex_trans N10 hV2
 go_wp2_with fail
 refine ⟨inEx N13, ?_⟩
 repeat (refine tq_quiet rfl ?_; go_big_quiet_step (fail); refine wpQuiet_nil ?_)
 refine tq_done (r := [_]) rfl ?_
 have XX := N13
 have XS := XX.size
 replace q1 := q1.below XX q1.lt
 replace q3 := q3.below XX q3.lt
 have B_V3 := ex_trans hb1 XX
 clear a0 a1 a2 a3 a4 a5 a6 a7 a8 a9 la
 clear D0 XX XS hV2 N13 hV1 N10 
 generalize V2 = V3 at *
 go_wp2_with (refine pause_store 52 rfl ?_)
 refine Paused.mk ?_
 refine wpList_store_row rfl 52 _ _ rfl _ #[.int .i64 r.day, .int .i64 r.shown, .int .i64 r.err, .int .i64 r.bare, .int .i64 r.air.lo, .int .i64 r.air.hi, .int .i64 r.rate.lo, .int .i64 r.rate.hi, .int .i64 r.deep, .bool r.broken] (by kernel_rfl) (by kernel_rfl) 52 _ q3 (by kernel_rfl) (by kernel_rfl) (by kernel_rfl) ?_
 have m3 := q3.setRow #[.int .i64 r.day, .int .i64 r.shown, .int .i64 r.err, .int .i64 r.bare, .int .i64 r.air.lo, .int .i64 r.air.hi, .int .i64 r.rate.lo, .int .i64 r.rate.hi, .int .i64 r.deep, .bool r.broken]
 have XZ := ex_row B_V3 hp3 #[.int .i64 r.day, .int .i64 r.shown, .int .i64 r.err, .int .i64 r.bare, .int .i64 r.air.lo, .int .i64 r.air.hi, .int .i64 r.rate.lo, .int .i64 r.rate.hi, .int .i64 r.deep, .bool r.broken]
 go_wp2
 refine bodyPost_ret (results_cell_row rfl _ _ _ 52 #[.int .i64 r.day, .int .i64 r.shown, .int .i64 r.err, .int .i64 r.bare, .int .i64 r.air.lo, .int .i64 r.air.hi, .int .i64 r.rate.lo, .int .i64 r.rate.hi, .int .i64 r.deep, .bool r.broken] (0, 0) _ rfl m3 rfl rfl rfl) rfl ?_
 exact ⟨rfl, XZ⟩


end Go.Proofs.YtkaogjhnogkcdaaGreat
end

section
namespace Go.Proofs.YtkaogjhnogkcdaaGreat
open Go.RowKit Go.ChangeShapes Go.WideShapes Go.ChangeAt
section
variable {H : Type} {enc : TypeId × Value → H} {w : World} {base : Nat} {spare : Nat → Bool} {held : Bool} {r : Reach} {b0 : Nat}
theorem tr_boo {fuel : Nat} {t : TypeId} {cs : List Value} {x : DataW H × List MemPlace} (ht : Tryz.prog.underlying t = some .bool) (h : DataW.trod enc Tryz.prog w base spare held fuel t cs = some x) : ∃ b : Bool, cs = [.bool b] := by
 obtain ⟨b, h1, _⟩ := DataW.trod_bool ht h
 exact ⟨b, h1⟩
theorem list10 {α : Type} {l : List α} (h : l.length = 10) : ∃ x0 x1 x2 x3 x4 x5 x6 x7 x8 x9, l = [x0, x1, x2, x3, x4, x5, x6, x7, x8, x9] := by
 match l, h with
 | [x0, x1, x2, x3, x4, x5, x6, x7, x8, x9], _ => exact ⟨x0, x1, x2, x3, x4, x5, x6, x7, x8, x9, rfl⟩
theorem list12 {α : Type} {l : List α} (h : l.length = 12) : ∃ x0 x1 x2 x3 x4 x5 x6 x7 x8 x9 x10 x11, l = [x0, x1, x2, x3, x4, x5, x6, x7, x8, x9, x10, x11] := by
 match l, h with
 | [x0, x1, x2, x3, x4, x5, x6, x7, x8, x9, x10, x11], _ => exact ⟨x0, x1, x2, x3, x4, x5, x6, x7, x8, x9, x10, x11, rfl⟩
set_option maxRecDepth 100000 in
theorem tr_gl {fuel : Nat} {cs : List Value} {x : DataW H × List MemPlace} (h : DataW.trod enc Tryz.prog w base spare held fuel 27 cs = some x) :
  ∃ (g : Gl) (Ab Ad : Option Addr) (cb cd : Nat), cs = [.int .i64 g.base, .slice Ab g.bands.length cb, .slice Ad g.depths.length cd, .int .i64 g.blo, .int .i64 g.bhi] ∧ GlIn w w.heap.size g Ab Ad := by
 obtain ⟨xs, n, _, _, hc, hxl, hf⟩ := DataW.trod_struct Tryz.underlying27 h
 obtain ⟨c0, c1, c2, c3, c4, rfl⟩ := list5 (hc.trans (by kernel_rfl))
 have hl : xs.length = 4 := hxl.trans rfl
 obtain ⟨y0, e0⟩ := some_of (l := xs) (i := 0) (by omega)
 obtain ⟨y1, e1⟩ := some_of (l := xs) (i := 1) (by omega)
 obtain ⟨y2, e2⟩ := some_of (l := xs) (i := 2) (by omega)
 obtain ⟨y3, e3⟩ := some_of (l := xs) (i := 3) (by omega)
 have h0 := fld hf (i := 0) 3 0 1 rfl rfl rfl (by kernel_rfl) e0
 have h1 := fld hf (i := 1) 22 1 1 rfl rfl rfl (by kernel_rfl) e1
 have h2 := fld hf (i := 2) 23 2 1 rfl rfl rfl (by kernel_rfl) e2
 have h3 := fld hf (i := 3) 25 3 2 rfl rfl rfl (by kernel_rfl) e3
 simp only [List.drop_zero, List.drop_succ_cons, List.take_succ_cons, List.take_zero] at h0 h1 h2 h3
 obtain ⟨u, hu, _⟩ := tr_int Tryz.underlying3 h0
 obtain ⟨Ab, lb, cb, hb1, hb2, hb3, hb4⟩ := tr_sl (sz := 3) (c := cB) Tryz.underlying22 (by omega) (by kernel_rfl) (fun h => tr_bd h) (fun _ => rfl) h1
 obtain ⟨Ad, ld, cd, hd1, hd2, hd3, hd4⟩ := tr_sl (sz := 2) (c := cD) Tryz.underlying23 (by omega) (by kernel_rfl) (fun h => tr_dp h) (fun _ => rfl) h2
 obtain ⟨q, hq⟩ := tr_rg h3
 unfold cR at hq
 injection hu with hu _
 injection hb1 with hb1 _
 injection hd1 with hd1 _
 injection hq with hq1 hq2
 injection hq2 with hq2 _
 refine ⟨⟨u, lb, ld, q.lo, q.hi⟩, Ab, Ad, cb, cd, by rw [hu, hb1, hd1, hq1, hq2], ⟨hb4 _ (fun k hk j hj => ?_), hd4 _ (fun k hk j hj => ?_)⟩⟩
 ·
  have e := gB_at hk
  match j, hj with
  | 0, _ => simp [cB, fB, e]
  | 1, _ => simp [cB, fB, e]
  | 2, _ => simp [cB, fB, e]
 ·
  have e := gD_at hk
  match j, hj with
  | 0, _ => simp [cD, fD, e]
  | 1, _ => simp [cD, fD, e]
set_option maxRecDepth 100000 in
theorem tr_tube {fuel : Nat} {cs : List Value} {x : DataW H × List MemPlace} (h : DataW.trod enc Tryz.prog w base spare held fuel 29 cs = some x) :
  ∃ (t : Tb) (Ab Ad : Option Addr) (cb cd : Nat), cs = [.int .i64 t.g.base, .slice Ab t.g.bands.length cb, .slice Ad t.g.depths.length cd, .int .i64 t.g.blo, .int .i64 t.g.bhi, .int .i64 t.k.lo, .int .i64 t.k.hi, .int .i64 t.lag.lo, .int .i64 t.lag.hi, .int .i64 t.sq.lo, .int .i64 t.sq.hi, .int .i64 t.term] ∧ GlIn w w.heap.size t.g Ab Ad := by
 obtain ⟨xs, n, _, _, hc, hxl, hf⟩ := DataW.trod_struct Tryz.underlying29 h
 obtain ⟨x0, x1, x2, x3, x4, x5, x6, x7, x8, x9, x10, x11, rfl⟩ := list12 (hc.trans (by kernel_rfl))
 have hl : xs.length = 5 := hxl.trans rfl
 obtain ⟨y0, e0⟩ := some_of (l := xs) (i := 0) (by omega)
 have h0 := fld hf (i := 0) 27 0 5 rfl rfl rfl (by kernel_rfl) e0
 obtain ⟨y1, e1⟩ := some_of (l := xs) (i := 1) (by omega)
 have h1 := fld hf (i := 1) 25 5 2 rfl rfl rfl (by kernel_rfl) e1
 obtain ⟨y2, e2⟩ := some_of (l := xs) (i := 2) (by omega)
 have h2 := fld hf (i := 2) 25 7 2 rfl rfl rfl (by kernel_rfl) e2
 obtain ⟨y3, e3⟩ := some_of (l := xs) (i := 3) (by omega)
 have h3 := fld hf (i := 3) 25 9 2 rfl rfl rfl (by kernel_rfl) e3
 obtain ⟨y4, e4⟩ := some_of (l := xs) (i := 4) (by omega)
 have h4 := fld hf (i := 4) 3 11 1 rfl rfl rfl (by kernel_rfl) e4
 simp only [List.drop_zero, List.drop_succ_cons, List.take_succ_cons, List.take_zero] at h0 h1 h2 h3 h4
 obtain ⟨g, Ab, Ad, cb, cd, hg0, hg⟩ := tr_gl h0
 injection hg0 with g0 hg0
 injection hg0 with g1 hg0
 injection hg0 with g2 hg0
 injection hg0 with g3 hg0
 injection hg0 with g4 _
 obtain ⟨k, hq1⟩ := tr_rg h1
 unfold cR at hq1
 injection hq1 with a1 hq1'
 injection hq1' with b1 _
 obtain ⟨l, hq2⟩ := tr_rg h2
 unfold cR at hq2
 injection hq2 with a2 hq2'
 injection hq2' with b2 _
 obtain ⟨q, hq3⟩ := tr_rg h3
 unfold cR at hq3
 injection hq3 with a3 hq3'
 injection hq3' with b3 _
 obtain ⟨m, hu4, _⟩ := tr_int Tryz.underlying3 h4
 injection hu4 with u4 _
 exact ⟨⟨g, k, l, q, m⟩, Ab, Ad, cb, cd, by rw [g0, g1, g2, g3, g4, a1, b1, a2, b2, a3, b3, u4], hg⟩
def cRd (r : Rd) : List Value := [.int .i64 r.day, .int .i64 r.shown, .int .i64 r.err, .int .i64 r.bare, .int .i64 r.air.lo, .int .i64 r.air.hi, .int .i64 r.rate.lo, .int .i64 r.rate.hi, .int .i64 r.deep, .bool r.broken]
set_option maxRecDepth 100000 in
theorem tr_rd {fuel : Nat} {cs : List Value} {x : DataW H × List MemPlace} (h : DataW.trod enc Tryz.prog w base spare held fuel 33 cs = some x) :
  ∃ q : Rd, cs = cRd q := by
 obtain ⟨xs, n, _, _, hc, hxl, hf⟩ := DataW.trod_struct Tryz.underlying33 h
 obtain ⟨x0, x1, x2, x3, x4, x5, x6, x7, x8, x9, rfl⟩ := list10 (hc.trans (by kernel_rfl))
 have hl : xs.length = 8 := hxl.trans rfl
 obtain ⟨y0, e0⟩ := some_of (l := xs) (i := 0) (by omega)
 have h0 := fld hf (i := 0) 3 0 1 rfl rfl rfl (by kernel_rfl) e0
 obtain ⟨y1, e1⟩ := some_of (l := xs) (i := 1) (by omega)
 have h1 := fld hf (i := 1) 3 1 1 rfl rfl rfl (by kernel_rfl) e1
 obtain ⟨y2, e2⟩ := some_of (l := xs) (i := 2) (by omega)
 have h2 := fld hf (i := 2) 3 2 1 rfl rfl rfl (by kernel_rfl) e2
 obtain ⟨y3, e3⟩ := some_of (l := xs) (i := 3) (by omega)
 have h3 := fld hf (i := 3) 3 3 1 rfl rfl rfl (by kernel_rfl) e3
 obtain ⟨y4, e4⟩ := some_of (l := xs) (i := 4) (by omega)
 have h4 := fld hf (i := 4) 25 4 2 rfl rfl rfl (by kernel_rfl) e4
 obtain ⟨y5, e5⟩ := some_of (l := xs) (i := 5) (by omega)
 have h5 := fld hf (i := 5) 25 6 2 rfl rfl rfl (by kernel_rfl) e5
 obtain ⟨y6, e6⟩ := some_of (l := xs) (i := 6) (by omega)
 have h6 := fld hf (i := 6) 3 8 1 rfl rfl rfl (by kernel_rfl) e6
 obtain ⟨y7, e7⟩ := some_of (l := xs) (i := 7) (by omega)
 have h7 := fld hf (i := 7) 4 9 1 rfl rfl rfl (by kernel_rfl) e7
 simp only [List.drop_zero, List.drop_succ_cons, List.take_succ_cons, List.take_zero] at h0 h1 h2 h3 h4 h5 h6 h7
 obtain ⟨d, hu0, _⟩ := tr_int Tryz.underlying3 h0
 injection hu0 with u0 _
 obtain ⟨s, hu1, _⟩ := tr_int Tryz.underlying3 h1
 injection hu1 with u1 _
 obtain ⟨e, hu2, _⟩ := tr_int Tryz.underlying3 h2
 injection hu2 with u2 _
 obtain ⟨b, hu3, _⟩ := tr_int Tryz.underlying3 h3
 injection hu3 with u3 _
 obtain ⟨a, hq4⟩ := tr_rg h4
 unfold cR at hq4
 injection hq4 with a4 hq4'
 injection hq4' with b4 _
 obtain ⟨v, hq5⟩ := tr_rg h5
 unfold cR at hq5
 injection hq5 with a5 hq5'
 injection hq5' with b5 _
 obtain ⟨p, hu6, _⟩ := tr_int Tryz.underlying3 h6
 injection hu6 with u6 _
 obtain ⟨bb, hbb⟩ := tr_boo Tryz.underlying4 h7
 injection hbb with ub _
 exact ⟨⟨d, s, e, b, a, v, p, bb⟩, by rw [u0, u1, u2, u3, a4, b4, a5, b5, u6, ub]; rfl⟩
set_option maxRecDepth 100000 in
theorem open_tube {v : Value} {d : DataW H} {p : List MemPlace} (hv : Value.okWide Tryz.prog w r b0 29 v) (h : DataW.Trod enc Tryz.prog w base spare held 29 v d p) :
  ∃ (t : Tb) (Ab Ad : Option Addr) (cb cd : Nat), v = .agg #[.int .i64 t.g.base, .slice Ab t.g.bands.length cb, .slice Ad t.g.depths.length cd, .int .i64 t.g.blo, .int .i64 t.g.bhi, .int .i64 t.k.lo, .int .i64 t.k.hi, .int .i64 t.lag.lo, .int .i64 t.lag.hi, .int .i64 t.sq.lo, .int .i64 t.sq.hi, .int .i64 t.term] ∧ GlIn w w.heap.size t.g Ab Ad := by
 obtain ⟨cs, rfl, hsz⟩ := okWide_struct Tryz.underlying29 hv
 obtain ⟨l⟩ := cs
 obtain ⟨fuel, hf⟩ := h
 obtain ⟨t, Ab, Ad, cb, cd, hc, hg⟩ := tr_tube hf
 exact ⟨t, Ab, Ad, cb, cd, congrArg (fun l => Value.agg (List.toArray l)) hc, hg⟩
set_option maxRecDepth 100000 in
theorem open_reading {v : Value} {d : DataW H} {p : List MemPlace} (hv : Value.okWide Tryz.prog w r b0 33 v) (h : DataW.Trod enc Tryz.prog w base spare held 33 v d p) :
  ∃ q : Rd, v = .agg #[.int .i64 q.day, .int .i64 q.shown, .int .i64 q.err, .int .i64 q.bare, .int .i64 q.air.lo, .int .i64 q.air.hi, .int .i64 q.rate.lo, .int .i64 q.rate.hi, .int .i64 q.deep, .bool q.broken] := by
 obtain ⟨cs, rfl, hsz⟩ := okWide_struct Tryz.underlying33 hv
 obtain ⟨l⟩ := cs
 obtain ⟨fuel, hf⟩ := h
 obtain ⟨q, hc⟩ := tr_rd hf
 exact ⟨q, congrArg (fun l => Value.agg (List.toArray l)) (show l = cRd q from hc)⟩
instance : Inhabited Rd := ⟨⟨0, 0, 0, 0, ⟨0, 0⟩, ⟨0, 0⟩, 0, false⟩⟩
end
end Go.Proofs.YtkaogjhnogkcdaaGreat
end

section
namespace Go.Proofs.YtkaogjhnogkcdaaGreat
open Go.RowKit
attribute [local go_sem] Ex.cell? Ex.frozen?

theorem agg_two {a b a' b' : Int} (h : a = a') (k : b = b') : (Ending.returned (.agg #[.int .i64 a, .int .i64 b]) : Ending) = .returned (.agg #[.int .i64 a', .int .i64 b']) := by rw [h, k]
set_option maxRecDepth 100000 in
set_option maxHeartbeats 1600000 in
theorem sr_wide (R : Rg) (n : Int) (w : World) :
  Calls Tryz.prog 75 #[.agg #[.int .i64 R.lo, .int .i64 R.hi], .int .i64 n] w fun e w' => e = .returned (.agg #[.int .i64 (min R.lo n), .int .i64 (max R.hi n)]) ∧ Below w.heap.size w w' := by
 go_enter Tryz.func75, Tryz.ntmps75
 go_upto_region 1 with fail
 show Code.wp _ _ _ _ _
 refine box2 (K := fun V => Code.wp _ _ _ _ V) ?_
 intro V hb1 q1 q3
 obtain ⟨pq1, hpq1⟩ : ∃ p, w.heap.size = p := ⟨_, rfl⟩
 obtain ⟨pq3, hpq3⟩ : ∃ p, w.heap.size + 1 = p := ⟨_, rfl⟩
 rw [hpq3] at q3 ⊢
 rw [hpq1] at q1 ⊢
 have hp1 : w.heap.size ≤ pq1 := by omega
 have hp3 : w.heap.size ≤ pq3 := by omega
 clear hpq1 hpq3
 have a0 : V.cell? ⟨pq1, 0, none⟩ = some (.int .i64 R.lo) := q1.cell 0
 have a1 : V.cell? ⟨pq1, 1, none⟩ = some (.int .i64 R.hi) := q1.cell 1
 have la := q1.lt
 have c0 : V.cell? ⟨pq3, 0, none⟩ = some (.int .i64 0) := q3.cell 0
 have c1 : V.cell? ⟨pq3, 1, none⟩ = some (.int .i64 0) := q3.cell 1
 have lc := q3.lt
 have fr := q3.frozen0
 have m3 := (q3.set_ 0 (.int .i64 (min R.lo n))).set_ 1 (.int .i64 (max R.hi n))
 simp only [List.setIfInBounds_toArray, List.set_cons_zero, List.set_cons_succ] at m3
 go_wp2
 refine bodyPost_ret (results_cell_row rfl _ _ _ 25 #[.int .i64 (min R.lo n), .int .i64 (max R.hi n)] (0, 0) _ rfl m3 rfl rfl rfl) rfl ?_
 exact ⟨rfl, ex_set (p := ⟨pq3, 1, none⟩) (ex_set (p := ⟨pq3, 0, none⟩) (hb1) hp3 _) hp3 _⟩

theorem play_eq (r : Rd) (x : Tx) : r.shown + x.off - x.zero + stemP r x.k x.air + x.rate * x.lag - x.sq * r.deep = playW r x := by unfold playW woP Tx.ki; dsimp only; generalize x.rate * x.lag = a; generalize x.sq * r.deep = b; generalize stemP r x.k x.air = c; omega
set_option maxRecDepth 100000 in
set_option maxHeartbeats 3200000 in
theorem sr_play (r : Rd) (x : Tx) (w : World) (hr : RdBd r) (hk : KiBd x.ki) (ha : -100 ≤ x.air ∧ x.air ≤ 100) (hra : -20 ≤ x.rate ∧ x.rate ≤ 20) (ho : -1000000 ≤ x.off ∧ x.off ≤ 1000000) (hz : -1000000 ≤ x.zero ∧ x.zero ≤ 1000000) :
  Calls Tryz.prog 45 #[.agg #[.int .i64 r.day, .int .i64 r.shown, .int .i64 r.err, .int .i64 r.bare, .int .i64 r.air.lo, .int .i64 r.air.hi, .int .i64 r.rate.lo, .int .i64 r.rate.hi, .int .i64 r.deep, .bool r.broken], .agg #[.int .i64 x.zero, .int .i64 x.k, .int .i64 x.lag, .int .i64 x.sq, .int .i64 x.air, .int .i64 x.rate, .int .i64 x.off]] w fun e w' => e = .returned (.int .i64 (playW r x)) ∧ Below w.heap.size w w' := by
 have b1 := (stem_bd hr hk.k ha).2.2
 have b2 : -100 ≤ x.rate * x.lag ∧ x.rate * x.lag ≤ 100 := late_bd hk hra
 have b3 : 0 ≤ x.sq * r.deep ∧ x.sq * r.deep ≤ 60 := deep_bd hk hr
 have b4 := hr.shown
 have hkk : 0 ≤ x.k ∧ x.k ≤ 20 := hk.k
 change -360 ≤ stemP r x.k x.air ∧ stemP r x.k x.air ≤ 360 at b1
 have HE := Lib.hid (play_eq r x)
 go_enter Tryz.func45, Tryz.ntmps45
 go_upto_region 1 with fail
 show Code.wp _ _ _ _ _
 refine box2 (K := fun V => Code.wp _ _ _ _ V) ?_
 intro V hb1 q1 q2
 obtain ⟨pq1, hpq1⟩ : ∃ p, w.heap.size = p := ⟨_, rfl⟩
 obtain ⟨pq2, hpq2⟩ : ∃ p, w.heap.size + 1 = p := ⟨_, rfl⟩
 rw [hpq2] at q2 ⊢
 rw [hpq1] at q1 ⊢
 have hp1 : w.heap.size ≤ pq1 := by omega
 have hp2 : w.heap.size ≤ pq2 := by omega
 clear hpq1 hpq2
 have a0 : V.cell? ⟨pq1, 0, none⟩ = some (.int .i64 r.day) := q1.cell 0
 have a1 : V.cell? ⟨pq1, 1, none⟩ = some (.int .i64 r.shown) := q1.cell 1
 have a2 : V.cell? ⟨pq1, 2, none⟩ = some (.int .i64 r.err) := q1.cell 2
 have a3 : V.cell? ⟨pq1, 3, none⟩ = some (.int .i64 r.bare) := q1.cell 3
 have a4 : V.cell? ⟨pq1, 4, none⟩ = some (.int .i64 r.air.lo) := q1.cell 4
 have a5 : V.cell? ⟨pq1, 5, none⟩ = some (.int .i64 r.air.hi) := q1.cell 5
 have a6 : V.cell? ⟨pq1, 6, none⟩ = some (.int .i64 r.rate.lo) := q1.cell 6
 have a7 : V.cell? ⟨pq1, 7, none⟩ = some (.int .i64 r.rate.hi) := q1.cell 7
 have a8 : V.cell? ⟨pq1, 8, none⟩ = some (.int .i64 r.deep) := q1.cell 8
 have a9 : V.cell? ⟨pq1, 9, none⟩ = some (.bool r.broken) := q1.cell 9
 have la := q1.lt
 have b0 : V.cell? ⟨pq2, 0, none⟩ = some (.int .i64 x.zero) := q2.cell 0
 have b1 : V.cell? ⟨pq2, 1, none⟩ = some (.int .i64 x.k) := q2.cell 1
 have b2 : V.cell? ⟨pq2, 2, none⟩ = some (.int .i64 x.lag) := q2.cell 2
 have b3 : V.cell? ⟨pq2, 3, none⟩ = some (.int .i64 x.sq) := q2.cell 3
 have b4 : V.cell? ⟨pq2, 4, none⟩ = some (.int .i64 x.air) := q2.cell 4
 have b5 : V.cell? ⟨pq2, 5, none⟩ = some (.int .i64 x.rate) := q2.cell 5
 have b6 : V.cell? ⟨pq2, 6, none⟩ = some (.int .i64 x.off) := q2.cell 6
 have lb := q2.lt
 go_wp2_with fail
 refine wp_region_ext (by kernel_rfl) (by kernel_rfl) ?_
 repeat (go_big_quiet_step ((go_at_call 89; exact Calls.ext_of (sr_stem r x.k x.air _ hr hkk ha))))
 refine wpQuiet_nil ?_; intro _ hw'; obtain ⟨X, rfl⟩ := hw'
 go_wp2
 go_ret
 exact ⟨ret_int HE.out, ex_trans hb1 X.h⟩


end Go.Proofs.YtkaogjhnogkcdaaGreat
end

section
namespace Go.Proofs.YtkaogjhnogkcdaaGreat
open Go.RowKit
attribute [local go_sem] Ex.cell? Ex.frozen?

abbrev stF (r : Rd) (k : Int) (i : Nat) : Int := stemP r k (r.air.lo + (i : Int))
abbrev slF (r : Rd) (lag : Int) (i : Nat) : Int := (r.rate.lo + (i : Int)) * lag
def stW (r : Rd) (k : Int) (n : Nat) : Rg := wdTo (fun i => stemP r k (r.air.lo + (i : Int))) n
def slW (r : Rd) (lag : Int) (n : Nat) : Rg := wdTo (fun i => (r.rate.lo + (i : Int)) * lag) n
set_option maxRecDepth 100000 in
set_option maxHeartbeats 6400000 in
theorem sr_bare (r : Rd) (q : Ki) (w : World) (hr : RdBd r) (hq : KiBd q) :
  Calls Tryz.prog 73 #[.agg #[.int .i64 r.day, .int .i64 r.shown, .int .i64 r.err, .int .i64 r.bare, .int .i64 r.air.lo, .int .i64 r.air.hi, .int .i64 r.rate.lo, .int .i64 r.rate.hi, .int .i64 r.deep, .bool r.broken], .int .i64 q.k, .int .i64 q.lag, .int .i64 q.sq] w fun e w' => e = .returned (.agg #[.int .i64 (bareP r q).lo, .int .i64 (bareP r q).hi]) ∧ Below w.heap.size w w' := by
 have HE := Lib.hid (bare_eq hq hr)
 have h1 := hr.air
 have h2 := hr.rate
 have hk := hq.k
 have hlag := hq.lag
 go_enter Tryz.func73, Tryz.ntmps73
 go_upto_region 1 with fail
 show Code.wp _ _ _ _ _
 refine box2 (K := fun V => Code.wp _ _ _ _ V) ?_
 intro V hb1 q1 q3
 obtain ⟨pq1, hpq1⟩ : ∃ p, w.heap.size = p := ⟨_, rfl⟩
 obtain ⟨pq3, hpq3⟩ : ∃ p, w.heap.size + 1 = p := ⟨_, rfl⟩
 rw [hpq3] at q3 ⊢
 rw [hpq1] at q1 ⊢
 have hp1 : w.heap.size ≤ pq1 := by omega
 have hp3 : w.heap.size ≤ pq3 := by omega
 clear hpq1 hpq3
 have hlt1 := q1.lt
 have hlt3 := q3.lt
 have NG := ex_alloc (Below.refl V.heap.size V) (.cells #[.int .i64 1073741824, .int .i64 (-1073741824)] 25)
 have q9 : Blk (V.alloc (.cells #[.int .i64 1073741824, .int .i64 (-1073741824)] 25)) V.heap.size 25 #[.int .i64 1073741824, .int .i64 (-1073741824)] := Blk.new _ _ _
 have a4 := q1.cell 4
 have la := q1.lt
 simp at a4
 have a4' := q1.alloc (.cells #[.int .i64 1073741824, .int .i64 (-1073741824)] 25)
 have a5 := a4'.cell 4
 have la' := a4'.lt
 simp at a5
 go_upto_region 3 with fail
 clear a4 la a4' a5 la'
 obtain ⟨p9, hp9'⟩ : ∃ p, V.heap.size = p := ⟨_, rfl⟩
 rw [hp9'] at hlt1 hlt3
 rw [hp9'] at q9 ⊢
 have hp9 : w.heap.size ≤ p9 := by have := hb1.size; omega
 clear hp9'
 replace q1 := q1.below NG q1.lt
 replace q3 := q3.below NG q3.lt
 have B_V1 := ex_trans hb1 NG
 clear NG
 generalize V.alloc (.cells #[.int .i64 1073741824, .int .i64 (-1073741824)] 25) = V1 at *
 skip
 obtain ⟨n1, hn1⟩ : ∃ n, (r.air.hi - r.air.lo + 1).toNat = n := ⟨_, rfl⟩
 obtain ⟨n2, hn2⟩ : ∃ n, (r.rate.hi - r.rate.lo + 1).toNat = n := ⟨_, rfl⟩
 rw [hn1, hn2] at HE
 have en1 : r.air.hi = r.air.lo + (n1 : Int) - 1 := by omega
 have en2 : r.rate.hi = r.rate.lo + (n2 : Int) - 1 := by omega
 have HN1 := Lib.hid en1
 have HN2 := Lib.hid en2
 clear en1 en2 hn1 hn2
 have n39 : pq3 ≠ p9 := by omega
 have n19 : pq1 ≠ p9 := by omega
 clear hlt1 hlt3
 go_loopw [10] (fun i wr => ∃ k : Nat, k ≤ n1 ∧ i = .int .i64 (r.air.lo + (k : Int)) ∧ Below w.heap.size w wr ∧ Blk wr pq1 33 #[.int .i64 r.day, .int .i64 r.shown, .int .i64 r.err, .int .i64 r.bare, .int .i64 r.air.lo, .int .i64 r.air.hi, .int .i64 r.rate.lo, .int .i64 r.rate.hi, .int .i64 r.deep, .bool r.broken] ∧ Blk wr pq3 25 #[.int .i64 0, .int .i64 0] ∧ Blk wr p9 25 #[.int .i64 (stW r q.k k).lo, .int .i64 (stW r q.k k).hi])
  (fun i _ => n1 - (intOf i - r.air.lo).toNat)
 case atStart => exact ⟨0, by omega, by simp, B_V1, q1, q3, q9⟩
 case round =>
  clear q1 q3 q9 B_V1
  obtain ⟨k, hk1, rfl, hbl, q1, q3, q9⟩ := hrel
  have hn5 : n1 ≤ 201 := by have := HN1.out; omega
  by_cases hlt : k < n1
  ·
   have e1 : decide (r.air.lo + (k : Int) ≤ r.air.hi) = true := decide_eq_true (by have := HN1.out; omega)
   have hka : -100 ≤ r.air.lo + (k : Int) ∧ r.air.lo + (k : Int) ≤ 100 := by have := HN1.out; omega
   have a0 : wr.cell? ⟨pq1, 0, none⟩ = some (.int .i64 r.day) := q1.cell 0
   have a1 : wr.cell? ⟨pq1, 1, none⟩ = some (.int .i64 r.shown) := q1.cell 1
   have a2 : wr.cell? ⟨pq1, 2, none⟩ = some (.int .i64 r.err) := q1.cell 2
   have a3 : wr.cell? ⟨pq1, 3, none⟩ = some (.int .i64 r.bare) := q1.cell 3
   have a4 : wr.cell? ⟨pq1, 4, none⟩ = some (.int .i64 r.air.lo) := q1.cell 4
   have a5 : wr.cell? ⟨pq1, 5, none⟩ = some (.int .i64 r.air.hi) := q1.cell 5
   have a6 : wr.cell? ⟨pq1, 6, none⟩ = some (.int .i64 r.rate.lo) := q1.cell 6
   have a7 : wr.cell? ⟨pq1, 7, none⟩ = some (.int .i64 r.rate.hi) := q1.cell 7
   have a8 : wr.cell? ⟨pq1, 8, none⟩ = some (.int .i64 r.deep) := q1.cell 8
   have a9 : wr.cell? ⟨pq1, 9, none⟩ = some (.bool r.broken) := q1.cell 9
   have la := q1.lt
   have y0 := q9.cell 0
   have y1 := q9.cell 1
   have ly := q9.lt
   simp at y0 y1
   have HW : Hid (stW r q.k (k + 1) = ⟨min (stW r q.k k).lo (stemP r q.k (r.air.lo + (k : Int))), max (stW r q.k k).hi (stemP r q.k (r.air.lo + (k : Int)))⟩) := Lib.hid rfl
   generalize stW r q.k k = sw at *
   go_wp2_with fail
   refine wp_region_ext_tq 6 (.quiet 0 (.quiet 1 (.quiet 2 (.quiet 3 (.loud 4 (.loud 5 .done)))))) (by kernel_rfl) (by kernel_rfl) (by intro d _ _ _ _ h; cases d <;> exact h) ?_
   have D0 := (Below.refl wr.heap.size wr).drew
   repeat (refine tq_quiet rfl ?_; go_big_quiet_step (fail); refine wpQuiet_nil ?_)
   refine tq_loud rfl ?_
   go_wp2_with fail
   refine (sr_stem r q.k _ _ hr hk hka).mono ?_
   rintro e V2 ⟨rfl, hV2⟩
   have N4 := ex_trans ((Below.refl wr.heap.size wr)).drew hV2
   go_wp2_with fail
   refine ⟨inEx N4, ?_⟩
   refine tq_loud rfl ?_
   go_wp2_with fail
   refine (sr_wide sw _ _).mono ?_
   rintro e V3 ⟨rfl, hV3⟩
   have N5 := ex_trans N4 hV3
   go_wp2_with fail
   refine ⟨inEx N5, ?_⟩
   refine tq_done (r := [_]) rfl ?_
   have XX := N5
   have XS := XX.size
   replace q1 := q1.below XX q1.lt
   replace q3 := q3.below XX q3.lt
   replace q9 := q9.below XX q9.lt
   have B_V4 := ex_trans hbl XX
   clear a0 a1 a2 a3 a4 a5 a6 a7 a8 a9 la
   clear D0 XX XS hV3 N5 hV2 N4 
   generalize V3 = V4 at *
   have u0 := q9.cell 0
   have u1 := q9.cell 1
   have fu := q9.frozen0
   have lu := q9.lt
   simp at u0 u1
   clear y0 y1 ly
   have m9 := (q9.set_ 0 (.int .i64 (min sw.lo (stemP r q.k (r.air.lo + (k : Int)))))).set_ 1 (.int .i64 (max sw.hi (stemP r q.k (r.air.lo + (k : Int)))))
   simp only [List.setIfInBounds_toArray, List.set_cons_zero, List.set_cons_succ] at m9
   have m1 := (q1.far (p := ⟨p9, 0, none⟩) n19 (.int .i64 (min sw.lo (stemP r q.k (r.air.lo + (k : Int)))))).far (p := ⟨p9, 1, none⟩) n19 (.int .i64 (max sw.hi (stemP r q.k (r.air.lo + (k : Int)))))
   have m3 := (q3.far (p := ⟨p9, 0, none⟩) n39 (.int .i64 (min sw.lo (stemP r q.k (r.air.lo + (k : Int)))))).far (p := ⟨p9, 1, none⟩) n39 (.int .i64 (max sw.hi (stemP r q.k (r.air.lo + (k : Int)))))
   have mB := ex_set (p := ⟨p9, 1, none⟩) (ex_set (p := ⟨p9, 0, none⟩) B_V4 hp9 (.int .i64 (min sw.lo (stemP r q.k (r.air.lo + (k : Int)))))) hp9 (.int .i64 (max sw.hi (stemP r q.k (r.air.lo + (k : Int)))))
   go_wp2
   go_roundw
   case rel => exact ⟨k + 1, by omega, by go_num, mB, m1, m3, by rw [HW.out]; exact m9⟩
   case measure => simp [intOf]; omega
  ·
   have HK : Hid (k = n1) := Lib.hid (by omega)
   have e1 : decide (r.air.lo + (k : Int) ≤ r.air.hi) = false := decide_eq_false (by have := HN1.out; omega)
   have hsb : ((-1000000 ≤ (stW r q.k k).lo ∧ (stW r q.k k).lo ≤ 1073741824) ∧ (-1073741824 ≤ (stW r q.k k).hi ∧ (stW r q.k k).hi ≤ 1000000)) := wdTo_bd (fun i hi => by have := (stem_bd hr hk (air := r.air.lo + (i : Int)) (by have := HN1.out; omega)).2.2; omega)
   have HSW : Hid (stW r q.k n1 = stW r q.k k) := Lib.hid (by rw [HK.out])
   generalize stW r q.k k = sa at *
   clear hlt
   have hlt1 := q1.lt
   have hlt3 := q3.lt
   have hlt9 := q9.lt
   have NG := ex_alloc (Below.refl wr.heap.size wr) (.cells #[.int .i64 1073741824, .int .i64 (-1073741824)] 25)
   have qs : Blk (wr.alloc (.cells #[.int .i64 1073741824, .int .i64 (-1073741824)] 25)) wr.heap.size 25 #[.int .i64 1073741824, .int .i64 (-1073741824)] := Blk.new _ _ _
   have a5 := q1.cell 5
   have la := q1.lt
   simp at a5
   have q1' := q1.alloc (.cells #[.int .i64 1073741824, .int .i64 (-1073741824)] 25)
   have b6 := q1'.cell 6
   have lb := q1'.lt
   simp at b6
   go_upto_region 8 with fail
   clear a5 la q1' b6 lb e1
   obtain ⟨ps, hps'⟩ : ∃ p, wr.heap.size = p := ⟨_, rfl⟩
   rw [hps'] at hlt1 hlt3 hlt9
   rw [hps'] at qs ⊢
   have hps : w.heap.size ≤ ps := by have := hbl.size; omega
   clear hps'
   replace q1 := q1.below NG q1.lt
   replace q3 := q3.below NG q3.lt
   replace q9 := q9.below NG q9.lt
   have B_V5 := ex_trans hbl NG
   clear NG
   generalize wr.alloc (.cells #[.int .i64 1073741824, .int .i64 (-1073741824)] 25) = V5 at *
   have n1s : pq1 ≠ ps := by intro e; subst e; have h1 := (q1 : _ = _).symm.trans (qs : _ = _); simp at h1
   skip
   skip
   have n1s : pq1 ≠ ps := by have := hlt1; omega
   have n3s : pq3 ≠ ps := by have := hlt3; omega
   have n9s : p9 ≠ ps := by have := hlt9; omega
   go_loopw [12] (fun i wr => ∃ k2 : Nat, k2 ≤ n2 ∧ i = .int .i64 (r.rate.lo + (k2 : Int)) ∧ Below w.heap.size w wr ∧ Blk wr pq1 33 #[.int .i64 r.day, .int .i64 r.shown, .int .i64 r.err, .int .i64 r.bare, .int .i64 r.air.lo, .int .i64 r.air.hi, .int .i64 r.rate.lo, .int .i64 r.rate.hi, .int .i64 r.deep, .bool r.broken] ∧ Blk wr pq3 25 #[.int .i64 0, .int .i64 0] ∧ Blk wr p9 25 #[.int .i64 sa.lo, .int .i64 sa.hi] ∧ Blk wr ps 25 #[.int .i64 (slW r q.lag k2).lo, .int .i64 (slW r q.lag k2).hi])
    (fun i _ => n2 - (intOf i - r.rate.lo).toNat)
   case atStart => exact ⟨0, by omega, by simp, B_V5, q1, q3, q9, qs⟩
   case round =>
    clear q1 q3 q9 qs B_V5
    obtain ⟨k2, hk2, rfl, hbl2, q1, q3, q9, qs⟩ := hrel
    have hn6 : n2 ≤ 41 := by have := HN2.out; omega
    by_cases hlt : k2 < n2
    ·
     have e1 : decide (r.rate.lo + (k2 : Int) ≤ r.rate.hi) = true := decide_eq_true (by have := HN2.out; omega)
     have hka : -20 ≤ r.rate.lo + (k2 : Int) ∧ r.rate.lo + (k2 : Int) ≤ 20 := by have := HN2.out; omega
     have hmb := late_bd hq hka
     have a7 := q1.cell 7
     have la := q1.lt
     have y0 := qs.cell 0
     have y1 := qs.cell 1
     have ly := qs.lt
     simp at a7 y0 y1
     have HW : Hid (slW r q.lag (k2 + 1) = ⟨min (slW r q.lag k2).lo ((r.rate.lo + (k2 : Int)) * q.lag), max (slW r q.lag k2).hi ((r.rate.lo + (k2 : Int)) * q.lag)⟩) := Lib.hid rfl
     generalize slW r q.lag k2 = sw at *
     go_wp2_with fail
     refine (sr_wide sw _ _).mono ?_
     rintro e V6 ⟨rfl, hV6⟩
     replace q1 := q1.below hV6 q1.lt
     replace q3 := q3.below hV6 q3.lt
     replace q9 := q9.below hV6 q9.lt
     replace qs := qs.below hV6 qs.lt
     have B_V6 := ex_trans hbl2 hV6
     clear y0 y1 ly a7 la
     have u0 := qs.cell 0
     have u1 := qs.cell 1
     have fu := qs.frozen0
     have lu := qs.lt
     simp at u0 u1
     have ms := (qs.set_ 0 (.int .i64 (min sw.lo ((r.rate.lo + (k2 : Int)) * q.lag)))).set_ 1 (.int .i64 (max sw.hi ((r.rate.lo + (k2 : Int)) * q.lag)))
     simp only [List.setIfInBounds_toArray, List.set_cons_zero, List.set_cons_succ] at ms
     have mq1 := (q1.far (p := ⟨ps, 0, none⟩) n1s (.int .i64 (min sw.lo ((r.rate.lo + (k2 : Int)) * q.lag)))).far (p := ⟨ps, 1, none⟩) n1s (.int .i64 (max sw.hi ((r.rate.lo + (k2 : Int)) * q.lag)))
     have mq3 := (q3.far (p := ⟨ps, 0, none⟩) n3s (.int .i64 (min sw.lo ((r.rate.lo + (k2 : Int)) * q.lag)))).far (p := ⟨ps, 1, none⟩) n3s (.int .i64 (max sw.hi ((r.rate.lo + (k2 : Int)) * q.lag)))
     have mq9 := (q9.far (p := ⟨ps, 0, none⟩) n9s (.int .i64 (min sw.lo ((r.rate.lo + (k2 : Int)) * q.lag)))).far (p := ⟨ps, 1, none⟩) n9s (.int .i64 (max sw.hi ((r.rate.lo + (k2 : Int)) * q.lag)))
     have mB := ex_set (p := ⟨ps, 1, none⟩) (ex_set (p := ⟨ps, 0, none⟩) B_V6 hps (.int .i64 (min sw.lo ((r.rate.lo + (k2 : Int)) * q.lag)))) hps (.int .i64 (max sw.hi ((r.rate.lo + (k2 : Int)) * q.lag)))
     go_wp2
     go_roundw
     case rel => exact ⟨k2 + 1, by omega, by go_num, mB, mq1, mq3, mq9, by rw [HW.out]; exact ms⟩
     case measure => simp [intOf]; omega
    ·
     have HK2 : Hid (k2 = n2) := Lib.hid (by omega)
     have e1 : decide (r.rate.lo + (k2 : Int) ≤ r.rate.hi) = false := decide_eq_false (by have := HN2.out; omega)
     have hlb : ((-1000000 ≤ (slW r q.lag k2).lo ∧ (slW r q.lag k2).lo ≤ 1073741824) ∧ (-1073741824 ≤ (slW r q.lag k2).hi ∧ (slW r q.lag k2).hi ≤ 1000000)) := wdTo_bd (fun i hi => by have := late_bd hq (rate := r.rate.lo + (i : Int)) (by have := HN2.out; omega); omega)
     have HE2 : Hid (bareP r q = ⟨r.shown - q.sq * r.deep - r.err + sa.lo + (slW r q.lag k2).lo, r.shown - q.sq * r.deep + r.err + sa.hi + (slW r q.lag k2).hi⟩) := Lib.hid (by rw [HK2.out, ← HSW.out]; exact HE.out)
     generalize slW r q.lag k2 = sl at *
     clear hlt
     have hdp := deep_bd hq hr
     have hsh := hr.shown
     have her := hr.err
     skip
     have a0 : wr.cell? ⟨pq1, 0, none⟩ = some (.int .i64 r.day) := q1.cell 0
     have a1 : wr.cell? ⟨pq1, 1, none⟩ = some (.int .i64 r.shown) := q1.cell 1
     have a2 : wr.cell? ⟨pq1, 2, none⟩ = some (.int .i64 r.err) := q1.cell 2
     have a3 : wr.cell? ⟨pq1, 3, none⟩ = some (.int .i64 r.bare) := q1.cell 3
     have a4 : wr.cell? ⟨pq1, 4, none⟩ = some (.int .i64 r.air.lo) := q1.cell 4
     have a5 : wr.cell? ⟨pq1, 5, none⟩ = some (.int .i64 r.air.hi) := q1.cell 5
     have a6 : wr.cell? ⟨pq1, 6, none⟩ = some (.int .i64 r.rate.lo) := q1.cell 6
     have a7 : wr.cell? ⟨pq1, 7, none⟩ = some (.int .i64 r.rate.hi) := q1.cell 7
     have a8 : wr.cell? ⟨pq1, 8, none⟩ = some (.int .i64 r.deep) := q1.cell 8
     have a9 : wr.cell? ⟨pq1, 9, none⟩ = some (.bool r.broken) := q1.cell 9
     have la := q1.lt
     have x0 := q9.cell 0
     have x1 := q9.cell 1
     have lx := q9.lt
     have y0 := qs.cell 0
     have y1 := qs.cell 1
     have ly := qs.lt
     simp at x0 x1 y0 y1
     have r0 := q3.cell 0
     have r1 := q3.cell 1
     have fr := q3.frozen0
     have lr := q3.lt
     simp at r0 r1
     have m3 := (q3.set_ 0 (.int .i64 (r.shown - q.sq * r.deep - r.err + sa.lo + sl.lo))).set_ 1 (.int .i64 (r.shown - q.sq * r.deep + r.err + sa.hi + sl.hi))
     simp only [List.setIfInBounds_toArray, List.set_cons_zero, List.set_cons_succ] at m3
     go_wp2
     refine bodyPost_ret (results_cell_row rfl _ _ _ 25 #[.int .i64 (r.shown - q.sq * r.deep - r.err + sa.lo + sl.lo), .int .i64 (r.shown - q.sq * r.deep + r.err + sa.hi + sl.hi)] (0, 0) _ rfl m3 rfl rfl rfl) rfl ?_
     exact ⟨agg_two (by rw [HE2.out]) (by rw [HE2.out]), ex_set (p := ⟨pq3, 1, none⟩) (ex_set (p := ⟨pq3, 0, none⟩) hbl2 hp3 _) hp3 _⟩


end Go.Proofs.YtkaogjhnogkcdaaGreat
end

section
namespace Go.Proofs.YtkaogjhnogkcdaaGreat
open Go.RowKit
attribute [local go_sem] Ex.cell? Ex.frozen?

set_option maxRecDepth 100000 in
set_option maxHeartbeats 6400000 in
theorem sr_without (t : Tb) (Ab Ad : Option Addr) (cb cd : Nat) (r : Rd) (w : World) (ht : TbBd t) (hr : RdBd r) :
  Calls Tryz.prog 90 #[.agg #[.int .i64 t.g.base, .slice Ab t.g.bands.length cb, .slice Ad t.g.depths.length cd, .int .i64 t.g.blo, .int .i64 t.g.bhi, .int .i64 t.k.lo, .int .i64 t.k.hi, .int .i64 t.lag.lo, .int .i64 t.lag.hi, .int .i64 t.sq.lo, .int .i64 t.sq.hi, .int .i64 t.term], .agg #[.int .i64 r.day, .int .i64 r.shown, .int .i64 r.err, .int .i64 r.bare, .int .i64 r.air.lo, .int .i64 r.air.hi, .int .i64 r.rate.lo, .int .i64 r.rate.hi, .int .i64 r.deep, .bool r.broken]] w fun e w' => e = .returned (.agg #[.int .i64 (bndP t r).lo, .int .i64 (bndP t r).hi]) ∧ Below w.heap.size w w' := by
 have h1 := ht.k
 have h2 := ht.lag
 have h3 := ht.sq
 go_enter Tryz.func90, Tryz.ntmps90
 go_upto_region 1 with fail
 show Code.wp _ _ _ _ _
 refine box3 (K := fun V => Code.wp _ _ _ _ V) ?_
 intro V hb1 q1 q2 q3
 obtain ⟨pq1, hpq1⟩ : ∃ p, w.heap.size = p := ⟨_, rfl⟩
 obtain ⟨pq2, hpq2⟩ : ∃ p, w.heap.size + 1 = p := ⟨_, rfl⟩
 obtain ⟨pq3, hpq3⟩ : ∃ p, w.heap.size + 1 + 1 = p := ⟨_, rfl⟩
 rw [hpq3] at q3 ⊢
 rw [hpq2] at q2 ⊢
 rw [hpq1] at q1 ⊢
 have hp1 : w.heap.size ≤ pq1 := by omega
 have hp2 : w.heap.size ≤ pq2 := by omega
 have hp3 : w.heap.size ≤ pq3 := by omega
 clear hpq1 hpq2 hpq3
 have NG := ex_alloc (Below.refl V.heap.size V) (.cells #[.int .i64 1073741824, .int .i64 (-1073741824)] 25)
 have q5 : Blk (V.alloc (.cells #[.int .i64 1073741824, .int .i64 (-1073741824)] 25)) V.heap.size 25 #[.int .i64 1073741824, .int .i64 (-1073741824)] := Blk.new _ _ _
 have lt1 := q1.lt
 have lt2 := q2.lt
 have lt3 := q3.lt
 have qa := q1.alloc (.cells #[.int .i64 1073741824, .int .i64 (-1073741824)] 25)
 have a5 := qa.cell 5
 have la := qa.lt
 simp at a5
 go_upto_region 3 with fail
 clear a5 la qa
 obtain ⟨p5, hp5'⟩ : ∃ p, V.heap.size = p := ⟨_, rfl⟩
 rw [hp5'] at q5 lt1 lt2 lt3 ⊢
 have hp5 : w.heap.size ≤ p5 := by have := hb1.size; omega
 clear hp5'
 have n15 : pq1 ≠ p5 := by omega
 have n25 : pq2 ≠ p5 := by omega
 have n35 : pq3 ≠ p5 := by omega
 clear lt1 lt2 lt3
 replace q1 := q1.below NG q1.lt
 replace q2 := q2.below NG q2.lt
 replace q3 := q3.below NG q3.lt
 have HB0 := ex_trans hb1 NG
 clear NG
 generalize V.alloc (.cells #[.int .i64 1073741824, .int .i64 (-1073741824)] 25) = W0 at *
 go_loopw [6, 7, 8, 9] (fun i j1 j2 j3 wr => ∃ (K : Int) (o : Rg), i = .int .i64 K ∧ (t.k.lo ≤ K ∧ K ≤ t.k.hi + 1) ∧ Below w.heap.size w wr ∧ Blk wr pq1 29 #[.int .i64 t.g.base, .slice Ab t.g.bands.length cb, .slice Ad t.g.depths.length cd, .int .i64 t.g.blo, .int .i64 t.g.bhi, .int .i64 t.k.lo, .int .i64 t.k.hi, .int .i64 t.lag.lo, .int .i64 t.lag.hi, .int .i64 t.sq.lo, .int .i64 t.sq.hi, .int .i64 t.term] ∧ Blk wr pq2 33 #[.int .i64 r.day, .int .i64 r.shown, .int .i64 r.err, .int .i64 r.bare, .int .i64 r.air.lo, .int .i64 r.air.hi, .int .i64 r.rate.lo, .int .i64 r.rate.hi, .int .i64 r.deep, .bool r.broken] ∧ Blk wr pq3 25 #[.int .i64 0, .int .i64 0] ∧ Blk wr p5 25 #[.int .i64 (o : Rg).lo, .int .i64 o.hi] ∧ Hid (WideIs (BareEnd t r K t.lag.lo t.sq.lo) o))
  (fun i _ _ _ _ => (t.k.hi + 1 - intOf i).toNat)
 case atStart => exact ⟨t.k.lo, ⟨1073741824, -1073741824⟩, rfl, by omega, HB0, q1, q2, q3, q5, Lib.hid (wide_none fun z => bareEnd_none (Int.le_refl _) (Int.le_refl _) z)⟩
 case round =>
  clear q1 q2 q3 q5 HB0
  obtain ⟨K, o, rfl, hK, hbl, q1, q2, q3, q5, HW⟩ := hrel
  by_cases hle : K ≤ t.k.hi
  ·
   have eK : decide (K ≤ t.k.hi) = true := decide_eq_true hle
   have a6 := q1.cell 6
   have a7 := q1.cell 7
   have la := q1.lt
   simp at a6 a7
   go_upto_region 6 with fail
   clear la a6 a7
   go_loopw [7, 8, 9] (fun i j2 j3 wr => ∃ (L : Int) (o : Rg), i = .int .i64 L ∧ (t.lag.lo ≤ L ∧ L ≤ t.lag.hi + 1) ∧ Below w.heap.size w wr ∧ Blk wr pq1 29 #[.int .i64 t.g.base, .slice Ab t.g.bands.length cb, .slice Ad t.g.depths.length cd, .int .i64 t.g.blo, .int .i64 t.g.bhi, .int .i64 t.k.lo, .int .i64 t.k.hi, .int .i64 t.lag.lo, .int .i64 t.lag.hi, .int .i64 t.sq.lo, .int .i64 t.sq.hi, .int .i64 t.term] ∧ Blk wr pq2 33 #[.int .i64 r.day, .int .i64 r.shown, .int .i64 r.err, .int .i64 r.bare, .int .i64 r.air.lo, .int .i64 r.air.hi, .int .i64 r.rate.lo, .int .i64 r.rate.hi, .int .i64 r.deep, .bool r.broken] ∧ Blk wr pq3 25 #[.int .i64 0, .int .i64 0] ∧ Blk wr p5 25 #[.int .i64 (o : Rg).lo, .int .i64 o.hi] ∧ Hid (WideIs (BareEnd t r K L t.sq.lo) o))
    (fun i _ _ _ => (t.lag.hi + 1 - intOf i).toNat)
   case atStart => exact ⟨t.lag.lo, o, rfl, by omega, hbl, q1, q2, q3, q5, HW⟩
   case round =>
    clear q1 q2 q3 q5 hbl HW eK
    have hKle := hle
    clear hle
    obtain ⟨L, o, rfl, hL, hbl, q1, q2, q3, q5, HW⟩ := hrel
    by_cases hle : L ≤ t.lag.hi
    ·
     have eL : decide (L ≤ t.lag.hi) = true := decide_eq_true hle
     have a8 := q1.cell 8
     have a9 := q1.cell 9
     have la := q1.lt
     simp at a8 a9
     go_upto_region 9 with fail
     clear la a8 a9
     go_loopw [8, 9] (fun i j3 wr => ∃ (S : Int) (o : Rg), i = .int .i64 S ∧ (t.sq.lo ≤ S ∧ S ≤ t.sq.hi + 1) ∧ Below w.heap.size w wr ∧ Blk wr pq1 29 #[.int .i64 t.g.base, .slice Ab t.g.bands.length cb, .slice Ad t.g.depths.length cd, .int .i64 t.g.blo, .int .i64 t.g.bhi, .int .i64 t.k.lo, .int .i64 t.k.hi, .int .i64 t.lag.lo, .int .i64 t.lag.hi, .int .i64 t.sq.lo, .int .i64 t.sq.hi, .int .i64 t.term] ∧ Blk wr pq2 33 #[.int .i64 r.day, .int .i64 r.shown, .int .i64 r.err, .int .i64 r.bare, .int .i64 r.air.lo, .int .i64 r.air.hi, .int .i64 r.rate.lo, .int .i64 r.rate.hi, .int .i64 r.deep, .bool r.broken] ∧ Blk wr pq3 25 #[.int .i64 0, .int .i64 0] ∧ Blk wr p5 25 #[.int .i64 (o : Rg).lo, .int .i64 o.hi] ∧ Hid (WideIs (BareEnd t r K L S) o))
      (fun i _ _ => (t.sq.hi + 1 - intOf i).toNat)
     case atStart => exact ⟨t.sq.lo, o, rfl, by omega, hbl, q1, q2, q3, q5, HW⟩
     case round =>
      clear q1 q2 q3 q5 hbl HW eL
      have hLle := hle
      clear hle
      obtain ⟨S, o, rfl, hS, hbl, q1, q2, q3, q5, HW⟩ := hrel
      by_cases hle : S ≤ t.sq.hi
      ·
       have eS : decide (S ≤ t.sq.hi) = true := decide_eq_true hle
       have a10 := q1.cell 10
       have la := q1.lt
       simp at a10
       have hqb : KiBd ⟨K, L, S⟩ := ⟨by simp only; omega, by simp only; omega, by simp only; omega⟩
       have HS0 := bareEnd_step ⟨hK.1, hKle⟩ ⟨hL.1, hLle⟩ ⟨hS.1, hle⟩ HW.out
       rw [show min (min o.lo (bareP r ⟨K, L, S⟩).lo) (bareP r ⟨K, L, S⟩).hi = min o.lo (min (bareP r ⟨K, L, S⟩).lo (bareP r ⟨K, L, S⟩).hi) by omega, show max (max o.hi (bareP r ⟨K, L, S⟩).lo) (bareP r ⟨K, L, S⟩).hi = max o.hi (max (bareP r ⟨K, L, S⟩).lo (bareP r ⟨K, L, S⟩).hi) by omega] at HS0
       have HS := Lib.hid HS0
       clear HS0
       clear HW
       go_wp2_with (refine pause_at 41 rfl ?_)
       refine Paused.mk ?_
       refine wpList_load_row rfl 33 _ rfl _ rfl 33 _ (0, 0) _ (q2) Tryz.underlying33 rfl (by kernel_rfl) ?_
       clear la a10
       go_wp2_with fail
       refine (sr_bare r ⟨K, L, S⟩ _ hr hqb).mono ?_
       rintro e V11 ⟨rfl, hV11⟩
       replace q1 := q1.below hV11 q1.lt
       replace q2 := q2.below hV11 q2.lt
       replace q3 := q3.below hV11 q3.lt
       replace q5 := q5.below hV11 q5.lt
       have B_V11 := ex_trans hbl hV11
       generalize bareP r ⟨K, L, S⟩ = b at *
       have NG := ex_alloc (Below.refl V11.heap.size V11) (.cells #[.int .i64 b.lo, .int .i64 b.hi] 25)
       have q9 : Blk (V11.alloc (.cells #[.int .i64 b.lo, .int .i64 b.hi] 25)) V11.heap.size 25 #[.int .i64 b.lo, .int .i64 b.hi] := Blk.new _ _ _
       go_wp2_with fail
       obtain ⟨p9, hp9⟩ : ∃ p, V11.heap.size = p := ⟨_, rfl⟩
       rw [hp9] at q9 ⊢
       clear hp9
       replace q1 := q1.below NG q1.lt
       replace q2 := q2.below NG q2.lt
       replace q3 := q3.below NG q3.lt
       replace q5 := q5.below NG q5.lt
       have HB9 := ex_trans B_V11 NG
       clear NG
       generalize V11.alloc (.cells #[.int .i64 b.lo, .int .i64 b.hi] 25) = W9 at *
       have y0 := q5.cell 0
       have y1 := q5.cell 1
       have ly := q5.lt
       have z0 := q9.cell 0
       have z1 := q9.cell 1
       have lz := q9.lt
       simp at y0 y1 z0 z1
       refine wp_region_ext_tq 7 (.quiet 0 (.quiet 1 (.quiet 2 (.quiet 4 (.quiet 5 (.loud 3 (.loud 6 .done))))))) (by kernel_rfl) (by kernel_rfl) (by intro d _ _ _ _ h; cases d <;> exact h) ?_
       have D0 := (Below.refl W9.heap.size W9).drew
       repeat (refine tq_quiet rfl ?_; go_big_quiet_step (fail); refine wpQuiet_nil ?_)
       refine tq_loud rfl ?_
       go_wp2_with fail
       refine (sr_wide o _ _).mono ?_
       rintro e V12 ⟨rfl, hV12⟩
       have N3 := ex_trans ((Below.refl W9.heap.size W9)).drew hV12
       go_wp2_with fail
       refine ⟨inEx N3, ?_⟩
       refine tq_loud rfl ?_
       go_wp2_with fail
       refine (sr_wide ⟨min o.lo b.lo, max o.hi b.lo⟩ _ _).mono ?_
       rintro e V13 ⟨rfl, hV13⟩
       have N6 := ex_trans N3 hV13
       go_wp2_with fail
       refine ⟨inEx N6, ?_⟩
       refine tq_done (r := [_]) rfl ?_
       have XX := N6
       have XS := XX.size
       replace q1 := q1.below XX q1.lt
       replace q2 := q2.below XX q2.lt
       replace q3 := q3.below XX q3.lt
       replace q5 := q5.below XX q5.lt
       replace q9 := q9.below XX q9.lt
       have B_V14 := ex_trans HB9 XX
       clear D0 XX XS hV13 N6 hV12 N3 
       generalize V13 = V14 at *
       clear y0 y1 ly z0 z1 lz
       have u0 := q5.cell 0
       have u1 := q5.cell 1
       have fu := q5.frozen0
       have lu := q5.lt
       simp at u0 u1
       have m5 := (q5.set_ 0 (.int .i64 (min o.lo (min b.lo b.hi)))).set_ 1 (.int .i64 (max o.hi (max b.lo b.hi)))
       simp only [List.setIfInBounds_toArray, List.set_cons_zero, List.set_cons_succ] at m5
       have mq1 := (q1.far (p := ⟨p5, 0, none⟩) n15 (.int .i64 (min o.lo (min b.lo b.hi)))).far (p := ⟨p5, 1, none⟩) n15 (.int .i64 (max o.hi (max b.lo b.hi)))
       have mq2 := (q2.far (p := ⟨p5, 0, none⟩) n25 (.int .i64 (min o.lo (min b.lo b.hi)))).far (p := ⟨p5, 1, none⟩) n25 (.int .i64 (max o.hi (max b.lo b.hi)))
       have mq3 := (q3.far (p := ⟨p5, 0, none⟩) n35 (.int .i64 (min o.lo (min b.lo b.hi)))).far (p := ⟨p5, 1, none⟩) n35 (.int .i64 (max o.hi (max b.lo b.hi)))
       have mB := ex_set (p := ⟨p5, 1, none⟩) (ex_set (p := ⟨p5, 0, none⟩) B_V14 hp5 (.int .i64 (min o.lo (min b.lo b.hi)))) hp5 (.int .i64 (max o.hi (max b.lo b.hi)))
       go_wp2
       go_roundw
       case rel => exact ⟨S + 1, ⟨(min o.lo (min b.lo b.hi)), (max o.hi (max b.lo b.hi))⟩, by go_num, by omega, mB, mq1, mq2, mq3, m5, HS⟩
       case measure => simp [intOf]; omega
      ·
       have eS : decide (S ≤ t.sq.hi) = false := decide_eq_false hle
       have a10 := q1.cell 10
       have la := q1.lt
       simp at a10
       have HC : Hid (WideIs (BareEnd t r K (L + 1) t.sq.lo) o) := Lib.hid (bareEnd_congr (bef_row (by omega)) HW.out)
       clear HW
       go_wp2
       go_roundw
       case rel => exact ⟨L + 1, o, by go_num, by omega, hbl, q1, q2, q3, q5, HC⟩
       case measure => simp [intOf]; omega
    ·
     have eL : decide (L ≤ t.lag.hi) = false := decide_eq_false hle
     have a8 := q1.cell 8
     have la := q1.lt
     simp at a8
     have HC : Hid (WideIs (BareEnd t r (K + 1) t.lag.lo t.sq.lo) o) := Lib.hid (bareEnd_congr (bef_plane (by omega)) HW.out)
     clear HW
     go_wp2
     go_roundw
     case rel => exact ⟨K + 1, o, by go_num, by omega, hbl, q1, q2, q3, q5, HC⟩
     case measure => simp [intOf]; omega
  ·
   have eK : decide (K ≤ t.k.hi) = false := decide_eq_false hle
   have a6 := q1.cell 6
   have la := q1.lt
   simp at a6
   have HO := Lib.hid (without_eq ht hr (by omega) HW.out)
   clear HW
   have y0 := q5.cell 0
   have y1 := q5.cell 1
   have ly := q5.lt
   have r0 := q3.cell 0
   have r1 := q3.cell 1
   have fr := q3.frozen0
   have lr := q3.lt
   simp at y0 y1 r0 r1
   have m3 := (q3.set_ 0 (.int .i64 o.lo)).set_ 1 (.int .i64 o.hi)
   simp only [List.setIfInBounds_toArray, List.set_cons_zero, List.set_cons_succ] at m3
   go_wp2
   refine bodyPost_ret (results_cell_row rfl _ _ _ 25 #[.int .i64 o.lo, .int .i64 o.hi] (0, 0) _ rfl m3 rfl rfl rfl) rfl ?_
   exact ⟨by rw [HO.out], ex_set (p := ⟨pq3, 1, none⟩) (ex_set (p := ⟨pq3, 0, none⟩) hbl hp3 _) hp3 _⟩


end Go.Proofs.YtkaogjhnogkcdaaGreat
end

section
namespace Go.Proofs.YtkaogjhnogkcdaaGreat
open Go.RowKit
attribute [local go_sem] Ex.cell? Ex.frozen?

set_option maxRecDepth 100000 in
set_option maxHeartbeats 3200000 in
theorem sr_stale (t : Tb) (Ab Ad : Option Addr) (cb cd : Nat) (Ai : Option Addr) (ci : Nat) (l : List Ic) (r : Rd) (w : World) (hi : SlAt w w.heap.size 3 Ai l.length (fC l)) (hl : l.length ≤ 1000000) (hd : 0 ≤ r.day ∧ r.day ≤ 1000000) :
  Calls Tryz.prog 34 #[.agg #[.int .i64 t.g.base, .slice Ab t.g.bands.length cb, .slice Ad t.g.depths.length cd, .int .i64 t.g.blo, .int .i64 t.g.bhi, .int .i64 t.k.lo, .int .i64 t.k.hi, .int .i64 t.lag.lo, .int .i64 t.lag.hi, .int .i64 t.sq.lo, .int .i64 t.sq.hi, .int .i64 t.term], .slice Ai l.length ci, .agg #[.int .i64 r.day, .int .i64 r.shown, .int .i64 r.err, .int .i64 r.bare, .int .i64 r.air.lo, .int .i64 r.air.hi, .int .i64 r.rate.lo, .int .i64 r.rate.hi, .int .i64 r.deep, .bool r.broken]] w fun e w' => e = .returned (.bool (staleB t l r.day)) ∧ Below w.heap.size w w' := by
 go_enter Tryz.func34, Tryz.ntmps34
 go_upto_region 1 with fail
 show Code.wp _ _ _ _ _
 refine box2 (K := fun V => Code.wp _ _ _ _ V) ?_
 intro V hb1 q1 q2
 replace hi := (hi.below hb1).up hb1.size
 obtain ⟨pq1, hpq1⟩ : ∃ p, w.heap.size = p := ⟨_, rfl⟩
 obtain ⟨pq2, hpq2⟩ : ∃ p, w.heap.size + 1 = p := ⟨_, rfl⟩
 rw [hpq2] at q2 ⊢
 rw [hpq1] at q1 ⊢
 have hp1 : w.heap.size ≤ pq1 := by omega
 have hp2 : w.heap.size ≤ pq2 := by omega
 clear hpq1 hpq2
 go_wp2_with fail
 go_loopw [7, 8] (fun last i wr => ∃ k : Nat, k ≤ l.length ∧ i = .int .i64 (k : Int) ∧ last = .int .i64 (lastTo l r.day k) ∧ Below w.heap.size w wr ∧ SlAt wr wr.heap.size 3 Ai l.length (fC l) ∧ Blk wr pq1 29 #[.int .i64 t.g.base, .slice Ab t.g.bands.length cb, .slice Ad t.g.depths.length cd, .int .i64 t.g.blo, .int .i64 t.g.bhi, .int .i64 t.k.lo, .int .i64 t.k.hi, .int .i64 t.lag.lo, .int .i64 t.lag.hi, .int .i64 t.sq.lo, .int .i64 t.sq.hi, .int .i64 t.term] ∧ Blk wr pq2 33 #[.int .i64 r.day, .int .i64 r.shown, .int .i64 r.err, .int .i64 r.bare, .int .i64 r.air.lo, .int .i64 r.air.hi, .int .i64 r.rate.lo, .int .i64 r.rate.hi, .int .i64 r.deep, .bool r.broken])
  (fun _ i _ => l.length - (intOf i).toNat)
 case atStart => exact ⟨0, by omega, rfl, rfl, hb1, hi, q1, q2⟩
 case round =>
  clear hi q1 q2 hb1
  obtain ⟨k, hk, rfl, rfl, hbl, hi, q1, q2⟩ := hrel
  have hlb := lastTo_bd (l := l) hd.1 (k := k)
  by_cases hlt : k < l.length
  ·
   obtain ⟨b, off, rfl, hbB, h0, h1, h2⟩ := IsIcs.at_ hi hlt
   have HL := Lib.hid (show lastTo l r.day (k + 1) = if (gC l k).day ≤ r.day then max (lastTo l r.day k) (gC l k).day else lastTo l r.day k from rfl)
   obtain ⟨⟨x, y, z⟩, hx⟩ : ∃ x, gC l k = x := ⟨_, rfl⟩
   rw [hx] at h0 h1 h2
   have HL2 : Hid (lastTo l r.day (k + 1) = if x ≤ r.day then max (lastTo l r.day k) x else lastTo l r.day k) := Lib.hid (by rw [HL.out, hx])
   clear HL hx
   dsimp only at h0 h1 h2
   generalize hg : lastTo l r.day k = last at *
   clear hg
   have b0 := q2.cell 0
   have lb := q2.lt
   simp at b0
   go_wp2_with fail
   refine wp_region_ext (by kernel_rfl) (by kernel_rfl) ?_
   repeat (go_big_quiet_step (fail))
   refine wpQuiet_nil ?_; intro _ hw'; obtain ⟨X, rfl⟩ := hw'
   by_cases hxd : x ≤ r.day
   ·
    rw [if_pos hxd] at HL2
    have hxd' : decide (x ≤ r.day) = true := decide_eq_true hxd
    go_wp2
    go_roundw
    case rel => exact ⟨k + 1, by omega, by go_num, by rw [HL2.out], ex_trans hbl X.h, hi.go X.h, q1.below X.h q1.lt, q2.below X.h q2.lt⟩
    case measure => simp [intOf]; omega
   ·
    rw [if_neg hxd] at HL2
    have hxd' : decide (x ≤ r.day) = false := decide_eq_false hxd
    go_wp2
    go_roundw
    case rel => exact ⟨k + 1, by omega, by go_num, by rw [HL2.out], ex_trans hbl X.h, hi.go X.h, q1.below X.h q1.lt, q2.below X.h q2.lt⟩
    case measure => simp [intOf]; omega
  ·
   have HK : Hid (k = l.length) := Lib.hid (by omega)
   have HR : Hid (staleB t l r.day = decide (t.term < r.day - lastTo l r.day k)) := Lib.hid (by rw [HK.out]; rfl)
   have a11 := q1.cell 11
   have la := q1.lt
   have b0 := q2.cell 0
   have lb := q2.lt
   simp at a11 b0
   go_wp2
   go_ret
   exact ⟨ret_bool HR.out.symm, hbl⟩

theorem sr_agree (g : Gl) (Ab Ad Ah Ai : Option Addr) (cb cd ch ci : Nat) (h : List Rg) (l : List Ic) (w : World) (hg : GlIn w w.heap.size g Ab Ad) (hh : SlAt w w.heap.size 2 Ah h.length (fR h)) (hi : SlAt w w.heap.size 3 Ai l.length (fC l)) (hok : Ok g h) (hbd : IcesBd l) (hl : l.length ≤ 1000000) :
  Calls Tryz.prog 62 #[.agg #[.int .i64 g.base, .slice Ab g.bands.length cb, .slice Ad g.depths.length cd, .int .i64 g.blo, .int .i64 g.bhi], .slice Ah h.length ch, .slice Ai l.length ci, .slice none 0 0] w fun e w' => e = .returned (.bool (agreeB g h l off0)) ∧ Below w.heap.size w w' :=
 AgreeR_any g Ab Ad Ah Ai none cb cd ch ci 0 h l [] w hg hh hi (fun h => absurd h (by simp)) hok hbd hl (by simp)
theorem sr_zeros (g : Gl) (Ab Ad Ah Ai : Option Addr) (cb cd ch ci : Nat) (h : List Rg) (l : List Ic) (w : World) (hg : GlIn w w.heap.size g Ab Ad) (hh : SlAt w w.heap.size 2 Ah h.length (fR h)) (hi : SlAt w w.heap.size 3 Ai l.length (fC l)) (hok : Ok g h) (hbd : IcesBd l) (hl : l.length ≤ 1000000) (ha : agreeB g h l off0 = true) :
  Calls Tryz.prog 24 #[.agg #[.int .i64 g.base, .slice Ab g.bands.length cb, .slice Ad g.depths.length cd, .int .i64 g.blo, .int .i64 g.bhi], .slice Ah h.length ch, .slice Ai l.length ci, .slice none 0 0] w fun e w' => (∃ A zs, e = .returned (.tuple #[.slice A h.length h.length, .bool true]) ∧ Hid (ZsOf g h l zs) ∧ SlAt w' w'.heap.size 2 A h.length (fR zs)) ∧ Below w.heap.size w w' := by
 refine (ZerosR_any g Ab Ad Ah Ai none cb cd ch ci 0 h l [] w hg hh hi (fun h => absurd h (by simp)) hok hbd hl (by simp)).mono ?_
 rintro e w' ⟨⟨A, zs, is, rfl, hz, hs⟩, hb⟩
 have hz' : ZrV g h l off0 zs is := hz.out
 have e : is = true := by rw [hz'.1, ha]
 subst e
 exact ⟨⟨A, zs, rfl, Lib.hid ⟨hz'.2.1, hz'.2.2 ha⟩, hs⟩, hb⟩
set_option maxRecDepth 100000 in
set_option maxHeartbeats 3200000 in
theorem sr_refused (t : Tb) (Ab Ad : Option Addr) (cb cd : Nat) (Ah Ai : Option Addr) (ch ci : Nat) (h : List Rg) (l : List Ic) (r : Rd) (w : World) (hg : GlIn w w.heap.size t.g Ab Ad) (hh : SlAt w w.heap.size 2 Ah h.length (fR h)) (hi : SlAt w w.heap.size 3 Ai l.length (fC l)) (hok : Ok t.g h) (hbd : IcesBd l) (hl : l.length ≤ 1000000) (hd : 0 ≤ r.day ∧ r.day ≤ 1000000) :
  Calls Tryz.prog 23 #[.agg #[.int .i64 t.g.base, .slice Ab t.g.bands.length cb, .slice Ad t.g.depths.length cd, .int .i64 t.g.blo, .int .i64 t.g.bhi, .int .i64 t.k.lo, .int .i64 t.k.hi, .int .i64 t.lag.lo, .int .i64 t.lag.hi, .int .i64 t.sq.lo, .int .i64 t.sq.hi, .int .i64 t.term], .slice Ah h.length ch, .slice Ai l.length ci, .agg #[.int .i64 r.day, .int .i64 r.shown, .int .i64 r.err, .int .i64 r.bare, .int .i64 r.air.lo, .int .i64 r.air.hi, .int .i64 r.rate.lo, .int .i64 r.rate.hi, .int .i64 r.deep, .bool r.broken]] w fun e w' => e = .returned (.int .i64 (refE t l r (agreeB t.g h l off0))) ∧ Below w.heap.size w w' := by
 rcases Bool.eq_false_or_eq_true r.broken with tb | tb
 rotate_left
 ·
  cases ts : staleB t l r.day
  ·
   have HR := Lib.hid (ref_3 tb ts (agreeB t.g h l off0))
   have TS := Lib.hid ts
   clear ts
   have TB := Lib.hid tb
   clear tb
   go_enter Tryz.func23, Tryz.ntmps23
   go_upto_region 1 with fail
   show Code.wp _ _ _ _ _
   refine box2 (K := fun V => Code.wp _ _ _ _ V) ?_
   intro V hb1 q1 q2
   replace hg := hg.go hb1
   replace hh := (hh.below hb1).up hb1.size
   replace hi := (hi.below hb1).up hb1.size
   obtain ⟨pq1, hpq1⟩ : ∃ p, w.heap.size = p := ⟨_, rfl⟩
   obtain ⟨pq2, hpq2⟩ : ∃ p, w.heap.size + 1 = p := ⟨_, rfl⟩
   rw [hpq2] at q2 ⊢
   rw [hpq1] at q1 ⊢
   have hp1 : w.heap.size ≤ pq1 := by omega
   have hp2 : w.heap.size ≤ pq2 := by omega
   clear hpq1 hpq2
   have b9 := q2.cell 9
   have lb := q2.lt
   simp at b9
   rw [TB.out] at b9
   go_wp2_with (refine pause_at 11 rfl ?_)
   refine Paused.mk ?_
   refine wpList_load_row rfl 29 _ rfl _ rfl 29 _ (0, 0) _ (q1) Tryz.underlying29 rfl (by kernel_rfl) ?_
   go_wp2_with (refine pause_at 13 rfl ?_)
   refine Paused.mk ?_
   refine wpList_load_row rfl 33 _ rfl _ rfl 33 _ (0, 0) _ (q2) Tryz.underlying33 rfl (by kernel_rfl) ?_
   clear b9 lb
   go_wp2_with fail
   refine (sr_stale t Ab Ad cb cd _ _ l r _ hi hl hd).mono ?_
   rintro e V1 ⟨rfl, hV1⟩
   replace q1 := q1.below hV1 q1.lt
   replace q2 := q2.below hV1 q2.lt
   replace hg := hg.go hV1
   replace hh := (hh.below hV1).up hV1.size
   replace hi := (hi.below hV1).up hV1.size
   have B_V1 := ex_trans hb1 hV1
   rw [TS.out]
   have a0 := q1.cell 0
   have a1 := q1.cell 1
   have a2 := q1.cell 2
   have a3 := q1.cell 3
   have a4 := q1.cell 4
   have la := q1.lt
   simp at a0 a1 a2 a3 a4
   go_wp2_with fail
   refine (sr_agree t.g _ _ _ _ _ _ _ _ h l _ hg hh hi hok hbd hl).mono ?_
   rintro e V2 ⟨rfl, hV2⟩
   replace q1 := q1.below hV2 q1.lt
   replace q2 := q2.below hV2 q2.lt
   replace hg := hg.go hV2
   replace hh := (hh.below hV2).up hV2.size
   replace hi := (hi.below hV2).up hV2.size
   have B_V2 := ex_trans B_V1 hV2
   obtain ⟨ag, hag⟩ : ∃ ag, agreeB t.g h l off0 = ag := ⟨_, rfl⟩
   rw [hag]
   have HG := Lib.hid hag
   clear hag
   cases ag
   ·
    go_wp2
    go_ret
    exact ⟨ret_int (by rw [HR.out, HG.out]; rfl), B_V2⟩
   ·
    go_wp2
    go_ret
    exact ⟨ret_int (by rw [HR.out, HG.out]; rfl), B_V2⟩
  ·
   have HR := Lib.hid (ref_2 (ag := agreeB t.g h l off0) tb ts)
   have TS := Lib.hid ts
   clear ts
   have TB := Lib.hid tb
   clear tb
   go_enter Tryz.func23, Tryz.ntmps23
   go_upto_region 1 with fail
   show Code.wp _ _ _ _ _
   refine box2 (K := fun V => Code.wp _ _ _ _ V) ?_
   intro V hb1 q1 q2
   replace hg := hg.go hb1
   replace hh := (hh.below hb1).up hb1.size
   replace hi := (hi.below hb1).up hb1.size
   obtain ⟨pq1, hpq1⟩ : ∃ p, w.heap.size = p := ⟨_, rfl⟩
   obtain ⟨pq2, hpq2⟩ : ∃ p, w.heap.size + 1 = p := ⟨_, rfl⟩
   rw [hpq2] at q2 ⊢
   rw [hpq1] at q1 ⊢
   have hp1 : w.heap.size ≤ pq1 := by omega
   have hp2 : w.heap.size ≤ pq2 := by omega
   clear hpq1 hpq2
   have b9 := q2.cell 9
   have lb := q2.lt
   simp at b9
   rw [TB.out] at b9
   go_wp2_with (refine pause_at 11 rfl ?_)
   refine Paused.mk ?_
   refine wpList_load_row rfl 29 _ rfl _ rfl 29 _ (0, 0) _ (q1) Tryz.underlying29 rfl (by kernel_rfl) ?_
   go_wp2_with (refine pause_at 13 rfl ?_)
   refine Paused.mk ?_
   refine wpList_load_row rfl 33 _ rfl _ rfl 33 _ (0, 0) _ (q2) Tryz.underlying33 rfl (by kernel_rfl) ?_
   clear b9 lb
   go_wp2_with fail
   refine (sr_stale t Ab Ad cb cd _ _ l r _ hi hl hd).mono ?_
   rintro e V3 ⟨rfl, hV3⟩
   replace q1 := q1.below hV3 q1.lt
   replace q2 := q2.below hV3 q2.lt
   replace hg := hg.go hV3
   replace hh := (hh.below hV3).up hV3.size
   replace hi := (hi.below hV3).up hV3.size
   have B_V3 := ex_trans hb1 hV3
   rw [TS.out]
   go_wp2
   go_ret
   exact ⟨ret_int HR.out.symm, B_V3⟩
 ·
  have HR := Lib.hid (ref_1 (t := t) (l := l) (ag := agreeB t.g h l off0) tb)
  have TB := Lib.hid tb
  clear tb
  go_enter Tryz.func23, Tryz.ntmps23
  go_upto_region 1 with fail
  show Code.wp _ _ _ _ _
  refine box2 (K := fun V => Code.wp _ _ _ _ V) ?_
  intro V hb1 q1 q2
  replace hg := hg.go hb1
  replace hh := (hh.below hb1).up hb1.size
  replace hi := (hi.below hb1).up hb1.size
  obtain ⟨pq1, hpq1⟩ : ∃ p, w.heap.size = p := ⟨_, rfl⟩
  obtain ⟨pq2, hpq2⟩ : ∃ p, w.heap.size + 1 = p := ⟨_, rfl⟩
  rw [hpq2] at q2 ⊢
  rw [hpq1] at q1 ⊢
  have hp1 : w.heap.size ≤ pq1 := by omega
  have hp2 : w.heap.size ≤ pq2 := by omega
  clear hpq1 hpq2
  have b9 := q2.cell 9
  have lb := q2.lt
  simp at b9
  rw [TB.out] at b9
  go_wp2
  go_ret
  exact ⟨ret_int HR.out.symm, hb1⟩

set_option maxRecDepth 100000 in
set_option maxHeartbeats 6400000 in
theorem sr_correct (t : Tb) (Ab Ad : Option Addr) (cb cd : Nat) (Ah Ai : Option Addr) (ch ci : Nat) (h : List Rg) (l : List Ic) (r : Rd) (w : World) (hg : GlIn w w.heap.size t.g Ab Ad) (hh : SlAt w w.heap.size 2 Ah h.length (fR h)) (hi : SlAt w w.heap.size 3 Ai l.length (fC l)) (zs : List Rg) (k : Nat) (ht : TbBd t) (hr : RdBd r) (hok : Ok t.g h) (hbd : IcesBd l) (hl : l.length ≤ 1000000) (hz : ZsOf t.g h l zs) (hag : agreeB t.g h l off0 = true) (hk : r.day = (k : Int)) (hkl : k < h.length) :
  Calls Tryz.prog 49 #[.agg #[.int .i64 t.g.base, .slice Ab t.g.bands.length cb, .slice Ad t.g.depths.length cd, .int .i64 t.g.blo, .int .i64 t.g.bhi, .int .i64 t.k.lo, .int .i64 t.k.hi, .int .i64 t.lag.lo, .int .i64 t.lag.hi, .int .i64 t.sq.lo, .int .i64 t.sq.hi, .int .i64 t.term], .slice Ah h.length ch, .slice Ai l.length ci, .agg #[.int .i64 r.day, .int .i64 r.shown, .int .i64 r.err, .int .i64 r.bare, .int .i64 r.air.lo, .int .i64 r.air.hi, .int .i64 r.rate.lo, .int .i64 r.rate.hi, .int .i64 r.deep, .bool r.broken]] w fun e w' => e = .returned (.agg #[.int .i64 (corP2 t r (gR zs k)).lo, .int .i64 (corP2 t r (gR zs k)).hi]) ∧ Below w.heap.size w w' := by
 have HZ := Lib.hid hz
 have hzb := zs_bd hok hz k hkl
 have hbb := bnd_bd ht hr
 have HK := Lib.hid hk
 clear hk
 go_enter Tryz.func49, Tryz.ntmps49
 go_upto_region 1 with fail
 show Code.wp _ _ _ _ _
 refine box3 (K := fun V => Code.wp _ _ _ _ V) ?_
 intro V hb1 q1 q2 q3
 replace hg := hg.go hb1
 replace hh := (hh.below hb1).up hb1.size
 replace hi := (hi.below hb1).up hb1.size
 obtain ⟨pq1, hpq1⟩ : ∃ p, w.heap.size = p := ⟨_, rfl⟩
 obtain ⟨pq2, hpq2⟩ : ∃ p, w.heap.size + 1 = p := ⟨_, rfl⟩
 obtain ⟨pq3, hpq3⟩ : ∃ p, w.heap.size + 1 + 1 = p := ⟨_, rfl⟩
 rw [hpq3] at q3 ⊢
 rw [hpq2] at q2 ⊢
 rw [hpq1] at q1 ⊢
 have hp1 : w.heap.size ≤ pq1 := by omega
 have hp2 : w.heap.size ≤ pq2 := by omega
 have hp3 : w.heap.size ≤ pq3 := by omega
 clear hpq1 hpq2 hpq3
 have a0 := q1.cell 0
 have a1 := q1.cell 1
 have a2 := q1.cell 2
 have a3 := q1.cell 3
 have a4 := q1.cell 4
 have la := q1.lt
 simp at a0 a1 a2 a3 a4
 go_wp2_with fail
 refine (sr_zeros t.g _ _ _ _ _ _ _ _ h l _ hg hh hi hok hbd hl hag).mono ?_
 rintro e V1 ⟨⟨Az, zs', rfl, hz', hsz⟩, hV1⟩
 replace q1 := q1.below hV1 q1.lt
 replace q2 := q2.below hV1 q2.lt
 replace q3 := q3.below hV1 q3.lt
 replace hg := hg.go hV1
 replace hh := (hh.below hV1).up hV1.size
 replace hi := (hi.below hV1).up hV1.size
 have B_V1 := ex_trans hb1 hV1
 obtain rfl := ZsOf.uniq HZ.out hz'.out
 clear hz'
 have b0 : V1.cell? ⟨pq2, 0, none⟩ = some (.int .i64 r.day) := q2.cell 0
 rw [HK.out] at b0
 have lb := q2.lt
 obtain ⟨bz, oz, rfl, hbz, z0, z1⟩ := IsRgs.at_ hsz hkl
 clear a0 a1 a2 a3 a4 la
 have HE : Hid (corP2 t r (gR zs k) = ⟨(bndP t r).lo - (gR zs k).hi, (bndP t r).hi - (gR zs k).lo⟩) := Lib.hid rfl
 generalize hzz : gR zs k = z at *
 have HZZ := Lib.hid hzz
 clear hzz
 generalize hbE : bndP t r = b at *
 have HBE := Lib.hid hbE
 clear hbE
 go_upto_region 2 with fail
 have l3 := q3.lt
 refine wp_region_ext_tq 10 (.quiet 0 (.quiet 1 (.quiet 2 (.quiet 3 (.quiet 4 (.quiet 5 (.quiet 6 (.fork3 7 (.fork 8 (.loud 9 .done) 9 (.loud 8 .done)) 8 (.fork 7 (.loud 9 .done) 9 (.loud 7 .done)) 9 (.fork 7 (.loud 8 .done) 8 (.loud 7 .done)))))))))) (by kernel_rfl) (by kernel_rfl) (by intro d _ _ _ _ h; cases d <;> exact h) ?_
 have D0 := (Below.refl V1.heap.size V1).drew
 repeat (refine tq_quiet rfl ?_; first | (refine wpQuiet_load_row rfl 29 _ rfl _ rfl 29 _ (0, 0) _ q1.ex Tryz.underlying29 rfl (by kernel_rfl) ?_; simp only [Act.put, List.setIfInBounds_toArray, List.set_cons_zero, List.set_cons_succ]; refine wpQuiet_nil ?_) | (refine wpQuiet_load_row rfl 33 _ rfl _ rfl 33 _ (0, 0) _ q2.ex Tryz.underlying33 rfl (by kernel_rfl) ?_; simp only [Act.put, List.setIfInBounds_toArray, List.set_cons_zero, List.set_cons_succ]; refine wpQuiet_nil ?_) | (go_big_quiet_step (fail); refine wpQuiet_nil ?_))
 refine tq_fork3 rfl rfl rfl ?_ ?_ ?_
 ·
  go_wp2_with fail
  refine (sr_without t Ab Ad cb cd r _ ht hr).mono ?_
  rintro e V2 ⟨rfl, hV2⟩
  have N7 := ex_trans ((Below.refl V1.heap.size V1)).drew hV2
  go_wp2_with fail
  rw [HBE.out]
  refine ⟨inEx N7, ?_⟩
  refine tq_fork rfl rfl ?_ ?_
  ·
   go_wp2_with fail
   have si := (N7).size
   try simp at si
   have N8 := ex_alloc N7 (.cells #[.int .i64 0, .int .i64 0] 25)
   have bi : Blk (V2.alloc (.cells #[.int .i64 0, .int .i64 0] 25)) (V2.heap.size) 25 #[.int .i64 0, .int .i64 0] := Blk.new' _ _ _ (by first | rfl | (simp; done) | (simp; omega))
   obtain ⟨pi, hpi⟩ : ∃ p, V2.heap.size = p := ⟨_, rfl⟩
   rw [hpi] at bi
   try rw [hpi]
   have yi : V1.heap.size ≤ pi := by omega
   clear si
   refine ⟨inEx N8, ?_⟩
   refine tq_loud rfl ?_
   go_wp2_with fail
   have tji := bi.lt
   try simp at tji
   have sj := (N8).size
   try simp at sj
   have N9 := ex_alloc N8 (.cells #[.int .i64 0, .int .i64 0] 25)
   have bj : Blk ((V2.alloc (.cells #[.int .i64 0, .int .i64 0] 25)).alloc (.cells #[.int .i64 0, .int .i64 0] 25)) (pi + 1) 25 #[.int .i64 0, .int .i64 0] := Blk.new' _ _ _ (by first | rfl | (simp; done) | (simp; omega))
   replace bi := bi.alloc (.cells #[.int .i64 0, .int .i64 0] 25)
   obtain ⟨pj, hpj⟩ : ∃ p, pi + 1 = p := ⟨_, rfl⟩
   rw [hpj] at bj
   try rw [hpj]
   have nji : pj ≠ pi := by omega
   have nij : pi ≠ pj := by omega
   clear tji
   have yj : V1.heap.size ≤ pj := by omega
   clear sj
   refine ⟨inEx N9, ?_⟩
   refine tq_done (r := [_, _]) rfl ?_
   have XX := N9
   have XS := XX.size
   replace q1 := q1.below XX q1.lt
   replace q2 := q2.below XX q2.lt
   replace q3 := q3.below XX q3.lt
   have B_V3 := ex_trans B_V1 XX
   clear D0 XX XS N9 N8 hV2 N7 hpj hpi
   generalize ((V2.alloc (.cells #[.int .i64 0, .int .i64 0] 25)).alloc (.cells #[.int .i64 0, .int .i64 0] 25)) = V3 at *
   have n3i : pq3 ≠ pi := by omega
   have n3j : pq3 ≠ pj := by omega
   have i0 := bi.cell 0
   have i1 := bi.cell 1
   have fi := bi.frozen0
   have li := bi.lt
   simp at i0 i1
   have j0 := bj.cell 0
   have j1 := bj.cell 1
   have fj := bj.frozen0
   have lj := bj.lt
   simp at j0 j1
   have r0 := q3.cell 0
   have r1 := q3.cell 1
   have fr := q3.frozen0
   have lr := q3.lt
   simp at r0 r1
   have hB := B_V3.size
   have m3 := (((((q3.far (p := ⟨pi, 0, none⟩) n3i (.int .i64 z.lo)).far (p := ⟨pi, 1, none⟩) n3i (.int .i64 z.hi)).far (p := ⟨pj, 0, none⟩) n3j (.int .i64 b.lo)).far (p := ⟨pj, 1, none⟩) n3j (.int .i64 b.hi)).set_ 0 (.int .i64 (b.lo - z.hi))).set_ 1 (.int .i64 (b.hi - z.lo))
   simp only [List.setIfInBounds_toArray, List.set_cons_zero, List.set_cons_succ] at m3
   have mB := ex_set (p := ⟨pq3, 1, none⟩) (ex_set (p := ⟨pq3, 0, none⟩) (ex_set (p := ⟨pj, 1, none⟩) (ex_set (p := ⟨pj, 0, none⟩) (ex_set (p := ⟨pi, 1, none⟩) (ex_set (p := ⟨pi, 0, none⟩) (B_V3) (by show w.heap.size ≤ pi; omega) (.int .i64 z.lo)) (by show w.heap.size ≤ pi; omega) (.int .i64 z.hi)) (by show w.heap.size ≤ pj; omega) (.int .i64 b.lo)) (by show w.heap.size ≤ pj; omega) (.int .i64 b.hi)) hp3 (.int .i64 (b.lo - z.hi))) hp3 (.int .i64 (b.hi - z.lo))
   go_wp2
   refine bodyPost_ret (results_cell_row rfl _ _ _ 25 #[.int .i64 (b.lo - z.hi), .int .i64 (b.hi - z.lo)] (0, 0) _ rfl m3 rfl rfl rfl) rfl ?_
   exact ⟨by rw [HZZ.out, HE.out], mB⟩
  ·
   go_wp2_with fail
   have sj := (N7).size
   try simp at sj
   have N9 := ex_alloc N7 (.cells #[.int .i64 0, .int .i64 0] 25)
   have bj : Blk (V2.alloc (.cells #[.int .i64 0, .int .i64 0] 25)) (V2.heap.size) 25 #[.int .i64 0, .int .i64 0] := Blk.new' _ _ _ (by first | rfl | (simp; done) | (simp; omega))
   obtain ⟨pj, hpj⟩ : ∃ p, V2.heap.size = p := ⟨_, rfl⟩
   rw [hpj] at bj
   try rw [hpj]
   have yj : V1.heap.size ≤ pj := by omega
   clear sj
   refine ⟨inEx N9, ?_⟩
   refine tq_loud rfl ?_
   go_wp2_with fail
   have tij := bj.lt
   try simp at tij
   have si := (N9).size
   try simp at si
   have N8 := ex_alloc N9 (.cells #[.int .i64 0, .int .i64 0] 25)
   have bi : Blk ((V2.alloc (.cells #[.int .i64 0, .int .i64 0] 25)).alloc (.cells #[.int .i64 0, .int .i64 0] 25)) (pj + 1) 25 #[.int .i64 0, .int .i64 0] := Blk.new' _ _ _ (by first | rfl | (simp; done) | (simp; omega))
   replace bj := bj.alloc (.cells #[.int .i64 0, .int .i64 0] 25)
   obtain ⟨pi, hpi⟩ : ∃ p, pj + 1 = p := ⟨_, rfl⟩
   rw [hpi] at bi
   try rw [hpi]
   have nij : pi ≠ pj := by omega
   have nji : pj ≠ pi := by omega
   clear tij
   have yi : V1.heap.size ≤ pi := by omega
   clear si
   refine ⟨inEx N8, ?_⟩
   refine tq_done (r := [_, _]) rfl ?_
   have XX := N8
   have XS := XX.size
   replace q1 := q1.below XX q1.lt
   replace q2 := q2.below XX q2.lt
   replace q3 := q3.below XX q3.lt
   have B_V4 := ex_trans B_V1 XX
   clear D0 XX XS N8 N9 hV2 N7 hpi hpj
   generalize ((V2.alloc (.cells #[.int .i64 0, .int .i64 0] 25)).alloc (.cells #[.int .i64 0, .int .i64 0] 25)) = V4 at *
   have n3i : pq3 ≠ pi := by omega
   have n3j : pq3 ≠ pj := by omega
   have i0 := bi.cell 0
   have i1 := bi.cell 1
   have fi := bi.frozen0
   have li := bi.lt
   simp at i0 i1
   have j0 := bj.cell 0
   have j1 := bj.cell 1
   have fj := bj.frozen0
   have lj := bj.lt
   simp at j0 j1
   have r0 := q3.cell 0
   have r1 := q3.cell 1
   have fr := q3.frozen0
   have lr := q3.lt
   simp at r0 r1
   have hB := B_V4.size
   have m3 := (((((q3.far (p := ⟨pi, 0, none⟩) n3i (.int .i64 z.lo)).far (p := ⟨pi, 1, none⟩) n3i (.int .i64 z.hi)).far (p := ⟨pj, 0, none⟩) n3j (.int .i64 b.lo)).far (p := ⟨pj, 1, none⟩) n3j (.int .i64 b.hi)).set_ 0 (.int .i64 (b.lo - z.hi))).set_ 1 (.int .i64 (b.hi - z.lo))
   simp only [List.setIfInBounds_toArray, List.set_cons_zero, List.set_cons_succ] at m3
   have mB := ex_set (p := ⟨pq3, 1, none⟩) (ex_set (p := ⟨pq3, 0, none⟩) (ex_set (p := ⟨pj, 1, none⟩) (ex_set (p := ⟨pj, 0, none⟩) (ex_set (p := ⟨pi, 1, none⟩) (ex_set (p := ⟨pi, 0, none⟩) (B_V4) (by show w.heap.size ≤ pi; omega) (.int .i64 z.lo)) (by show w.heap.size ≤ pi; omega) (.int .i64 z.hi)) (by show w.heap.size ≤ pj; omega) (.int .i64 b.lo)) (by show w.heap.size ≤ pj; omega) (.int .i64 b.hi)) hp3 (.int .i64 (b.lo - z.hi))) hp3 (.int .i64 (b.hi - z.lo))
   go_wp2
   refine bodyPost_ret (results_cell_row rfl _ _ _ 25 #[.int .i64 (b.lo - z.hi), .int .i64 (b.hi - z.lo)] (0, 0) _ rfl m3 rfl rfl rfl) rfl ?_
   exact ⟨by rw [HZZ.out, HE.out], mB⟩
 ·
  go_wp2_with fail
  have si := ((Below.refl V1.heap.size V1)).size
  try simp at si
  have N8 := ex_alloc (Below.refl V1.heap.size V1) (.cells #[.int .i64 0, .int .i64 0] 25)
  have bi : Blk (V1.alloc (.cells #[.int .i64 0, .int .i64 0] 25)) (V1.heap.size) 25 #[.int .i64 0, .int .i64 0] := Blk.new' _ _ _ (by first | rfl | (simp; done) | (simp; omega))
  obtain ⟨pi, hpi⟩ : ∃ p, V1.heap.size = p := ⟨_, rfl⟩
  rw [hpi] at bi
  try rw [hpi]
  have yi : V1.heap.size ≤ pi := by omega
  clear si
  refine ⟨inEx (N8).drew, ?_⟩
  refine tq_fork rfl rfl ?_ ?_
  ·
   go_wp2_with fail
   refine (sr_without t Ab Ad cb cd r _ ht hr).mono ?_
   rintro e V5 ⟨rfl, hV5⟩
   replace bi := Blk.below (Blk.drew bi) hV5 bi.lt
   have N7 := ex_trans (N8).drew hV5
   go_wp2_with fail
   rw [HBE.out]
   refine ⟨inEx N7, ?_⟩
   refine tq_loud rfl ?_
   go_wp2_with fail
   have tji := bi.lt
   try simp at tji
   have sj := (N7).size
   try simp at sj
   have N9 := ex_alloc N7 (.cells #[.int .i64 0, .int .i64 0] 25)
   have bj : Blk (V5.alloc (.cells #[.int .i64 0, .int .i64 0] 25)) (V5.heap.size) 25 #[.int .i64 0, .int .i64 0] := Blk.new' _ _ _ (by first | rfl | (simp; done) | (simp; omega))
   replace bi := bi.alloc (.cells #[.int .i64 0, .int .i64 0] 25)
   obtain ⟨pj, hpj⟩ : ∃ p, V5.heap.size = p := ⟨_, rfl⟩
   rw [hpj] at bj
   try rw [hpj]
   have nji : pj ≠ pi := by omega
   have nij : pi ≠ pj := by omega
   clear tji
   have yj : V1.heap.size ≤ pj := by omega
   clear sj
   refine ⟨inEx N9, ?_⟩
   refine tq_done (r := [_, _]) rfl ?_
   have XX := N9
   have XS := XX.size
   replace q1 := q1.below XX q1.lt
   replace q2 := q2.below XX q2.lt
   replace q3 := q3.below XX q3.lt
   have B_V6 := ex_trans B_V1 XX
   clear D0 XX XS N9 hV5 N7 N8 hpj hpi
   generalize (V5.alloc (.cells #[.int .i64 0, .int .i64 0] 25)) = V6 at *
   have n3i : pq3 ≠ pi := by omega
   have n3j : pq3 ≠ pj := by omega
   have i0 := bi.cell 0
   have i1 := bi.cell 1
   have fi := bi.frozen0
   have li := bi.lt
   simp at i0 i1
   have j0 := bj.cell 0
   have j1 := bj.cell 1
   have fj := bj.frozen0
   have lj := bj.lt
   simp at j0 j1
   have r0 := q3.cell 0
   have r1 := q3.cell 1
   have fr := q3.frozen0
   have lr := q3.lt
   simp at r0 r1
   have hB := B_V6.size
   have m3 := (((((q3.far (p := ⟨pi, 0, none⟩) n3i (.int .i64 z.lo)).far (p := ⟨pi, 1, none⟩) n3i (.int .i64 z.hi)).far (p := ⟨pj, 0, none⟩) n3j (.int .i64 b.lo)).far (p := ⟨pj, 1, none⟩) n3j (.int .i64 b.hi)).set_ 0 (.int .i64 (b.lo - z.hi))).set_ 1 (.int .i64 (b.hi - z.lo))
   simp only [List.setIfInBounds_toArray, List.set_cons_zero, List.set_cons_succ] at m3
   have mB := ex_set (p := ⟨pq3, 1, none⟩) (ex_set (p := ⟨pq3, 0, none⟩) (ex_set (p := ⟨pj, 1, none⟩) (ex_set (p := ⟨pj, 0, none⟩) (ex_set (p := ⟨pi, 1, none⟩) (ex_set (p := ⟨pi, 0, none⟩) (B_V6) (by show w.heap.size ≤ pi; omega) (.int .i64 z.lo)) (by show w.heap.size ≤ pi; omega) (.int .i64 z.hi)) (by show w.heap.size ≤ pj; omega) (.int .i64 b.lo)) (by show w.heap.size ≤ pj; omega) (.int .i64 b.hi)) hp3 (.int .i64 (b.lo - z.hi))) hp3 (.int .i64 (b.hi - z.lo))
   go_wp2
   refine bodyPost_ret (results_cell_row rfl _ _ _ 25 #[.int .i64 (b.lo - z.hi), .int .i64 (b.hi - z.lo)] (0, 0) _ rfl m3 rfl rfl rfl) rfl ?_
   exact ⟨by rw [HZZ.out, HE.out], mB⟩
  ·
   go_wp2_with fail
   have tji := bi.lt
   try simp at tji
   have sj := (N8).size
   try simp at sj
   have N9 := ex_alloc N8 (.cells #[.int .i64 0, .int .i64 0] 25)
   have bj : Blk ((V1.alloc (.cells #[.int .i64 0, .int .i64 0] 25)).alloc (.cells #[.int .i64 0, .int .i64 0] 25)) (pi + 1) 25 #[.int .i64 0, .int .i64 0] := Blk.new' _ _ _ (by first | rfl | (simp; done) | (simp; omega))
   replace bi := bi.alloc (.cells #[.int .i64 0, .int .i64 0] 25)
   obtain ⟨pj, hpj⟩ : ∃ p, pi + 1 = p := ⟨_, rfl⟩
   rw [hpj] at bj
   try rw [hpj]
   have nji : pj ≠ pi := by omega
   have nij : pi ≠ pj := by omega
   clear tji
   have yj : V1.heap.size ≤ pj := by omega
   clear sj
   refine ⟨inEx (N9).drew, ?_⟩
   refine tq_loud rfl ?_
   go_wp2_with fail
   refine (sr_without t Ab Ad cb cd r _ ht hr).mono ?_
   rintro e V7 ⟨rfl, hV7⟩
   replace bi := Blk.below (Blk.drew bi) hV7 bi.lt
   replace bj := Blk.below (Blk.drew bj) hV7 bj.lt
   have N7 := ex_trans (N9).drew hV7
   go_wp2_with fail
   rw [HBE.out]
   refine ⟨inEx N7, ?_⟩
   refine tq_done (r := [_, _]) rfl ?_
   have XX := N7
   have XS := XX.size
   replace q1 := q1.below XX q1.lt
   replace q2 := q2.below XX q2.lt
   replace q3 := q3.below XX q3.lt
   have B_V8 := ex_trans B_V1 XX
   clear D0 XX XS hV7 N7 N9 N8 hpj hpi
   generalize V7 = V8 at *
   have n3i : pq3 ≠ pi := by omega
   have n3j : pq3 ≠ pj := by omega
   have i0 := bi.cell 0
   have i1 := bi.cell 1
   have fi := bi.frozen0
   have li := bi.lt
   simp at i0 i1
   have j0 := bj.cell 0
   have j1 := bj.cell 1
   have fj := bj.frozen0
   have lj := bj.lt
   simp at j0 j1
   have r0 := q3.cell 0
   have r1 := q3.cell 1
   have fr := q3.frozen0
   have lr := q3.lt
   simp at r0 r1
   have hB := B_V8.size
   have m3 := (((((q3.far (p := ⟨pi, 0, none⟩) n3i (.int .i64 z.lo)).far (p := ⟨pi, 1, none⟩) n3i (.int .i64 z.hi)).far (p := ⟨pj, 0, none⟩) n3j (.int .i64 b.lo)).far (p := ⟨pj, 1, none⟩) n3j (.int .i64 b.hi)).set_ 0 (.int .i64 (b.lo - z.hi))).set_ 1 (.int .i64 (b.hi - z.lo))
   simp only [List.setIfInBounds_toArray, List.set_cons_zero, List.set_cons_succ] at m3
   have mB := ex_set (p := ⟨pq3, 1, none⟩) (ex_set (p := ⟨pq3, 0, none⟩) (ex_set (p := ⟨pj, 1, none⟩) (ex_set (p := ⟨pj, 0, none⟩) (ex_set (p := ⟨pi, 1, none⟩) (ex_set (p := ⟨pi, 0, none⟩) (B_V8) (by show w.heap.size ≤ pi; omega) (.int .i64 z.lo)) (by show w.heap.size ≤ pi; omega) (.int .i64 z.hi)) (by show w.heap.size ≤ pj; omega) (.int .i64 b.lo)) (by show w.heap.size ≤ pj; omega) (.int .i64 b.hi)) hp3 (.int .i64 (b.lo - z.hi))) hp3 (.int .i64 (b.hi - z.lo))
   go_wp2
   refine bodyPost_ret (results_cell_row rfl _ _ _ 25 #[.int .i64 (b.lo - z.hi), .int .i64 (b.hi - z.lo)] (0, 0) _ rfl m3 rfl rfl rfl) rfl ?_
   exact ⟨by rw [HZZ.out, HE.out], mB⟩
 ·
  go_wp2_with fail
  have sj := ((Below.refl V1.heap.size V1)).size
  try simp at sj
  have N9 := ex_alloc (Below.refl V1.heap.size V1) (.cells #[.int .i64 0, .int .i64 0] 25)
  have bj : Blk (V1.alloc (.cells #[.int .i64 0, .int .i64 0] 25)) (V1.heap.size) 25 #[.int .i64 0, .int .i64 0] := Blk.new' _ _ _ (by first | rfl | (simp; done) | (simp; omega))
  obtain ⟨pj, hpj⟩ : ∃ p, V1.heap.size = p := ⟨_, rfl⟩
  rw [hpj] at bj
  try rw [hpj]
  have yj : V1.heap.size ≤ pj := by omega
  clear sj
  refine ⟨inEx (N9).drew, ?_⟩
  refine tq_fork rfl rfl ?_ ?_
  ·
   go_wp2_with fail
   refine (sr_without t Ab Ad cb cd r _ ht hr).mono ?_
   rintro e V9 ⟨rfl, hV9⟩
   replace bj := Blk.below (Blk.drew bj) hV9 bj.lt
   have N7 := ex_trans (N9).drew hV9
   go_wp2_with fail
   rw [HBE.out]
   refine ⟨inEx N7, ?_⟩
   refine tq_loud rfl ?_
   go_wp2_with fail
   have tij := bj.lt
   try simp at tij
   have si := (N7).size
   try simp at si
   have N8 := ex_alloc N7 (.cells #[.int .i64 0, .int .i64 0] 25)
   have bi : Blk (V9.alloc (.cells #[.int .i64 0, .int .i64 0] 25)) (V9.heap.size) 25 #[.int .i64 0, .int .i64 0] := Blk.new' _ _ _ (by first | rfl | (simp; done) | (simp; omega))
   replace bj := bj.alloc (.cells #[.int .i64 0, .int .i64 0] 25)
   obtain ⟨pi, hpi⟩ : ∃ p, V9.heap.size = p := ⟨_, rfl⟩
   rw [hpi] at bi
   try rw [hpi]
   have nij : pi ≠ pj := by omega
   have nji : pj ≠ pi := by omega
   clear tij
   have yi : V1.heap.size ≤ pi := by omega
   clear si
   refine ⟨inEx N8, ?_⟩
   refine tq_done (r := [_, _]) rfl ?_
   have XX := N8
   have XS := XX.size
   replace q1 := q1.below XX q1.lt
   replace q2 := q2.below XX q2.lt
   replace q3 := q3.below XX q3.lt
   have B_V10 := ex_trans B_V1 XX
   clear D0 XX XS N8 hV9 N7 N9 hpi hpj
   generalize (V9.alloc (.cells #[.int .i64 0, .int .i64 0] 25)) = V10 at *
   have n3i : pq3 ≠ pi := by omega
   have n3j : pq3 ≠ pj := by omega
   have i0 := bi.cell 0
   have i1 := bi.cell 1
   have fi := bi.frozen0
   have li := bi.lt
   simp at i0 i1
   have j0 := bj.cell 0
   have j1 := bj.cell 1
   have fj := bj.frozen0
   have lj := bj.lt
   simp at j0 j1
   have r0 := q3.cell 0
   have r1 := q3.cell 1
   have fr := q3.frozen0
   have lr := q3.lt
   simp at r0 r1
   have hB := B_V10.size
   have m3 := (((((q3.far (p := ⟨pi, 0, none⟩) n3i (.int .i64 z.lo)).far (p := ⟨pi, 1, none⟩) n3i (.int .i64 z.hi)).far (p := ⟨pj, 0, none⟩) n3j (.int .i64 b.lo)).far (p := ⟨pj, 1, none⟩) n3j (.int .i64 b.hi)).set_ 0 (.int .i64 (b.lo - z.hi))).set_ 1 (.int .i64 (b.hi - z.lo))
   simp only [List.setIfInBounds_toArray, List.set_cons_zero, List.set_cons_succ] at m3
   have mB := ex_set (p := ⟨pq3, 1, none⟩) (ex_set (p := ⟨pq3, 0, none⟩) (ex_set (p := ⟨pj, 1, none⟩) (ex_set (p := ⟨pj, 0, none⟩) (ex_set (p := ⟨pi, 1, none⟩) (ex_set (p := ⟨pi, 0, none⟩) (B_V10) (by show w.heap.size ≤ pi; omega) (.int .i64 z.lo)) (by show w.heap.size ≤ pi; omega) (.int .i64 z.hi)) (by show w.heap.size ≤ pj; omega) (.int .i64 b.lo)) (by show w.heap.size ≤ pj; omega) (.int .i64 b.hi)) hp3 (.int .i64 (b.lo - z.hi))) hp3 (.int .i64 (b.hi - z.lo))
   go_wp2
   refine bodyPost_ret (results_cell_row rfl _ _ _ 25 #[.int .i64 (b.lo - z.hi), .int .i64 (b.hi - z.lo)] (0, 0) _ rfl m3 rfl rfl rfl) rfl ?_
   exact ⟨by rw [HZZ.out, HE.out], mB⟩
  ·
   go_wp2_with fail
   have tij := bj.lt
   try simp at tij
   have si := (N9).size
   try simp at si
   have N8 := ex_alloc N9 (.cells #[.int .i64 0, .int .i64 0] 25)
   have bi : Blk ((V1.alloc (.cells #[.int .i64 0, .int .i64 0] 25)).alloc (.cells #[.int .i64 0, .int .i64 0] 25)) (pj + 1) 25 #[.int .i64 0, .int .i64 0] := Blk.new' _ _ _ (by first | rfl | (simp; done) | (simp; omega))
   replace bj := bj.alloc (.cells #[.int .i64 0, .int .i64 0] 25)
   obtain ⟨pi, hpi⟩ : ∃ p, pj + 1 = p := ⟨_, rfl⟩
   rw [hpi] at bi
   try rw [hpi]
   have nij : pi ≠ pj := by omega
   have nji : pj ≠ pi := by omega
   clear tij
   have yi : V1.heap.size ≤ pi := by omega
   clear si
   refine ⟨inEx (N8).drew, ?_⟩
   refine tq_loud rfl ?_
   go_wp2_with fail
   refine (sr_without t Ab Ad cb cd r _ ht hr).mono ?_
   rintro e V11 ⟨rfl, hV11⟩
   replace bj := Blk.below (Blk.drew bj) hV11 bj.lt
   replace bi := Blk.below (Blk.drew bi) hV11 bi.lt
   have N7 := ex_trans (N8).drew hV11
   go_wp2_with fail
   rw [HBE.out]
   refine ⟨inEx N7, ?_⟩
   refine tq_done (r := [_, _]) rfl ?_
   have XX := N7
   have XS := XX.size
   replace q1 := q1.below XX q1.lt
   replace q2 := q2.below XX q2.lt
   replace q3 := q3.below XX q3.lt
   have B_V12 := ex_trans B_V1 XX
   clear D0 XX XS hV11 N7 N8 N9 hpi hpj
   generalize V11 = V12 at *
   have n3i : pq3 ≠ pi := by omega
   have n3j : pq3 ≠ pj := by omega
   have i0 := bi.cell 0
   have i1 := bi.cell 1
   have fi := bi.frozen0
   have li := bi.lt
   simp at i0 i1
   have j0 := bj.cell 0
   have j1 := bj.cell 1
   have fj := bj.frozen0
   have lj := bj.lt
   simp at j0 j1
   have r0 := q3.cell 0
   have r1 := q3.cell 1
   have fr := q3.frozen0
   have lr := q3.lt
   simp at r0 r1
   have hB := B_V12.size
   have m3 := (((((q3.far (p := ⟨pi, 0, none⟩) n3i (.int .i64 z.lo)).far (p := ⟨pi, 1, none⟩) n3i (.int .i64 z.hi)).far (p := ⟨pj, 0, none⟩) n3j (.int .i64 b.lo)).far (p := ⟨pj, 1, none⟩) n3j (.int .i64 b.hi)).set_ 0 (.int .i64 (b.lo - z.hi))).set_ 1 (.int .i64 (b.hi - z.lo))
   simp only [List.setIfInBounds_toArray, List.set_cons_zero, List.set_cons_succ] at m3
   have mB := ex_set (p := ⟨pq3, 1, none⟩) (ex_set (p := ⟨pq3, 0, none⟩) (ex_set (p := ⟨pj, 1, none⟩) (ex_set (p := ⟨pj, 0, none⟩) (ex_set (p := ⟨pi, 1, none⟩) (ex_set (p := ⟨pi, 0, none⟩) (B_V12) (by show w.heap.size ≤ pi; omega) (.int .i64 z.lo)) (by show w.heap.size ≤ pi; omega) (.int .i64 z.hi)) (by show w.heap.size ≤ pj; omega) (.int .i64 b.lo)) (by show w.heap.size ≤ pj; omega) (.int .i64 b.hi)) hp3 (.int .i64 (b.lo - z.hi))) hp3 (.int .i64 (b.hi - z.lo))
   go_wp2
   refine bodyPost_ret (results_cell_row rfl _ _ _ 25 #[.int .i64 (b.lo - z.hi), .int .i64 (b.hi - z.lo)] (0, 0) _ rfl m3 rfl rfl rfl) rfl ?_
   exact ⟨by rw [HZZ.out, HE.out], mB⟩


end Go.Proofs.YtkaogjhnogkcdaaGreat
end

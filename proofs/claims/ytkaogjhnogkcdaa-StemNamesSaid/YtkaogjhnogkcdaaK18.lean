/- Stem: enough, accepted, Accept (walks). · Stem: Accept (walk). · Stem: Bare (walk). · Stem: IceOf (walk). · Stem: all[Reading] (walk). · Stem's law: the conversion of a glass, whose rows are young (turned from Glass' own walk). · Stem's reference and law: the rest of what has no loop but one (walks). · Stem: readings of arguments: tubes, readings, lists of readings. -/
import Derived.Test.YtkaogjhnogkcdaaK17
import Derived.Test.YtkaogjhnogkcdaaK10
import Derived.Test.YtkaogjhnogkcdaaK14
import Derived.Test.YtkaogjhnogkcdaaK13
set_option linter.unusedVariables false
set_option linter.unusedSimpArgs false
set_option linter.unusedSectionVars false
section
namespace Go.Proofs.Ytkaogjhnogkcdaa
open Go.RowKit
attribute [local go_sem] Ex.cell? Ex.frozen?

theorem sm_enough (most a b : Int) (w : World) (ha : -1000000 ≤ a ∧ a ≤ 1000000) (hb : -1000000 ≤ b ∧ b ≤ 1000000) :
  Calls Try.prog 18 #[.int .i64 most, .agg #[.int .i64 a, .int .i64 b]] w fun e w' => e = .returned (.bool (decide (b - a ≤ most))) ∧ Below w.heap.size w w' := by
 have hb1 := ex_alloc (Below.refl w.heap.size w) (.cells #[.int .i64 a, .int .i64 b] 23)
 go_enter Try.func18, Try.ntmps18
 go_wp2
 go_ret
 exact ⟨rfl, hb1⟩
def badE (a : Int) : Int := if a ≠ 0 then a else 2
theorem cor_bd {t : Tb} {r : Rd} {z : Rg} (ht : TbBd t) (hr : RdBd r) (hz : (-2000 ≤ z.lo ∧ z.lo ≤ 2000) ∧ (-2000 ≤ z.hi ∧ z.hi ≤ 2000)) : (-10000 ≤ (corP2 t r z).lo ∧ (corP2 t r z).lo ≤ 10000) ∧ (-10000 ≤ (corP2 t r z).hi ∧ (corP2 t r z).hi ≤ 10000) := by
 have := bnd_bd ht hr
 unfold corP2
 simp only
 omega
set_option maxRecDepth 100000 in
set_option maxHeartbeats 6400000 in
theorem sm_acc_bad (t : Tb) (Ab Ad : Option Addr) (cb cd : Nat) (Ah Ai : Option Addr) (ch ci : Nat) (h : List Rg) (l : List Ic) (r : Rd) (most : Int) (w : World) (hg : GlIn w w.heap.size t.g Ab Ad) (hh : SlAt w w.heap.size 2 Ah h.length (fR h)) (hi : SlAt w w.heap.size 3 Ai l.length (fC l)) (hhl : h.length ≤ 1000000) (hbad : askE t h l r ≠ 0 ∨ most < 0) :
  Calls Try.prog 16 #[.agg #[.int .i64 t.g.base, .slice Ab t.g.bands.length cb, .slice Ad t.g.depths.length cd, .int .i64 t.g.blo, .int .i64 t.g.bhi, .int .i64 t.k.lo, .int .i64 t.k.hi, .int .i64 t.lag.lo, .int .i64 t.lag.hi, .int .i64 t.sq.lo, .int .i64 t.sq.hi, .int .i64 t.term], .slice Ah h.length ch, .slice Ai l.length ci, .agg #[.int .i64 r.day, .int .i64 r.shown, .int .i64 r.err, .int .i64 r.bare, .int .i64 r.air.lo, .int .i64 r.air.hi, .int .i64 r.rate.lo, .int .i64 r.rate.hi, .int .i64 r.deep, .bool r.broken], .int .i64 most] w fun e w' => (∃ C, UseC C ∧ e = .returned (.tuple #[.agg C, .int .i64 (badE (askE t h l r))])) ∧ Below w.heap.size w w' := by
 by_cases ha : askE t h l r = 0
 ·
  have HA := Lib.hid ha
  have hm : most < 0 := hbad.resolve_left (by simp [ha])
  have HR : Hid (badE (askE t h l r) = 2) := Lib.hid (if_neg (by simp [ha]))
  have hm' : decide (most < 0) = true := decide_eq_true hm
  clear ha hbad
  go_enter Try.func16, Try.ntmps16
  go_upto_region 1 with fail
  show Code.wp _ _ _ _ _
  refine box3 (K := fun V => Code.wp _ _ _ _ V) ?_
  intro V hb1 q1 q2 q3
  replace hg := hg.go hb1
  replace hh := (hh.below hb1).up hb1.size
  replace hi := (hi.below hb1).up hb1.size
  obtain ⟨pq1, hpq1⟩ : ∃ p, w.heap.size = p := ⟨_, rfl⟩
  obtain ⟨pq2, hpq2⟩ : ∃ p, w.heap.size + 1 = p := ⟨_, rfl⟩
  obtain ⟨pq3, hpq3⟩ : ∃ p, w.heap.size + 1 + 1 = p := ⟨_, rfl⟩
  rw [hpq3] at q3 ⊢
  rw [hpq2] at q2 ⊢
  rw [hpq1] at q1 ⊢
  have hp1 : w.heap.size ≤ pq1 := by omega
  have hp2 : w.heap.size ≤ pq2 := by omega
  have hp3 : w.heap.size ≤ pq3 := by omega
  clear hpq1 hpq2 hpq3
  go_wp2_with (refine pause_at 15 rfl ?_)
  refine Paused.mk ?_
  refine wpList_load_row rfl 32 _ rfl _ rfl 32 _ (0, 0) _ (q1) Try.underlying32 rfl (by kernel_rfl) ?_
  go_wp2_with (refine pause_at 18 rfl ?_)
  refine Paused.mk ?_
  refine wpList_load_row rfl 37 _ rfl _ rfl 37 _ (0, 0) _ (q2) Try.underlying37 rfl (by kernel_rfl) ?_
  go_wp2_with fail
  refine (sm_ask_ok t _ _ _ _ _ _ _ _ h l r _ hg hh hi hhl HA.out).mono ?_
  rintro e V1 ⟨⟨Az, nz, zs, rfl, hz, hyo, hsz⟩, hV1⟩
  replace q1 := q1.below hV1 q1.lt
  replace q2 := q2.below hV1 q2.lt
  replace q3 := q3.below hV1 q3.lt
  replace hg := hg.go hV1
  replace hh := (hh.below hV1).up hV1.size
  replace hi := (hi.below hV1).up hV1.size
  have B_V1 := ex_trans hb1 hV1
  have NA := ex_alloc (Below.refl V1.heap.size V1) (.cells #[.int .i64 0, .slice none 0 0, .slice none 0 0, .int .i64 0, .int .i64 0, .int .i64 0, .int .i64 0, .int .i64 0, .int .i64 0, .int .i64 0, .int .i64 0, .int .i64 0, .slice none 0 0, .slice none 0 0, .slice none 0 0] 56)
  have q4 : Blk (V1.alloc (.cells #[.int .i64 0, .slice none 0 0, .slice none 0 0, .int .i64 0, .int .i64 0, .int .i64 0, .int .i64 0, .int .i64 0, .int .i64 0, .int .i64 0, .int .i64 0, .int .i64 0, .slice none 0 0, .slice none 0 0, .slice none 0 0] 56)) V1.heap.size 56 #[.int .i64 0, .slice none 0 0, .slice none 0 0, .int .i64 0, .int .i64 0, .int .i64 0, .int .i64 0, .int .i64 0, .int .i64 0, .int .i64 0, .int .i64 0, .int .i64 0, .slice none 0 0, .slice none 0 0, .slice none 0 0] := Blk.new _ _ _
  obtain ⟨p4, hp4'⟩ : ∃ p, V1.heap.size = p := ⟨_, rfl⟩
  rw [hp4'] at q4
  go_wp2_with (refine pause_store 56 rfl ?_)
  refine Paused.mk ?_
  refine wpList_store_row rfl 56 _ _ rfl _ #[.int .i64 t.g.base, .slice Ab t.g.bands.length cb, .slice Ad t.g.depths.length cd, .int .i64 t.g.blo, .int .i64 t.g.bhi, .int .i64 t.k.lo, .int .i64 t.k.hi, .int .i64 t.lag.lo, .int .i64 t.lag.hi, .int .i64 t.sq.lo, .int .i64 t.sq.hi, .int .i64 t.term, .slice Ah h.length ch, .slice Ai l.length ci, .slice Az nz nz] (by kernel_rfl) (by kernel_rfl) 56 _ q4 (by kernel_rfl) (by kernel_rfl) (by kernel_rfl) ?_
  replace q4 := q4.setRow #[.int .i64 t.g.base, .slice Ab t.g.bands.length cb, .slice Ad t.g.depths.length cd, .int .i64 t.g.blo, .int .i64 t.g.bhi, .int .i64 t.k.lo, .int .i64 t.k.hi, .int .i64 t.lag.lo, .int .i64 t.lag.hi, .int .i64 t.sq.lo, .int .i64 t.sq.hi, .int .i64 t.term, .slice Ah h.length ch, .slice Ai l.length ci, .slice Az nz nz]
  have XZ : Below V1.heap.size V1 ((V1.alloc (.cells #[.int .i64 0, .slice none 0 0, .slice none 0 0, .int .i64 0, .int .i64 0, .int .i64 0, .int .i64 0, .int .i64 0, .int .i64 0, .int .i64 0, .int .i64 0, .int .i64 0, .slice none 0 0, .slice none 0 0, .slice none 0 0] 56)).setRow p4 #[.int .i64 t.g.base, .slice Ab t.g.bands.length cb, .slice Ad t.g.depths.length cd, .int .i64 t.g.blo, .int .i64 t.g.bhi, .int .i64 t.k.lo, .int .i64 t.k.hi, .int .i64 t.lag.lo, .int .i64 t.lag.hi, .int .i64 t.sq.lo, .int .i64 t.sq.hi, .int .i64 t.term, .slice Ah h.length ch, .slice Ai l.length ci, .slice Az nz nz]) := ex_row NA (Nat.le_of_eq hp4') #[.int .i64 t.g.base, .slice Ab t.g.bands.length cb, .slice Ad t.g.depths.length cd, .int .i64 t.g.blo, .int .i64 t.g.bhi, .int .i64 t.k.lo, .int .i64 t.k.hi, .int .i64 t.lag.lo, .int .i64 t.lag.hi, .int .i64 t.sq.lo, .int .i64 t.sq.hi, .int .i64 t.term, .slice Ah h.length ch, .slice Ai l.length ci, .slice Az nz nz]
  have hp4 : w.heap.size ≤ p4 := by have := B_V1.size; omega
  clear NA hp4'
  replace q1 := q1.below XZ q1.lt
  replace q2 := q2.below XZ q2.lt
  replace q3 := q3.below XZ q3.lt
  replace hg := hg.go XZ
  replace hh := (hh.below XZ).up XZ.size
  replace hi := (hi.below XZ).up XZ.size
  have B_V2 := ex_trans B_V1 XZ
  clear XZ
  generalize (V1.alloc (.cells #[.int .i64 0, .slice none 0 0, .slice none 0 0, .int .i64 0, .int .i64 0, .int .i64 0, .int .i64 0, .int .i64 0, .int .i64 0, .int .i64 0, .int .i64 0, .int .i64 0, .slice none 0 0, .slice none 0 0, .slice none 0 0] 56)).setRow p4 #[.int .i64 t.g.base, .slice Ab t.g.bands.length cb, .slice Ad t.g.depths.length cd, .int .i64 t.g.blo, .int .i64 t.g.bhi, .int .i64 t.k.lo, .int .i64 t.k.hi, .int .i64 t.lag.lo, .int .i64 t.lag.hi, .int .i64 t.sq.lo, .int .i64 t.sq.hi, .int .i64 t.term, .slice Ah h.length ch, .slice Ai l.length ci, .slice Az nz nz] = V2 at *
  go_wp2_with (refine pause_store 56 rfl ?_)
  refine Paused.mk ?_
  refine wpList_store_row rfl 56 _ _ rfl _ #[.int .i64 0, .slice none 0 0, .slice none 0 0, .int .i64 0, .int .i64 0, .int .i64 0, .int .i64 0, .int .i64 0, .int .i64 0, .int .i64 0, .int .i64 0, .int .i64 0, .slice none 0 0, .slice none 0 0, .slice none 0 0] (by kernel_rfl) (by kernel_rfl) 56 _ q3 (by kernel_rfl) (by kernel_rfl) (by kernel_rfl) ?_
  go_wp2
  refine bodyPost_ret (results_ct_row rfl _ _ _ 56 #[.int .i64 0, .slice none 0 0, .slice none 0 0, .int .i64 0, .int .i64 0, .int .i64 0, .int .i64 0, .int .i64 0, .int .i64 0, .int .i64 0, .int .i64 0, .int .i64 0, .slice none 0 0, .slice none 0 0, .slice none 0 0] (0, 0) _ rfl (q3.setRow _) rfl rfl rfl) rfl ?_
  exact ⟨⟨_, ⟨rfl, by kernel_rfl⟩, by rw [HR.out]; rfl⟩, ex_row B_V2 hp3 _⟩
 ·
  have HA := Lib.hid ha
  have HR : Hid (badE (askE t h l r) = askE t h l r) := Lib.hid (if_pos ha)
  have e2 : (askE t h l r != 0) = true := by simp [ha]
  clear ha hbad
  go_enter Try.func16, Try.ntmps16
  go_upto_region 1 with fail
  show Code.wp _ _ _ _ _
  refine box3 (K := fun V => Code.wp _ _ _ _ V) ?_
  intro V hb1 q1 q2 q3
  replace hg := hg.go hb1
  replace hh := (hh.below hb1).up hb1.size
  replace hi := (hi.below hb1).up hb1.size
  obtain ⟨pq1, hpq1⟩ : ∃ p, w.heap.size = p := ⟨_, rfl⟩
  obtain ⟨pq2, hpq2⟩ : ∃ p, w.heap.size + 1 = p := ⟨_, rfl⟩
  obtain ⟨pq3, hpq3⟩ : ∃ p, w.heap.size + 1 + 1 = p := ⟨_, rfl⟩
  rw [hpq3] at q3 ⊢
  rw [hpq2] at q2 ⊢
  rw [hpq1] at q1 ⊢
  have hp1 : w.heap.size ≤ pq1 := by omega
  have hp2 : w.heap.size ≤ pq2 := by omega
  have hp3 : w.heap.size ≤ pq3 := by omega
  clear hpq1 hpq2 hpq3
  go_wp2_with (refine pause_at 15 rfl ?_)
  refine Paused.mk ?_
  refine wpList_load_row rfl 32 _ rfl _ rfl 32 _ (0, 0) _ (q1) Try.underlying32 rfl (by kernel_rfl) ?_
  go_wp2_with (refine pause_at 18 rfl ?_)
  refine Paused.mk ?_
  refine wpList_load_row rfl 37 _ rfl _ rfl 37 _ (0, 0) _ (q2) Try.underlying37 rfl (by kernel_rfl) ?_
  go_wp2_with fail
  refine (sm_ask_bad t _ _ _ _ _ _ _ _ h l r _ hg hh hi hhl HA.out).mono ?_
  rintro e V3 ⟨⟨C, hC, rfl⟩, hV3⟩
  replace q1 := q1.below hV3 q1.lt
  replace q2 := q2.below hV3 q2.lt
  replace q3 := q3.below hV3 q3.lt
  replace hg := hg.go hV3
  replace hh := (hh.below hV3).up hV3.size
  replace hi := (hi.below hV3).up hV3.size
  have B_V3 := ex_trans hb1 hV3
  have NA := ex_alloc (Below.refl V3.heap.size V3) (.cells #[.int .i64 0, .slice none 0 0, .slice none 0 0, .int .i64 0, .int .i64 0, .int .i64 0, .int .i64 0, .int .i64 0, .int .i64 0, .int .i64 0, .int .i64 0, .int .i64 0, .slice none 0 0, .slice none 0 0, .slice none 0 0] 56)
  have q4 : Blk (V3.alloc (.cells #[.int .i64 0, .slice none 0 0, .slice none 0 0, .int .i64 0, .int .i64 0, .int .i64 0, .int .i64 0, .int .i64 0, .int .i64 0, .int .i64 0, .int .i64 0, .int .i64 0, .slice none 0 0, .slice none 0 0, .slice none 0 0] 56)) V3.heap.size 56 #[.int .i64 0, .slice none 0 0, .slice none 0 0, .int .i64 0, .int .i64 0, .int .i64 0, .int .i64 0, .int .i64 0, .int .i64 0, .int .i64 0, .int .i64 0, .int .i64 0, .slice none 0 0, .slice none 0 0, .slice none 0 0] := Blk.new _ _ _
  obtain ⟨p4, hp4'⟩ : ∃ p, V3.heap.size = p := ⟨_, rfl⟩
  rw [hp4'] at q4
  go_wp2_with (refine pause_store 56 rfl ?_)
  refine Paused.mk ?_
  refine wpList_store_row rfl 56 _ _ rfl _ C (by kernel_rfl) (by kernel_rfl) 56 _ q4 (by rw [hC.size]; kernel_rfl) (by rw [hC.size]; rfl) hC.one ?_
  replace q4 := q4.setRow C
  have XZ : Below V3.heap.size V3 ((V3.alloc (.cells #[.int .i64 0, .slice none 0 0, .slice none 0 0, .int .i64 0, .int .i64 0, .int .i64 0, .int .i64 0, .int .i64 0, .int .i64 0, .int .i64 0, .int .i64 0, .int .i64 0, .slice none 0 0, .slice none 0 0, .slice none 0 0] 56)).setRow p4 C) := ex_row NA (Nat.le_of_eq hp4') C
  have hp4 : w.heap.size ≤ p4 := by have := B_V3.size; omega
  clear NA hp4'
  replace q1 := q1.below XZ q1.lt
  replace q2 := q2.below XZ q2.lt
  replace q3 := q3.below XZ q3.lt
  replace hg := hg.go XZ
  replace hh := (hh.below XZ).up XZ.size
  replace hi := (hi.below XZ).up XZ.size
  have B_V4 := ex_trans B_V3 XZ
  clear XZ
  generalize (V3.alloc (.cells #[.int .i64 0, .slice none 0 0, .slice none 0 0, .int .i64 0, .int .i64 0, .int .i64 0, .int .i64 0, .int .i64 0, .int .i64 0, .int .i64 0, .int .i64 0, .int .i64 0, .slice none 0 0, .slice none 0 0, .slice none 0 0] 56)).setRow p4 C = V4 at *
  go_wp2_with (refine pause_store 56 rfl ?_)
  refine Paused.mk ?_
  refine wpList_store_row rfl 56 _ _ rfl _ #[.int .i64 0, .slice none 0 0, .slice none 0 0, .int .i64 0, .int .i64 0, .int .i64 0, .int .i64 0, .int .i64 0, .int .i64 0, .int .i64 0, .int .i64 0, .int .i64 0, .slice none 0 0, .slice none 0 0, .slice none 0 0] (by kernel_rfl) (by kernel_rfl) 56 _ q3 (by kernel_rfl) (by kernel_rfl) (by kernel_rfl) ?_
  go_wp2
  refine bodyPost_ret (results_ct_row rfl _ _ _ 56 #[.int .i64 0, .slice none 0 0, .slice none 0 0, .int .i64 0, .int .i64 0, .int .i64 0, .int .i64 0, .int .i64 0, .int .i64 0, .int .i64 0, .int .i64 0, .int .i64 0, .slice none 0 0, .slice none 0 0, .slice none 0 0] (0, 0) _ rfl (q3.setRow _) rfl rfl rfl) rfl ?_
  exact ⟨⟨_, ⟨rfl, by kernel_rfl⟩, by rw [HR.out]; rfl⟩, ex_row B_V4 hp3 _⟩
set_option maxRecDepth 100000 in
set_option maxHeartbeats 6400000 in
theorem sm_acc_ok (t : Tb) (Ab Ad : Option Addr) (cb cd : Nat) (Ah Ai : Option Addr) (ch ci : Nat) (h : List Rg) (l : List Ic) (r : Rd) (most : Int) (w : World) (hg : GlIn w w.heap.size t.g Ab Ad) (hh : SlAt w w.heap.size 2 Ah h.length (fR h)) (hi : SlAt w w.heap.size 3 Ai l.length (fC l)) (hhl : h.length ≤ 1000000) (ha : askE t h l r = 0) (hm : 0 ≤ most) :
  Calls Try.prog 16 #[.agg #[.int .i64 t.g.base, .slice Ab t.g.bands.length cb, .slice Ad t.g.depths.length cd, .int .i64 t.g.blo, .int .i64 t.g.bhi, .int .i64 t.k.lo, .int .i64 t.k.hi, .int .i64 t.lag.lo, .int .i64 t.lag.hi, .int .i64 t.sq.lo, .int .i64 t.sq.hi, .int .i64 t.term], .slice Ah h.length ch, .slice Ai l.length ci, .agg #[.int .i64 r.day, .int .i64 r.shown, .int .i64 r.err, .int .i64 r.bare, .int .i64 r.air.lo, .int .i64 r.air.hi, .int .i64 r.rate.lo, .int .i64 r.rate.hi, .int .i64 r.deep, .bool r.broken], .int .i64 most] w fun e w' => (∃ Az nz zs, e = .returned (.tuple #[.agg #[.int .i64 t.g.base, .slice Ab t.g.bands.length cb, .slice Ad t.g.depths.length cd, .int .i64 t.g.blo, .int .i64 t.g.bhi, .int .i64 t.k.lo, .int .i64 t.k.hi, .int .i64 t.lag.lo, .int .i64 t.lag.hi, .int .i64 t.sq.lo, .int .i64 t.sq.hi, .int .i64 t.term, .slice Ah h.length ch, .slice Ai l.length ci, .slice Az nz nz], .int .i64 (refE t l r (agreeB t.g h l off0))]) ∧ Hid (UseV t h l nz zs) ∧ Hid (YoungAt Az w.heap.size) ∧ SlAt w' w'.heap.size 2 Az nz (fR zs)) ∧ Below w.heap.size w w' := by
 have HA := Lib.hid ha
 have HO := Lib.hid (ask_bd ha)
 have hm' : decide (most < 0) = false := decide_eq_false (by omega)
 clear ha
 go_enter Try.func16, Try.ntmps16
 go_upto_region 1 with fail
 show Code.wp _ _ _ _ _
 refine box3 (K := fun V => Code.wp _ _ _ _ V) ?_
 intro V hb1 q1 q2 q3
 replace hg := hg.go hb1
 replace hh := (hh.below hb1).up hb1.size
 replace hi := (hi.below hb1).up hb1.size
 obtain ⟨pq1, hpq1⟩ : ∃ p, w.heap.size = p := ⟨_, rfl⟩
 obtain ⟨pq2, hpq2⟩ : ∃ p, w.heap.size + 1 = p := ⟨_, rfl⟩
 obtain ⟨pq3, hpq3⟩ : ∃ p, w.heap.size + 1 + 1 = p := ⟨_, rfl⟩
 rw [hpq3] at q3 ⊢
 rw [hpq2] at q2 ⊢
 rw [hpq1] at q1 ⊢
 have hp1 : w.heap.size ≤ pq1 := by omega
 have hp2 : w.heap.size ≤ pq2 := by omega
 have hp3 : w.heap.size ≤ pq3 := by omega
 clear hpq1 hpq2 hpq3
 go_wp2_with (refine pause_at 15 rfl ?_)
 refine Paused.mk ?_
 refine wpList_load_row rfl 32 _ rfl _ rfl 32 _ (0, 0) _ (q1) Try.underlying32 rfl (by kernel_rfl) ?_
 go_wp2_with (refine pause_at 18 rfl ?_)
 refine Paused.mk ?_
 refine wpList_load_row rfl 37 _ rfl _ rfl 37 _ (0, 0) _ (q2) Try.underlying37 rfl (by kernel_rfl) ?_
 have q3p : pq3 + 1 ≤ V.heap.size := q3.lt
 have hyV := hb1.size
 go_wp2_with fail
 refine (sm_ask_ok t _ _ _ _ _ _ _ _ h l r _ hg hh hi hhl HA.out).mono ?_
 rintro e V1 ⟨⟨Az, nz, zs, rfl, hz, hyo, hsz⟩, hV1⟩
 replace q1 := q1.below hV1 q1.lt
 replace q2 := q2.below hV1 q2.lt
 replace q3 := q3.below hV1 q3.lt
 replace hg := hg.go hV1
 replace hh := (hh.below hV1).up hV1.size
 replace hi := (hi.below hV1).up hV1.size
 have B_V1 := ex_trans hb1 hV1
 have NA := ex_alloc (Below.refl V1.heap.size V1) (.cells #[.int .i64 0, .slice none 0 0, .slice none 0 0, .int .i64 0, .int .i64 0, .int .i64 0, .int .i64 0, .int .i64 0, .int .i64 0, .int .i64 0, .int .i64 0, .int .i64 0, .slice none 0 0, .slice none 0 0, .slice none 0 0] 56)
 have q4 : Blk (V1.alloc (.cells #[.int .i64 0, .slice none 0 0, .slice none 0 0, .int .i64 0, .int .i64 0, .int .i64 0, .int .i64 0, .int .i64 0, .int .i64 0, .int .i64 0, .int .i64 0, .int .i64 0, .slice none 0 0, .slice none 0 0, .slice none 0 0] 56)) V1.heap.size 56 #[.int .i64 0, .slice none 0 0, .slice none 0 0, .int .i64 0, .int .i64 0, .int .i64 0, .int .i64 0, .int .i64 0, .int .i64 0, .int .i64 0, .int .i64 0, .int .i64 0, .slice none 0 0, .slice none 0 0, .slice none 0 0] := Blk.new _ _ _
 obtain ⟨p4, hp4'⟩ : ∃ p, V1.heap.size = p := ⟨_, rfl⟩
 rw [hp4'] at q4
 go_wp2_with (refine pause_store 56 rfl ?_)
 refine Paused.mk ?_
 refine wpList_store_row rfl 56 _ _ rfl _ #[.int .i64 t.g.base, .slice Ab t.g.bands.length cb, .slice Ad t.g.depths.length cd, .int .i64 t.g.blo, .int .i64 t.g.bhi, .int .i64 t.k.lo, .int .i64 t.k.hi, .int .i64 t.lag.lo, .int .i64 t.lag.hi, .int .i64 t.sq.lo, .int .i64 t.sq.hi, .int .i64 t.term, .slice Ah h.length ch, .slice Ai l.length ci, .slice Az nz nz] (by kernel_rfl) (by kernel_rfl) 56 _ q4 (by kernel_rfl) (by kernel_rfl) (by kernel_rfl) ?_
 replace q4 := q4.setRow #[.int .i64 t.g.base, .slice Ab t.g.bands.length cb, .slice Ad t.g.depths.length cd, .int .i64 t.g.blo, .int .i64 t.g.bhi, .int .i64 t.k.lo, .int .i64 t.k.hi, .int .i64 t.lag.lo, .int .i64 t.lag.hi, .int .i64 t.sq.lo, .int .i64 t.sq.hi, .int .i64 t.term, .slice Ah h.length ch, .slice Ai l.length ci, .slice Az nz nz]
 have XZ : Below V1.heap.size V1 ((V1.alloc (.cells #[.int .i64 0, .slice none 0 0, .slice none 0 0, .int .i64 0, .int .i64 0, .int .i64 0, .int .i64 0, .int .i64 0, .int .i64 0, .int .i64 0, .int .i64 0, .int .i64 0, .slice none 0 0, .slice none 0 0, .slice none 0 0] 56)).setRow p4 #[.int .i64 t.g.base, .slice Ab t.g.bands.length cb, .slice Ad t.g.depths.length cd, .int .i64 t.g.blo, .int .i64 t.g.bhi, .int .i64 t.k.lo, .int .i64 t.k.hi, .int .i64 t.lag.lo, .int .i64 t.lag.hi, .int .i64 t.sq.lo, .int .i64 t.sq.hi, .int .i64 t.term, .slice Ah h.length ch, .slice Ai l.length ci, .slice Az nz nz]) := ex_row NA (Nat.le_of_eq hp4') #[.int .i64 t.g.base, .slice Ab t.g.bands.length cb, .slice Ad t.g.depths.length cd, .int .i64 t.g.blo, .int .i64 t.g.bhi, .int .i64 t.k.lo, .int .i64 t.k.hi, .int .i64 t.lag.lo, .int .i64 t.lag.hi, .int .i64 t.sq.lo, .int .i64 t.sq.hi, .int .i64 t.term, .slice Ah h.length ch, .slice Ai l.length ci, .slice Az nz nz]
 have hp4 : w.heap.size ≤ p4 := by have := B_V1.size; omega
 clear NA hp4'
 replace q1 := q1.below XZ q1.lt
 replace q2 := q2.below XZ q2.lt
 replace q3 := q3.below XZ q3.lt
 replace hg := hg.go XZ
 replace hh := (hh.below XZ).up XZ.size
 replace hi := (hi.below XZ).up XZ.size
 replace hsz := (hsz.below XZ).up XZ.size
 have B_V2 := ex_trans B_V1 XZ
 clear XZ
 generalize (V1.alloc (.cells #[.int .i64 0, .slice none 0 0, .slice none 0 0, .int .i64 0, .int .i64 0, .int .i64 0, .int .i64 0, .int .i64 0, .int .i64 0, .int .i64 0, .int .i64 0, .int .i64 0, .slice none 0 0, .slice none 0 0, .slice none 0 0] 56)).setRow p4 #[.int .i64 t.g.base, .slice Ab t.g.bands.length cb, .slice Ad t.g.depths.length cd, .int .i64 t.g.blo, .int .i64 t.g.bhi, .int .i64 t.k.lo, .int .i64 t.k.hi, .int .i64 t.lag.lo, .int .i64 t.lag.hi, .int .i64 t.sq.lo, .int .i64 t.sq.hi, .int .i64 t.term, .slice Ah h.length ch, .slice Ai l.length ci, .slice Az nz nz] = V2 at *
 obtain ⟨k, hk, hkl⟩ := HO.out.day
 have hd : 0 ≤ r.day ∧ r.day ≤ 1000000 := by omega
 have hnz := use_le hz.out
 have h8 := HO.out.l8
 have HG := Lib.hid (use_ag hz.out HO.out.ok.nh.1)
 clear hk
 go_wp2_with fail
 refine wp_region_ext_mix 4 [(false, 0), (false, 1), (false, 2), (true, 3)] (by kernel_rfl) (by kernel_rfl) (by intro d _ _ _ _ h; cases d <;> exact h) ?_
 have D0 := (Below.refl V2.heap.size V2).drew
 refine mix_quiet rfl ?_
 refine wpQuiet_load_row rfl 56 _ rfl _ rfl 56 _ (0, 0) _ q4.ex Try.underlying56 rfl (by kernel_rfl) ?_
 simp only [Act.put, List.setIfInBounds_toArray, List.set_cons_zero, List.set_cons_succ]
 refine wpQuiet_nil ?_
 refine mix_quiet rfl ?_
 refine wpQuiet_load_row rfl 56 _ rfl _ rfl 56 _ (0, 0) _ q4.ex Try.underlying56 rfl (by kernel_rfl) ?_
 simp only [Act.put, List.setIfInBounds_toArray, List.set_cons_zero, List.set_cons_succ]
 refine wpQuiet_nil ?_
 refine mix_quiet rfl ?_
 refine wpQuiet_load_row rfl 37 _ rfl _ rfl 37 _ (0, 0) _ q2.ex Try.underlying37 rfl (by kernel_rfl) ?_
 simp only [Act.put, List.setIfInBounds_toArray, List.set_cons_zero, List.set_cons_succ]
 refine wpQuiet_nil ?_
 refine mix_loud rfl ?_
 go_wp2_with fail
 refine (sm_refused t Ab Ad Ah Ai Az cb cd ch ci nz nz h l r V2.drew (hi.go D0) (by omega) hd (by omega)).mono ?_
 rintro e Y ⟨rfl, hY⟩
 rw [HG.out]
 have XY := ex_trans D0 hY
 go_wp2_with fail
 refine ⟨inEx XY, ?_⟩
 refine mix_nil (r := [_, _]) rfl ?_
 replace q3 := q3.below XY q3.lt
 have hsz2 := hsz.go XY
 go_wp2_with (refine pause_store 56 rfl ?_)
 refine Paused.mk ?_
 refine wpList_store_row rfl 56 _ _ rfl _ #[.int .i64 t.g.base, .slice Ab t.g.bands.length cb, .slice Ad t.g.depths.length cd, .int .i64 t.g.blo, .int .i64 t.g.bhi, .int .i64 t.k.lo, .int .i64 t.k.hi, .int .i64 t.lag.lo, .int .i64 t.lag.hi, .int .i64 t.sq.lo, .int .i64 t.sq.hi, .int .i64 t.term, .slice Ah h.length ch, .slice Ai l.length ci, .slice Az nz nz] (by kernel_rfl) (by kernel_rfl) 56 _ q3 (by kernel_rfl) (by kernel_rfl) (by kernel_rfl) ?_
 go_wp2
 refine bodyPost_ret (results_ct_row rfl _ _ _ 56 #[.int .i64 t.g.base, .slice Ab t.g.bands.length cb, .slice Ad t.g.depths.length cd, .int .i64 t.g.blo, .int .i64 t.g.bhi, .int .i64 t.k.lo, .int .i64 t.k.hi, .int .i64 t.lag.lo, .int .i64 t.lag.hi, .int .i64 t.sq.lo, .int .i64 t.sq.hi, .int .i64 t.term, .slice Ah h.length ch, .slice Ai l.length ci, .slice Az nz nz] (0, 0) _ rfl (q3.setRow _) rfl rfl rfl) rfl ?_
 exact ⟨⟨Az, nz, zs, rfl, hz, Lib.hid (hyo.out.mono hyV), hsz2.offRow (hyo.out.mono q3p) _⟩, ex_row (ex_trans B_V2 XY) hp3 _⟩

end Go.Proofs.Ytkaogjhnogkcdaa
end

section
namespace Go.Proofs.Ytkaogjhnogkcdaa
open Go.RowKit
attribute [local go_sem] Ex.cell? Ex.frozen?

noncomputable def accE (t : Tb) (h : List Rg) (l : List Ic) (r : Rd) (most : Int) : Int := if askE t h l r ≠ 0 ∨ most < 0 then badE (askE t h l r) else refE t l r (agreeB t.g h l off0)
def AccV (t : Tb) (h : List Rg) (l : List Ic) (r : Rd) (most : Int) (R : Rg) (ev : Int) : Prop :=
  (accE t h l r most ≠ 0 ∧ ev = accE t h l r most ∧ R = ⟨0, 0⟩) ∨ (accE t h l r most = 0 ∧ 0 ≤ most ∧ askE t h l r = 0 ∧ refE t l r (agreeB t.g h l off0) = 0 ∧ ∃ zs, ZsOf t.g h l zs ∧ (((corP2 t r (gR zs r.day.toNat)).hi - (corP2 t r (gR zs r.day.toNat)).lo ≤ most ∧ ev = 0 ∧ R = corP2 t r (gR zs r.day.toNat)) ∨ (most < (corP2 t r (gR zs r.day.toNat)).hi - (corP2 t r (gR zs r.day.toNat)).lo ∧ ev = 10 ∧ R = ⟨0, 0⟩)))
theorem bad_ne {a most : Int} (h : a ≠ 0 ∨ most < 0) : badE a ≠ 0 := by
  unfold badE
  split
  · assumption
  · omega
theorem acc_1 {t : Tb} {h : List Rg} {l : List Ic} {r : Rd} {most : Int} (hb : askE t h l r ≠ 0 ∨ most < 0) : accE t h l r most = badE (askE t h l r) ∧ accE t h l r most ≠ 0 := by
  have e : accE t h l r most = badE (askE t h l r) := if_pos hb
  exact ⟨e, by rw [e]; exact bad_ne hb⟩
theorem acc_2 {t : Tb} {h : List Rg} {l : List Ic} {r : Rd} {most : Int} (ha : askE t h l r = 0) (hm : 0 ≤ most) : accE t h l r most = refE t l r (agreeB t.g h l off0) := if_neg (by rintro (h | h); exact h ha; omega)
theorem accV_no {t : Tb} {h : List Rg} {l : List Ic} {r : Rd} {most : Int} (hb : accE t h l r most ≠ 0) : AccV t h l r most ⟨0, 0⟩ (accE t h l r most) := .inl ⟨hb, rfl, rfl⟩
set_option maxRecDepth 100000 in
set_option maxHeartbeats 6400000 in
theorem Accept_v (t : Tb) (Ab Ad : Option Addr) (cb cd : Nat) (Ah Ai : Option Addr) (ch ci : Nat) (h : List Rg) (l : List Ic) (r : Rd) (most : Int) (w : World) (hg : GlIn w w.heap.size t.g Ab Ad) (hh : SlAt w w.heap.size 2 Ah h.length (fR h)) (hi : SlAt w w.heap.size 3 Ai l.length (fC l)) (hhl : h.length ≤ 1000000) :
    Calls Try.prog 4 #[.agg #[.int .i64 t.g.base, .slice Ab t.g.bands.length cb, .slice Ad t.g.depths.length cd, .int .i64 t.g.blo, .int .i64 t.g.bhi, .int .i64 t.k.lo, .int .i64 t.k.hi, .int .i64 t.lag.lo, .int .i64 t.lag.hi, .int .i64 t.sq.lo, .int .i64 t.sq.hi, .int .i64 t.term], .slice Ah h.length ch, .slice Ai l.length ci, .agg #[.int .i64 r.day, .int .i64 r.shown, .int .i64 r.err, .int .i64 r.bare, .int .i64 r.air.lo, .int .i64 r.air.hi, .int .i64 r.rate.lo, .int .i64 r.rate.hi, .int .i64 r.deep, .bool r.broken], .int .i64 most] w fun e w' => (∃ R ev, e = .returned (.tuple #[.agg #[.int .i64 (R : Rg).lo, .int .i64 R.hi], .int .i64 ev]) ∧ Hid (AccV t h l r most R ev)) ∧ Below w.heap.size w w' := by
  by_cases hb : askE t h l r ≠ 0 ∨ most < 0
  · have HB := Lib.hid hb
    have HR := Lib.hid (accV_no (acc_1 hb).2)
    have e0 := (acc_1 hb).1
    rw [e0] at HR
    have e1 : (badE (askE t h l r) != 0) = true := by simp [bad_ne hb]
    clear hb e0
    go_enter Try.func4, Try.ntmps4
    go_upto_region 1 with fail
    show Code.wp _ _ _ _ _
    refine box3 (K := fun V => Code.wp _ _ _ _ V) ?_
    intro V hb1 q1 q2 q3
    replace hg := hg.go hb1
    replace hh := (hh.below hb1).up hb1.size
    replace hi := (hi.below hb1).up hb1.size
    obtain ⟨pq1, hpq1⟩ : ∃ p, w.heap.size = p := ⟨_, rfl⟩
    obtain ⟨pq2, hpq2⟩ : ∃ p, w.heap.size + 1 = p := ⟨_, rfl⟩
    obtain ⟨pq3, hpq3⟩ : ∃ p, w.heap.size + 1 + 1 = p := ⟨_, rfl⟩
    rw [hpq3] at q3 ⊢
    rw [hpq2] at q2 ⊢
    rw [hpq1] at q1 ⊢
    have hp1 : w.heap.size ≤ pq1 := by omega
    have hp2 : w.heap.size ≤ pq2 := by omega
    have hp3 : w.heap.size ≤ pq3 := by omega
    clear hpq1 hpq2 hpq3
    go_wp2_with (refine pause_at 16 rfl ?_)
    refine Paused.mk ?_
    refine wpList_load_row rfl 32 _ rfl _ rfl 32 _ (0, 0) _ (q1) Try.underlying32 rfl (by kernel_rfl) ?_
    go_wp2_with (refine pause_at 19 rfl ?_)
    refine Paused.mk ?_
    refine wpList_load_row rfl 37 _ rfl _ rfl 37 _ (0, 0) _ (q2) Try.underlying37 rfl (by kernel_rfl) ?_
    go_wp2_with fail
    refine (sm_acc_bad t _ _ _ _ _ _ _ _ h l r most _ hg hh hi hhl HB.out).mono ?_
    rintro e V1 ⟨⟨C, hC, rfl⟩, hV1⟩
    replace q1 := q1.below hV1 q1.lt
    replace q2 := q2.below hV1 q2.lt
    replace q3 := q3.below hV1 q3.lt
    replace hg := hg.go hV1
    replace hh := (hh.below hV1).up hV1.size
    replace hi := (hi.below hV1).up hV1.size
    have B_V1 := ex_trans hb1 hV1
    have NA := ex_alloc (Below.refl V1.heap.size V1) (.cells #[.int .i64 0, .slice none 0 0, .slice none 0 0, .int .i64 0, .int .i64 0, .int .i64 0, .int .i64 0, .int .i64 0, .int .i64 0, .int .i64 0, .int .i64 0, .int .i64 0, .slice none 0 0, .slice none 0 0, .slice none 0 0] 56)
    have q4 : Blk (V1.alloc (.cells #[.int .i64 0, .slice none 0 0, .slice none 0 0, .int .i64 0, .int .i64 0, .int .i64 0, .int .i64 0, .int .i64 0, .int .i64 0, .int .i64 0, .int .i64 0, .int .i64 0, .slice none 0 0, .slice none 0 0, .slice none 0 0] 56)) V1.heap.size 56 #[.int .i64 0, .slice none 0 0, .slice none 0 0, .int .i64 0, .int .i64 0, .int .i64 0, .int .i64 0, .int .i64 0, .int .i64 0, .int .i64 0, .int .i64 0, .int .i64 0, .slice none 0 0, .slice none 0 0, .slice none 0 0] := Blk.new _ _ _
    obtain ⟨p4, hp4'⟩ : ∃ p, V1.heap.size = p := ⟨_, rfl⟩
    rw [hp4'] at q4
    go_wp2_with (refine pause_store 56 rfl ?_)
    refine Paused.mk ?_
    refine wpList_store_row rfl 56 _ _ rfl _ C (by kernel_rfl) (by kernel_rfl) 56 _ q4 (by rw [hC.size]; kernel_rfl) (by rw [hC.size]; rfl) hC.one ?_
    replace q4 := q4.setRow C
    have XZ : Below V1.heap.size V1 ((V1.alloc (.cells #[.int .i64 0, .slice none 0 0, .slice none 0 0, .int .i64 0, .int .i64 0, .int .i64 0, .int .i64 0, .int .i64 0, .int .i64 0, .int .i64 0, .int .i64 0, .int .i64 0, .slice none 0 0, .slice none 0 0, .slice none 0 0] 56)).setRow p4 C) := ex_row NA (Nat.le_of_eq hp4') C
    have hp4 : w.heap.size ≤ p4 := by have := B_V1.size; omega
    clear NA hp4'
    replace q1 := q1.below XZ q1.lt
    replace q2 := q2.below XZ q2.lt
    replace q3 := q3.below XZ q3.lt
    replace hg := hg.go XZ
    replace hh := (hh.below XZ).up XZ.size
    replace hi := (hi.below XZ).up XZ.size
    have B_V2 := ex_trans B_V1 XZ
    clear XZ
    generalize (V1.alloc (.cells #[.int .i64 0, .slice none 0 0, .slice none 0 0, .int .i64 0, .int .i64 0, .int .i64 0, .int .i64 0, .int .i64 0, .int .i64 0, .int .i64 0, .int .i64 0, .int .i64 0, .slice none 0 0, .slice none 0 0, .slice none 0 0] 56)).setRow p4 C = V2 at *
    have r0 := q3.cell 0
    have r1 := q3.cell 1
    have fr := q3.frozen0
    have lr := q3.lt
    simp at r0 r1
    have m3 := (q3.set_ 0 (.int .i64 (0))).set_ 1 (.int .i64 (0))
    simp only [List.setIfInBounds_toArray, List.set_cons_zero, List.set_cons_succ] at m3
    go_wp2
    refine bodyPost_ret (results_ct_row rfl _ _ _ 23 #[.int .i64 (0), .int .i64 (0)] (0, 0) _ rfl m3 rfl rfl rfl) rfl ?_
    exact ⟨⟨⟨0, 0⟩, _, rfl, HR⟩, ex_set (p := ⟨pq3, 1, none⟩) (ex_set (p := ⟨pq3, 0, none⟩) B_V2 hp3 _) hp3 _⟩
  · have ha : askE t h l r = 0 := Classical.byContradiction fun e => hb (.inl e)
    have hm : 0 ≤ most := by have : ¬ most < 0 := fun e => hb (.inr e); omega
    have HA := Lib.hid ha
    have HO := Lib.hid (ask_bd ha)
    have HE := Lib.hid (acc_2 ha hm)
    clear ha hb
    go_enter Try.func4, Try.ntmps4
    go_upto_region 1 with fail
    show Code.wp _ _ _ _ _
    refine box3 (K := fun V => Code.wp _ _ _ _ V) ?_
    intro V hb1 q1 q2 q3
    replace hg := hg.go hb1
    replace hh := (hh.below hb1).up hb1.size
    replace hi := (hi.below hb1).up hb1.size
    obtain ⟨pq1, hpq1⟩ : ∃ p, w.heap.size = p := ⟨_, rfl⟩
    obtain ⟨pq2, hpq2⟩ : ∃ p, w.heap.size + 1 = p := ⟨_, rfl⟩
    obtain ⟨pq3, hpq3⟩ : ∃ p, w.heap.size + 1 + 1 = p := ⟨_, rfl⟩
    rw [hpq3] at q3 ⊢
    rw [hpq2] at q2 ⊢
    rw [hpq1] at q1 ⊢
    have hp1 : w.heap.size ≤ pq1 := by omega
    have hp2 : w.heap.size ≤ pq2 := by omega
    have hp3 : w.heap.size ≤ pq3 := by omega
    clear hpq1 hpq2 hpq3
    go_wp2_with (refine pause_at 16 rfl ?_)
    refine Paused.mk ?_
    refine wpList_load_row rfl 32 _ rfl _ rfl 32 _ (0, 0) _ (q1) Try.underlying32 rfl (by kernel_rfl) ?_
    go_wp2_with (refine pause_at 19 rfl ?_)
    refine Paused.mk ?_
    refine wpList_load_row rfl 37 _ rfl _ rfl 37 _ (0, 0) _ (q2) Try.underlying37 rfl (by kernel_rfl) ?_
    go_wp2_with fail
    refine (sm_acc_ok t _ _ _ _ _ _ _ _ h l r most _ hg hh hi hhl HA.out hm).mono ?_
    rintro e V3 ⟨⟨Az, nz, zs, rfl, hz, hyo, hsz⟩, hV3⟩
    replace q1 := q1.below hV3 q1.lt
    replace q2 := q2.below hV3 q2.lt
    replace q3 := q3.below hV3 q3.lt
    replace hg := hg.go hV3
    replace hh := (hh.below hV3).up hV3.size
    replace hi := (hi.below hV3).up hV3.size
    have B_V3 := ex_trans hb1 hV3
    have NA := ex_alloc (Below.refl V3.heap.size V3) (.cells #[.int .i64 0, .slice none 0 0, .slice none 0 0, .int .i64 0, .int .i64 0, .int .i64 0, .int .i64 0, .int .i64 0, .int .i64 0, .int .i64 0, .int .i64 0, .int .i64 0, .slice none 0 0, .slice none 0 0, .slice none 0 0] 56)
    have q4 : Blk (V3.alloc (.cells #[.int .i64 0, .slice none 0 0, .slice none 0 0, .int .i64 0, .int .i64 0, .int .i64 0, .int .i64 0, .int .i64 0, .int .i64 0, .int .i64 0, .int .i64 0, .int .i64 0, .slice none 0 0, .slice none 0 0, .slice none 0 0] 56)) V3.heap.size 56 #[.int .i64 0, .slice none 0 0, .slice none 0 0, .int .i64 0, .int .i64 0, .int .i64 0, .int .i64 0, .int .i64 0, .int .i64 0, .int .i64 0, .int .i64 0, .int .i64 0, .slice none 0 0, .slice none 0 0, .slice none 0 0] := Blk.new _ _ _
    obtain ⟨p4, hp4'⟩ : ∃ p, V3.heap.size = p := ⟨_, rfl⟩
    rw [hp4'] at q4
    go_wp2_with (refine pause_store 56 rfl ?_)
    refine Paused.mk ?_
    refine wpList_store_row rfl 56 _ _ rfl _ #[.int .i64 t.g.base, .slice Ab t.g.bands.length cb, .slice Ad t.g.depths.length cd, .int .i64 t.g.blo, .int .i64 t.g.bhi, .int .i64 t.k.lo, .int .i64 t.k.hi, .int .i64 t.lag.lo, .int .i64 t.lag.hi, .int .i64 t.sq.lo, .int .i64 t.sq.hi, .int .i64 t.term, .slice Ah h.length ch, .slice Ai l.length ci, .slice Az nz nz] (by kernel_rfl) (by kernel_rfl) 56 _ q4 (by kernel_rfl) (by kernel_rfl) (by kernel_rfl) ?_
    replace q4 := q4.setRow #[.int .i64 t.g.base, .slice Ab t.g.bands.length cb, .slice Ad t.g.depths.length cd, .int .i64 t.g.blo, .int .i64 t.g.bhi, .int .i64 t.k.lo, .int .i64 t.k.hi, .int .i64 t.lag.lo, .int .i64 t.lag.hi, .int .i64 t.sq.lo, .int .i64 t.sq.hi, .int .i64 t.term, .slice Ah h.length ch, .slice Ai l.length ci, .slice Az nz nz]
    have XZ : Below V3.heap.size V3 ((V3.alloc (.cells #[.int .i64 0, .slice none 0 0, .slice none 0 0, .int .i64 0, .int .i64 0, .int .i64 0, .int .i64 0, .int .i64 0, .int .i64 0, .int .i64 0, .int .i64 0, .int .i64 0, .slice none 0 0, .slice none 0 0, .slice none 0 0] 56)).setRow p4 #[.int .i64 t.g.base, .slice Ab t.g.bands.length cb, .slice Ad t.g.depths.length cd, .int .i64 t.g.blo, .int .i64 t.g.bhi, .int .i64 t.k.lo, .int .i64 t.k.hi, .int .i64 t.lag.lo, .int .i64 t.lag.hi, .int .i64 t.sq.lo, .int .i64 t.sq.hi, .int .i64 t.term, .slice Ah h.length ch, .slice Ai l.length ci, .slice Az nz nz]) := ex_row NA (Nat.le_of_eq hp4') #[.int .i64 t.g.base, .slice Ab t.g.bands.length cb, .slice Ad t.g.depths.length cd, .int .i64 t.g.blo, .int .i64 t.g.bhi, .int .i64 t.k.lo, .int .i64 t.k.hi, .int .i64 t.lag.lo, .int .i64 t.lag.hi, .int .i64 t.sq.lo, .int .i64 t.sq.hi, .int .i64 t.term, .slice Ah h.length ch, .slice Ai l.length ci, .slice Az nz nz]
    have hp4 : w.heap.size ≤ p4 := by have := B_V3.size; omega
    clear NA hp4'
    replace q1 := q1.below XZ q1.lt
    replace q2 := q2.below XZ q2.lt
    replace q3 := q3.below XZ q3.lt
    replace hg := hg.go XZ
    replace hh := (hh.below XZ).up XZ.size
    replace hi := (hi.below XZ).up XZ.size
    replace hsz := (hsz.below XZ).up XZ.size
    have B_V4 := ex_trans B_V3 XZ
    clear XZ
    generalize (V3.alloc (.cells #[.int .i64 0, .slice none 0 0, .slice none 0 0, .int .i64 0, .int .i64 0, .int .i64 0, .int .i64 0, .int .i64 0, .int .i64 0, .int .i64 0, .int .i64 0, .int .i64 0, .slice none 0 0, .slice none 0 0, .slice none 0 0] 56)).setRow p4 #[.int .i64 t.g.base, .slice Ab t.g.bands.length cb, .slice Ad t.g.depths.length cd, .int .i64 t.g.blo, .int .i64 t.g.bhi, .int .i64 t.k.lo, .int .i64 t.k.hi, .int .i64 t.lag.lo, .int .i64 t.lag.hi, .int .i64 t.sq.lo, .int .i64 t.sq.hi, .int .i64 t.term, .slice Ah h.length ch, .slice Ai l.length ci, .slice Az nz nz] = V4 at *
    by_cases hr : refE t l r (agreeB t.g h l off0) = 0
    · have HR := Lib.hid hr
      rw [hr]
      clear hr
      have HAG := Lib.hid (ref_ag HR.out)
      have HZ : Hid (nz = h.length ∧ ZsOf t.g h l zs) := Lib.hid (by
        rcases hz.out with ⟨a, _⟩ | ⟨_, b, c⟩
        · rw [HAG.out] at a; cases a
        · exact ⟨b, c⟩)
      obtain ⟨k, hk, hkl⟩ := HO.out.day
      have HK := Lib.hid hk
      have HKT : Hid (r.day.toNat = k) := Lib.hid (by omega)
      clear hk
      have hkn : k < nz := by rw [HZ.out.1]; exact hkl
      have HBB : ZsBd nz zs := by rw [HZ.out.1]; exact zs_bd HO.out.ok HZ.out.2
      have hnz := use_le hz.out
      have hbb := cor_bd HO.out.tb HO.out.rd (HBB k hkn)
      go_wp2_with (refine pause_at 28 rfl ?_)
      refine Paused.mk ?_
      refine wpList_load_row rfl 56 _ rfl _ rfl 56 _ (0, 0) _ (q4) Try.underlying56 rfl (by kernel_rfl) ?_
      go_wp2_with (refine pause_at 29 rfl ?_)
      refine Paused.mk ?_
      refine wpList_load_row rfl 37 _ rfl _ rfl 37 _ (0, 0) _ (q2) Try.underlying37 rfl (by kernel_rfl) ?_
      go_wp2_with fail
      refine (sm_correct t Ab Ad Ah Ai Az cb cd ch ci nz nz h l r zs k _ hsz HO.out.tb HO.out.rd HK.out hkn (by omega) HBB).mono ?_
      rintro e V5 ⟨rfl, hV5⟩
      replace q1 := q1.below hV5 q1.lt
      replace q2 := q2.below hV5 q2.lt
      replace q3 := q3.below hV5 q3.lt
      replace hg := hg.go hV5
      replace hh := (hh.below hV5).up hV5.size
      replace hi := (hi.below hV5).up hV5.size
      replace hsz := (hsz.below hV5).up hV5.size
      replace q4 := q4.below hV5 q4.lt
      have B_V5 := ex_trans B_V4 hV5
      generalize hR : corP2 t r (gR zs k) = R at *
      have HRR : Hid (corP2 t r (gR zs r.day.toNat) = R) := Lib.hid (by rw [HKT.out]; exact hR)
      clear hR
      have NA := ex_alloc (Below.refl V5.heap.size V5) (.cells #[.int .i64 R.lo, .int .i64 R.hi] 23)
      have q5 : Blk (V5.alloc (.cells #[.int .i64 R.lo, .int .i64 R.hi] 23)) V5.heap.size 23 #[.int .i64 R.lo, .int .i64 R.hi] := Blk.new _ _ _
      obtain ⟨p5, hp5'⟩ : ∃ p, V5.heap.size = p := ⟨_, rfl⟩
      rw [hp5'] at q5
      go_wp2_with fail
      replace q1 := q1.below NA q1.lt
      replace q2 := q2.below NA q2.lt
      replace q3 := q3.below NA q3.lt
      replace hg := hg.go NA
      replace hh := (hh.below NA).up NA.size
      replace hi := (hi.below NA).up NA.size
      replace hsz := (hsz.below NA).up NA.size
      replace q4 := q4.below NA q4.lt
      have B_VA := ex_trans B_V5 NA
      refine (sm_enough _ _ _ _ (by omega) (by omega)).mono ?_
      rintro e VB ⟨rfl, hVB⟩
      clear hp5' NA
      generalize V5.alloc (.cells #[.int .i64 R.lo, .int .i64 R.hi] 23) = VA at *
      replace q1 := q1.below hVB q1.lt
      replace q2 := q2.below hVB q2.lt
      replace q3 := q3.below hVB q3.lt
      replace hg := hg.go hVB
      replace hh := (hh.below hVB).up hVB.size
      replace hi := (hi.below hVB).up hVB.size
      replace hsz := (hsz.below hVB).up hVB.size
      replace q4 := q4.below hVB q4.lt
      replace q5 := q5.below hVB q5.lt
      have B_VB := ex_trans B_VA hVB
      by_cases hen : R.hi - R.lo ≤ most
      · have en : decide (R.hi - R.lo ≤ most) = true := decide_eq_true hen
        have HV : Hid (AccV t h l r most R 0) := Lib.hid (.inr ⟨by rw [HE.out, HR.out], hm, HA.out, HR.out, zs, HZ.out.2, .inl (by rw [HRR.out]; exact ⟨hen, rfl, rfl⟩)⟩)
        have g0 := q5.cell 0
        have g1 := q5.cell 1
        have lg := q5.lt
        simp at g0 g1
        rw [en]
        have r0 := q3.cell 0
        have r1 := q3.cell 1
        have fr := q3.frozen0
        have lr := q3.lt
        simp at r0 r1
        have m3 := (q3.set_ 0 (.int .i64 (R.lo))).set_ 1 (.int .i64 (R.hi))
        simp only [List.setIfInBounds_toArray, List.set_cons_zero, List.set_cons_succ] at m3
        go_wp2
        refine bodyPost_ret (results_ct_row rfl _ _ _ 23 #[.int .i64 (R.lo), .int .i64 (R.hi)] (0, 0) _ rfl m3 rfl rfl rfl) rfl ?_
        exact ⟨⟨R, _, rfl, HV⟩, ex_set (p := ⟨pq3, 1, none⟩) (ex_set (p := ⟨pq3, 0, none⟩) B_VB hp3 _) hp3 _⟩
      · have en : decide (R.hi - R.lo ≤ most) = false := decide_eq_false hen
        have HV : Hid (AccV t h l r most ⟨0, 0⟩ 10) := Lib.hid (.inr ⟨by rw [HE.out, HR.out], hm, HA.out, HR.out, zs, HZ.out.2, .inr (by rw [HRR.out]; exact ⟨by omega, rfl, rfl⟩)⟩)
        rw [en]
        have r0 := q3.cell 0
        have r1 := q3.cell 1
        have fr := q3.frozen0
        have lr := q3.lt
        simp at r0 r1
        have m3 := (q3.set_ 0 (.int .i64 (0))).set_ 1 (.int .i64 (0))
        simp only [List.setIfInBounds_toArray, List.set_cons_zero, List.set_cons_succ] at m3
        go_wp2
        refine bodyPost_ret (results_ct_row rfl _ _ _ 23 #[.int .i64 (0), .int .i64 (0)] (0, 0) _ rfl m3 rfl rfl rfl) rfl ?_
        exact ⟨⟨⟨0, 0⟩, _, rfl, HV⟩, ex_set (p := ⟨pq3, 1, none⟩) (ex_set (p := ⟨pq3, 0, none⟩) B_VB hp3 _) hp3 _⟩
    · have HR : Hid (AccV t h l r most ⟨0, 0⟩ (refE t l r (agreeB t.g h l off0))) := Lib.hid (by rw [← HE.out]; exact accV_no (by rw [HE.out]; exact hr))
      obtain ⟨E, hE⟩ : ∃ E, refE t l r (agreeB t.g h l off0) = E := ⟨_, rfl⟩
      rw [hE] at hr HR ⊢
      have e1 : (E != 0) = true := by simp [hr]
      clear hE hr
      have r0 := q3.cell 0
      have r1 := q3.cell 1
      have fr := q3.frozen0
      have lr := q3.lt
      simp at r0 r1
      have m3 := (q3.set_ 0 (.int .i64 (0))).set_ 1 (.int .i64 (0))
      simp only [List.setIfInBounds_toArray, List.set_cons_zero, List.set_cons_succ] at m3
      go_wp2
      refine bodyPost_ret (results_ct_row rfl _ _ _ 23 #[.int .i64 (0), .int .i64 (0)] (0, 0) _ rfl m3 rfl rfl rfl) rfl ?_
      exact ⟨⟨⟨0, 0⟩, _, rfl, HR⟩, ex_set (p := ⟨pq3, 1, none⟩) (ex_set (p := ⟨pq3, 0, none⟩) B_V4 hp3 _) hp3 _⟩

end Go.Proofs.Ytkaogjhnogkcdaa
end

section
namespace Go.Proofs.Ytkaogjhnogkcdaa
open Go.RowKit
attribute [local go_sem] Ex.cell? Ex.frozen?

def rB (r : Rd) (n : Int) : Rd := { r with bare := n }
theorem rB_bd {r : Rd} (hr : RdBd r) {n : Int} (h0 : 0 ≤ n) (h1 : n ≤ 300) : RdBd (rB r n) := ⟨hr.shown, hr.err, ⟨h0, h1⟩, hr.air, hr.rate, hr.deep⟩
def okN (t : Tb) (r : Rd) (z : Rg) (most n : Int) : Bool := decide ((corP2 t (rB r n) z).hi - (corP2 t (rB r n) z).lo ≤ most)
def MuchIs (f : Int → Bool) (v ev : Int) : Prop := (∃ n : Int, 0 ≤ n ∧ n ≤ 300 ∧ f n = true ∧ (∀ m, n < m → m ≤ 300 → f m = false) ∧ v = n ∧ ev = 0) ∨ ((∀ m : Int, 0 ≤ m → m ≤ 300 → f m = false) ∧ v = 0 ∧ ev = 7)
def BarV (t : Tb) (h : List Rg) (l : List Ic) (r : Rd) (most v ev : Int) : Prop :=
  (accE t h l r most ≠ 0 ∧ ev = accE t h l r most ∧ v = 0) ∨ (accE t h l r most = 0 ∧ 0 ≤ most ∧ askE t h l r = 0 ∧ refE t l r (agreeB t.g h l off0) = 0 ∧ ∃ zs, ZsOf t.g h l zs ∧ MuchIs (okN t r (gR zs r.day.toNat) most) v ev)
theorem barV_no {t : Tb} {h : List Rg} {l : List Ic} {r : Rd} {most : Int} (hb : accE t h l r most ≠ 0) : BarV t h l r most 0 (accE t h l r most) := .inl ⟨hb, rfl, rfl⟩
theorem much_no {f : Int → Bool} (h : ∀ j : Int, 0 ≤ j → j ≤ 300 → f j = false) : MuchIs f 0 7 := .inr ⟨h, rfl, rfl⟩
theorem much_yes {f : Int → Bool} {n : Int} (h0 : 0 ≤ n) (h3 : n ≤ 300) (hf : f n = true) (h : ∀ j : Int, n + 1 ≤ j → j ≤ 300 → f j = false) : MuchIs f n 0 := .inl ⟨n, h0, h3, hf, fun m h1 h2 => h m (by omega) h2, rfl, rfl⟩
theorem SlAt.offCell {W : World} {sz n g i : Nat} {A : Option Addr} {f : Nat → Nat → Value} (h : SlAt W W.heap.size sz A n f) (hy : YoungAt A (g + 1)) (v : Value) : SlAt (W.setCell ⟨g, i, none⟩ v) (W.setCell ⟨g, i, none⟩ v).heap.size sz A n f := fun hn => by
  obtain ⟨b, off, e, hb, hc⟩ := h hn
  have hg := hy b off e
  exact ⟨b, off, e, by simpa using hb, fun k j hk hj => (World.cell?_of_block (Below.heap_setCell W ⟨g, i, none⟩ v b (show b ≠ g by omega))).trans (hc k j hk hj)⟩
set_option maxRecDepth 100000 in
set_option maxHeartbeats 6400000 in
theorem Bare_v (t : Tb) (Ab Ad : Option Addr) (cb cd : Nat) (Ah Ai : Option Addr) (ch ci : Nat) (h : List Rg) (l : List Ic) (r : Rd) (most : Int) (w : World) (hg : GlIn w w.heap.size t.g Ab Ad) (hh : SlAt w w.heap.size 2 Ah h.length (fR h)) (hi : SlAt w w.heap.size 3 Ai l.length (fC l)) (hhl : h.length ≤ 1000000) :
    Calls Try.prog 11 #[.agg #[.int .i64 t.g.base, .slice Ab t.g.bands.length cb, .slice Ad t.g.depths.length cd, .int .i64 t.g.blo, .int .i64 t.g.bhi, .int .i64 t.k.lo, .int .i64 t.k.hi, .int .i64 t.lag.lo, .int .i64 t.lag.hi, .int .i64 t.sq.lo, .int .i64 t.sq.hi, .int .i64 t.term], .slice Ah h.length ch, .slice Ai l.length ci, .agg #[.int .i64 r.day, .int .i64 r.shown, .int .i64 r.err, .int .i64 r.bare, .int .i64 r.air.lo, .int .i64 r.air.hi, .int .i64 r.rate.lo, .int .i64 r.rate.hi, .int .i64 r.deep, .bool r.broken], .int .i64 most] w fun e w' => (∃ v ev, e = .returned (.tuple #[.int .i64 v, .int .i64 ev]) ∧ Hid (BarV t h l r most v ev)) ∧ Below w.heap.size w w' := by
  by_cases hb : askE t h l r ≠ 0 ∨ most < 0
  · have HB := Lib.hid hb
    have HR := Lib.hid (barV_no (acc_1 hb).2)
    have e0 := (acc_1 hb).1
    rw [e0] at HR
    have e1 : (badE (askE t h l r) != 0) = true := by simp [bad_ne hb]
    clear hb e0
    go_enter Try.func11, Try.ntmps11
    go_wp2_with fail
    go_step3
    go_upto_region 1 with fail
    show Code.wp _ _ _ _ _
    refine box2 (K := fun V => Code.wp _ _ _ _ V) ?_
    intro V hb1 q1 q2
    replace hg := hg.go hb1
    replace hh := (hh.below hb1).up hb1.size
    replace hi := (hi.below hb1).up hb1.size
    obtain ⟨pq1, hpq1⟩ : ∃ p, w.heap.size = p := ⟨_, rfl⟩
    obtain ⟨pq2, hpq2⟩ : ∃ p, w.heap.size + 1 = p := ⟨_, rfl⟩
    rw [hpq2] at q2 ⊢
    rw [hpq1] at q1 ⊢
    have hp1 : w.heap.size ≤ pq1 := by omega
    have hp2 : w.heap.size ≤ pq2 := by omega
    clear hpq1 hpq2
    go_wp2_with (refine pause_at 18 rfl ?_)
    refine Paused.mk ?_
    refine wpList_load_row rfl 32 _ rfl _ rfl 32 _ (0, 0) _ (q1) Try.underlying32 rfl (by kernel_rfl) ?_
    go_wp2_with (refine pause_at 21 rfl ?_)
    refine Paused.mk ?_
    refine wpList_load_row rfl 37 _ rfl _ rfl 37 _ (0, 0) _ (q2) Try.underlying37 rfl (by kernel_rfl) ?_
    go_wp2_with fail
    refine (sm_acc_bad t _ _ _ _ _ _ _ _ h l r most _ hg hh hi hhl HB.out).mono ?_
    rintro e V1 ⟨⟨C, hC, rfl⟩, hV1⟩
    replace q1 := q1.below hV1 q1.lt
    replace q2 := q2.below hV1 q2.lt
    replace hg := hg.go hV1
    replace hh := (hh.below hV1).up hV1.size
    replace hi := (hi.below hV1).up hV1.size
    have B_V1 := ex_trans hb1 hV1
    have NA := ex_alloc (Below.refl V1.heap.size V1) (.cells #[.int .i64 0, .slice none 0 0, .slice none 0 0, .int .i64 0, .int .i64 0, .int .i64 0, .int .i64 0, .int .i64 0, .int .i64 0, .int .i64 0, .int .i64 0, .int .i64 0, .slice none 0 0, .slice none 0 0, .slice none 0 0] 56)
    have q4 : Blk (V1.alloc (.cells #[.int .i64 0, .slice none 0 0, .slice none 0 0, .int .i64 0, .int .i64 0, .int .i64 0, .int .i64 0, .int .i64 0, .int .i64 0, .int .i64 0, .int .i64 0, .int .i64 0, .slice none 0 0, .slice none 0 0, .slice none 0 0] 56)) V1.heap.size 56 #[.int .i64 0, .slice none 0 0, .slice none 0 0, .int .i64 0, .int .i64 0, .int .i64 0, .int .i64 0, .int .i64 0, .int .i64 0, .int .i64 0, .int .i64 0, .int .i64 0, .slice none 0 0, .slice none 0 0, .slice none 0 0] := Blk.new _ _ _
    obtain ⟨p4, hp4'⟩ : ∃ p, V1.heap.size = p := ⟨_, rfl⟩
    rw [hp4'] at q4
    go_wp2_with (refine pause_store 56 rfl ?_)
    refine Paused.mk ?_
    refine wpList_store_row rfl 56 _ _ rfl _ C (by kernel_rfl) (by kernel_rfl) 56 _ q4 (by rw [hC.size]; kernel_rfl) (by rw [hC.size]; rfl) hC.one ?_
    replace q4 := q4.setRow C
    have XZ : Below V1.heap.size V1 ((V1.alloc (.cells #[.int .i64 0, .slice none 0 0, .slice none 0 0, .int .i64 0, .int .i64 0, .int .i64 0, .int .i64 0, .int .i64 0, .int .i64 0, .int .i64 0, .int .i64 0, .int .i64 0, .slice none 0 0, .slice none 0 0, .slice none 0 0] 56)).setRow p4 C) := ex_row NA (Nat.le_of_eq hp4') C
    have hp4 : w.heap.size ≤ p4 := by have := B_V1.size; omega
    clear NA hp4'
    replace q1 := q1.below XZ q1.lt
    replace q2 := q2.below XZ q2.lt
    replace hg := hg.go XZ
    replace hh := (hh.below XZ).up XZ.size
    replace hi := (hi.below XZ).up XZ.size
    have B_V2 := ex_trans B_V1 XZ
    clear XZ
    generalize (V1.alloc (.cells #[.int .i64 0, .slice none 0 0, .slice none 0 0, .int .i64 0, .int .i64 0, .int .i64 0, .int .i64 0, .int .i64 0, .int .i64 0, .int .i64 0, .int .i64 0, .int .i64 0, .slice none 0 0, .slice none 0 0, .slice none 0 0] 56)).setRow p4 C = V2 at *
    go_wp2
    rw [Exit.noGoto_ret]
    go_ret2
    exact ⟨⟨_, _, rfl, HR⟩, B_V2⟩
  · have ha : askE t h l r = 0 := Classical.byContradiction fun e => hb (.inl e)
    have hm : 0 ≤ most := by have : ¬ most < 0 := fun e => hb (.inr e); omega
    have HA := Lib.hid ha
    have HO := Lib.hid (ask_bd ha)
    have HE := Lib.hid (acc_2 ha hm)
    clear ha hb
    go_enter Try.func11, Try.ntmps11
    go_wp2_with fail
    go_step3
    go_upto_region 1 with fail
    show Code.wp _ _ _ _ _
    refine box2 (K := fun V => Code.wp _ _ _ _ V) ?_
    intro V hb1 q1 q2
    replace hg := hg.go hb1
    replace hh := (hh.below hb1).up hb1.size
    replace hi := (hi.below hb1).up hb1.size
    obtain ⟨pq1, hpq1⟩ : ∃ p, w.heap.size = p := ⟨_, rfl⟩
    obtain ⟨pq2, hpq2⟩ : ∃ p, w.heap.size + 1 = p := ⟨_, rfl⟩
    rw [hpq2] at q2 ⊢
    rw [hpq1] at q1 ⊢
    have hp1 : w.heap.size ≤ pq1 := by omega
    have hp2 : w.heap.size ≤ pq2 := by omega
    clear hpq1 hpq2
    go_wp2_with (refine pause_at 18 rfl ?_)
    refine Paused.mk ?_
    refine wpList_load_row rfl 32 _ rfl _ rfl 32 _ (0, 0) _ (q1) Try.underlying32 rfl (by kernel_rfl) ?_
    go_wp2_with (refine pause_at 21 rfl ?_)
    refine Paused.mk ?_
    refine wpList_load_row rfl 37 _ rfl _ rfl 37 _ (0, 0) _ (q2) Try.underlying37 rfl (by kernel_rfl) ?_
    have q2p := q2.lt
    go_wp2_with fail
    refine (sm_acc_ok t _ _ _ _ _ _ _ _ h l r most _ hg hh hi hhl HA.out hm).mono ?_
    rintro e V3 ⟨⟨Az, nz, zs, rfl, hz, hyo, hsz⟩, hV3⟩
    replace q1 := q1.below hV3 q1.lt
    replace q2 := q2.below hV3 q2.lt
    replace hg := hg.go hV3
    replace hh := (hh.below hV3).up hV3.size
    replace hi := (hi.below hV3).up hV3.size
    have B_V3 := ex_trans hb1 hV3
    have NA := ex_alloc (Below.refl V3.heap.size V3) (.cells #[.int .i64 0, .slice none 0 0, .slice none 0 0, .int .i64 0, .int .i64 0, .int .i64 0, .int .i64 0, .int .i64 0, .int .i64 0, .int .i64 0, .int .i64 0, .int .i64 0, .slice none 0 0, .slice none 0 0, .slice none 0 0] 56)
    have q4 : Blk (V3.alloc (.cells #[.int .i64 0, .slice none 0 0, .slice none 0 0, .int .i64 0, .int .i64 0, .int .i64 0, .int .i64 0, .int .i64 0, .int .i64 0, .int .i64 0, .int .i64 0, .int .i64 0, .slice none 0 0, .slice none 0 0, .slice none 0 0] 56)) V3.heap.size 56 #[.int .i64 0, .slice none 0 0, .slice none 0 0, .int .i64 0, .int .i64 0, .int .i64 0, .int .i64 0, .int .i64 0, .int .i64 0, .int .i64 0, .int .i64 0, .int .i64 0, .slice none 0 0, .slice none 0 0, .slice none 0 0] := Blk.new _ _ _
    obtain ⟨p4, hp4'⟩ : ∃ p, V3.heap.size = p := ⟨_, rfl⟩
    rw [hp4'] at q4
    go_wp2_with (refine pause_store 56 rfl ?_)
    refine Paused.mk ?_
    refine wpList_store_row rfl 56 _ _ rfl _ #[.int .i64 t.g.base, .slice Ab t.g.bands.length cb, .slice Ad t.g.depths.length cd, .int .i64 t.g.blo, .int .i64 t.g.bhi, .int .i64 t.k.lo, .int .i64 t.k.hi, .int .i64 t.lag.lo, .int .i64 t.lag.hi, .int .i64 t.sq.lo, .int .i64 t.sq.hi, .int .i64 t.term, .slice Ah h.length ch, .slice Ai l.length ci, .slice Az nz nz] (by kernel_rfl) (by kernel_rfl) 56 _ q4 (by kernel_rfl) (by kernel_rfl) (by kernel_rfl) ?_
    replace q4 := q4.setRow #[.int .i64 t.g.base, .slice Ab t.g.bands.length cb, .slice Ad t.g.depths.length cd, .int .i64 t.g.blo, .int .i64 t.g.bhi, .int .i64 t.k.lo, .int .i64 t.k.hi, .int .i64 t.lag.lo, .int .i64 t.lag.hi, .int .i64 t.sq.lo, .int .i64 t.sq.hi, .int .i64 t.term, .slice Ah h.length ch, .slice Ai l.length ci, .slice Az nz nz]
    have XZ : Below V3.heap.size V3 ((V3.alloc (.cells #[.int .i64 0, .slice none 0 0, .slice none 0 0, .int .i64 0, .int .i64 0, .int .i64 0, .int .i64 0, .int .i64 0, .int .i64 0, .int .i64 0, .int .i64 0, .int .i64 0, .slice none 0 0, .slice none 0 0, .slice none 0 0] 56)).setRow p4 #[.int .i64 t.g.base, .slice Ab t.g.bands.length cb, .slice Ad t.g.depths.length cd, .int .i64 t.g.blo, .int .i64 t.g.bhi, .int .i64 t.k.lo, .int .i64 t.k.hi, .int .i64 t.lag.lo, .int .i64 t.lag.hi, .int .i64 t.sq.lo, .int .i64 t.sq.hi, .int .i64 t.term, .slice Ah h.length ch, .slice Ai l.length ci, .slice Az nz nz]) := ex_row NA (Nat.le_of_eq hp4') #[.int .i64 t.g.base, .slice Ab t.g.bands.length cb, .slice Ad t.g.depths.length cd, .int .i64 t.g.blo, .int .i64 t.g.bhi, .int .i64 t.k.lo, .int .i64 t.k.hi, .int .i64 t.lag.lo, .int .i64 t.lag.hi, .int .i64 t.sq.lo, .int .i64 t.sq.hi, .int .i64 t.term, .slice Ah h.length ch, .slice Ai l.length ci, .slice Az nz nz]
    have hp4 : w.heap.size ≤ p4 := by have := B_V3.size; omega
    clear NA hp4'
    replace q1 := q1.below XZ q1.lt
    replace q2 := q2.below XZ q2.lt
    replace hg := hg.go XZ
    replace hh := (hh.below XZ).up XZ.size
    replace hi := (hi.below XZ).up XZ.size
    replace hsz := (hsz.below XZ).up XZ.size
    have B_V4 := ex_trans B_V3 XZ
    clear XZ
    generalize (V3.alloc (.cells #[.int .i64 0, .slice none 0 0, .slice none 0 0, .int .i64 0, .int .i64 0, .int .i64 0, .int .i64 0, .int .i64 0, .int .i64 0, .int .i64 0, .int .i64 0, .int .i64 0, .slice none 0 0, .slice none 0 0, .slice none 0 0] 56)).setRow p4 #[.int .i64 t.g.base, .slice Ab t.g.bands.length cb, .slice Ad t.g.depths.length cd, .int .i64 t.g.blo, .int .i64 t.g.bhi, .int .i64 t.k.lo, .int .i64 t.k.hi, .int .i64 t.lag.lo, .int .i64 t.lag.hi, .int .i64 t.sq.lo, .int .i64 t.sq.hi, .int .i64 t.term, .slice Ah h.length ch, .slice Ai l.length ci, .slice Az nz nz] = V4 at *
    have hqV : pq2 + 1 ≤ V.heap.size := q2p
    by_cases hr : refE t l r (agreeB t.g h l off0) = 0
    · have HR := Lib.hid hr
      rw [hr]
      clear hr
      have HAG := Lib.hid (ref_ag HR.out)
      have HZ : Hid (nz = h.length ∧ ZsOf t.g h l zs) := Lib.hid (by
        rcases hz.out with ⟨a, _⟩ | ⟨_, b, c⟩
        · rw [HAG.out] at a; cases a
        · exact ⟨b, c⟩)
      obtain ⟨k, hk, hkl⟩ := HO.out.day
      have HK := Lib.hid hk
      have HKT : Hid (r.day.toNat = k) := Lib.hid (by omega)
      clear hk
      have hkn : k < nz := by rw [HZ.out.1]; exact hkl
      have HBB : ZsBd nz zs := by rw [HZ.out.1]; exact zs_bd HO.out.ok HZ.out.2
      have hnz := use_le hz.out
      go_wp2_with fail
      go_step3
      go_wp2_with fail
      refine wp_loop (fun a W => Rel (fun a W => ∃ m : Nat, m ≤ 301 ∧ Below w.heap.size w W ∧ Hid (∀ j : Int, (m : Int) ≤ j → j ≤ 300 → okN t r (gR zs k) most j = false) ∧ (∃ b, Blk W pq2 37 #[.int .i64 r.day, .int .i64 r.shown, .int .i64 r.err, .int .i64 b, .int .i64 r.air.lo, .int .i64 r.air.hi, .int .i64 r.rate.lo, .int .i64 r.rate.hi, .int .i64 r.deep, .bool r.broken]) ∧ Blk W p4 56 #[.int .i64 t.g.base, .slice Ab t.g.bands.length cb, .slice Ad t.g.depths.length cd, .int .i64 t.g.blo, .int .i64 t.g.bhi, .int .i64 t.k.lo, .int .i64 t.k.hi, .int .i64 t.lag.lo, .int .i64 t.lag.hi, .int .i64 t.sq.lo, .int .i64 t.sq.hi, .int .i64 t.term, .slice Ah h.length ch, .slice Ai l.length ci, .slice Az nz nz] ∧ SlAt W W.heap.size 2 Az nz (fR zs) ∧ ∃ u : Nat → Value, a = ⟨List.toArray (u 0 :: u 1 :: u 2 :: u 3 :: u 4 :: u 5 :: u 6 :: u 7 :: .pointer (some ⟨pq2, 0, none⟩) :: u 9 :: u 10 :: u 11 :: .pointer (some ⟨p4, 0, none⟩) :: u 13 :: .func (.func 18) #[.int .i64 most] #[] :: .int .i64 (-1) :: .int .i64 ((m : Int) - 1) :: u 17 :: u 18 :: u 19 :: u 20 :: u 21 :: u 22 :: u 23 :: u 24 :: u 25 :: u 26 :: u 27 :: u 28 :: u 29 :: u 30 :: u 31 :: u 32 :: u 33 :: u 34 :: u 35 :: u 36 :: u 37 :: u 38 :: u 39 :: u 40 :: u 41 :: u 42 :: u 43 :: u 44 :: u 45 :: []), []⟩) a W)
        (fun a _ => (intOf (a.tmps.getD 16 undef) + 1).toNat) ⟨⟨301, by omega, B_V4, Lib.hid (fun j h1 h2 => by omega), ⟨_, q2⟩, q4, hsz, exFrame (by kernel_rfl)⟩⟩ ?_
      clear q1 q2 q4 hsz hg hh hi 
      rintro a W ⟨⟨m, hmm, hbl, HN, ⟨b, q2⟩, q4, hsz, u, rfl⟩⟩
      by_cases hm0 : m = 0
      · subst hm0
        have HV : Hid (BarV t h l r most 0 7) := Lib.hid (.inr ⟨by rw [HE.out, HR.out], hm, HA.out, HR.out, zs, HZ.out.2, much_no (fun j h0 h1 => by rw [HKT.out]; exact HN.out j (by simpa using h0) h1)⟩)
        go_wp2
        rw [Exit.noGoto_ret]
        go_ret2
        exact ⟨⟨_, _, rfl, HV⟩, hbl⟩
      · obtain ⟨n, rfl⟩ : ∃ n, m = n + 1 := ⟨m - 1, by omega⟩
        have hn : (((n + 1 : Nat) : Int) - 1) = (n : Int) := by omega
        rw [hn]
        have s3 := q2.cell 3
        have sf := q2.frozen0
        have sl := q2.lt
        simp at s3
        have N2 := q2.set_ 3 (.int .i64 (n : Int))
        simp only [List.setIfInBounds_toArray, List.set_cons_zero, List.set_cons_succ] at N2
        have n42 : p4 ≠ pq2 := fun e => by subst e; exact blk_ne q4 q2 (by decide) rfl
        have q4' := q4.far (p := ⟨pq2, 3, none⟩) n42 (.int .i64 (n : Int))
        have hsz' := hsz.offCell (g := pq2) (i := 3) (hyo.out.mono hqV) (.int .i64 (n : Int))
        have hb' := ex_set (p := ⟨pq2, 3, none⟩) hbl hp2 (.int .i64 (n : Int))
        go_upto_region 10 with fail
        clear s3 sf sl q2 q4 hsz hbl n42
        generalize W.setCell ⟨pq2, 3, none⟩ (.int .i64 (n : Int)) = W2 at *
        go_wp2_with (refine pause_at 38 rfl ?_)
        refine Paused.mk ?_
        refine wpList_load_row rfl 56 _ rfl _ rfl 56 _ (0, 0) _ (q4') Try.underlying56 rfl (by kernel_rfl) ?_
        go_wp2_with (refine pause_at 39 rfl ?_)
        refine Paused.mk ?_
        refine wpList_load_row rfl 37 _ rfl _ rfl 37 _ (0, 0) _ (N2) Try.underlying37 rfl (by kernel_rfl) ?_
        have hrb := rB_bd HO.out.rd (n := (n : Int)) (by omega) (by omega)
        go_wp2_with fail
        refine (sm_correct t Ab Ad Ah Ai Az cb cd ch ci nz nz h l (rB r n) zs k _ hsz' HO.out.tb hrb HK.out hkn (by omega) HBB).mono ?_
        rintro e V21 ⟨rfl, hV21⟩
        replace N2 := N2.below hV21 N2.lt
        replace q4' := q4'.below hV21 q4'.lt
        replace hsz' := (hsz'.below hV21).up hV21.size
        have B_V21 := ex_trans hb' hV21
        have hbb := cor_bd HO.out.tb hrb (HBB k hkn)
        have HOK := Lib.hid (show okN t r (gR zs k) most n = decide ((corP2 t (rB r n) (gR zs k)).hi - (corP2 t (rB r n) (gR zs k)).lo ≤ most) from rfl)
        generalize (corP2 t (rB r n) (gR zs k)).lo = lo at *
        generalize (corP2 t (rB r n) (gR zs k)).hi = hi' at *
        go_wp2_with fail
        refine (sm_enough _ _ _ _ (by omega) (by omega)).mono ?_
        rintro e V22 ⟨rfl, hV22⟩
        replace N2 := N2.below hV22 N2.lt
        replace q4' := q4'.below hV22 q4'.lt
        replace hsz' := (hsz'.below hV22).up hV22.size
        have B_V22 := ex_trans B_V21 hV22
        rw [← HOK.out]
        cases hok : okN t r (gR zs k) most n
        · have HN2 : Hid (∀ j : Int, (n : Int) ≤ j → j ≤ 300 → okN t r (gR zs k) most j = false) := Lib.hid (fun j h0 h1 => by
            rcases Int.lt_or_eq_of_le h0 with h2 | h2
            · exact HN.out j (by omega) h1
            · rw [← h2]; exact hok)
          clear hok
          go_wp2_with fail
          refine ⟨⟨⟨n, by omega, B_V22, HN2, ⟨_, N2⟩, q4', hsz', exFrame (by kernel_rfl)⟩⟩, ?_⟩
          show (intOf (.int .i64 ((n : Int) - 1)) + 1).toNat < (intOf (.int .i64 (n : Int)) + 1).toNat
          simp [intOf]
          try omega
        · have HV : Hid (BarV t h l r most n 0) := Lib.hid (.inr ⟨by rw [HE.out, HR.out], hm, HA.out, HR.out, zs, HZ.out.2, much_yes (by omega) (by omega) (by rw [HKT.out]; exact hok) (fun j h0 h1 => by rw [HKT.out]; exact HN.out j (by omega) h1)⟩)
          clear hok
          go_wp2
          rw [Exit.noGoto_ret]
          go_ret2
          exact ⟨⟨_, _, rfl, HV⟩, B_V22⟩
    · have HR : Hid (BarV t h l r most 0 (refE t l r (agreeB t.g h l off0))) := Lib.hid (by rw [← HE.out]; exact barV_no (by rw [HE.out]; exact hr))
      obtain ⟨E, hE⟩ : ∃ E, refE t l r (agreeB t.g h l off0) = E := ⟨_, rfl⟩
      rw [hE] at hr HR ⊢
      have e1 : (E != 0) = true := by simp [hr]
      clear hE hr
      go_wp2
      rw [Exit.noGoto_ret]
      go_ret2
      exact ⟨⟨_, _, rfl, HR⟩, B_V4⟩

end Go.Proofs.Ytkaogjhnogkcdaa
end

section
namespace Go.Proofs.Ytkaogjhnogkcdaa
open Go.RowKit
attribute [local go_sem] Ex.cell? Ex.frozen?

def icoE (t : Tb) (r : Rd) : Int := if ckTube t ≠ 0 then ckTube t else if rdOk 16 r = false then 2 else if r.broken = true then 8 else if iceE (bndP t r) < 0 then 10 else 0
def icoV (t : Tb) (r : Rd) : Ic := if icoE t r = 0 then ⟨r.day, iceZ (bndP t r), iceE (bndP t r)⟩ else ⟨0, 0, 0⟩
theorem ico_1 {t : Tb} {r : Rd} (h : ckTube t ≠ 0) : icoE t r = ckTube t ∧ icoV t r = ⟨0, 0, 0⟩ := by
  have e : icoE t r = ckTube t := if_pos h
  exact ⟨e, by unfold icoV; rw [e, if_neg h]⟩
theorem ico_2 {t : Tb} {r : Rd} (h : ckTube t = 0) (h2 : rdOk 16 r = false) : icoE t r = 2 ∧ icoV t r = ⟨0, 0, 0⟩ := by
  have e : icoE t r = 2 := by unfold icoE; rw [if_neg (by simp [h]), if_pos h2]
  exact ⟨e, by unfold icoV; rw [e]; rfl⟩
theorem ico_3 {t : Tb} {r : Rd} (h : ckTube t = 0) (h2 : rdOk 16 r = true) (h3 : r.broken = true) : icoE t r = 8 ∧ icoV t r = ⟨0, 0, 0⟩ := by
  have e : icoE t r = 8 := by unfold icoE; rw [if_neg (by simp [h]), if_neg (by simp [h2]), if_pos h3]
  exact ⟨e, by unfold icoV; rw [e]; rfl⟩
theorem ico_4 {t : Tb} {r : Rd} (h : ckTube t = 0) (h2 : rdOk 16 r = true) (h3 : r.broken = false) (h4 : ∀ k, k < 21 → iceAt (bndP t r) k = false) : icoE t r = 10 ∧ icoV t r = ⟨0, 0, 0⟩ := by
  have e4 : iceE (bndP t r) = -1 := firstOf_neg h4
  have e : icoE t r = 10 := by unfold icoE; rw [if_neg (by simp [h]), if_neg (by simp [h2]), if_neg (by simp [h3]), if_pos (by omega)]
  exact ⟨e, by unfold icoV; rw [e]; rfl⟩
theorem ico_5 {t : Tb} {r : Rd} {k : Nat} (h : ckTube t = 0) (h2 : rdOk 16 r = true) (h3 : r.broken = false) (hk : k < 21) (h4 : ∀ j, j < k → iceAt (bndP t r) j = false) (h5 : iceAt (bndP t r) k = true) : icoE t r = 0 ∧ icoV t r = ⟨r.day, max ((bndP t r).hi - (k : Int)) (-2000), (k : Int)⟩ := by
  have e4 : iceE (bndP t r) = (k : Int) := firstOf_at hk h4 h5
  have e : icoE t r = 0 := by unfold icoE; rw [if_neg (by simp [h]), if_neg (by simp [h2]), if_neg (by simp [h3]), if_neg (by omega)]
  exact ⟨e, by unfold icoV iceZ; rw [e, e4]; rfl⟩
set_option maxRecDepth 100000 in
set_option maxHeartbeats 6400000 in
theorem IceOf_v (t : Tb) (Ab Ad : Option Addr) (cb cd : Nat) (r : Rd) (w : World) (hg : GlIn w w.heap.size t.g Ab Ad) :
    Calls Try.prog 8 #[.agg #[.int .i64 t.g.base, .slice Ab t.g.bands.length cb, .slice Ad t.g.depths.length cd, .int .i64 t.g.blo, .int .i64 t.g.bhi, .int .i64 t.k.lo, .int .i64 t.k.hi, .int .i64 t.lag.lo, .int .i64 t.lag.hi, .int .i64 t.sq.lo, .int .i64 t.sq.hi, .int .i64 t.term], .agg #[.int .i64 r.day, .int .i64 r.shown, .int .i64 r.err, .int .i64 r.bare, .int .i64 r.air.lo, .int .i64 r.air.hi, .int .i64 r.rate.lo, .int .i64 r.rate.hi, .int .i64 r.deep, .bool r.broken]] w fun e w' => e = .returned (.tuple #[.agg #[.int .i64 (icoV t r).day, .int .i64 (icoV t r).zero, .int .i64 (icoV t r).err], .int .i64 (icoE t r)]) ∧ Below w.heap.size w w' := by
  by_cases hc : ckTube t = 0
  · cases hrd : rdOk 16 r
    · have HR := Lib.hid (ico_2 hc hrd)
      have HC := Lib.hid hc
      have HRD := Lib.hid hrd
      clear hc hrd
      go_enter Try.func8, Try.ntmps8
      go_upto_region 1 with fail
      show Code.wp _ _ _ _ _
      refine box3 (K := fun V => Code.wp _ _ _ _ V) ?_
      intro V hb1 q1 q2 q3
      replace hg := hg.go hb1
      obtain ⟨pq1, hpq1⟩ : ∃ p, w.heap.size = p := ⟨_, rfl⟩
      obtain ⟨pq2, hpq2⟩ : ∃ p, w.heap.size + 1 = p := ⟨_, rfl⟩
      obtain ⟨pq3, hpq3⟩ : ∃ p, w.heap.size + 1 + 1 = p := ⟨_, rfl⟩
      rw [hpq3] at q3 ⊢
      rw [hpq2] at q2 ⊢
      rw [hpq1] at q1 ⊢
      have hp1 : w.heap.size ≤ pq1 := by omega
      have hp2 : w.heap.size ≤ pq2 := by omega
      have hp3 : w.heap.size ≤ pq3 := by omega
      clear hpq1 hpq2 hpq3
      go_wp2_with (refine pause_at 10 rfl ?_)
      refine Paused.mk ?_
      refine wpList_load_row rfl 32 _ rfl _ rfl 32 _ (0, 0) _ (q1) Try.underlying32 rfl (by kernel_rfl) ?_
      go_wp2_with fail
      refine (CheckTube_any t Ab Ad cb cd _ hg).mono ?_
      rintro e V1 ⟨rfl, hV1⟩
      replace q1 := q1.below hV1 q1.lt
      replace q2 := q2.below hV1 q2.lt
      replace q3 := q3.below hV1 q3.lt
      replace hg := hg.go hV1
      have B_V1 := ex_trans hb1 hV1
      rw [HC.out]
      go_wp2_with (refine pause_at 17 rfl ?_)
      refine Paused.mk ?_
      refine wpList_load_row rfl 37 _ rfl _ rfl 37 _ (0, 0) _ (q2) Try.underlying37 rfl (by kernel_rfl) ?_
      go_wp2_with fail
      refine (reading_any 16 r _ (by omega)).mono ?_
      rintro e V2 ⟨rfl, hV2⟩
      replace q1 := q1.below hV2 q1.lt
      replace q2 := q2.below hV2 q2.lt
      replace q3 := q3.below hV2 q3.lt
      replace hg := hg.go hV2
      have B_V2 := ex_trans B_V1 hV2
      rw [HRD.out]
      have r0 := q3.cell 0
      have r1 := q3.cell 1
      have r2 := q3.cell 2
      have fr := q3.frozen0
      have lr := q3.lt
      simp at r0 r1 r2
      have m3 := ((q3.set_ 0 (.int .i64 (0))).set_ 1 (.int .i64 (0))).set_ 2 (.int .i64 (0))
      simp only [List.setIfInBounds_toArray, List.set_cons_zero, List.set_cons_succ] at m3
      go_wp2
      refine bodyPost_ret (results_ct_row rfl _ _ _ 40 #[.int .i64 (0), .int .i64 (0), .int .i64 (0)] (0, 0) _ rfl m3 rfl rfl rfl) rfl ?_
      rw [HR.out.1, HR.out.2]
      exact ⟨rfl, ex_set (p := ⟨pq3, 2, none⟩) (ex_set (p := ⟨pq3, 1, none⟩) (ex_set (p := ⟨pq3, 0, none⟩) B_V2 hp3 _) hp3 _) hp3 _⟩
    · rcases Bool.eq_false_or_eq_true r.broken with tb | tb
      · have HR := Lib.hid (ico_3 hc hrd tb)
        have TB := Lib.hid tb
        have HC := Lib.hid hc
        have HRD := Lib.hid hrd
        clear hc hrd tb
        go_enter Try.func8, Try.ntmps8
        go_upto_region 1 with fail
        show Code.wp _ _ _ _ _
        refine box3 (K := fun V => Code.wp _ _ _ _ V) ?_
        intro V hb1 q1 q2 q3
        replace hg := hg.go hb1
        obtain ⟨pq1, hpq1⟩ : ∃ p, w.heap.size = p := ⟨_, rfl⟩
        obtain ⟨pq2, hpq2⟩ : ∃ p, w.heap.size + 1 = p := ⟨_, rfl⟩
        obtain ⟨pq3, hpq3⟩ : ∃ p, w.heap.size + 1 + 1 = p := ⟨_, rfl⟩
        rw [hpq3] at q3 ⊢
        rw [hpq2] at q2 ⊢
        rw [hpq1] at q1 ⊢
        have hp1 : w.heap.size ≤ pq1 := by omega
        have hp2 : w.heap.size ≤ pq2 := by omega
        have hp3 : w.heap.size ≤ pq3 := by omega
        clear hpq1 hpq2 hpq3
        go_wp2_with (refine pause_at 10 rfl ?_)
        refine Paused.mk ?_
        refine wpList_load_row rfl 32 _ rfl _ rfl 32 _ (0, 0) _ (q1) Try.underlying32 rfl (by kernel_rfl) ?_
        go_wp2_with fail
        refine (CheckTube_any t Ab Ad cb cd _ hg).mono ?_
        rintro e V3 ⟨rfl, hV3⟩
        replace q1 := q1.below hV3 q1.lt
        replace q2 := q2.below hV3 q2.lt
        replace q3 := q3.below hV3 q3.lt
        replace hg := hg.go hV3
        have B_V3 := ex_trans hb1 hV3
        rw [HC.out]
        go_wp2_with (refine pause_at 17 rfl ?_)
        refine Paused.mk ?_
        refine wpList_load_row rfl 37 _ rfl _ rfl 37 _ (0, 0) _ (q2) Try.underlying37 rfl (by kernel_rfl) ?_
        go_wp2_with fail
        refine (reading_any 16 r _ (by omega)).mono ?_
        rintro e V4 ⟨rfl, hV4⟩
        replace q1 := q1.below hV4 q1.lt
        replace q2 := q2.below hV4 q2.lt
        replace q3 := q3.below hV4 q3.lt
        replace hg := hg.go hV4
        have B_V4 := ex_trans B_V3 hV4
        rw [HRD.out]
        have b9 : V4.cell? ⟨pq2, 9, none⟩ = some (.bool r.broken) := q2.cell 9
        have lb := q2.lt
        rw [TB.out] at b9
        have r0 := q3.cell 0
        have r1 := q3.cell 1
        have r2 := q3.cell 2
        have fr := q3.frozen0
        have lr := q3.lt
        simp at r0 r1 r2
        have m3 := ((q3.set_ 0 (.int .i64 (0))).set_ 1 (.int .i64 (0))).set_ 2 (.int .i64 (0))
        simp only [List.setIfInBounds_toArray, List.set_cons_zero, List.set_cons_succ] at m3
        go_wp2
        refine bodyPost_ret (results_ct_row rfl _ _ _ 40 #[.int .i64 (0), .int .i64 (0), .int .i64 (0)] (0, 0) _ rfl m3 rfl rfl rfl) rfl ?_
        rw [HR.out.1, HR.out.2]
        exact ⟨rfl, ex_set (p := ⟨pq3, 2, none⟩) (ex_set (p := ⟨pq3, 1, none⟩) (ex_set (p := ⟨pq3, 0, none⟩) B_V4 hp3 _) hp3 _) hp3 _⟩
      · have TB := Lib.hid tb
        have HC := Lib.hid hc
        have HRD := Lib.hid hrd
        clear hc hrd tb
        go_enter Try.func8, Try.ntmps8
        go_upto_region 1 with fail
        show Code.wp _ _ _ _ _
        refine box3 (K := fun V => Code.wp _ _ _ _ V) ?_
        intro V hb1 q1 q2 q3
        replace hg := hg.go hb1
        obtain ⟨pq1, hpq1⟩ : ∃ p, w.heap.size = p := ⟨_, rfl⟩
        obtain ⟨pq2, hpq2⟩ : ∃ p, w.heap.size + 1 = p := ⟨_, rfl⟩
        obtain ⟨pq3, hpq3⟩ : ∃ p, w.heap.size + 1 + 1 = p := ⟨_, rfl⟩
        rw [hpq3] at q3 ⊢
        rw [hpq2] at q2 ⊢
        rw [hpq1] at q1 ⊢
        have hp1 : w.heap.size ≤ pq1 := by omega
        have hp2 : w.heap.size ≤ pq2 := by omega
        have hp3 : w.heap.size ≤ pq3 := by omega
        clear hpq1 hpq2 hpq3
        go_wp2_with (refine pause_at 10 rfl ?_)
        refine Paused.mk ?_
        refine wpList_load_row rfl 32 _ rfl _ rfl 32 _ (0, 0) _ (q1) Try.underlying32 rfl (by kernel_rfl) ?_
        go_wp2_with fail
        refine (CheckTube_any t Ab Ad cb cd _ hg).mono ?_
        rintro e V5 ⟨rfl, hV5⟩
        replace q1 := q1.below hV5 q1.lt
        replace q2 := q2.below hV5 q2.lt
        replace q3 := q3.below hV5 q3.lt
        replace hg := hg.go hV5
        have B_V5 := ex_trans hb1 hV5
        rw [HC.out]
        go_wp2_with (refine pause_at 17 rfl ?_)
        refine Paused.mk ?_
        refine wpList_load_row rfl 37 _ rfl _ rfl 37 _ (0, 0) _ (q2) Try.underlying37 rfl (by kernel_rfl) ?_
        go_wp2_with fail
        refine (reading_any 16 r _ (by omega)).mono ?_
        rintro e V6 ⟨rfl, hV6⟩
        replace q1 := q1.below hV6 q1.lt
        replace q2 := q2.below hV6 q2.lt
        replace q3 := q3.below hV6 q3.lt
        replace hg := hg.go hV6
        have B_V6 := ex_trans B_V5 hV6
        rw [HRD.out]
        have b9 : V6.cell? ⟨pq2, 9, none⟩ = some (.bool r.broken) := q2.cell 9
        have lb := q2.lt
        rw [TB.out] at b9
        have ht := ck_bd HC.out
        have hr := (rdOk_iff.1 HRD.out).2
        go_wp2_with (refine pause_at 25 rfl ?_)
        refine Paused.mk ?_
        refine wpList_load_row rfl 32 _ rfl _ rfl 32 _ (0, 0) _ (q1) Try.underlying32 rfl (by kernel_rfl) ?_
        go_wp2_with (refine pause_at 26 rfl ?_)
        refine Paused.mk ?_
        refine wpList_load_row rfl 37 _ rfl _ rfl 37 _ (0, 0) _ (q2) Try.underlying37 rfl (by kernel_rfl) ?_
        go_wp2_with fail
        refine (sm_bounds t Ab Ad cb cd r _ ht hr).mono ?_
        rintro e V7 ⟨rfl, hV7⟩
        replace q1 := q1.below hV7 q1.lt
        replace q2 := q2.below hV7 q2.lt
        replace q3 := q3.below hV7 q3.lt
        replace hg := hg.go hV7
        have B_V7 := ex_trans B_V6 hV7
        clear b9 lb
        have hbb := bnd_bd ht hr
        have HI := fun (k : Nat) => Lib.hid (show iceAt (bndP t r) k = decide (max ((bndP t r).hi - (k : Int)) (-2000) ≤ min ((bndP t r).lo + (k : Int)) 2000) from rfl)
        have HI4 := Lib.hid (ico_4 HC.out HRD.out TB.out)
        have HI5 := Lib.hid (fun (k : Nat) => ico_5 (k := k) HC.out HRD.out TB.out)
        obtain ⟨A, hA⟩ : ∃ A, iceAt (bndP t r) = A := ⟨_, rfl⟩
        rw [hA] at HI HI4 HI5
        generalize (bndP t r).lo = lo at *
        generalize (bndP t r).hi = hi at *
        clear hA
        have NA := ex_alloc (Below.refl V7.heap.size V7) (.cells #[.int .i64 lo, .int .i64 hi] 23)
        have q5 : Blk (V7.alloc (.cells #[.int .i64 lo, .int .i64 hi] 23)) V7.heap.size 23 #[.int .i64 lo, .int .i64 hi] := Blk.new _ _ _
        obtain ⟨p5, hp5'⟩ : ∃ p, V7.heap.size = p := ⟨_, rfl⟩
        rw [hp5'] at q5
        go_wp2_with fail
        replace q1 := q1.below NA q1.lt
        replace q2 := q2.below NA q2.lt
        replace q3 := q3.below NA q3.lt
        replace hg := hg.go NA
        have B_VA := ex_trans B_V7 NA
        clear hp5' NA
        generalize V7.alloc (.cells #[.int .i64 lo, .int .i64 hi] 23) = VA at *
        go_loopw [8, 9, 29] (fun _ _ i wr => ∃ k : Nat, k ≤ 21 ∧ i = .int .i64 (k : Int) ∧ Hid (∀ j, j < k → A j = false) ∧ Below w.heap.size w wr ∧ Blk wr pq2 37 #[.int .i64 r.day, .int .i64 r.shown, .int .i64 r.err, .int .i64 r.bare, .int .i64 r.air.lo, .int .i64 r.air.hi, .int .i64 r.rate.lo, .int .i64 r.rate.hi, .int .i64 r.deep, .bool r.broken] ∧ Blk wr pq3 40 #[.int .i64 0, .int .i64 0, .int .i64 0] ∧ Blk wr p5 23 #[.int .i64 lo, .int .i64 hi])
          (fun _ _ i _ => 21 - (intOf i).toNat)
        case atStart => exact ⟨0, by omega, rfl, Lib.hid (fun j hj => by omega), B_VA, q2, q3, q5⟩
        case round =>
          clear q1 q2 q3 q5 hg B_VA
          obtain ⟨k, hk, rfl, HN, hbl, q2, q3, q5⟩ := hrel
          by_cases hlt : k < 21
          · have g0 : wr.cell? ⟨p5, 0, none⟩ = some (.int .i64 lo) := q5.cell 0
            have g1 : wr.cell? ⟨p5, 1, none⟩ = some (.int .i64 hi) := q5.cell 1
            have lg := q5.lt
            have N_1 := ex_alloc (Below.refl wr.heap.size wr) (.cells #[.int .i64 (hi - (k : Int)), .int .i64 (-2000)] 3)
            have z_1 : Blk (wr.alloc (.cells #[.int .i64 (hi - (k : Int)), .int .i64 (-2000)] 3)) wr.heap.size 3 #[.int .i64 (hi - (k : Int)), .int .i64 (-2000)] := Blk.new _ _ _
            go_wp2_with fail
            refine (sm_greatest2 _ _ _ _ _ z_1).mono ?_
            rintro e w' ⟨rfl, rfl⟩
            clear g0 g1 lg
            replace q2 := q2.below N_1 q2.lt
            replace q3 := q3.below N_1 q3.lt
            replace q5 := q5.below N_1 q5.lt
            have B_V21 := ex_trans hbl N_1
            clear z_1 N_1
            generalize wr.alloc (.cells #[.int .i64 (hi - (k : Int)), .int .i64 (-2000)] 3) = V21 at *
            have g0 : V21.cell? ⟨p5, 0, none⟩ = some (.int .i64 lo) := q5.cell 0
            have g1 : V21.cell? ⟨p5, 1, none⟩ = some (.int .i64 hi) := q5.cell 1
            have lg := q5.lt
            have N_2 := ex_alloc (Below.refl V21.heap.size V21) (.cells #[.int .i64 (lo + (k : Int)), .int .i64 (2000)] 3)
            have z_2 : Blk (V21.alloc (.cells #[.int .i64 (lo + (k : Int)), .int .i64 (2000)] 3)) V21.heap.size 3 #[.int .i64 (lo + (k : Int)), .int .i64 (2000)] := Blk.new _ _ _
            go_wp2_with fail
            refine (sm_least2 _ _ _ _ _ z_2).mono ?_
            rintro e w' ⟨rfl, rfl⟩
            clear g0 g1 lg
            replace q2 := q2.below N_2 q2.lt
            replace q3 := q3.below N_2 q3.lt
            replace q5 := q5.below N_2 q5.lt
            have B_V22 := ex_trans B_V21 N_2
            clear z_2 N_2
            generalize V21.alloc (.cells #[.int .i64 (lo + (k : Int)), .int .i64 (2000)] 3) = V22 at *
            have g0 : V22.cell? ⟨p5, 0, none⟩ = some (.int .i64 lo) := q5.cell 0
            have g1 : V22.cell? ⟨p5, 1, none⟩ = some (.int .i64 hi) := q5.cell 1
            have lg := q5.lt
            have HD := Lib.hid (HI k).out
            cases hA : A k
            · have HN2 : Hid (∀ j, j < k + 1 → A j = false) := Lib.hid (fun j hj => by
                rcases Nat.lt_succ_iff_lt_or_eq.1 hj with h1 | h1
                · exact HN.out j h1
                · rw [h1]; exact hA)
              have e1 : decide (max (hi - (k : Int)) (-2000) ≤ min (lo + (k : Int)) 2000) = false := by rw [← HD.out]; exact hA
              clear hA HD
              clear g0 g1 lg
              go_wp2
              go_roundw
              case rel => exact ⟨k + 1, by omega, by go_num, HN2, B_V22, q2, q3, q5⟩
              case measure => simp [intOf]; omega
            · have HR := Lib.hid (HI5.out k hlt HN.out hA)
              have e1 : decide (max (hi - (k : Int)) (-2000) ≤ min (lo + (k : Int)) 2000) = true := by rw [← HD.out]; exact hA
              clear hA HD
              clear g0 g1 lg
              have b0 : V22.cell? ⟨pq2, 0, none⟩ = some (.int .i64 r.day) := q2.cell 0
              have lb := q2.lt
              generalize max (hi - (k : Int)) (-2000) = zz at *
              have r0 := q3.cell 0
              have r1 := q3.cell 1
              have r2 := q3.cell 2
              have fr := q3.frozen0
              have lr := q3.lt
              simp at r0 r1 r2
              have m3 := ((q3.set_ 0 (.int .i64 (r.day))).set_ 1 (.int .i64 (zz))).set_ 2 (.int .i64 ((k : Int)))
              simp only [List.setIfInBounds_toArray, List.set_cons_zero, List.set_cons_succ] at m3
              go_wp2
              refine bodyPost_ret (results_ct_row rfl _ _ _ 40 #[.int .i64 (r.day), .int .i64 (zz), .int .i64 ((k : Int))] (0, 0) _ rfl m3 rfl rfl rfl) rfl ?_
              rw [HR.out.1, HR.out.2]
              exact ⟨rfl, ex_set (p := ⟨pq3, 2, none⟩) (ex_set (p := ⟨pq3, 1, none⟩) (ex_set (p := ⟨pq3, 0, none⟩) B_V22 hp3 _) hp3 _) hp3 _⟩
          · have HK : Hid (k = 21) := Lib.hid (by omega)
            have HR := Lib.hid (HI4.out (fun j hj => HN.out j (by rw [HK.out]; exact hj)))
            have r0 := q3.cell 0
            have r1 := q3.cell 1
            have r2 := q3.cell 2
            have fr := q3.frozen0
            have lr := q3.lt
            simp at r0 r1 r2
            have m3 := ((q3.set_ 0 (.int .i64 (0))).set_ 1 (.int .i64 (0))).set_ 2 (.int .i64 (0))
            simp only [List.setIfInBounds_toArray, List.set_cons_zero, List.set_cons_succ] at m3
            go_wp2
            refine bodyPost_ret (results_ct_row rfl _ _ _ 40 #[.int .i64 (0), .int .i64 (0), .int .i64 (0)] (0, 0) _ rfl m3 rfl rfl rfl) rfl ?_
            rw [HR.out.1, HR.out.2]
            exact ⟨rfl, ex_set (p := ⟨pq3, 2, none⟩) (ex_set (p := ⟨pq3, 1, none⟩) (ex_set (p := ⟨pq3, 0, none⟩) hbl hp3 _) hp3 _) hp3 _⟩
  · have HR := Lib.hid (ico_1 (r := r) hc)
    have e1 : (ckTube t != 0) = true := by simp [hc]
    clear hc
    go_enter Try.func8, Try.ntmps8
    go_upto_region 1 with fail
    show Code.wp _ _ _ _ _
    refine box3 (K := fun V => Code.wp _ _ _ _ V) ?_
    intro V hb1 q1 q2 q3
    replace hg := hg.go hb1
    obtain ⟨pq1, hpq1⟩ : ∃ p, w.heap.size = p := ⟨_, rfl⟩
    obtain ⟨pq2, hpq2⟩ : ∃ p, w.heap.size + 1 = p := ⟨_, rfl⟩
    obtain ⟨pq3, hpq3⟩ : ∃ p, w.heap.size + 1 + 1 = p := ⟨_, rfl⟩
    rw [hpq3] at q3 ⊢
    rw [hpq2] at q2 ⊢
    rw [hpq1] at q1 ⊢
    have hp1 : w.heap.size ≤ pq1 := by omega
    have hp2 : w.heap.size ≤ pq2 := by omega
    have hp3 : w.heap.size ≤ pq3 := by omega
    clear hpq1 hpq2 hpq3
    go_wp2_with (refine pause_at 10 rfl ?_)
    refine Paused.mk ?_
    refine wpList_load_row rfl 32 _ rfl _ rfl 32 _ (0, 0) _ (q1) Try.underlying32 rfl (by kernel_rfl) ?_
    go_wp2_with fail
    refine (CheckTube_any t Ab Ad cb cd _ hg).mono ?_
    rintro e V8 ⟨rfl, hV8⟩
    replace q1 := q1.below hV8 q1.lt
    replace q2 := q2.below hV8 q2.lt
    replace q3 := q3.below hV8 q3.lt
    replace hg := hg.go hV8
    have B_V8 := ex_trans hb1 hV8
    have r0 := q3.cell 0
    have r1 := q3.cell 1
    have r2 := q3.cell 2
    have fr := q3.frozen0
    have lr := q3.lt
    simp at r0 r1 r2
    have m3 := ((q3.set_ 0 (.int .i64 (0))).set_ 1 (.int .i64 (0))).set_ 2 (.int .i64 (0))
    simp only [List.setIfInBounds_toArray, List.set_cons_zero, List.set_cons_succ] at m3
    go_wp2
    refine bodyPost_ret (results_ct_row rfl _ _ _ 40 #[.int .i64 (0), .int .i64 (0), .int .i64 (0)] (0, 0) _ rfl m3 rfl rfl rfl) rfl ?_
    rw [HR.out.1, HR.out.2]
    exact ⟨rfl, ex_set (p := ⟨pq3, 2, none⟩) (ex_set (p := ⟨pq3, 1, none⟩) (ex_set (p := ⟨pq3, 0, none⟩) B_V8 hp3 _) hp3 _) hp3 _⟩

end Go.Proofs.Ytkaogjhnogkcdaa
end

section
namespace Go.Proofs.Ytkaogjhnogkcdaa
open Go.RowKit
attribute [local go_sem] Ex.cell? Ex.frozen?

def cE (r : Rd) : Array Value := #[.int .i64 r.day, .int .i64 r.shown, .int .i64 r.err, .int .i64 r.bare, .int .i64 r.air.lo, .int .i64 r.air.hi, .int .i64 r.rate.lo, .int .i64 r.rate.hi, .int .i64 r.deep, .bool r.broken]
def fE (l : List Rd) (k j : Nat) : Value := ((cE (gE l k))[j]?).getD undef
theorem IsRds.at10 {w : World} {B n : Nat} {A : Option Addr} {l : List Rd} (h : SlAt w B 10 A n (fE l)) {k : Nat} (hk : k < n) : ∃ b off, A = some ⟨b, off, none⟩ ∧ b < B ∧
  w.cell? ⟨b, off + k * 10, none⟩ = some (.int .i64 (gE l k).day) ∧ w.cell? ⟨b, off + k * 10 + 1, none⟩ = some (.int .i64 (gE l k).shown) ∧ w.cell? ⟨b, off + k * 10 + 2, none⟩ = some (.int .i64 (gE l k).err) ∧ w.cell? ⟨b, off + k * 10 + 3, none⟩ = some (.int .i64 (gE l k).bare) ∧
  w.cell? ⟨b, off + k * 10 + 4, none⟩ = some (.int .i64 (gE l k).air.lo) ∧ w.cell? ⟨b, off + k * 10 + 5, none⟩ = some (.int .i64 (gE l k).air.hi) ∧ w.cell? ⟨b, off + k * 10 + 6, none⟩ = some (.int .i64 (gE l k).rate.lo) ∧ w.cell? ⟨b, off + k * 10 + 7, none⟩ = some (.int .i64 (gE l k).rate.hi) ∧
  w.cell? ⟨b, off + k * 10 + 8, none⟩ = some (.int .i64 (gE l k).deep) ∧ w.cell? ⟨b, off + k * 10 + 9, none⟩ = some (.bool (gE l k).broken) := by
 obtain ⟨b, off, e, hb, hc⟩ := h (by omega)
 exact ⟨b, off, e, hb, hc k 0 hk (by omega), hc k 1 hk (by omega), hc k 2 hk (by omega), hc k 3 hk (by omega), hc k 4 hk (by omega), hc k 5 hk (by omega), hc k 6 hk (by omega), hc k 7 hk (by omega), hc k 8 hk (by omega), hc k 9 hk (by omega)⟩
set_option maxRecDepth 100000 in
set_option maxHeartbeats 1600000 in
theorem all1_day (pu pl : Nat) (b : Bool) (r : Rd) (w : World) (pb : Nat) (hp : pb < w.heap.size) (hc : w.cell? ⟨pb, 0, none⟩ = some (.func (.func 39) #[] #[.pointer (some ⟨pu, 0, none⟩), .pointer (some ⟨pl, 0, none⟩)])) (H : ∀ W, Below w.heap.size w W → Calls Try.prog 39 #[.agg #[.int .i64 r.day, .int .i64 r.shown, .int .i64 r.err, .int .i64 r.bare, .int .i64 r.air.lo, .int .i64 r.air.hi, .int .i64 r.rate.lo, .int .i64 r.rate.hi, .int .i64 r.deep, .bool r.broken], .pointer (some ⟨pu, 0, none⟩), .pointer (some ⟨pl, 0, none⟩)] W fun e w' => e = .returned (.bool b) ∧ Below W.heap.size W w') :
  Calls Try.prog 53 #[.agg #[.int .i64 r.day, .int .i64 r.shown, .int .i64 r.err, .int .i64 r.bare, .int .i64 r.air.lo, .int .i64 r.air.hi, .int .i64 r.rate.lo, .int .i64 r.rate.hi, .int .i64 r.deep, .bool r.broken], .pointer (some ⟨pb, 0, none⟩)] w fun e w' => e = .returned (.bool (!b)) ∧ Below w.heap.size w w' := by
 have hb1 := ex_alloc (Below.refl w.heap.size w) (.cells #[.int .i64 r.day, .int .i64 r.shown, .int .i64 r.err, .int .i64 r.bare, .int .i64 r.air.lo, .int .i64 r.air.hi, .int .i64 r.rate.lo, .int .i64 r.rate.hi, .int .i64 r.deep, .bool r.broken] 37)
 have q1 : Blk (w.alloc (.cells #[.int .i64 r.day, .int .i64 r.shown, .int .i64 r.err, .int .i64 r.bare, .int .i64 r.air.lo, .int .i64 r.air.hi, .int .i64 r.rate.lo, .int .i64 r.rate.hi, .int .i64 r.deep, .bool r.broken] 37)) w.heap.size 37 #[.int .i64 r.day, .int .i64 r.shown, .int .i64 r.err, .int .i64 r.bare, .int .i64 r.air.lo, .int .i64 r.air.hi, .int .i64 r.rate.lo, .int .i64 r.rate.hi, .int .i64 r.deep, .bool r.broken] := Blk.new _ _ _
 go_enter Try.func53, Try.ntmps53
 go_wp2_with (refine pause_at 5 rfl ?_)
 refine Paused.mk ?_
 refine wpList_load_row rfl 37 _ rfl _ rfl 37 _ (0, 0) _ (q1) Try.underlying37 rfl (by kernel_rfl) ?_
 go_wp2_with fail
 refine (H _ hb1).mono ?_
 rintro e w2 ⟨rfl, hb2⟩
 go_wp2
 go_ret
 exact ⟨rfl, ex_trans hb1 hb2⟩
set_option maxRecDepth 100000 in
set_option maxHeartbeats 3200000 in
theorem index_day (pu pl : Nat) (R : Nat → Bool) (l : List Rd) (n : Nat) (A : Option Addr) (c : Nat) (w : World) (hA : SlAt w w.heap.size 10 A n (fE l)) (hl : n ≤ 1000000) (pb : Nat) (hp : pb < w.heap.size) (hc : w.cell? ⟨pb, 0, none⟩ = some (.func (.func 39) #[] #[.pointer (some ⟨pu, 0, none⟩), .pointer (some ⟨pl, 0, none⟩)])) (H : ∀ k W, k < n → Below w.heap.size w W → Calls Try.prog 39 #[.agg #[.int .i64 (gE l k).day, .int .i64 (gE l k).shown, .int .i64 (gE l k).err, .int .i64 (gE l k).bare, .int .i64 (gE l k).air.lo, .int .i64 (gE l k).air.hi, .int .i64 (gE l k).rate.lo, .int .i64 (gE l k).rate.hi, .int .i64 (gE l k).deep, .bool (gE l k).broken], .pointer (some ⟨pu, 0, none⟩), .pointer (some ⟨pl, 0, none⟩)] W fun e w' => e = .returned (.bool (R k)) ∧ Below W.heap.size W w') :
  Calls Try.prog 65 #[.slice A n c, .func (.func 53) #[] #[.pointer (some ⟨pb, 0, none⟩)]] w fun e w' => e = .returned (.int .i64 (firstOf (fun k => !R k) n)) ∧ Below w.heap.size w w' := by
 go_enter Try.func65, Try.ntmps65
 go_wp2
 go_loopw [8] (fun i wr => ∃ k : Nat, k ≤ n ∧ i = .int .i64 k ∧ (∀ k', k' < k → R k' = true) ∧ Below w.heap.size w wr)
  (fun i _ => n - (intOf i).toNat)
 case atStart => exact ⟨0, by omega, rfl, fun j hj => by omega, Below.refl _ _⟩
 case round =>
  obtain ⟨k, hk, rfl, hok, hbl⟩ := hrel
  by_cases hlt : k < n
  ·
   have hAW := hA.go hbl
   obtain ⟨bi, oi, rfl, hbi, g0, g1, g2, g3, g4, g5, g6, g7, g8, g9⟩ := IsRds.at10 hAW hlt
   have hcr : wr.cell? ⟨pb, 0, none⟩ = some (.func (.func 39) #[] #[.pointer (some ⟨pu, 0, none⟩), .pointer (some ⟨pl, 0, none⟩)]) := (hbl.cell (p := ⟨pb, 0, none⟩) hp).trans hc
   have hpr : pb < wr.heap.size := by have := hbl.size; omega
   have HOK := Lib.hid hok
   have HK := Lib.hid (fun W (hW : Below wr.heap.size wr W) => H k W hlt (ex_trans hbl hW))
   clear hok H hc hA
   cases ht : R k
   ·
    have HT := Lib.hid ht
    have HF : Hid (firstOf (fun k => !R k) n = (k : Int)) := Lib.hid (firstOf_at hlt (fun j hj => by have := HOK.out j hj; simp only [this]; rfl) (by simp only [ht]; rfl))
    clear ht
    go_wp2_with fail
    refine (all1_day pu pl (R k) (gE l k) wr pb hpr hcr HK.out).mono ?_
    rintro e w2 ⟨rfl, hb2⟩
    rw [HT.out]
    go_wp2
    go_ret
    exact ⟨ret_int HF.out.symm, ex_trans hbl hb2⟩
   ·
    have HT := Lib.hid ht
    clear ht
    go_wp2_with fail
    refine (all1_day pu pl (R k) (gE l k) wr pb hpr hcr HK.out).mono ?_
    rintro e w2 ⟨rfl, hb2⟩
    rw [HT.out]
    go_wp2
    go_roundw
    case rel => exact ⟨k + 1, by omega, by go_num, fun j hj => by rcases Nat.lt_succ_iff_lt_or_eq.1 hj with h | h; exact HOK.out j h; exact h ▸ HT.out, ex_trans hbl hb2⟩
    case measure => simp [intOf]; omega
  ·
   obtain rfl : k = n := by omega
   have HF : Hid (firstOf (fun k => !R k) k = -1) := Lib.hid (firstOf_neg fun j hj => by have := hok j hj; simp only [this]; rfl)
   go_wp2
   go_ret
   exact ⟨ret_int HF.out.symm, hbl⟩
theorem cont_day (pu pl : Nat) (R : Nat → Bool) (l : List Rd) (n : Nat) (A : Option Addr) (c : Nat) (w : World) (hA : SlAt w w.heap.size 10 A n (fE l)) (hl : n ≤ 1000000) (pb : Nat) (hp : pb < w.heap.size) (hc : w.cell? ⟨pb, 0, none⟩ = some (.func (.func 39) #[] #[.pointer (some ⟨pu, 0, none⟩), .pointer (some ⟨pl, 0, none⟩)])) (H : ∀ k W, k < n → Below w.heap.size w W → Calls Try.prog 39 #[.agg #[.int .i64 (gE l k).day, .int .i64 (gE l k).shown, .int .i64 (gE l k).err, .int .i64 (gE l k).bare, .int .i64 (gE l k).air.lo, .int .i64 (gE l k).air.hi, .int .i64 (gE l k).rate.lo, .int .i64 (gE l k).rate.hi, .int .i64 (gE l k).deep, .bool (gE l k).broken], .pointer (some ⟨pu, 0, none⟩), .pointer (some ⟨pl, 0, none⟩)] W fun e w' => e = .returned (.bool (R k)) ∧ Below W.heap.size W w') :
  Calls Try.prog 52 #[.slice A n c, .func (.func 53) #[] #[.pointer (some ⟨pb, 0, none⟩)]] w fun e w' => e = .returned (.bool (!allTo R n)) ∧ Below w.heap.size w w' := by
 have HF : Hid (decide (0 ≤ firstOf (fun k => !R k) n) = !allTo R n) := Lib.hid (by rw [firstOf_nonneg]; simp)
 go_enter Try.func52, Try.ntmps52
 go_wp2_with fail
 refine (index_day pu pl R l n A c w hA hl pb hp hc H).mono ?_
 rintro e w2 ⟨rfl, hb2⟩
 go_wp2
 go_ret
 exact ⟨ret_bool HF.out, hb2⟩
theorem all_day (pu pl : Nat) (R : Nat → Bool) (l : List Rd) (n : Nat) (A : Option Addr) (c : Nat) (w : World) (hA : SlAt w w.heap.size 10 A n (fE l)) (hl : n ≤ 1000000) (H : ∀ k W, k < n → Below w.heap.size w W → Calls Try.prog 39 #[.agg #[.int .i64 (gE l k).day, .int .i64 (gE l k).shown, .int .i64 (gE l k).err, .int .i64 (gE l k).bare, .int .i64 (gE l k).air.lo, .int .i64 (gE l k).air.hi, .int .i64 (gE l k).rate.lo, .int .i64 (gE l k).rate.hi, .int .i64 (gE l k).deep, .bool (gE l k).broken], .pointer (some ⟨pu, 0, none⟩), .pointer (some ⟨pl, 0, none⟩)] W fun e w' => e = .returned (.bool (R k)) ∧ Below W.heap.size W w') :
  Calls Try.prog 40 #[.slice A n c, .func (.func 39) #[] #[.pointer (some ⟨pu, 0, none⟩), .pointer (some ⟨pl, 0, none⟩)]] w fun e w' => e = .returned (.bool (allTo R n)) ∧ Below w.heap.size w w' := by
 have hb1 := ex_alloc (Below.refl w.heap.size w) (.cells #[.func (.func 39) #[] #[.pointer (some ⟨pu, 0, none⟩), .pointer (some ⟨pl, 0, none⟩)]] 67)
 have q1 : Blk (w.alloc (.cells #[.func (.func 39) #[] #[.pointer (some ⟨pu, 0, none⟩), .pointer (some ⟨pl, 0, none⟩)]] 67)) w.heap.size 67 #[.func (.func 39) #[] #[.pointer (some ⟨pu, 0, none⟩), .pointer (some ⟨pl, 0, none⟩)]] := Blk.new _ _ _
 go_enter Try.func40, Try.ntmps40
 go_wp2_with fail
 refine (cont_day pu pl R l n A c _ (hA.go hb1) hl w.heap.size q1.lt (q1.cell 0) (fun k W hk hW => H k W hk (ex_trans hb1 hW))).mono ?_
 rintro e w2 ⟨rfl, hb2⟩
 go_wp2
 go_ret
 exact ⟨ret_bool (by simp), ex_trans hb1 hb2⟩
set_option maxRecDepth 100000 in
set_option maxHeartbeats 1600000 in
theorem all1_whole  (b : Bool) (r : Rd) (w : World) (pb : Nat) (hp : pb < w.heap.size) (hc : w.cell? ⟨pb, 0, none⟩ = some (.func (.func 41) #[] #[])) (H : ∀ W, Below w.heap.size w W → Calls Try.prog 41 #[.agg #[.int .i64 r.day, .int .i64 r.shown, .int .i64 r.err, .int .i64 r.bare, .int .i64 r.air.lo, .int .i64 r.air.hi, .int .i64 r.rate.lo, .int .i64 r.rate.hi, .int .i64 r.deep, .bool r.broken]] W fun e w' => e = .returned (.bool b) ∧ Below W.heap.size W w') :
  Calls Try.prog 53 #[.agg #[.int .i64 r.day, .int .i64 r.shown, .int .i64 r.err, .int .i64 r.bare, .int .i64 r.air.lo, .int .i64 r.air.hi, .int .i64 r.rate.lo, .int .i64 r.rate.hi, .int .i64 r.deep, .bool r.broken], .pointer (some ⟨pb, 0, none⟩)] w fun e w' => e = .returned (.bool (!b)) ∧ Below w.heap.size w w' := by
 have hb1 := ex_alloc (Below.refl w.heap.size w) (.cells #[.int .i64 r.day, .int .i64 r.shown, .int .i64 r.err, .int .i64 r.bare, .int .i64 r.air.lo, .int .i64 r.air.hi, .int .i64 r.rate.lo, .int .i64 r.rate.hi, .int .i64 r.deep, .bool r.broken] 37)
 have q1 : Blk (w.alloc (.cells #[.int .i64 r.day, .int .i64 r.shown, .int .i64 r.err, .int .i64 r.bare, .int .i64 r.air.lo, .int .i64 r.air.hi, .int .i64 r.rate.lo, .int .i64 r.rate.hi, .int .i64 r.deep, .bool r.broken] 37)) w.heap.size 37 #[.int .i64 r.day, .int .i64 r.shown, .int .i64 r.err, .int .i64 r.bare, .int .i64 r.air.lo, .int .i64 r.air.hi, .int .i64 r.rate.lo, .int .i64 r.rate.hi, .int .i64 r.deep, .bool r.broken] := Blk.new _ _ _
 go_enter Try.func53, Try.ntmps53
 go_wp2_with (refine pause_at 5 rfl ?_)
 refine Paused.mk ?_
 refine wpList_load_row rfl 37 _ rfl _ rfl 37 _ (0, 0) _ (q1) Try.underlying37 rfl (by kernel_rfl) ?_
 go_wp2_with fail
 refine (H _ hb1).mono ?_
 rintro e w2 ⟨rfl, hb2⟩
 go_wp2
 go_ret
 exact ⟨rfl, ex_trans hb1 hb2⟩
set_option maxRecDepth 100000 in
set_option maxHeartbeats 3200000 in
theorem index_whole  (R : Nat → Bool) (l : List Rd) (n : Nat) (A : Option Addr) (c : Nat) (w : World) (hA : SlAt w w.heap.size 10 A n (fE l)) (hl : n ≤ 1000000) (pb : Nat) (hp : pb < w.heap.size) (hc : w.cell? ⟨pb, 0, none⟩ = some (.func (.func 41) #[] #[])) (H : ∀ k W, k < n → Below w.heap.size w W → Calls Try.prog 41 #[.agg #[.int .i64 (gE l k).day, .int .i64 (gE l k).shown, .int .i64 (gE l k).err, .int .i64 (gE l k).bare, .int .i64 (gE l k).air.lo, .int .i64 (gE l k).air.hi, .int .i64 (gE l k).rate.lo, .int .i64 (gE l k).rate.hi, .int .i64 (gE l k).deep, .bool (gE l k).broken]] W fun e w' => e = .returned (.bool (R k)) ∧ Below W.heap.size W w') :
  Calls Try.prog 65 #[.slice A n c, .func (.func 53) #[] #[.pointer (some ⟨pb, 0, none⟩)]] w fun e w' => e = .returned (.int .i64 (firstOf (fun k => !R k) n)) ∧ Below w.heap.size w w' := by
 go_enter Try.func65, Try.ntmps65
 go_wp2
 go_loopw [8] (fun i wr => ∃ k : Nat, k ≤ n ∧ i = .int .i64 k ∧ (∀ k', k' < k → R k' = true) ∧ Below w.heap.size w wr)
  (fun i _ => n - (intOf i).toNat)
 case atStart => exact ⟨0, by omega, rfl, fun j hj => by omega, Below.refl _ _⟩
 case round =>
  obtain ⟨k, hk, rfl, hok, hbl⟩ := hrel
  by_cases hlt : k < n
  ·
   have hAW := hA.go hbl
   obtain ⟨bi, oi, rfl, hbi, g0, g1, g2, g3, g4, g5, g6, g7, g8, g9⟩ := IsRds.at10 hAW hlt
   have hcr : wr.cell? ⟨pb, 0, none⟩ = some (.func (.func 41) #[] #[]) := (hbl.cell (p := ⟨pb, 0, none⟩) hp).trans hc
   have hpr : pb < wr.heap.size := by have := hbl.size; omega
   have HOK := Lib.hid hok
   have HK := Lib.hid (fun W (hW : Below wr.heap.size wr W) => H k W hlt (ex_trans hbl hW))
   clear hok H hc hA
   cases ht : R k
   ·
    have HT := Lib.hid ht
    have HF : Hid (firstOf (fun k => !R k) n = (k : Int)) := Lib.hid (firstOf_at hlt (fun j hj => by have := HOK.out j hj; simp only [this]; rfl) (by simp only [ht]; rfl))
    clear ht
    go_wp2_with fail
    refine (all1_whole  (R k) (gE l k) wr pb hpr hcr HK.out).mono ?_
    rintro e w2 ⟨rfl, hb2⟩
    rw [HT.out]
    go_wp2
    go_ret
    exact ⟨ret_int HF.out.symm, ex_trans hbl hb2⟩
   ·
    have HT := Lib.hid ht
    clear ht
    go_wp2_with fail
    refine (all1_whole  (R k) (gE l k) wr pb hpr hcr HK.out).mono ?_
    rintro e w2 ⟨rfl, hb2⟩
    rw [HT.out]
    go_wp2
    go_roundw
    case rel => exact ⟨k + 1, by omega, by go_num, fun j hj => by rcases Nat.lt_succ_iff_lt_or_eq.1 hj with h | h; exact HOK.out j h; exact h ▸ HT.out, ex_trans hbl hb2⟩
    case measure => simp [intOf]; omega
  ·
   obtain rfl : k = n := by omega
   have HF : Hid (firstOf (fun k => !R k) k = -1) := Lib.hid (firstOf_neg fun j hj => by have := hok j hj; simp only [this]; rfl)
   go_wp2
   go_ret
   exact ⟨ret_int HF.out.symm, hbl⟩
theorem cont_whole  (R : Nat → Bool) (l : List Rd) (n : Nat) (A : Option Addr) (c : Nat) (w : World) (hA : SlAt w w.heap.size 10 A n (fE l)) (hl : n ≤ 1000000) (pb : Nat) (hp : pb < w.heap.size) (hc : w.cell? ⟨pb, 0, none⟩ = some (.func (.func 41) #[] #[])) (H : ∀ k W, k < n → Below w.heap.size w W → Calls Try.prog 41 #[.agg #[.int .i64 (gE l k).day, .int .i64 (gE l k).shown, .int .i64 (gE l k).err, .int .i64 (gE l k).bare, .int .i64 (gE l k).air.lo, .int .i64 (gE l k).air.hi, .int .i64 (gE l k).rate.lo, .int .i64 (gE l k).rate.hi, .int .i64 (gE l k).deep, .bool (gE l k).broken]] W fun e w' => e = .returned (.bool (R k)) ∧ Below W.heap.size W w') :
  Calls Try.prog 52 #[.slice A n c, .func (.func 53) #[] #[.pointer (some ⟨pb, 0, none⟩)]] w fun e w' => e = .returned (.bool (!allTo R n)) ∧ Below w.heap.size w w' := by
 have HF : Hid (decide (0 ≤ firstOf (fun k => !R k) n) = !allTo R n) := Lib.hid (by rw [firstOf_nonneg]; simp)
 go_enter Try.func52, Try.ntmps52
 go_wp2_with fail
 refine (index_whole  R l n A c w hA hl pb hp hc H).mono ?_
 rintro e w2 ⟨rfl, hb2⟩
 go_wp2
 go_ret
 exact ⟨ret_bool HF.out, hb2⟩
theorem all_whole  (R : Nat → Bool) (l : List Rd) (n : Nat) (A : Option Addr) (c : Nat) (w : World) (hA : SlAt w w.heap.size 10 A n (fE l)) (hl : n ≤ 1000000) (H : ∀ k W, k < n → Below w.heap.size w W → Calls Try.prog 41 #[.agg #[.int .i64 (gE l k).day, .int .i64 (gE l k).shown, .int .i64 (gE l k).err, .int .i64 (gE l k).bare, .int .i64 (gE l k).air.lo, .int .i64 (gE l k).air.hi, .int .i64 (gE l k).rate.lo, .int .i64 (gE l k).rate.hi, .int .i64 (gE l k).deep, .bool (gE l k).broken]] W fun e w' => e = .returned (.bool (R k)) ∧ Below W.heap.size W w') :
  Calls Try.prog 40 #[.slice A n c, .func (.func 41) #[] #[]] w fun e w' => e = .returned (.bool (allTo R n)) ∧ Below w.heap.size w w' := by
 have hb1 := ex_alloc (Below.refl w.heap.size w) (.cells #[.func (.func 41) #[] #[]] 67)
 have q1 : Blk (w.alloc (.cells #[.func (.func 41) #[] #[]] 67)) w.heap.size 67 #[.func (.func 41) #[] #[]] := Blk.new _ _ _
 go_enter Try.func40, Try.ntmps40
 go_wp2_with fail
 refine (cont_whole  R l n A c _ (hA.go hb1) hl w.heap.size q1.lt (q1.cell 0) (fun k W hk hW => H k W hk (ex_trans hb1 hW))).mono ?_
 rintro e w2 ⟨rfl, hb2⟩
 go_wp2
 go_ret
 exact ⟨ret_bool (by simp), ex_trans hb1 hb2⟩
set_option maxRecDepth 100000 in
set_option maxHeartbeats 1600000 in
theorem all1_left (pu pk pn : Nat) (b : Bool) (r : Rd) (w : World) (pb : Nat) (hp : pb < w.heap.size) (hc : w.cell? ⟨pb, 0, none⟩ = some (.func (.func 43) #[] #[.pointer (some ⟨pu, 0, none⟩), .pointer (some ⟨pk, 0, none⟩), .pointer (some ⟨pn, 0, none⟩)])) (H : ∀ W, Below w.heap.size w W → Calls Try.prog 43 #[.agg #[.int .i64 r.day, .int .i64 r.shown, .int .i64 r.err, .int .i64 r.bare, .int .i64 r.air.lo, .int .i64 r.air.hi, .int .i64 r.rate.lo, .int .i64 r.rate.hi, .int .i64 r.deep, .bool r.broken], .pointer (some ⟨pu, 0, none⟩), .pointer (some ⟨pk, 0, none⟩), .pointer (some ⟨pn, 0, none⟩)] W fun e w' => e = .returned (.bool b) ∧ Below W.heap.size W w') :
  Calls Try.prog 53 #[.agg #[.int .i64 r.day, .int .i64 r.shown, .int .i64 r.err, .int .i64 r.bare, .int .i64 r.air.lo, .int .i64 r.air.hi, .int .i64 r.rate.lo, .int .i64 r.rate.hi, .int .i64 r.deep, .bool r.broken], .pointer (some ⟨pb, 0, none⟩)] w fun e w' => e = .returned (.bool (!b)) ∧ Below w.heap.size w w' := by
 have hb1 := ex_alloc (Below.refl w.heap.size w) (.cells #[.int .i64 r.day, .int .i64 r.shown, .int .i64 r.err, .int .i64 r.bare, .int .i64 r.air.lo, .int .i64 r.air.hi, .int .i64 r.rate.lo, .int .i64 r.rate.hi, .int .i64 r.deep, .bool r.broken] 37)
 have q1 : Blk (w.alloc (.cells #[.int .i64 r.day, .int .i64 r.shown, .int .i64 r.err, .int .i64 r.bare, .int .i64 r.air.lo, .int .i64 r.air.hi, .int .i64 r.rate.lo, .int .i64 r.rate.hi, .int .i64 r.deep, .bool r.broken] 37)) w.heap.size 37 #[.int .i64 r.day, .int .i64 r.shown, .int .i64 r.err, .int .i64 r.bare, .int .i64 r.air.lo, .int .i64 r.air.hi, .int .i64 r.rate.lo, .int .i64 r.rate.hi, .int .i64 r.deep, .bool r.broken] := Blk.new _ _ _
 go_enter Try.func53, Try.ntmps53
 go_wp2_with (refine pause_at 5 rfl ?_)
 refine Paused.mk ?_
 refine wpList_load_row rfl 37 _ rfl _ rfl 37 _ (0, 0) _ (q1) Try.underlying37 rfl (by kernel_rfl) ?_
 go_wp2_with fail
 refine (H _ hb1).mono ?_
 rintro e w2 ⟨rfl, hb2⟩
 go_wp2
 go_ret
 exact ⟨rfl, ex_trans hb1 hb2⟩
set_option maxRecDepth 100000 in
set_option maxHeartbeats 3200000 in
theorem index_left (pu pk pn : Nat) (R : Nat → Bool) (l : List Rd) (n : Nat) (A : Option Addr) (c : Nat) (w : World) (hA : SlAt w w.heap.size 10 A n (fE l)) (hl : n ≤ 1000000) (pb : Nat) (hp : pb < w.heap.size) (hc : w.cell? ⟨pb, 0, none⟩ = some (.func (.func 43) #[] #[.pointer (some ⟨pu, 0, none⟩), .pointer (some ⟨pk, 0, none⟩), .pointer (some ⟨pn, 0, none⟩)])) (H : ∀ k W, k < n → Below w.heap.size w W → Calls Try.prog 43 #[.agg #[.int .i64 (gE l k).day, .int .i64 (gE l k).shown, .int .i64 (gE l k).err, .int .i64 (gE l k).bare, .int .i64 (gE l k).air.lo, .int .i64 (gE l k).air.hi, .int .i64 (gE l k).rate.lo, .int .i64 (gE l k).rate.hi, .int .i64 (gE l k).deep, .bool (gE l k).broken], .pointer (some ⟨pu, 0, none⟩), .pointer (some ⟨pk, 0, none⟩), .pointer (some ⟨pn, 0, none⟩)] W fun e w' => e = .returned (.bool (R k)) ∧ Below W.heap.size W w') :
  Calls Try.prog 65 #[.slice A n c, .func (.func 53) #[] #[.pointer (some ⟨pb, 0, none⟩)]] w fun e w' => e = .returned (.int .i64 (firstOf (fun k => !R k) n)) ∧ Below w.heap.size w w' := by
 go_enter Try.func65, Try.ntmps65
 go_wp2
 go_loopw [8] (fun i wr => ∃ k : Nat, k ≤ n ∧ i = .int .i64 k ∧ (∀ k', k' < k → R k' = true) ∧ Below w.heap.size w wr)
  (fun i _ => n - (intOf i).toNat)
 case atStart => exact ⟨0, by omega, rfl, fun j hj => by omega, Below.refl _ _⟩
 case round =>
  obtain ⟨k, hk, rfl, hok, hbl⟩ := hrel
  by_cases hlt : k < n
  ·
   have hAW := hA.go hbl
   obtain ⟨bi, oi, rfl, hbi, g0, g1, g2, g3, g4, g5, g6, g7, g8, g9⟩ := IsRds.at10 hAW hlt
   have hcr : wr.cell? ⟨pb, 0, none⟩ = some (.func (.func 43) #[] #[.pointer (some ⟨pu, 0, none⟩), .pointer (some ⟨pk, 0, none⟩), .pointer (some ⟨pn, 0, none⟩)]) := (hbl.cell (p := ⟨pb, 0, none⟩) hp).trans hc
   have hpr : pb < wr.heap.size := by have := hbl.size; omega
   have HOK := Lib.hid hok
   have HK := Lib.hid (fun W (hW : Below wr.heap.size wr W) => H k W hlt (ex_trans hbl hW))
   clear hok H hc hA
   cases ht : R k
   ·
    have HT := Lib.hid ht
    have HF : Hid (firstOf (fun k => !R k) n = (k : Int)) := Lib.hid (firstOf_at hlt (fun j hj => by have := HOK.out j hj; simp only [this]; rfl) (by simp only [ht]; rfl))
    clear ht
    go_wp2_with fail
    refine (all1_left pu pk pn (R k) (gE l k) wr pb hpr hcr HK.out).mono ?_
    rintro e w2 ⟨rfl, hb2⟩
    rw [HT.out]
    go_wp2
    go_ret
    exact ⟨ret_int HF.out.symm, ex_trans hbl hb2⟩
   ·
    have HT := Lib.hid ht
    clear ht
    go_wp2_with fail
    refine (all1_left pu pk pn (R k) (gE l k) wr pb hpr hcr HK.out).mono ?_
    rintro e w2 ⟨rfl, hb2⟩
    rw [HT.out]
    go_wp2
    go_roundw
    case rel => exact ⟨k + 1, by omega, by go_num, fun j hj => by rcases Nat.lt_succ_iff_lt_or_eq.1 hj with h | h; exact HOK.out j h; exact h ▸ HT.out, ex_trans hbl hb2⟩
    case measure => simp [intOf]; omega
  ·
   obtain rfl : k = n := by omega
   have HF : Hid (firstOf (fun k => !R k) k = -1) := Lib.hid (firstOf_neg fun j hj => by have := hok j hj; simp only [this]; rfl)
   go_wp2
   go_ret
   exact ⟨ret_int HF.out.symm, hbl⟩
theorem cont_left (pu pk pn : Nat) (R : Nat → Bool) (l : List Rd) (n : Nat) (A : Option Addr) (c : Nat) (w : World) (hA : SlAt w w.heap.size 10 A n (fE l)) (hl : n ≤ 1000000) (pb : Nat) (hp : pb < w.heap.size) (hc : w.cell? ⟨pb, 0, none⟩ = some (.func (.func 43) #[] #[.pointer (some ⟨pu, 0, none⟩), .pointer (some ⟨pk, 0, none⟩), .pointer (some ⟨pn, 0, none⟩)])) (H : ∀ k W, k < n → Below w.heap.size w W → Calls Try.prog 43 #[.agg #[.int .i64 (gE l k).day, .int .i64 (gE l k).shown, .int .i64 (gE l k).err, .int .i64 (gE l k).bare, .int .i64 (gE l k).air.lo, .int .i64 (gE l k).air.hi, .int .i64 (gE l k).rate.lo, .int .i64 (gE l k).rate.hi, .int .i64 (gE l k).deep, .bool (gE l k).broken], .pointer (some ⟨pu, 0, none⟩), .pointer (some ⟨pk, 0, none⟩), .pointer (some ⟨pn, 0, none⟩)] W fun e w' => e = .returned (.bool (R k)) ∧ Below W.heap.size W w') :
  Calls Try.prog 52 #[.slice A n c, .func (.func 53) #[] #[.pointer (some ⟨pb, 0, none⟩)]] w fun e w' => e = .returned (.bool (!allTo R n)) ∧ Below w.heap.size w w' := by
 have HF : Hid (decide (0 ≤ firstOf (fun k => !R k) n) = !allTo R n) := Lib.hid (by rw [firstOf_nonneg]; simp)
 go_enter Try.func52, Try.ntmps52
 go_wp2_with fail
 refine (index_left pu pk pn R l n A c w hA hl pb hp hc H).mono ?_
 rintro e w2 ⟨rfl, hb2⟩
 go_wp2
 go_ret
 exact ⟨ret_bool HF.out, hb2⟩
theorem all_left (pu pk pn : Nat) (R : Nat → Bool) (l : List Rd) (n : Nat) (A : Option Addr) (c : Nat) (w : World) (hA : SlAt w w.heap.size 10 A n (fE l)) (hl : n ≤ 1000000) (H : ∀ k W, k < n → Below w.heap.size w W → Calls Try.prog 43 #[.agg #[.int .i64 (gE l k).day, .int .i64 (gE l k).shown, .int .i64 (gE l k).err, .int .i64 (gE l k).bare, .int .i64 (gE l k).air.lo, .int .i64 (gE l k).air.hi, .int .i64 (gE l k).rate.lo, .int .i64 (gE l k).rate.hi, .int .i64 (gE l k).deep, .bool (gE l k).broken], .pointer (some ⟨pu, 0, none⟩), .pointer (some ⟨pk, 0, none⟩), .pointer (some ⟨pn, 0, none⟩)] W fun e w' => e = .returned (.bool (R k)) ∧ Below W.heap.size W w') :
  Calls Try.prog 40 #[.slice A n c, .func (.func 43) #[] #[.pointer (some ⟨pu, 0, none⟩), .pointer (some ⟨pk, 0, none⟩), .pointer (some ⟨pn, 0, none⟩)]] w fun e w' => e = .returned (.bool (allTo R n)) ∧ Below w.heap.size w w' := by
 have hb1 := ex_alloc (Below.refl w.heap.size w) (.cells #[.func (.func 43) #[] #[.pointer (some ⟨pu, 0, none⟩), .pointer (some ⟨pk, 0, none⟩), .pointer (some ⟨pn, 0, none⟩)]] 67)
 have q1 : Blk (w.alloc (.cells #[.func (.func 43) #[] #[.pointer (some ⟨pu, 0, none⟩), .pointer (some ⟨pk, 0, none⟩), .pointer (some ⟨pn, 0, none⟩)]] 67)) w.heap.size 67 #[.func (.func 43) #[] #[.pointer (some ⟨pu, 0, none⟩), .pointer (some ⟨pk, 0, none⟩), .pointer (some ⟨pn, 0, none⟩)]] := Blk.new _ _ _
 go_enter Try.func40, Try.ntmps40
 go_wp2_with fail
 refine (cont_left pu pk pn R l n A c _ (hA.go hb1) hl w.heap.size q1.lt (q1.cell 0) (fun k W hk hW => H k W hk (ex_trans hb1 hW))).mono ?_
 rintro e w2 ⟨rfl, hb2⟩
 go_wp2
 go_ret
 exact ⟨ret_bool (by simp), ex_trans hb1 hb2⟩

end Go.Proofs.Ytkaogjhnogkcdaa
end

section
namespace Go.Proofs.Ytkaogjhnogkcdaa
open Go.RowKit
attribute [local go_sem] Ex.cell? Ex.frozen? Gx.cell?

end Go.Proofs.Ytkaogjhnogkcdaa
end

section
namespace Go.Proofs.Ytkaogjhnogkcdaa
open Go.RowKit
attribute [local go_sem] Ex.cell? Ex.frozen?

def lifeF (h : List Rg) (l : List Ic) : Int := if hisF h ≠ 0 then hisF h else icsF h.length l
end Go.Proofs.Ytkaogjhnogkcdaa
end

section
namespace Go.Proofs.Ytkaogjhnogkcdaa
open Go.RowKit Go.ChangeShapes Go.WideShapes Go.ChangeAt
section
variable {H : Type} {enc : TypeId × Value → H} {w : World} {base : Nat} {spare : Nat → Bool} {held : Bool} {r : Reach} {b0 : Nat}
def cRd (r : Rd) : List Value := [.int .i64 r.day, .int .i64 r.shown, .int .i64 r.err, .int .i64 r.bare, .int .i64 r.air.lo, .int .i64 r.air.hi, .int .i64 r.rate.lo, .int .i64 r.rate.hi, .int .i64 r.deep, .bool r.broken]
instance : Inhabited Rd := ⟨⟨0, 0, 0, 0, ⟨0, 0⟩, ⟨0, 0⟩, 0, false⟩⟩
end
end Go.Proofs.Ytkaogjhnogkcdaa
end

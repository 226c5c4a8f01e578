/- Stem: enough, accepted, Accept (walks). · Stem: Accept (walk). · Stem: Bare (walk). · Stem: IceOf (walk). · Stem: all[Reading] (walk). · Stem's law: the conversion of a glass, whose rows are young (turned from Glass' own walk). · Stem's reference and law: the rest of what has no loop but one (walks). -/
import Derived.Test.YtkaogjhnogkcdaaGreatJ18
import Derived.Test.YtkaogjhnogkcdaaGreatJ10
import Derived.Test.YtkaogjhnogkcdaaGreatJ20
import Derived.Test.YtkaogjhnogkcdaaGreatJ14
set_option linter.unusedVariables false
set_option linter.unusedSimpArgs false
set_option linter.unusedSectionVars false
section
namespace Go.Proofs.YtkaogjhnogkcdaaGreat
open Go.RowKit
attribute [local go_sem] Ex.cell? Ex.frozen?

theorem sm_enough (most a b : Int) (w : World) (ha : -1000000 ≤ a ∧ a ≤ 1000000) (hb : -1000000 ≤ b ∧ b ≤ 1000000) :
  Calls Tryz.prog 59 #[.int .i64 most, .agg #[.int .i64 a, .int .i64 b]] w fun e w' => e = .returned (.bool (decide (b - a ≤ most))) ∧ Below w.heap.size w w' := by
 have hb1 := ex_alloc (Below.refl w.heap.size w) (.cells #[.int .i64 a, .int .i64 b] 41)
 go_enter Tryz.func59, Tryz.ntmps59
 go_wp2
 go_ret
 exact ⟨rfl, hb1⟩
def badE (a : Int) : Int := if a ≠ 0 then a else 2
theorem cor_bd {t : Tb} {r : Rd} {z : Rg} (ht : TbBd t) (hr : RdBd r) (hz : (-2000 ≤ z.lo ∧ z.lo ≤ 2000) ∧ (-2000 ≤ z.hi ∧ z.hi ≤ 2000)) : (-10000 ≤ (corP2 t r z).lo ∧ (corP2 t r z).lo ≤ 10000) ∧ (-10000 ≤ (corP2 t r z).hi ∧ (corP2 t r z).hi ≤ 10000) := by
 have := bnd_bd ht hr
 unfold corP2
 simp only
 omega
set_option maxRecDepth 100000 in
set_option maxHeartbeats 6400000 in
theorem sm_acc_bad (t : Tb) (Ab Ad : Option Addr) (cb cd : Nat) (Ah Ai : Option Addr) (ch ci : Nat) (h : List Rg) (l : List Ic) (r : Rd) (most : Int) (w : World) (hg : GlIn w w.heap.size t.g Ab Ad) (hh : SlAt w w.heap.size 2 Ah h.length (fR h)) (hi : SlAt w w.heap.size 3 Ai l.length (fC l)) (hhl : h.length ≤ 1000000) (hbad : askE t h l r ≠ 0 ∨ most < 0) :
  Calls Tryz.prog 58 #[.agg #[.int .i64 t.g.base, .slice Ab t.g.bands.length cb, .slice Ad t.g.depths.length cd, .int .i64 t.g.blo, .int .i64 t.g.bhi, .int .i64 t.k.lo, .int .i64 t.k.hi, .int .i64 t.lag.lo, .int .i64 t.lag.hi, .int .i64 t.sq.lo, .int .i64 t.sq.hi, .int .i64 t.term], .slice Ah h.length ch, .slice Ai l.length ci, .agg #[.int .i64 r.day, .int .i64 r.shown, .int .i64 r.err, .int .i64 r.bare, .int .i64 r.air.lo, .int .i64 r.air.hi, .int .i64 r.rate.lo, .int .i64 r.rate.hi, .int .i64 r.deep, .bool r.broken], .int .i64 most] w fun e w' => (∃ C, UseC C ∧ e = .returned (.tuple #[.agg C, .int .i64 (badE (askE t h l r))])) ∧ Below w.heap.size w w' := by
 by_cases ha : askE t h l r = 0
 ·
  have HA := Lib.hid ha
  have hm : most < 0 := hbad.resolve_left (by simp [ha])
  have HR : Hid (badE (askE t h l r) = 2) := Lib.hid (if_neg (by simp [ha]))
  have hm' : decide (most < 0) = true := decide_eq_true hm
  clear ha hbad
  go_enter Tryz.func58, Tryz.ntmps58
  go_upto_region 1 with fail
  show Code.wp _ _ _ _ _
  refine box3 (K := fun V => Code.wp _ _ _ _ V) ?_
  intro V hb1 q1 q2 q3
  replace hg := hg.go hb1
  replace hh := (hh.below hb1).up hb1.size
  replace hi := (hi.below hb1).up hb1.size
  obtain ⟨pq1, hpq1⟩ : ∃ p, w.heap.size = p := ⟨_, rfl⟩
  obtain ⟨pq2, hpq2⟩ : ∃ p, w.heap.size + 1 = p := ⟨_, rfl⟩
  obtain ⟨pq3, hpq3⟩ : ∃ p, w.heap.size + 1 + 1 = p := ⟨_, rfl⟩
  rw [hpq3] at q3 ⊢
  rw [hpq2] at q2 ⊢
  rw [hpq1] at q1 ⊢
  have hp1 : w.heap.size ≤ pq1 := by omega
  have hp2 : w.heap.size ≤ pq2 := by omega
  have hp3 : w.heap.size ≤ pq3 := by omega
  clear hpq1 hpq2 hpq3
  go_wp2_with (refine pause_at 15 rfl ?_)
  refine Paused.mk ?_
  refine wpList_load_row rfl 45 _ rfl _ rfl 45 _ (0, 0) _ (q1) Tryz.underlying45 rfl (by kernel_rfl) ?_
  go_wp2_with (refine pause_at 18 rfl ?_)
  refine Paused.mk ?_
  refine wpList_load_row rfl 52 _ rfl _ rfl 52 _ (0, 0) _ (q2) Tryz.underlying52 rfl (by kernel_rfl) ?_
  go_wp2_with fail
  refine (sm_ask_ok t _ _ _ _ _ _ _ _ h l r _ hg hh hi hhl HA.out).mono ?_
  rintro e V1 ⟨⟨Az, nz, zs, rfl, hz, hyo, hsz⟩, hV1⟩
  replace q1 := q1.below hV1 q1.lt
  replace q2 := q2.below hV1 q2.lt
  replace q3 := q3.below hV1 q3.lt
  replace hg := hg.go hV1
  replace hh := (hh.below hV1).up hV1.size
  replace hi := (hi.below hV1).up hV1.size
  have B_V1 := ex_trans hb1 hV1
  have NA := ex_alloc (Below.refl V1.heap.size V1) (.cells #[.int .i64 0, .slice none 0 0, .slice none 0 0, .int .i64 0, .int .i64 0, .int .i64 0, .int .i64 0, .int .i64 0, .int .i64 0, .int .i64 0, .int .i64 0, .int .i64 0, .slice none 0 0, .slice none 0 0, .slice none 0 0] 116)
  have q4 : Blk (V1.alloc (.cells #[.int .i64 0, .slice none 0 0, .slice none 0 0, .int .i64 0, .int .i64 0, .int .i64 0, .int .i64 0, .int .i64 0, .int .i64 0, .int .i64 0, .int .i64 0, .int .i64 0, .slice none 0 0, .slice none 0 0, .slice none 0 0] 116)) V1.heap.size 116 #[.int .i64 0, .slice none 0 0, .slice none 0 0, .int .i64 0, .int .i64 0, .int .i64 0, .int .i64 0, .int .i64 0, .int .i64 0, .int .i64 0, .int .i64 0, .int .i64 0, .slice none 0 0, .slice none 0 0, .slice none 0 0] := Blk.new _ _ _
  obtain ⟨p4, hp4'⟩ : ∃ p, V1.heap.size = p := ⟨_, rfl⟩
  rw [hp4'] at q4
  go_wp2_with (refine pause_store 116 rfl ?_)
  refine Paused.mk ?_
  refine wpList_store_row rfl 116 _ _ rfl _ #[.int .i64 t.g.base, .slice Ab t.g.bands.length cb, .slice Ad t.g.depths.length cd, .int .i64 t.g.blo, .int .i64 t.g.bhi, .int .i64 t.k.lo, .int .i64 t.k.hi, .int .i64 t.lag.lo, .int .i64 t.lag.hi, .int .i64 t.sq.lo, .int .i64 t.sq.hi, .int .i64 t.term, .slice Ah h.length ch, .slice Ai l.length ci, .slice Az nz nz] (by kernel_rfl) (by kernel_rfl) 116 _ q4 (by kernel_rfl) (by kernel_rfl) (by kernel_rfl) ?_
  replace q4 := q4.setRow #[.int .i64 t.g.base, .slice Ab t.g.bands.length cb, .slice Ad t.g.depths.length cd, .int .i64 t.g.blo, .int .i64 t.g.bhi, .int .i64 t.k.lo, .int .i64 t.k.hi, .int .i64 t.lag.lo, .int .i64 t.lag.hi, .int .i64 t.sq.lo, .int .i64 t.sq.hi, .int .i64 t.term, .slice Ah h.length ch, .slice Ai l.length ci, .slice Az nz nz]
  have XZ : Below V1.heap.size V1 ((V1.alloc (.cells #[.int .i64 0, .slice none 0 0, .slice none 0 0, .int .i64 0, .int .i64 0, .int .i64 0, .int .i64 0, .int .i64 0, .int .i64 0, .int .i64 0, .int .i64 0, .int .i64 0, .slice none 0 0, .slice none 0 0, .slice none 0 0] 116)).setRow p4 #[.int .i64 t.g.base, .slice Ab t.g.bands.length cb, .slice Ad t.g.depths.length cd, .int .i64 t.g.blo, .int .i64 t.g.bhi, .int .i64 t.k.lo, .int .i64 t.k.hi, .int .i64 t.lag.lo, .int .i64 t.lag.hi, .int .i64 t.sq.lo, .int .i64 t.sq.hi, .int .i64 t.term, .slice Ah h.length ch, .slice Ai l.length ci, .slice Az nz nz]) := ex_row NA (Nat.le_of_eq hp4') #[.int .i64 t.g.base, .slice Ab t.g.bands.length cb, .slice Ad t.g.depths.length cd, .int .i64 t.g.blo, .int .i64 t.g.bhi, .int .i64 t.k.lo, .int .i64 t.k.hi, .int .i64 t.lag.lo, .int .i64 t.lag.hi, .int .i64 t.sq.lo, .int .i64 t.sq.hi, .int .i64 t.term, .slice Ah h.length ch, .slice Ai l.length ci, .slice Az nz nz]
  have hp4 : w.heap.size ≤ p4 := by have := B_V1.size; omega
  clear NA hp4'
  replace q1 := q1.below XZ q1.lt
  replace q2 := q2.below XZ q2.lt
  replace q3 := q3.below XZ q3.lt
  replace hg := hg.go XZ
  replace hh := (hh.below XZ).up XZ.size
  replace hi := (hi.below XZ).up XZ.size
  have B_V2 := ex_trans B_V1 XZ
  clear XZ
  generalize (V1.alloc (.cells #[.int .i64 0, .slice none 0 0, .slice none 0 0, .int .i64 0, .int .i64 0, .int .i64 0, .int .i64 0, .int .i64 0, .int .i64 0, .int .i64 0, .int .i64 0, .int .i64 0, .slice none 0 0, .slice none 0 0, .slice none 0 0] 116)).setRow p4 #[.int .i64 t.g.base, .slice Ab t.g.bands.length cb, .slice Ad t.g.depths.length cd, .int .i64 t.g.blo, .int .i64 t.g.bhi, .int .i64 t.k.lo, .int .i64 t.k.hi, .int .i64 t.lag.lo, .int .i64 t.lag.hi, .int .i64 t.sq.lo, .int .i64 t.sq.hi, .int .i64 t.term, .slice Ah h.length ch, .slice Ai l.length ci, .slice Az nz nz] = V2 at *
  go_wp2_with (refine pause_store 116 rfl ?_)
  refine Paused.mk ?_
  refine wpList_store_row rfl 116 _ _ rfl _ #[.int .i64 0, .slice none 0 0, .slice none 0 0, .int .i64 0, .int .i64 0, .int .i64 0, .int .i64 0, .int .i64 0, .int .i64 0, .int .i64 0, .int .i64 0, .int .i64 0, .slice none 0 0, .slice none 0 0, .slice none 0 0] (by kernel_rfl) (by kernel_rfl) 116 _ q3 (by kernel_rfl) (by kernel_rfl) (by kernel_rfl) ?_
  go_wp2
  refine bodyPost_ret (results_ct_row rfl _ _ _ 116 #[.int .i64 0, .slice none 0 0, .slice none 0 0, .int .i64 0, .int .i64 0, .int .i64 0, .int .i64 0, .int .i64 0, .int .i64 0, .int .i64 0, .int .i64 0, .int .i64 0, .slice none 0 0, .slice none 0 0, .slice none 0 0] (0, 0) _ rfl (q3.setRow _) rfl rfl rfl) rfl ?_
  exact ⟨⟨_, ⟨rfl, by kernel_rfl⟩, by rw [HR.out]; rfl⟩, ex_row B_V2 hp3 _⟩
 ·
  have HA := Lib.hid ha
  have HR : Hid (badE (askE t h l r) = askE t h l r) := Lib.hid (if_pos ha)
  have e2 : (askE t h l r != 0) = true := by simp [ha]
  clear ha hbad
  go_enter Tryz.func58, Tryz.ntmps58
  go_upto_region 1 with fail
  show Code.wp _ _ _ _ _
  refine box3 (K := fun V => Code.wp _ _ _ _ V) ?_
  intro V hb1 q1 q2 q3
  replace hg := hg.go hb1
  replace hh := (hh.below hb1).up hb1.size
  replace hi := (hi.below hb1).up hb1.size
  obtain ⟨pq1, hpq1⟩ : ∃ p, w.heap.size = p := ⟨_, rfl⟩
  obtain ⟨pq2, hpq2⟩ : ∃ p, w.heap.size + 1 = p := ⟨_, rfl⟩
  obtain ⟨pq3, hpq3⟩ : ∃ p, w.heap.size + 1 + 1 = p := ⟨_, rfl⟩
  rw [hpq3] at q3 ⊢
  rw [hpq2] at q2 ⊢
  rw [hpq1] at q1 ⊢
  have hp1 : w.heap.size ≤ pq1 := by omega
  have hp2 : w.heap.size ≤ pq2 := by omega
  have hp3 : w.heap.size ≤ pq3 := by omega
  clear hpq1 hpq2 hpq3
  go_wp2_with (refine pause_at 15 rfl ?_)
  refine Paused.mk ?_
  refine wpList_load_row rfl 45 _ rfl _ rfl 45 _ (0, 0) _ (q1) Tryz.underlying45 rfl (by kernel_rfl) ?_
  go_wp2_with (refine pause_at 18 rfl ?_)
  refine Paused.mk ?_
  refine wpList_load_row rfl 52 _ rfl _ rfl 52 _ (0, 0) _ (q2) Tryz.underlying52 rfl (by kernel_rfl) ?_
  go_wp2_with fail
  refine (sm_ask_bad t _ _ _ _ _ _ _ _ h l r _ hg hh hi hhl HA.out).mono ?_
  rintro e V3 ⟨⟨C, hC, rfl⟩, hV3⟩
  replace q1 := q1.below hV3 q1.lt
  replace q2 := q2.below hV3 q2.lt
  replace q3 := q3.below hV3 q3.lt
  replace hg := hg.go hV3
  replace hh := (hh.below hV3).up hV3.size
  replace hi := (hi.below hV3).up hV3.size
  have B_V3 := ex_trans hb1 hV3
  have NA := ex_alloc (Below.refl V3.heap.size V3) (.cells #[.int .i64 0, .slice none 0 0, .slice none 0 0, .int .i64 0, .int .i64 0, .int .i64 0, .int .i64 0, .int .i64 0, .int .i64 0, .int .i64 0, .int .i64 0, .int .i64 0, .slice none 0 0, .slice none 0 0, .slice none 0 0] 116)
  have q4 : Blk (V3.alloc (.cells #[.int .i64 0, .slice none 0 0, .slice none 0 0, .int .i64 0, .int .i64 0, .int .i64 0, .int .i64 0, .int .i64 0, .int .i64 0, .int .i64 0, .int .i64 0, .int .i64 0, .slice none 0 0, .slice none 0 0, .slice none 0 0] 116)) V3.heap.size 116 #[.int .i64 0, .slice none 0 0, .slice none 0 0, .int .i64 0, .int .i64 0, .int .i64 0, .int .i64 0, .int .i64 0, .int .i64 0, .int .i64 0, .int .i64 0, .int .i64 0, .slice none 0 0, .slice none 0 0, .slice none 0 0] := Blk.new _ _ _
  obtain ⟨p4, hp4'⟩ : ∃ p, V3.heap.size = p := ⟨_, rfl⟩
  rw [hp4'] at q4
  go_wp2_with (refine pause_store 116 rfl ?_)
  refine Paused.mk ?_
  refine wpList_store_row rfl 116 _ _ rfl _ C (by kernel_rfl) (by kernel_rfl) 116 _ q4 (by rw [hC.size]; kernel_rfl) (by rw [hC.size]; rfl) hC.one ?_
  replace q4 := q4.setRow C
  have XZ : Below V3.heap.size V3 ((V3.alloc (.cells #[.int .i64 0, .slice none 0 0, .slice none 0 0, .int .i64 0, .int .i64 0, .int .i64 0, .int .i64 0, .int .i64 0, .int .i64 0, .int .i64 0, .int .i64 0, .int .i64 0, .slice none 0 0, .slice none 0 0, .slice none 0 0] 116)).setRow p4 C) := ex_row NA (Nat.le_of_eq hp4') C
  have hp4 : w.heap.size ≤ p4 := by have := B_V3.size; omega
  clear NA hp4'
  replace q1 := q1.below XZ q1.lt
  replace q2 := q2.below XZ q2.lt
  replace q3 := q3.below XZ q3.lt
  replace hg := hg.go XZ
  replace hh := (hh.below XZ).up XZ.size
  replace hi := (hi.below XZ).up XZ.size
  have B_V4 := ex_trans B_V3 XZ
  clear XZ
  generalize (V3.alloc (.cells #[.int .i64 0, .slice none 0 0, .slice none 0 0, .int .i64 0, .int .i64 0, .int .i64 0, .int .i64 0, .int .i64 0, .int .i64 0, .int .i64 0, .int .i64 0, .int .i64 0, .slice none 0 0, .slice none 0 0, .slice none 0 0] 116)).setRow p4 C = V4 at *
  go_wp2_with (refine pause_store 116 rfl ?_)
  refine Paused.mk ?_
  refine wpList_store_row rfl 116 _ _ rfl _ #[.int .i64 0, .slice none 0 0, .slice none 0 0, .int .i64 0, .int .i64 0, .int .i64 0, .int .i64 0, .int .i64 0, .int .i64 0, .int .i64 0, .int .i64 0, .int .i64 0, .slice none 0 0, .slice none 0 0, .slice none 0 0] (by kernel_rfl) (by kernel_rfl) 116 _ q3 (by kernel_rfl) (by kernel_rfl) (by kernel_rfl) ?_
  go_wp2
  refine bodyPost_ret (results_ct_row rfl _ _ _ 116 #[.int .i64 0, .slice none 0 0, .slice none 0 0, .int .i64 0, .int .i64 0, .int .i64 0, .int .i64 0, .int .i64 0, .int .i64 0, .int .i64 0, .int .i64 0, .int .i64 0, .slice none 0 0, .slice none 0 0, .slice none 0 0] (0, 0) _ rfl (q3.setRow _) rfl rfl rfl) rfl ?_
  exact ⟨⟨_, ⟨rfl, by kernel_rfl⟩, by rw [HR.out]; rfl⟩, ex_row B_V4 hp3 _⟩
set_option maxRecDepth 100000 in
set_option maxHeartbeats 6400000 in
theorem sm_acc_ok (t : Tb) (Ab Ad : Option Addr) (cb cd : Nat) (Ah Ai : Option Addr) (ch ci : Nat) (h : List Rg) (l : List Ic) (r : Rd) (most : Int) (w : World) (hg : GlIn w w.heap.size t.g Ab Ad) (hh : SlAt w w.heap.size 2 Ah h.length (fR h)) (hi : SlAt w w.heap.size 3 Ai l.length (fC l)) (hhl : h.length ≤ 1000000) (ha : askE t h l r = 0) (hm : 0 ≤ most) :
  Calls Tryz.prog 58 #[.agg #[.int .i64 t.g.base, .slice Ab t.g.bands.length cb, .slice Ad t.g.depths.length cd, .int .i64 t.g.blo, .int .i64 t.g.bhi, .int .i64 t.k.lo, .int .i64 t.k.hi, .int .i64 t.lag.lo, .int .i64 t.lag.hi, .int .i64 t.sq.lo, .int .i64 t.sq.hi, .int .i64 t.term], .slice Ah h.length ch, .slice Ai l.length ci, .agg #[.int .i64 r.day, .int .i64 r.shown, .int .i64 r.err, .int .i64 r.bare, .int .i64 r.air.lo, .int .i64 r.air.hi, .int .i64 r.rate.lo, .int .i64 r.rate.hi, .int .i64 r.deep, .bool r.broken], .int .i64 most] w fun e w' => (∃ Az nz zs, e = .returned (.tuple #[.agg #[.int .i64 t.g.base, .slice Ab t.g.bands.length cb, .slice Ad t.g.depths.length cd, .int .i64 t.g.blo, .int .i64 t.g.bhi, .int .i64 t.k.lo, .int .i64 t.k.hi, .int .i64 t.lag.lo, .int .i64 t.lag.hi, .int .i64 t.sq.lo, .int .i64 t.sq.hi, .int .i64 t.term, .slice Ah h.length ch, .slice Ai l.length ci, .slice Az nz nz], .int .i64 (refE t l r (agreeB t.g h l off0))]) ∧ Hid (UseV t h l nz zs) ∧ Hid (YoungAt Az w.heap.size) ∧ SlAt w' w'.heap.size 2 Az nz (fR zs)) ∧ Below w.heap.size w w' := by
 have HA := Lib.hid ha
 have HO := Lib.hid (ask_bd ha)
 have hm' : decide (most < 0) = false := decide_eq_false (by omega)
 clear ha
 go_enter Tryz.func58, Tryz.ntmps58
 go_upto_region 1 with fail
 show Code.wp _ _ _ _ _
 refine box3 (K := fun V => Code.wp _ _ _ _ V) ?_
 intro V hb1 q1 q2 q3
 replace hg := hg.go hb1
 replace hh := (hh.below hb1).up hb1.size
 replace hi := (hi.below hb1).up hb1.size
 obtain ⟨pq1, hpq1⟩ : ∃ p, w.heap.size = p := ⟨_, rfl⟩
 obtain ⟨pq2, hpq2⟩ : ∃ p, w.heap.size + 1 = p := ⟨_, rfl⟩
 obtain ⟨pq3, hpq3⟩ : ∃ p, w.heap.size + 1 + 1 = p := ⟨_, rfl⟩
 rw [hpq3] at q3 ⊢
 rw [hpq2] at q2 ⊢
 rw [hpq1] at q1 ⊢
 have hp1 : w.heap.size ≤ pq1 := by omega
 have hp2 : w.heap.size ≤ pq2 := by omega
 have hp3 : w.heap.size ≤ pq3 := by omega
 clear hpq1 hpq2 hpq3
 go_wp2_with (refine pause_at 15 rfl ?_)
 refine Paused.mk ?_
 refine wpList_load_row rfl 45 _ rfl _ rfl 45 _ (0, 0) _ (q1) Tryz.underlying45 rfl (by kernel_rfl) ?_
 go_wp2_with (refine pause_at 18 rfl ?_)
 refine Paused.mk ?_
 refine wpList_load_row rfl 52 _ rfl _ rfl 52 _ (0, 0) _ (q2) Tryz.underlying52 rfl (by kernel_rfl) ?_
 have q3p : pq3 + 1 ≤ V.heap.size := q3.lt
 have hyV := hb1.size
 go_wp2_with fail
 refine (sm_ask_ok t _ _ _ _ _ _ _ _ h l r _ hg hh hi hhl HA.out).mono ?_
 rintro e V1 ⟨⟨Az, nz, zs, rfl, hz, hyo, hsz⟩, hV1⟩
 replace q1 := q1.below hV1 q1.lt
 replace q2 := q2.below hV1 q2.lt
 replace q3 := q3.below hV1 q3.lt
 replace hg := hg.go hV1
 replace hh := (hh.below hV1).up hV1.size
 replace hi := (hi.below hV1).up hV1.size
 have B_V1 := ex_trans hb1 hV1
 have NA := ex_alloc (Below.refl V1.heap.size V1) (.cells #[.int .i64 0, .slice none 0 0, .slice none 0 0, .int .i64 0, .int .i64 0, .int .i64 0, .int .i64 0, .int .i64 0, .int .i64 0, .int .i64 0, .int .i64 0, .int .i64 0, .slice none 0 0, .slice none 0 0, .slice none 0 0] 116)
 have q4 : Blk (V1.alloc (.cells #[.int .i64 0, .slice none 0 0, .slice none 0 0, .int .i64 0, .int .i64 0, .int .i64 0, .int .i64 0, .int .i64 0, .int .i64 0, .int .i64 0, .int .i64 0, .int .i64 0, .slice none 0 0, .slice none 0 0, .slice none 0 0] 116)) V1.heap.size 116 #[.int .i64 0, .slice none 0 0, .slice none 0 0, .int .i64 0, .int .i64 0, .int .i64 0, .int .i64 0, .int .i64 0, .int .i64 0, .int .i64 0, .int .i64 0, .int .i64 0, .slice none 0 0, .slice none 0 0, .slice none 0 0] := Blk.new _ _ _
 obtain ⟨p4, hp4'⟩ : ∃ p, V1.heap.size = p := ⟨_, rfl⟩
 rw [hp4'] at q4
 go_wp2_with (refine pause_store 116 rfl ?_)
 refine Paused.mk ?_
 refine wpList_store_row rfl 116 _ _ rfl _ #[.int .i64 t.g.base, .slice Ab t.g.bands.length cb, .slice Ad t.g.depths.length cd, .int .i64 t.g.blo, .int .i64 t.g.bhi, .int .i64 t.k.lo, .int .i64 t.k.hi, .int .i64 t.lag.lo, .int .i64 t.lag.hi, .int .i64 t.sq.lo, .int .i64 t.sq.hi, .int .i64 t.term, .slice Ah h.length ch, .slice Ai l.length ci, .slice Az nz nz] (by kernel_rfl) (by kernel_rfl) 116 _ q4 (by kernel_rfl) (by kernel_rfl) (by kernel_rfl) ?_
 replace q4 := q4.setRow #[.int .i64 t.g.base, .slice Ab t.g.bands.length cb, .slice Ad t.g.depths.length cd, .int .i64 t.g.blo, .int .i64 t.g.bhi, .int .i64 t.k.lo, .int .i64 t.k.hi, .int .i64 t.lag.lo, .int .i64 t.lag.hi, .int .i64 t.sq.lo, .int .i64 t.sq.hi, .int .i64 t.term, .slice Ah h.length ch, .slice Ai l.length ci, .slice Az nz nz]
 have XZ : Below V1.heap.size V1 ((V1.alloc (.cells #[.int .i64 0, .slice none 0 0, .slice none 0 0, .int .i64 0, .int .i64 0, .int .i64 0, .int .i64 0, .int .i64 0, .int .i64 0, .int .i64 0, .int .i64 0, .int .i64 0, .slice none 0 0, .slice none 0 0, .slice none 0 0] 116)).setRow p4 #[.int .i64 t.g.base, .slice Ab t.g.bands.length cb, .slice Ad t.g.depths.length cd, .int .i64 t.g.blo, .int .i64 t.g.bhi, .int .i64 t.k.lo, .int .i64 t.k.hi, .int .i64 t.lag.lo, .int .i64 t.lag.hi, .int .i64 t.sq.lo, .int .i64 t.sq.hi, .int .i64 t.term, .slice Ah h.length ch, .slice Ai l.length ci, .slice Az nz nz]) := ex_row NA (Nat.le_of_eq hp4') #[.int .i64 t.g.base, .slice Ab t.g.bands.length cb, .slice Ad t.g.depths.length cd, .int .i64 t.g.blo, .int .i64 t.g.bhi, .int .i64 t.k.lo, .int .i64 t.k.hi, .int .i64 t.lag.lo, .int .i64 t.lag.hi, .int .i64 t.sq.lo, .int .i64 t.sq.hi, .int .i64 t.term, .slice Ah h.length ch, .slice Ai l.length ci, .slice Az nz nz]
 have hp4 : w.heap.size ≤ p4 := by have := B_V1.size; omega
 clear NA hp4'
 replace q1 := q1.below XZ q1.lt
 replace q2 := q2.below XZ q2.lt
 replace q3 := q3.below XZ q3.lt
 replace hg := hg.go XZ
 replace hh := (hh.below XZ).up XZ.size
 replace hi := (hi.below XZ).up XZ.size
 replace hsz := (hsz.below XZ).up XZ.size
 have B_V2 := ex_trans B_V1 XZ
 clear XZ
 generalize (V1.alloc (.cells #[.int .i64 0, .slice none 0 0, .slice none 0 0, .int .i64 0, .int .i64 0, .int .i64 0, .int .i64 0, .int .i64 0, .int .i64 0, .int .i64 0, .int .i64 0, .int .i64 0, .slice none 0 0, .slice none 0 0, .slice none 0 0] 116)).setRow p4 #[.int .i64 t.g.base, .slice Ab t.g.bands.length cb, .slice Ad t.g.depths.length cd, .int .i64 t.g.blo, .int .i64 t.g.bhi, .int .i64 t.k.lo, .int .i64 t.k.hi, .int .i64 t.lag.lo, .int .i64 t.lag.hi, .int .i64 t.sq.lo, .int .i64 t.sq.hi, .int .i64 t.term, .slice Ah h.length ch, .slice Ai l.length ci, .slice Az nz nz] = V2 at *
 obtain ⟨k, hk, hkl⟩ := HO.out.day
 have hd : 0 ≤ r.day ∧ r.day ≤ 1000000 := by omega
 have hnz := use_le hz.out
 have h8 := HO.out.l8
 have HG := Lib.hid (use_ag hz.out HO.out.ok.nh.1)
 clear hk
 go_wp2_with fail
 refine wp_region_ext_mix 4 [(false, 0), (false, 1), (false, 2), (true, 3)] (by kernel_rfl) (by kernel_rfl) (by intro d _ _ _ _ h; cases d <;> exact h) ?_
 have D0 := (Below.refl V2.heap.size V2).drew
 refine mix_quiet rfl ?_
 refine wpQuiet_load_row rfl 116 _ rfl _ rfl 116 _ (0, 0) _ q4.ex Tryz.underlying116 rfl (by kernel_rfl) ?_
 simp only [Act.put, List.setIfInBounds_toArray, List.set_cons_zero, List.set_cons_succ]
 refine wpQuiet_nil ?_
 refine mix_quiet rfl ?_
 refine wpQuiet_load_row rfl 116 _ rfl _ rfl 116 _ (0, 0) _ q4.ex Tryz.underlying116 rfl (by kernel_rfl) ?_
 simp only [Act.put, List.setIfInBounds_toArray, List.set_cons_zero, List.set_cons_succ]
 refine wpQuiet_nil ?_
 refine mix_quiet rfl ?_
 refine wpQuiet_load_row rfl 52 _ rfl _ rfl 52 _ (0, 0) _ q2.ex Tryz.underlying52 rfl (by kernel_rfl) ?_
 simp only [Act.put, List.setIfInBounds_toArray, List.set_cons_zero, List.set_cons_succ]
 refine wpQuiet_nil ?_
 refine mix_loud rfl ?_
 go_wp2_with fail
 refine (sm_refused t Ab Ad Ah Ai Az cb cd ch ci nz nz h l r V2.drew (hi.go D0) (by omega) hd (by omega)).mono ?_
 rintro e Y ⟨rfl, hY⟩
 rw [HG.out]
 have XY := ex_trans D0 hY
 go_wp2_with fail
 refine ⟨inEx XY, ?_⟩
 refine mix_nil (r := [_, _]) rfl ?_
 replace q3 := q3.below XY q3.lt
 have hsz2 := hsz.go XY
 go_wp2_with (refine pause_store 116 rfl ?_)
 refine Paused.mk ?_
 refine wpList_store_row rfl 116 _ _ rfl _ #[.int .i64 t.g.base, .slice Ab t.g.bands.length cb, .slice Ad t.g.depths.length cd, .int .i64 t.g.blo, .int .i64 t.g.bhi, .int .i64 t.k.lo, .int .i64 t.k.hi, .int .i64 t.lag.lo, .int .i64 t.lag.hi, .int .i64 t.sq.lo, .int .i64 t.sq.hi, .int .i64 t.term, .slice Ah h.length ch, .slice Ai l.length ci, .slice Az nz nz] (by kernel_rfl) (by kernel_rfl) 116 _ q3 (by kernel_rfl) (by kernel_rfl) (by kernel_rfl) ?_
 go_wp2
 refine bodyPost_ret (results_ct_row rfl _ _ _ 116 #[.int .i64 t.g.base, .slice Ab t.g.bands.length cb, .slice Ad t.g.depths.length cd, .int .i64 t.g.blo, .int .i64 t.g.bhi, .int .i64 t.k.lo, .int .i64 t.k.hi, .int .i64 t.lag.lo, .int .i64 t.lag.hi, .int .i64 t.sq.lo, .int .i64 t.sq.hi, .int .i64 t.term, .slice Ah h.length ch, .slice Ai l.length ci, .slice Az nz nz] (0, 0) _ rfl (q3.setRow _) rfl rfl rfl) rfl ?_
 exact ⟨⟨Az, nz, zs, rfl, hz, Lib.hid (hyo.out.mono hyV), hsz2.offRow (hyo.out.mono q3p) _⟩, ex_row (ex_trans B_V2 XY) hp3 _⟩

end Go.Proofs.YtkaogjhnogkcdaaGreat
end

section
namespace Go.Proofs.YtkaogjhnogkcdaaGreat
open Go.RowKit
attribute [local go_sem] Ex.cell? Ex.frozen?

noncomputable def accE (t : Tb) (h : List Rg) (l : List Ic) (r : Rd) (most : Int) : Int := if askE t h l r ≠ 0 ∨ most < 0 then badE (askE t h l r) else refE t l r (agreeB t.g h l off0)
def AccV (t : Tb) (h : List Rg) (l : List Ic) (r : Rd) (most : Int) (R : Rg) (ev : Int) : Prop :=
 (accE t h l r most ≠ 0 ∧ ev = accE t h l r most ∧ R = ⟨0, 0⟩) ∨ (accE t h l r most = 0 ∧ 0 ≤ most ∧ askE t h l r = 0 ∧ refE t l r (agreeB t.g h l off0) = 0 ∧ ∃ zs, ZsOf t.g h l zs ∧ (((corP2 t r (gR zs r.day.toNat)).hi - (corP2 t r (gR zs r.day.toNat)).lo ≤ most ∧ ev = 0 ∧ R = corP2 t r (gR zs r.day.toNat)) ∨ (most < (corP2 t r (gR zs r.day.toNat)).hi - (corP2 t r (gR zs r.day.toNat)).lo ∧ ev = 10 ∧ R = ⟨0, 0⟩)))
theorem bad_ne {a most : Int} (h : a ≠ 0 ∨ most < 0) : badE a ≠ 0 := by
 unfold badE
 split
 ·
  assumption
 ·
  omega
theorem acc_1 {t : Tb} {h : List Rg} {l : List Ic} {r : Rd} {most : Int} (hb : askE t h l r ≠ 0 ∨ most < 0) : accE t h l r most = badE (askE t h l r) ∧ accE t h l r most ≠ 0 := by
 have e : accE t h l r most = badE (askE t h l r) := if_pos hb
 exact ⟨e, by rw [e]; exact bad_ne hb⟩
theorem acc_2 {t : Tb} {h : List Rg} {l : List Ic} {r : Rd} {most : Int} (ha : askE t h l r = 0) (hm : 0 ≤ most) : accE t h l r most = refE t l r (agreeB t.g h l off0) := if_neg (by rintro (h | h); exact h ha; omega)
end Go.Proofs.YtkaogjhnogkcdaaGreat
end

section
namespace Go.Proofs.YtkaogjhnogkcdaaGreat
open Go.RowKit
attribute [local go_sem] Ex.cell? Ex.frozen?

def rB (r : Rd) (n : Int) : Rd := { r with bare := n }
theorem rB_bd {r : Rd} (hr : RdBd r) {n : Int} (h0 : 0 ≤ n) (h1 : n ≤ 300) : RdBd (rB r n) := ⟨hr.shown, hr.err, ⟨h0, h1⟩, hr.air, hr.rate, hr.deep⟩
def okN (t : Tb) (r : Rd) (z : Rg) (most n : Int) : Bool := decide ((corP2 t (rB r n) z).hi - (corP2 t (rB r n) z).lo ≤ most)
def MuchIs (f : Int → Bool) (v ev : Int) : Prop := (∃ n : Int, 0 ≤ n ∧ n ≤ 300 ∧ f n = true ∧ (∀ m, n < m → m ≤ 300 → f m = false) ∧ v = n ∧ ev = 0) ∨ ((∀ m : Int, 0 ≤ m → m ≤ 300 → f m = false) ∧ v = 0 ∧ ev = 7)
def BarV (t : Tb) (h : List Rg) (l : List Ic) (r : Rd) (most v ev : Int) : Prop :=
  (accE t h l r most ≠ 0 ∧ ev = accE t h l r most ∧ v = 0) ∨ (accE t h l r most = 0 ∧ 0 ≤ most ∧ askE t h l r = 0 ∧ refE t l r (agreeB t.g h l off0) = 0 ∧ ∃ zs, ZsOf t.g h l zs ∧ MuchIs (okN t r (gR zs r.day.toNat) most) v ev)
theorem barV_no {t : Tb} {h : List Rg} {l : List Ic} {r : Rd} {most : Int} (hb : accE t h l r most ≠ 0) : BarV t h l r most 0 (accE t h l r most) := .inl ⟨hb, rfl, rfl⟩
theorem much_no {f : Int → Bool} (h : ∀ j : Int, 0 ≤ j → j ≤ 300 → f j = false) : MuchIs f 0 7 := .inr ⟨h, rfl, rfl⟩
theorem much_yes {f : Int → Bool} {n : Int} (h0 : 0 ≤ n) (h3 : n ≤ 300) (hf : f n = true) (h : ∀ j : Int, n + 1 ≤ j → j ≤ 300 → f j = false) : MuchIs f n 0 := .inl ⟨n, h0, h3, hf, fun m h1 h2 => h m (by omega) h2, rfl, rfl⟩
theorem SlAt.offCell {W : World} {sz n g i : Nat} {A : Option Addr} {f : Nat → Nat → Value} (h : SlAt W W.heap.size sz A n f) (hy : YoungAt A (g + 1)) (v : Value) : SlAt (W.setCell ⟨g, i, none⟩ v) (W.setCell ⟨g, i, none⟩ v).heap.size sz A n f := fun hn => by
  obtain ⟨b, off, e, hb, hc⟩ := h hn
  have hg := hy b off e
  exact ⟨b, off, e, by simpa using hb, fun k j hk hj => (World.cell?_of_block (Below.heap_setCell W ⟨g, i, none⟩ v b (show b ≠ g by omega))).trans (hc k j hk hj)⟩
set_option maxRecDepth 100000 in
set_option maxHeartbeats 6400000 in
theorem Bare_v (t : Tb) (Ab Ad : Option Addr) (cb cd : Nat) (Ah Ai : Option Addr) (ch ci : Nat) (h : List Rg) (l : List Ic) (r : Rd) (most : Int) (w : World) (hg : GlIn w w.heap.size t.g Ab Ad) (hh : SlAt w w.heap.size 2 Ah h.length (fR h)) (hi : SlAt w w.heap.size 3 Ai l.length (fC l)) (hhl : h.length ≤ 1000000) :
    Calls Tryz.prog 17 #[.agg #[.int .i64 t.g.base, .slice Ab t.g.bands.length cb, .slice Ad t.g.depths.length cd, .int .i64 t.g.blo, .int .i64 t.g.bhi, .int .i64 t.k.lo, .int .i64 t.k.hi, .int .i64 t.lag.lo, .int .i64 t.lag.hi, .int .i64 t.sq.lo, .int .i64 t.sq.hi, .int .i64 t.term], .slice Ah h.length ch, .slice Ai l.length ci, .agg #[.int .i64 r.day, .int .i64 r.shown, .int .i64 r.err, .int .i64 r.bare, .int .i64 r.air.lo, .int .i64 r.air.hi, .int .i64 r.rate.lo, .int .i64 r.rate.hi, .int .i64 r.deep, .bool r.broken], .int .i64 most] w fun e w' => (∃ v ev, e = .returned (.tuple #[.int .i64 v, .int .i64 ev]) ∧ Hid (BarV t h l r most v ev)) ∧ Below w.heap.size w w' := by
  by_cases hb : askE t h l r ≠ 0 ∨ most < 0
  · have HB := Lib.hid hb
    have HR := Lib.hid (barV_no (acc_1 hb).2)
    have e0 := (acc_1 hb).1
    rw [e0] at HR
    have e1 : (badE (askE t h l r) != 0) = true := by simp [bad_ne hb]
    clear hb e0
    go_enter Tryz.func17, Tryz.ntmps17
    go_wp2_with fail
    go_step3
    go_upto_region 1 with fail
    show Code.wp _ _ _ _ _
    refine box2 (K := fun V => Code.wp _ _ _ _ V) ?_
    intro V hb1 q1 q2
    replace hg := hg.go hb1
    replace hh := (hh.below hb1).up hb1.size
    replace hi := (hi.below hb1).up hb1.size
    obtain ⟨pq1, hpq1⟩ : ∃ p, w.heap.size = p := ⟨_, rfl⟩
    obtain ⟨pq2, hpq2⟩ : ∃ p, w.heap.size + 1 = p := ⟨_, rfl⟩
    rw [hpq2] at q2 ⊢
    rw [hpq1] at q1 ⊢
    have hp1 : w.heap.size ≤ pq1 := by omega
    have hp2 : w.heap.size ≤ pq2 := by omega
    clear hpq1 hpq2
    go_wp2_with (refine pause_at 18 rfl ?_)
    refine Paused.mk ?_
    refine wpList_load_row rfl 45 _ rfl _ rfl 45 _ (0, 0) _ (q1) Tryz.underlying45 rfl (by kernel_rfl) ?_
    go_wp2_with (refine pause_at 21 rfl ?_)
    refine Paused.mk ?_
    refine wpList_load_row rfl 52 _ rfl _ rfl 52 _ (0, 0) _ (q2) Tryz.underlying52 rfl (by kernel_rfl) ?_
    go_wp2_with fail
    refine (sm_acc_bad t _ _ _ _ _ _ _ _ h l r most _ hg hh hi hhl HB.out).mono ?_
    rintro e V1 ⟨⟨C, hC, rfl⟩, hV1⟩
    replace q1 := q1.below hV1 q1.lt
    replace q2 := q2.below hV1 q2.lt
    replace hg := hg.go hV1
    replace hh := (hh.below hV1).up hV1.size
    replace hi := (hi.below hV1).up hV1.size
    have B_V1 := ex_trans hb1 hV1
    have NA := ex_alloc (Below.refl V1.heap.size V1) (.cells #[.int .i64 0, .slice none 0 0, .slice none 0 0, .int .i64 0, .int .i64 0, .int .i64 0, .int .i64 0, .int .i64 0, .int .i64 0, .int .i64 0, .int .i64 0, .int .i64 0, .slice none 0 0, .slice none 0 0, .slice none 0 0] 116)
    have q4 : Blk (V1.alloc (.cells #[.int .i64 0, .slice none 0 0, .slice none 0 0, .int .i64 0, .int .i64 0, .int .i64 0, .int .i64 0, .int .i64 0, .int .i64 0, .int .i64 0, .int .i64 0, .int .i64 0, .slice none 0 0, .slice none 0 0, .slice none 0 0] 116)) V1.heap.size 116 #[.int .i64 0, .slice none 0 0, .slice none 0 0, .int .i64 0, .int .i64 0, .int .i64 0, .int .i64 0, .int .i64 0, .int .i64 0, .int .i64 0, .int .i64 0, .int .i64 0, .slice none 0 0, .slice none 0 0, .slice none 0 0] := Blk.new _ _ _
    obtain ⟨p4, hp4'⟩ : ∃ p, V1.heap.size = p := ⟨_, rfl⟩
    rw [hp4'] at q4
    go_wp2_with (refine pause_store 116 rfl ?_)
    refine Paused.mk ?_
    refine wpList_store_row rfl 116 _ _ rfl _ C (by kernel_rfl) (by kernel_rfl) 116 _ q4 (by rw [hC.size]; kernel_rfl) (by rw [hC.size]; rfl) hC.one ?_
    replace q4 := q4.setRow C
    have XZ : Below V1.heap.size V1 ((V1.alloc (.cells #[.int .i64 0, .slice none 0 0, .slice none 0 0, .int .i64 0, .int .i64 0, .int .i64 0, .int .i64 0, .int .i64 0, .int .i64 0, .int .i64 0, .int .i64 0, .int .i64 0, .slice none 0 0, .slice none 0 0, .slice none 0 0] 116)).setRow p4 C) := ex_row NA (Nat.le_of_eq hp4') C
    have hp4 : w.heap.size ≤ p4 := by have := B_V1.size; omega
    clear NA hp4'
    replace q1 := q1.below XZ q1.lt
    replace q2 := q2.below XZ q2.lt
    replace hg := hg.go XZ
    replace hh := (hh.below XZ).up XZ.size
    replace hi := (hi.below XZ).up XZ.size
    have B_V2 := ex_trans B_V1 XZ
    clear XZ
    generalize (V1.alloc (.cells #[.int .i64 0, .slice none 0 0, .slice none 0 0, .int .i64 0, .int .i64 0, .int .i64 0, .int .i64 0, .int .i64 0, .int .i64 0, .int .i64 0, .int .i64 0, .int .i64 0, .slice none 0 0, .slice none 0 0, .slice none 0 0] 116)).setRow p4 C = V2 at *
    go_wp2
    rw [Exit.noGoto_ret]
    go_ret2
    exact ⟨⟨_, _, rfl, HR⟩, B_V2⟩
  · have ha : askE t h l r = 0 := Classical.byContradiction fun e => hb (.inl e)
    have hm : 0 ≤ most := by have : ¬ most < 0 := fun e => hb (.inr e); omega
    have HA := Lib.hid ha
    have HO := Lib.hid (ask_bd ha)
    have HE := Lib.hid (acc_2 ha hm)
    clear ha hb
    go_enter Tryz.func17, Tryz.ntmps17
    go_wp2_with fail
    go_step3
    go_upto_region 1 with fail
    show Code.wp _ _ _ _ _
    refine box2 (K := fun V => Code.wp _ _ _ _ V) ?_
    intro V hb1 q1 q2
    replace hg := hg.go hb1
    replace hh := (hh.below hb1).up hb1.size
    replace hi := (hi.below hb1).up hb1.size
    obtain ⟨pq1, hpq1⟩ : ∃ p, w.heap.size = p := ⟨_, rfl⟩
    obtain ⟨pq2, hpq2⟩ : ∃ p, w.heap.size + 1 = p := ⟨_, rfl⟩
    rw [hpq2] at q2 ⊢
    rw [hpq1] at q1 ⊢
    have hp1 : w.heap.size ≤ pq1 := by omega
    have hp2 : w.heap.size ≤ pq2 := by omega
    clear hpq1 hpq2
    go_wp2_with (refine pause_at 18 rfl ?_)
    refine Paused.mk ?_
    refine wpList_load_row rfl 45 _ rfl _ rfl 45 _ (0, 0) _ (q1) Tryz.underlying45 rfl (by kernel_rfl) ?_
    go_wp2_with (refine pause_at 21 rfl ?_)
    refine Paused.mk ?_
    refine wpList_load_row rfl 52 _ rfl _ rfl 52 _ (0, 0) _ (q2) Tryz.underlying52 rfl (by kernel_rfl) ?_
    have q2p := q2.lt
    go_wp2_with fail
    refine (sm_acc_ok t _ _ _ _ _ _ _ _ h l r most _ hg hh hi hhl HA.out hm).mono ?_
    rintro e V3 ⟨⟨Az, nz, zs, rfl, hz, hyo, hsz⟩, hV3⟩
    replace q1 := q1.below hV3 q1.lt
    replace q2 := q2.below hV3 q2.lt
    replace hg := hg.go hV3
    replace hh := (hh.below hV3).up hV3.size
    replace hi := (hi.below hV3).up hV3.size
    have B_V3 := ex_trans hb1 hV3
    have NA := ex_alloc (Below.refl V3.heap.size V3) (.cells #[.int .i64 0, .slice none 0 0, .slice none 0 0, .int .i64 0, .int .i64 0, .int .i64 0, .int .i64 0, .int .i64 0, .int .i64 0, .int .i64 0, .int .i64 0, .int .i64 0, .slice none 0 0, .slice none 0 0, .slice none 0 0] 116)
    have q4 : Blk (V3.alloc (.cells #[.int .i64 0, .slice none 0 0, .slice none 0 0, .int .i64 0, .int .i64 0, .int .i64 0, .int .i64 0, .int .i64 0, .int .i64 0, .int .i64 0, .int .i64 0, .int .i64 0, .slice none 0 0, .slice none 0 0, .slice none 0 0] 116)) V3.heap.size 116 #[.int .i64 0, .slice none 0 0, .slice none 0 0, .int .i64 0, .int .i64 0, .int .i64 0, .int .i64 0, .int .i64 0, .int .i64 0, .int .i64 0, .int .i64 0, .int .i64 0, .slice none 0 0, .slice none 0 0, .slice none 0 0] := Blk.new _ _ _
    obtain ⟨p4, hp4'⟩ : ∃ p, V3.heap.size = p := ⟨_, rfl⟩
    rw [hp4'] at q4
    go_wp2_with (refine pause_store 116 rfl ?_)
    refine Paused.mk ?_
    refine wpList_store_row rfl 116 _ _ rfl _ #[.int .i64 t.g.base, .slice Ab t.g.bands.length cb, .slice Ad t.g.depths.length cd, .int .i64 t.g.blo, .int .i64 t.g.bhi, .int .i64 t.k.lo, .int .i64 t.k.hi, .int .i64 t.lag.lo, .int .i64 t.lag.hi, .int .i64 t.sq.lo, .int .i64 t.sq.hi, .int .i64 t.term, .slice Ah h.length ch, .slice Ai l.length ci, .slice Az nz nz] (by kernel_rfl) (by kernel_rfl) 116 _ q4 (by kernel_rfl) (by kernel_rfl) (by kernel_rfl) ?_
    replace q4 := q4.setRow #[.int .i64 t.g.base, .slice Ab t.g.bands.length cb, .slice Ad t.g.depths.length cd, .int .i64 t.g.blo, .int .i64 t.g.bhi, .int .i64 t.k.lo, .int .i64 t.k.hi, .int .i64 t.lag.lo, .int .i64 t.lag.hi, .int .i64 t.sq.lo, .int .i64 t.sq.hi, .int .i64 t.term, .slice Ah h.length ch, .slice Ai l.length ci, .slice Az nz nz]
    have XZ : Below V3.heap.size V3 ((V3.alloc (.cells #[.int .i64 0, .slice none 0 0, .slice none 0 0, .int .i64 0, .int .i64 0, .int .i64 0, .int .i64 0, .int .i64 0, .int .i64 0, .int .i64 0, .int .i64 0, .int .i64 0, .slice none 0 0, .slice none 0 0, .slice none 0 0] 116)).setRow p4 #[.int .i64 t.g.base, .slice Ab t.g.bands.length cb, .slice Ad t.g.depths.length cd, .int .i64 t.g.blo, .int .i64 t.g.bhi, .int .i64 t.k.lo, .int .i64 t.k.hi, .int .i64 t.lag.lo, .int .i64 t.lag.hi, .int .i64 t.sq.lo, .int .i64 t.sq.hi, .int .i64 t.term, .slice Ah h.length ch, .slice Ai l.length ci, .slice Az nz nz]) := ex_row NA (Nat.le_of_eq hp4') #[.int .i64 t.g.base, .slice Ab t.g.bands.length cb, .slice Ad t.g.depths.length cd, .int .i64 t.g.blo, .int .i64 t.g.bhi, .int .i64 t.k.lo, .int .i64 t.k.hi, .int .i64 t.lag.lo, .int .i64 t.lag.hi, .int .i64 t.sq.lo, .int .i64 t.sq.hi, .int .i64 t.term, .slice Ah h.length ch, .slice Ai l.length ci, .slice Az nz nz]
    have hp4 : w.heap.size ≤ p4 := by have := B_V3.size; omega
    clear NA hp4'
    replace q1 := q1.below XZ q1.lt
    replace q2 := q2.below XZ q2.lt
    replace hg := hg.go XZ
    replace hh := (hh.below XZ).up XZ.size
    replace hi := (hi.below XZ).up XZ.size
    replace hsz := (hsz.below XZ).up XZ.size
    have B_V4 := ex_trans B_V3 XZ
    clear XZ
    generalize (V3.alloc (.cells #[.int .i64 0, .slice none 0 0, .slice none 0 0, .int .i64 0, .int .i64 0, .int .i64 0, .int .i64 0, .int .i64 0, .int .i64 0, .int .i64 0, .int .i64 0, .int .i64 0, .slice none 0 0, .slice none 0 0, .slice none 0 0] 116)).setRow p4 #[.int .i64 t.g.base, .slice Ab t.g.bands.length cb, .slice Ad t.g.depths.length cd, .int .i64 t.g.blo, .int .i64 t.g.bhi, .int .i64 t.k.lo, .int .i64 t.k.hi, .int .i64 t.lag.lo, .int .i64 t.lag.hi, .int .i64 t.sq.lo, .int .i64 t.sq.hi, .int .i64 t.term, .slice Ah h.length ch, .slice Ai l.length ci, .slice Az nz nz] = V4 at *
    have hqV : pq2 + 1 ≤ V.heap.size := q2p
    by_cases hr : refE t l r (agreeB t.g h l off0) = 0
    · have HR := Lib.hid hr
      rw [hr]
      clear hr
      have HAG := Lib.hid (ref_ag HR.out)
      have HZ : Hid (nz = h.length ∧ ZsOf t.g h l zs) := Lib.hid (by
        rcases hz.out with ⟨a, _⟩ | ⟨_, b, c⟩
        · rw [HAG.out] at a; cases a
        · exact ⟨b, c⟩)
      obtain ⟨k, hk, hkl⟩ := HO.out.day
      have HK := Lib.hid hk
      have HKT : Hid (r.day.toNat = k) := Lib.hid (by omega)
      clear hk
      have hkn : k < nz := by rw [HZ.out.1]; exact hkl
      have HBB : ZsBd nz zs := by rw [HZ.out.1]; exact zs_bd HO.out.ok HZ.out.2
      have hnz := use_le hz.out
      go_wp2_with fail
      go_step3
      go_wp2_with fail
      refine wp_loop (fun a W => Rel (fun a W => ∃ m : Nat, m ≤ 301 ∧ Below w.heap.size w W ∧ Hid (∀ j : Int, (m : Int) ≤ j → j ≤ 300 → okN t r (gR zs k) most j = false) ∧ (∃ b, Blk W pq2 52 #[.int .i64 r.day, .int .i64 r.shown, .int .i64 r.err, .int .i64 b, .int .i64 r.air.lo, .int .i64 r.air.hi, .int .i64 r.rate.lo, .int .i64 r.rate.hi, .int .i64 r.deep, .bool r.broken]) ∧ Blk W p4 116 #[.int .i64 t.g.base, .slice Ab t.g.bands.length cb, .slice Ad t.g.depths.length cd, .int .i64 t.g.blo, .int .i64 t.g.bhi, .int .i64 t.k.lo, .int .i64 t.k.hi, .int .i64 t.lag.lo, .int .i64 t.lag.hi, .int .i64 t.sq.lo, .int .i64 t.sq.hi, .int .i64 t.term, .slice Ah h.length ch, .slice Ai l.length ci, .slice Az nz nz] ∧ SlAt W W.heap.size 2 Az nz (fR zs) ∧ ∃ u : Nat → Value, a = ⟨List.toArray (u 0 :: u 1 :: u 2 :: u 3 :: u 4 :: u 5 :: u 6 :: u 7 :: .pointer (some ⟨pq2, 0, none⟩) :: u 9 :: u 10 :: u 11 :: .pointer (some ⟨p4, 0, none⟩) :: u 13 :: .func (.func 59) #[.int .i64 most] #[] :: .int .i64 (-1) :: .int .i64 ((m : Int) - 1) :: u 17 :: u 18 :: u 19 :: u 20 :: u 21 :: u 22 :: u 23 :: u 24 :: u 25 :: u 26 :: u 27 :: u 28 :: u 29 :: u 30 :: u 31 :: u 32 :: u 33 :: u 34 :: u 35 :: u 36 :: u 37 :: u 38 :: u 39 :: u 40 :: u 41 :: u 42 :: u 43 :: u 44 :: u 45 :: []), []⟩) a W)
        (fun a _ => (intOf (a.tmps.getD 16 undef) + 1).toNat) ⟨⟨301, by omega, B_V4, Lib.hid (fun j h1 h2 => by omega), ⟨_, q2⟩, q4, hsz, exFrame (by kernel_rfl)⟩⟩ ?_
      clear q1 q2 q4 hsz hg hh hi 
      rintro a W ⟨⟨m, hmm, hbl, HN, ⟨b, q2⟩, q4, hsz, u, rfl⟩⟩
      by_cases hm0 : m = 0
      · subst hm0
        have HV : Hid (BarV t h l r most 0 7) := Lib.hid (.inr ⟨by rw [HE.out, HR.out], hm, HA.out, HR.out, zs, HZ.out.2, much_no (fun j h0 h1 => by rw [HKT.out]; exact HN.out j (by simpa using h0) h1)⟩)
        go_wp2
        rw [Exit.noGoto_ret]
        go_ret2
        exact ⟨⟨_, _, rfl, HV⟩, hbl⟩
      · obtain ⟨n, rfl⟩ : ∃ n, m = n + 1 := ⟨m - 1, by omega⟩
        have hn : (((n + 1 : Nat) : Int) - 1) = (n : Int) := by omega
        rw [hn]
        have s3 := q2.cell 3
        have sf := q2.frozen0
        have sl := q2.lt
        simp at s3
        have N2 := q2.set_ 3 (.int .i64 (n : Int))
        simp only [List.setIfInBounds_toArray, List.set_cons_zero, List.set_cons_succ] at N2
        have n42 : p4 ≠ pq2 := fun e => by subst e; exact blk_ne q4 q2 (by decide) rfl
        have q4' := q4.far (p := ⟨pq2, 3, none⟩) n42 (.int .i64 (n : Int))
        have hsz' := hsz.offCell (g := pq2) (i := 3) (hyo.out.mono hqV) (.int .i64 (n : Int))
        have hb' := ex_set (p := ⟨pq2, 3, none⟩) hbl hp2 (.int .i64 (n : Int))
        go_upto_region 10 with fail
        clear s3 sf sl q2 q4 hsz hbl n42
        generalize W.setCell ⟨pq2, 3, none⟩ (.int .i64 (n : Int)) = W2 at *
        go_wp2_with (refine pause_at 38 rfl ?_)
        refine Paused.mk ?_
        refine wpList_load_row rfl 116 _ rfl _ rfl 116 _ (0, 0) _ (q4') Tryz.underlying116 rfl (by kernel_rfl) ?_
        go_wp2_with (refine pause_at 39 rfl ?_)
        refine Paused.mk ?_
        refine wpList_load_row rfl 52 _ rfl _ rfl 52 _ (0, 0) _ (N2) Tryz.underlying52 rfl (by kernel_rfl) ?_
        have hrb := rB_bd HO.out.rd (n := (n : Int)) (by omega) (by omega)
        go_wp2_with fail
        refine (sm_correct t Ab Ad Ah Ai Az cb cd ch ci nz nz h l (rB r n) zs k _ hsz' HO.out.tb hrb HK.out hkn (by omega) HBB).mono ?_
        rintro e V21 ⟨rfl, hV21⟩
        replace N2 := N2.below hV21 N2.lt
        replace q4' := q4'.below hV21 q4'.lt
        replace hsz' := (hsz'.below hV21).up hV21.size
        have B_V21 := ex_trans hb' hV21
        have hbb := cor_bd HO.out.tb hrb (HBB k hkn)
        have HOK := Lib.hid (show okN t r (gR zs k) most n = decide ((corP2 t (rB r n) (gR zs k)).hi - (corP2 t (rB r n) (gR zs k)).lo ≤ most) from rfl)
        generalize (corP2 t (rB r n) (gR zs k)).lo = lo at *
        generalize (corP2 t (rB r n) (gR zs k)).hi = hi' at *
        go_wp2_with fail
        refine (sm_enough _ _ _ _ (by omega) (by omega)).mono ?_
        rintro e V22 ⟨rfl, hV22⟩
        replace N2 := N2.below hV22 N2.lt
        replace q4' := q4'.below hV22 q4'.lt
        replace hsz' := (hsz'.below hV22).up hV22.size
        have B_V22 := ex_trans B_V21 hV22
        rw [← HOK.out]
        cases hok : okN t r (gR zs k) most n
        · have HN2 : Hid (∀ j : Int, (n : Int) ≤ j → j ≤ 300 → okN t r (gR zs k) most j = false) := Lib.hid (fun j h0 h1 => by
            rcases Int.lt_or_eq_of_le h0 with h2 | h2
            · exact HN.out j (by omega) h1
            · rw [← h2]; exact hok)
          clear hok
          go_wp2_with fail
          refine ⟨⟨⟨n, by omega, B_V22, HN2, ⟨_, N2⟩, q4', hsz', exFrame (by kernel_rfl)⟩⟩, ?_⟩
          show (intOf (.int .i64 ((n : Int) - 1)) + 1).toNat < (intOf (.int .i64 (n : Int)) + 1).toNat
          simp [intOf]
          try omega
        · have HV : Hid (BarV t h l r most n 0) := Lib.hid (.inr ⟨by rw [HE.out, HR.out], hm, HA.out, HR.out, zs, HZ.out.2, much_yes (by omega) (by omega) (by rw [HKT.out]; exact hok) (fun j h0 h1 => by rw [HKT.out]; exact HN.out j (by omega) h1)⟩)
          clear hok
          go_wp2
          rw [Exit.noGoto_ret]
          go_ret2
          exact ⟨⟨_, _, rfl, HV⟩, B_V22⟩
    · have HR : Hid (BarV t h l r most 0 (refE t l r (agreeB t.g h l off0))) := Lib.hid (by rw [← HE.out]; exact barV_no (by rw [HE.out]; exact hr))
      obtain ⟨E, hE⟩ : ∃ E, refE t l r (agreeB t.g h l off0) = E := ⟨_, rfl⟩
      rw [hE] at hr HR ⊢
      have e1 : (E != 0) = true := by simp [hr]
      clear hE hr
      go_wp2
      rw [Exit.noGoto_ret]
      go_ret2
      exact ⟨⟨_, _, rfl, HR⟩, B_V4⟩

end Go.Proofs.YtkaogjhnogkcdaaGreat
end

section
namespace Go.Proofs.YtkaogjhnogkcdaaGreat
open Go.RowKit
attribute [local go_sem] Ex.cell? Ex.frozen?

def icoE (t : Tb) (r : Rd) : Int := if ckTube t ≠ 0 then ckTube t else if rdOk 16 r = false then 2 else if r.broken = true then 8 else if iceE (bndP t r) < 0 then 10 else 0
def icoV (t : Tb) (r : Rd) : Ic := if icoE t r = 0 then ⟨r.day, iceZ (bndP t r), iceE (bndP t r)⟩ else ⟨0, 0, 0⟩
end Go.Proofs.YtkaogjhnogkcdaaGreat
end

section
namespace Go.Proofs.YtkaogjhnogkcdaaGreat
open Go.RowKit
attribute [local go_sem] Ex.cell? Ex.frozen?

def cE (r : Rd) : Array Value := #[.int .i64 r.day, .int .i64 r.shown, .int .i64 r.err, .int .i64 r.bare, .int .i64 r.air.lo, .int .i64 r.air.hi, .int .i64 r.rate.lo, .int .i64 r.rate.hi, .int .i64 r.deep, .bool r.broken]
def fE (l : List Rd) (k j : Nat) : Value := ((cE (gE l k))[j]?).getD undef
theorem IsRds.at10 {w : World} {B n : Nat} {A : Option Addr} {l : List Rd} (h : SlAt w B 10 A n (fE l)) {k : Nat} (hk : k < n) : ∃ b off, A = some ⟨b, off, none⟩ ∧ b < B ∧
  w.cell? ⟨b, off + k * 10, none⟩ = some (.int .i64 (gE l k).day) ∧ w.cell? ⟨b, off + k * 10 + 1, none⟩ = some (.int .i64 (gE l k).shown) ∧ w.cell? ⟨b, off + k * 10 + 2, none⟩ = some (.int .i64 (gE l k).err) ∧ w.cell? ⟨b, off + k * 10 + 3, none⟩ = some (.int .i64 (gE l k).bare) ∧
  w.cell? ⟨b, off + k * 10 + 4, none⟩ = some (.int .i64 (gE l k).air.lo) ∧ w.cell? ⟨b, off + k * 10 + 5, none⟩ = some (.int .i64 (gE l k).air.hi) ∧ w.cell? ⟨b, off + k * 10 + 6, none⟩ = some (.int .i64 (gE l k).rate.lo) ∧ w.cell? ⟨b, off + k * 10 + 7, none⟩ = some (.int .i64 (gE l k).rate.hi) ∧
  w.cell? ⟨b, off + k * 10 + 8, none⟩ = some (.int .i64 (gE l k).deep) ∧ w.cell? ⟨b, off + k * 10 + 9, none⟩ = some (.bool (gE l k).broken) := by
 obtain ⟨b, off, e, hb, hc⟩ := h (by omega)
 exact ⟨b, off, e, hb, hc k 0 hk (by omega), hc k 1 hk (by omega), hc k 2 hk (by omega), hc k 3 hk (by omega), hc k 4 hk (by omega), hc k 5 hk (by omega), hc k 6 hk (by omega), hc k 7 hk (by omega), hc k 8 hk (by omega), hc k 9 hk (by omega)⟩
set_option maxRecDepth 100000 in
set_option maxHeartbeats 1600000 in
theorem all1_day (pu pl : Nat) (b : Bool) (r : Rd) (w : World) (pb : Nat) (hp : pb < w.heap.size) (hc : w.cell? ⟨pb, 0, none⟩ = some (.func (.func 96) #[] #[.pointer (some ⟨pu, 0, none⟩), .pointer (some ⟨pl, 0, none⟩)])) (H : ∀ W, Below w.heap.size w W → Calls Tryz.prog 96 #[.agg #[.int .i64 r.day, .int .i64 r.shown, .int .i64 r.err, .int .i64 r.bare, .int .i64 r.air.lo, .int .i64 r.air.hi, .int .i64 r.rate.lo, .int .i64 r.rate.hi, .int .i64 r.deep, .bool r.broken], .pointer (some ⟨pu, 0, none⟩), .pointer (some ⟨pl, 0, none⟩)] W fun e w' => e = .returned (.bool b) ∧ Below W.heap.size W w') :
  Calls Tryz.prog 125 #[.agg #[.int .i64 r.day, .int .i64 r.shown, .int .i64 r.err, .int .i64 r.bare, .int .i64 r.air.lo, .int .i64 r.air.hi, .int .i64 r.rate.lo, .int .i64 r.rate.hi, .int .i64 r.deep, .bool r.broken], .pointer (some ⟨pb, 0, none⟩)] w fun e w' => e = .returned (.bool (!b)) ∧ Below w.heap.size w w' := by
 have hb1 := ex_alloc (Below.refl w.heap.size w) (.cells #[.int .i64 r.day, .int .i64 r.shown, .int .i64 r.err, .int .i64 r.bare, .int .i64 r.air.lo, .int .i64 r.air.hi, .int .i64 r.rate.lo, .int .i64 r.rate.hi, .int .i64 r.deep, .bool r.broken] 52)
 have q1 : Blk (w.alloc (.cells #[.int .i64 r.day, .int .i64 r.shown, .int .i64 r.err, .int .i64 r.bare, .int .i64 r.air.lo, .int .i64 r.air.hi, .int .i64 r.rate.lo, .int .i64 r.rate.hi, .int .i64 r.deep, .bool r.broken] 52)) w.heap.size 52 #[.int .i64 r.day, .int .i64 r.shown, .int .i64 r.err, .int .i64 r.bare, .int .i64 r.air.lo, .int .i64 r.air.hi, .int .i64 r.rate.lo, .int .i64 r.rate.hi, .int .i64 r.deep, .bool r.broken] := Blk.new _ _ _
 go_enter Tryz.func125, Tryz.ntmps125
 go_wp2_with (refine pause_at 5 rfl ?_)
 refine Paused.mk ?_
 refine wpList_load_row rfl 52 _ rfl _ rfl 52 _ (0, 0) _ (q1) Tryz.underlying52 rfl (by kernel_rfl) ?_
 go_wp2_with fail
 refine (H _ hb1).mono ?_
 rintro e w2 ⟨rfl, hb2⟩
 go_wp2
 go_ret
 exact ⟨rfl, ex_trans hb1 hb2⟩
set_option maxRecDepth 100000 in
set_option maxHeartbeats 3200000 in
theorem index_day (pu pl : Nat) (R : Nat → Bool) (l : List Rd) (n : Nat) (A : Option Addr) (c : Nat) (w : World) (hA : SlAt w w.heap.size 10 A n (fE l)) (hl : n ≤ 1000000) (pb : Nat) (hp : pb < w.heap.size) (hc : w.cell? ⟨pb, 0, none⟩ = some (.func (.func 96) #[] #[.pointer (some ⟨pu, 0, none⟩), .pointer (some ⟨pl, 0, none⟩)])) (H : ∀ k W, k < n → Below w.heap.size w W → Calls Tryz.prog 96 #[.agg #[.int .i64 (gE l k).day, .int .i64 (gE l k).shown, .int .i64 (gE l k).err, .int .i64 (gE l k).bare, .int .i64 (gE l k).air.lo, .int .i64 (gE l k).air.hi, .int .i64 (gE l k).rate.lo, .int .i64 (gE l k).rate.hi, .int .i64 (gE l k).deep, .bool (gE l k).broken], .pointer (some ⟨pu, 0, none⟩), .pointer (some ⟨pl, 0, none⟩)] W fun e w' => e = .returned (.bool (R k)) ∧ Below W.heap.size W w') :
  Calls Tryz.prog 145 #[.slice A n c, .func (.func 125) #[] #[.pointer (some ⟨pb, 0, none⟩)]] w fun e w' => e = .returned (.int .i64 (firstOf (fun k => !R k) n)) ∧ Below w.heap.size w w' := by
 go_enter Tryz.func145, Tryz.ntmps145
 go_wp2
 go_loopw [8] (fun i wr => ∃ k : Nat, k ≤ n ∧ i = .int .i64 k ∧ (∀ k', k' < k → R k' = true) ∧ Below w.heap.size w wr)
  (fun i _ => n - (intOf i).toNat)
 case atStart => exact ⟨0, by omega, rfl, fun j hj => by omega, Below.refl _ _⟩
 case round =>
  obtain ⟨k, hk, rfl, hok, hbl⟩ := hrel
  by_cases hlt : k < n
  ·
   have hAW := hA.go hbl
   obtain ⟨bi, oi, rfl, hbi, g0, g1, g2, g3, g4, g5, g6, g7, g8, g9⟩ := IsRds.at10 hAW hlt
   have hcr : wr.cell? ⟨pb, 0, none⟩ = some (.func (.func 96) #[] #[.pointer (some ⟨pu, 0, none⟩), .pointer (some ⟨pl, 0, none⟩)]) := (hbl.cell (p := ⟨pb, 0, none⟩) hp).trans hc
   have hpr : pb < wr.heap.size := by have := hbl.size; omega
   have HOK := Lib.hid hok
   have HK := Lib.hid (fun W (hW : Below wr.heap.size wr W) => H k W hlt (ex_trans hbl hW))
   clear hok H hc hA
   cases ht : R k
   ·
    have HT := Lib.hid ht
    have HF : Hid (firstOf (fun k => !R k) n = (k : Int)) := Lib.hid (firstOf_at hlt (fun j hj => by have := HOK.out j hj; simp only [this]; rfl) (by simp only [ht]; rfl))
    clear ht
    go_wp2_with fail
    refine (all1_day pu pl (R k) (gE l k) wr pb hpr hcr HK.out).mono ?_
    rintro e w2 ⟨rfl, hb2⟩
    rw [HT.out]
    go_wp2
    go_ret
    exact ⟨ret_int HF.out.symm, ex_trans hbl hb2⟩
   ·
    have HT := Lib.hid ht
    clear ht
    go_wp2_with fail
    refine (all1_day pu pl (R k) (gE l k) wr pb hpr hcr HK.out).mono ?_
    rintro e w2 ⟨rfl, hb2⟩
    rw [HT.out]
    go_wp2
    go_roundw
    case rel => exact ⟨k + 1, by omega, by go_num, fun j hj => by rcases Nat.lt_succ_iff_lt_or_eq.1 hj with h | h; exact HOK.out j h; exact h ▸ HT.out, ex_trans hbl hb2⟩
    case measure => simp [intOf]; omega
  ·
   obtain rfl : k = n := by omega
   have HF : Hid (firstOf (fun k => !R k) k = -1) := Lib.hid (firstOf_neg fun j hj => by have := hok j hj; simp only [this]; rfl)
   go_wp2
   go_ret
   exact ⟨ret_int HF.out.symm, hbl⟩
theorem cont_day (pu pl : Nat) (R : Nat → Bool) (l : List Rd) (n : Nat) (A : Option Addr) (c : Nat) (w : World) (hA : SlAt w w.heap.size 10 A n (fE l)) (hl : n ≤ 1000000) (pb : Nat) (hp : pb < w.heap.size) (hc : w.cell? ⟨pb, 0, none⟩ = some (.func (.func 96) #[] #[.pointer (some ⟨pu, 0, none⟩), .pointer (some ⟨pl, 0, none⟩)])) (H : ∀ k W, k < n → Below w.heap.size w W → Calls Tryz.prog 96 #[.agg #[.int .i64 (gE l k).day, .int .i64 (gE l k).shown, .int .i64 (gE l k).err, .int .i64 (gE l k).bare, .int .i64 (gE l k).air.lo, .int .i64 (gE l k).air.hi, .int .i64 (gE l k).rate.lo, .int .i64 (gE l k).rate.hi, .int .i64 (gE l k).deep, .bool (gE l k).broken], .pointer (some ⟨pu, 0, none⟩), .pointer (some ⟨pl, 0, none⟩)] W fun e w' => e = .returned (.bool (R k)) ∧ Below W.heap.size W w') :
  Calls Tryz.prog 124 #[.slice A n c, .func (.func 125) #[] #[.pointer (some ⟨pb, 0, none⟩)]] w fun e w' => e = .returned (.bool (!allTo R n)) ∧ Below w.heap.size w w' := by
 have HF : Hid (decide (0 ≤ firstOf (fun k => !R k) n) = !allTo R n) := Lib.hid (by rw [firstOf_nonneg]; simp)
 go_enter Tryz.func124, Tryz.ntmps124
 go_wp2_with fail
 refine (index_day pu pl R l n A c w hA hl pb hp hc H).mono ?_
 rintro e w2 ⟨rfl, hb2⟩
 go_wp2
 go_ret
 exact ⟨ret_bool HF.out, hb2⟩
theorem all_day (pu pl : Nat) (R : Nat → Bool) (l : List Rd) (n : Nat) (A : Option Addr) (c : Nat) (w : World) (hA : SlAt w w.heap.size 10 A n (fE l)) (hl : n ≤ 1000000) (H : ∀ k W, k < n → Below w.heap.size w W → Calls Tryz.prog 96 #[.agg #[.int .i64 (gE l k).day, .int .i64 (gE l k).shown, .int .i64 (gE l k).err, .int .i64 (gE l k).bare, .int .i64 (gE l k).air.lo, .int .i64 (gE l k).air.hi, .int .i64 (gE l k).rate.lo, .int .i64 (gE l k).rate.hi, .int .i64 (gE l k).deep, .bool (gE l k).broken], .pointer (some ⟨pu, 0, none⟩), .pointer (some ⟨pl, 0, none⟩)] W fun e w' => e = .returned (.bool (R k)) ∧ Below W.heap.size W w') :
  Calls Tryz.prog 97 #[.slice A n c, .func (.func 96) #[] #[.pointer (some ⟨pu, 0, none⟩), .pointer (some ⟨pl, 0, none⟩)]] w fun e w' => e = .returned (.bool (allTo R n)) ∧ Below w.heap.size w w' := by
 have hb1 := ex_alloc (Below.refl w.heap.size w) (.cells #[.func (.func 96) #[] #[.pointer (some ⟨pu, 0, none⟩), .pointer (some ⟨pl, 0, none⟩)]] 167)
 have q1 : Blk (w.alloc (.cells #[.func (.func 96) #[] #[.pointer (some ⟨pu, 0, none⟩), .pointer (some ⟨pl, 0, none⟩)]] 167)) w.heap.size 167 #[.func (.func 96) #[] #[.pointer (some ⟨pu, 0, none⟩), .pointer (some ⟨pl, 0, none⟩)]] := Blk.new _ _ _
 go_enter Tryz.func97, Tryz.ntmps97
 go_wp2_with fail
 refine (cont_day pu pl R l n A c _ (hA.go hb1) hl w.heap.size q1.lt (q1.cell 0) (fun k W hk hW => H k W hk (ex_trans hb1 hW))).mono ?_
 rintro e w2 ⟨rfl, hb2⟩
 go_wp2
 go_ret
 exact ⟨ret_bool (by simp), ex_trans hb1 hb2⟩
set_option maxRecDepth 100000 in
set_option maxHeartbeats 1600000 in
theorem all1_whole  (b : Bool) (r : Rd) (w : World) (pb : Nat) (hp : pb < w.heap.size) (hc : w.cell? ⟨pb, 0, none⟩ = some (.func (.func 98) #[] #[])) (H : ∀ W, Below w.heap.size w W → Calls Tryz.prog 98 #[.agg #[.int .i64 r.day, .int .i64 r.shown, .int .i64 r.err, .int .i64 r.bare, .int .i64 r.air.lo, .int .i64 r.air.hi, .int .i64 r.rate.lo, .int .i64 r.rate.hi, .int .i64 r.deep, .bool r.broken]] W fun e w' => e = .returned (.bool b) ∧ Below W.heap.size W w') :
  Calls Tryz.prog 125 #[.agg #[.int .i64 r.day, .int .i64 r.shown, .int .i64 r.err, .int .i64 r.bare, .int .i64 r.air.lo, .int .i64 r.air.hi, .int .i64 r.rate.lo, .int .i64 r.rate.hi, .int .i64 r.deep, .bool r.broken], .pointer (some ⟨pb, 0, none⟩)] w fun e w' => e = .returned (.bool (!b)) ∧ Below w.heap.size w w' := by
 have hb1 := ex_alloc (Below.refl w.heap.size w) (.cells #[.int .i64 r.day, .int .i64 r.shown, .int .i64 r.err, .int .i64 r.bare, .int .i64 r.air.lo, .int .i64 r.air.hi, .int .i64 r.rate.lo, .int .i64 r.rate.hi, .int .i64 r.deep, .bool r.broken] 52)
 have q1 : Blk (w.alloc (.cells #[.int .i64 r.day, .int .i64 r.shown, .int .i64 r.err, .int .i64 r.bare, .int .i64 r.air.lo, .int .i64 r.air.hi, .int .i64 r.rate.lo, .int .i64 r.rate.hi, .int .i64 r.deep, .bool r.broken] 52)) w.heap.size 52 #[.int .i64 r.day, .int .i64 r.shown, .int .i64 r.err, .int .i64 r.bare, .int .i64 r.air.lo, .int .i64 r.air.hi, .int .i64 r.rate.lo, .int .i64 r.rate.hi, .int .i64 r.deep, .bool r.broken] := Blk.new _ _ _
 go_enter Tryz.func125, Tryz.ntmps125
 go_wp2_with (refine pause_at 5 rfl ?_)
 refine Paused.mk ?_
 refine wpList_load_row rfl 52 _ rfl _ rfl 52 _ (0, 0) _ (q1) Tryz.underlying52 rfl (by kernel_rfl) ?_
 go_wp2_with fail
 refine (H _ hb1).mono ?_
 rintro e w2 ⟨rfl, hb2⟩
 go_wp2
 go_ret
 exact ⟨rfl, ex_trans hb1 hb2⟩
set_option maxRecDepth 100000 in
set_option maxHeartbeats 3200000 in
theorem index_whole  (R : Nat → Bool) (l : List Rd) (n : Nat) (A : Option Addr) (c : Nat) (w : World) (hA : SlAt w w.heap.size 10 A n (fE l)) (hl : n ≤ 1000000) (pb : Nat) (hp : pb < w.heap.size) (hc : w.cell? ⟨pb, 0, none⟩ = some (.func (.func 98) #[] #[])) (H : ∀ k W, k < n → Below w.heap.size w W → Calls Tryz.prog 98 #[.agg #[.int .i64 (gE l k).day, .int .i64 (gE l k).shown, .int .i64 (gE l k).err, .int .i64 (gE l k).bare, .int .i64 (gE l k).air.lo, .int .i64 (gE l k).air.hi, .int .i64 (gE l k).rate.lo, .int .i64 (gE l k).rate.hi, .int .i64 (gE l k).deep, .bool (gE l k).broken]] W fun e w' => e = .returned (.bool (R k)) ∧ Below W.heap.size W w') :
  Calls Tryz.prog 145 #[.slice A n c, .func (.func 125) #[] #[.pointer (some ⟨pb, 0, none⟩)]] w fun e w' => e = .returned (.int .i64 (firstOf (fun k => !R k) n)) ∧ Below w.heap.size w w' := by
 go_enter Tryz.func145, Tryz.ntmps145
 go_wp2
 go_loopw [8] (fun i wr => ∃ k : Nat, k ≤ n ∧ i = .int .i64 k ∧ (∀ k', k' < k → R k' = true) ∧ Below w.heap.size w wr)
  (fun i _ => n - (intOf i).toNat)
 case atStart => exact ⟨0, by omega, rfl, fun j hj => by omega, Below.refl _ _⟩
 case round =>
  obtain ⟨k, hk, rfl, hok, hbl⟩ := hrel
  by_cases hlt : k < n
  ·
   have hAW := hA.go hbl
   obtain ⟨bi, oi, rfl, hbi, g0, g1, g2, g3, g4, g5, g6, g7, g8, g9⟩ := IsRds.at10 hAW hlt
   have hcr : wr.cell? ⟨pb, 0, none⟩ = some (.func (.func 98) #[] #[]) := (hbl.cell (p := ⟨pb, 0, none⟩) hp).trans hc
   have hpr : pb < wr.heap.size := by have := hbl.size; omega
   have HOK := Lib.hid hok
   have HK := Lib.hid (fun W (hW : Below wr.heap.size wr W) => H k W hlt (ex_trans hbl hW))
   clear hok H hc hA
   cases ht : R k
   ·
    have HT := Lib.hid ht
    have HF : Hid (firstOf (fun k => !R k) n = (k : Int)) := Lib.hid (firstOf_at hlt (fun j hj => by have := HOK.out j hj; simp only [this]; rfl) (by simp only [ht]; rfl))
    clear ht
    go_wp2_with fail
    refine (all1_whole  (R k) (gE l k) wr pb hpr hcr HK.out).mono ?_
    rintro e w2 ⟨rfl, hb2⟩
    rw [HT.out]
    go_wp2
    go_ret
    exact ⟨ret_int HF.out.symm, ex_trans hbl hb2⟩
   ·
    have HT := Lib.hid ht
    clear ht
    go_wp2_with fail
    refine (all1_whole  (R k) (gE l k) wr pb hpr hcr HK.out).mono ?_
    rintro e w2 ⟨rfl, hb2⟩
    rw [HT.out]
    go_wp2
    go_roundw
    case rel => exact ⟨k + 1, by omega, by go_num, fun j hj => by rcases Nat.lt_succ_iff_lt_or_eq.1 hj with h | h; exact HOK.out j h; exact h ▸ HT.out, ex_trans hbl hb2⟩
    case measure => simp [intOf]; omega
  ·
   obtain rfl : k = n := by omega
   have HF : Hid (firstOf (fun k => !R k) k = -1) := Lib.hid (firstOf_neg fun j hj => by have := hok j hj; simp only [this]; rfl)
   go_wp2
   go_ret
   exact ⟨ret_int HF.out.symm, hbl⟩
theorem cont_whole  (R : Nat → Bool) (l : List Rd) (n : Nat) (A : Option Addr) (c : Nat) (w : World) (hA : SlAt w w.heap.size 10 A n (fE l)) (hl : n ≤ 1000000) (pb : Nat) (hp : pb < w.heap.size) (hc : w.cell? ⟨pb, 0, none⟩ = some (.func (.func 98) #[] #[])) (H : ∀ k W, k < n → Below w.heap.size w W → Calls Tryz.prog 98 #[.agg #[.int .i64 (gE l k).day, .int .i64 (gE l k).shown, .int .i64 (gE l k).err, .int .i64 (gE l k).bare, .int .i64 (gE l k).air.lo, .int .i64 (gE l k).air.hi, .int .i64 (gE l k).rate.lo, .int .i64 (gE l k).rate.hi, .int .i64 (gE l k).deep, .bool (gE l k).broken]] W fun e w' => e = .returned (.bool (R k)) ∧ Below W.heap.size W w') :
  Calls Tryz.prog 124 #[.slice A n c, .func (.func 125) #[] #[.pointer (some ⟨pb, 0, none⟩)]] w fun e w' => e = .returned (.bool (!allTo R n)) ∧ Below w.heap.size w w' := by
 have HF : Hid (decide (0 ≤ firstOf (fun k => !R k) n) = !allTo R n) := Lib.hid (by rw [firstOf_nonneg]; simp)
 go_enter Tryz.func124, Tryz.ntmps124
 go_wp2_with fail
 refine (index_whole  R l n A c w hA hl pb hp hc H).mono ?_
 rintro e w2 ⟨rfl, hb2⟩
 go_wp2
 go_ret
 exact ⟨ret_bool HF.out, hb2⟩
theorem all_whole  (R : Nat → Bool) (l : List Rd) (n : Nat) (A : Option Addr) (c : Nat) (w : World) (hA : SlAt w w.heap.size 10 A n (fE l)) (hl : n ≤ 1000000) (H : ∀ k W, k < n → Below w.heap.size w W → Calls Tryz.prog 98 #[.agg #[.int .i64 (gE l k).day, .int .i64 (gE l k).shown, .int .i64 (gE l k).err, .int .i64 (gE l k).bare, .int .i64 (gE l k).air.lo, .int .i64 (gE l k).air.hi, .int .i64 (gE l k).rate.lo, .int .i64 (gE l k).rate.hi, .int .i64 (gE l k).deep, .bool (gE l k).broken]] W fun e w' => e = .returned (.bool (R k)) ∧ Below W.heap.size W w') :
  Calls Tryz.prog 97 #[.slice A n c, .func (.func 98) #[] #[]] w fun e w' => e = .returned (.bool (allTo R n)) ∧ Below w.heap.size w w' := by
 have hb1 := ex_alloc (Below.refl w.heap.size w) (.cells #[.func (.func 98) #[] #[]] 167)
 have q1 : Blk (w.alloc (.cells #[.func (.func 98) #[] #[]] 167)) w.heap.size 167 #[.func (.func 98) #[] #[]] := Blk.new _ _ _
 go_enter Tryz.func97, Tryz.ntmps97
 go_wp2_with fail
 refine (cont_whole  R l n A c _ (hA.go hb1) hl w.heap.size q1.lt (q1.cell 0) (fun k W hk hW => H k W hk (ex_trans hb1 hW))).mono ?_
 rintro e w2 ⟨rfl, hb2⟩
 go_wp2
 go_ret
 exact ⟨ret_bool (by simp), ex_trans hb1 hb2⟩
set_option maxRecDepth 100000 in
set_option maxHeartbeats 1600000 in
theorem all1_left (pu pk pn : Nat) (b : Bool) (r : Rd) (w : World) (pb : Nat) (hp : pb < w.heap.size) (hc : w.cell? ⟨pb, 0, none⟩ = some (.func (.func 100) #[] #[.pointer (some ⟨pu, 0, none⟩), .pointer (some ⟨pk, 0, none⟩), .pointer (some ⟨pn, 0, none⟩)])) (H : ∀ W, Below w.heap.size w W → Calls Tryz.prog 100 #[.agg #[.int .i64 r.day, .int .i64 r.shown, .int .i64 r.err, .int .i64 r.bare, .int .i64 r.air.lo, .int .i64 r.air.hi, .int .i64 r.rate.lo, .int .i64 r.rate.hi, .int .i64 r.deep, .bool r.broken], .pointer (some ⟨pu, 0, none⟩), .pointer (some ⟨pk, 0, none⟩), .pointer (some ⟨pn, 0, none⟩)] W fun e w' => e = .returned (.bool b) ∧ Below W.heap.size W w') :
  Calls Tryz.prog 125 #[.agg #[.int .i64 r.day, .int .i64 r.shown, .int .i64 r.err, .int .i64 r.bare, .int .i64 r.air.lo, .int .i64 r.air.hi, .int .i64 r.rate.lo, .int .i64 r.rate.hi, .int .i64 r.deep, .bool r.broken], .pointer (some ⟨pb, 0, none⟩)] w fun e w' => e = .returned (.bool (!b)) ∧ Below w.heap.size w w' := by
 have hb1 := ex_alloc (Below.refl w.heap.size w) (.cells #[.int .i64 r.day, .int .i64 r.shown, .int .i64 r.err, .int .i64 r.bare, .int .i64 r.air.lo, .int .i64 r.air.hi, .int .i64 r.rate.lo, .int .i64 r.rate.hi, .int .i64 r.deep, .bool r.broken] 52)
 have q1 : Blk (w.alloc (.cells #[.int .i64 r.day, .int .i64 r.shown, .int .i64 r.err, .int .i64 r.bare, .int .i64 r.air.lo, .int .i64 r.air.hi, .int .i64 r.rate.lo, .int .i64 r.rate.hi, .int .i64 r.deep, .bool r.broken] 52)) w.heap.size 52 #[.int .i64 r.day, .int .i64 r.shown, .int .i64 r.err, .int .i64 r.bare, .int .i64 r.air.lo, .int .i64 r.air.hi, .int .i64 r.rate.lo, .int .i64 r.rate.hi, .int .i64 r.deep, .bool r.broken] := Blk.new _ _ _
 go_enter Tryz.func125, Tryz.ntmps125
 go_wp2_with (refine pause_at 5 rfl ?_)
 refine Paused.mk ?_
 refine wpList_load_row rfl 52 _ rfl _ rfl 52 _ (0, 0) _ (q1) Tryz.underlying52 rfl (by kernel_rfl) ?_
 go_wp2_with fail
 refine (H _ hb1).mono ?_
 rintro e w2 ⟨rfl, hb2⟩
 go_wp2
 go_ret
 exact ⟨rfl, ex_trans hb1 hb2⟩
set_option maxRecDepth 100000 in
set_option maxHeartbeats 3200000 in
theorem index_left (pu pk pn : Nat) (R : Nat → Bool) (l : List Rd) (n : Nat) (A : Option Addr) (c : Nat) (w : World) (hA : SlAt w w.heap.size 10 A n (fE l)) (hl : n ≤ 1000000) (pb : Nat) (hp : pb < w.heap.size) (hc : w.cell? ⟨pb, 0, none⟩ = some (.func (.func 100) #[] #[.pointer (some ⟨pu, 0, none⟩), .pointer (some ⟨pk, 0, none⟩), .pointer (some ⟨pn, 0, none⟩)])) (H : ∀ k W, k < n → Below w.heap.size w W → Calls Tryz.prog 100 #[.agg #[.int .i64 (gE l k).day, .int .i64 (gE l k).shown, .int .i64 (gE l k).err, .int .i64 (gE l k).bare, .int .i64 (gE l k).air.lo, .int .i64 (gE l k).air.hi, .int .i64 (gE l k).rate.lo, .int .i64 (gE l k).rate.hi, .int .i64 (gE l k).deep, .bool (gE l k).broken], .pointer (some ⟨pu, 0, none⟩), .pointer (some ⟨pk, 0, none⟩), .pointer (some ⟨pn, 0, none⟩)] W fun e w' => e = .returned (.bool (R k)) ∧ Below W.heap.size W w') :
  Calls Tryz.prog 145 #[.slice A n c, .func (.func 125) #[] #[.pointer (some ⟨pb, 0, none⟩)]] w fun e w' => e = .returned (.int .i64 (firstOf (fun k => !R k) n)) ∧ Below w.heap.size w w' := by
 go_enter Tryz.func145, Tryz.ntmps145
 go_wp2
 go_loopw [8] (fun i wr => ∃ k : Nat, k ≤ n ∧ i = .int .i64 k ∧ (∀ k', k' < k → R k' = true) ∧ Below w.heap.size w wr)
  (fun i _ => n - (intOf i).toNat)
 case atStart => exact ⟨0, by omega, rfl, fun j hj => by omega, Below.refl _ _⟩
 case round =>
  obtain ⟨k, hk, rfl, hok, hbl⟩ := hrel
  by_cases hlt : k < n
  ·
   have hAW := hA.go hbl
   obtain ⟨bi, oi, rfl, hbi, g0, g1, g2, g3, g4, g5, g6, g7, g8, g9⟩ := IsRds.at10 hAW hlt
   have hcr : wr.cell? ⟨pb, 0, none⟩ = some (.func (.func 100) #[] #[.pointer (some ⟨pu, 0, none⟩), .pointer (some ⟨pk, 0, none⟩), .pointer (some ⟨pn, 0, none⟩)]) := (hbl.cell (p := ⟨pb, 0, none⟩) hp).trans hc
   have hpr : pb < wr.heap.size := by have := hbl.size; omega
   have HOK := Lib.hid hok
   have HK := Lib.hid (fun W (hW : Below wr.heap.size wr W) => H k W hlt (ex_trans hbl hW))
   clear hok H hc hA
   cases ht : R k
   ·
    have HT := Lib.hid ht
    have HF : Hid (firstOf (fun k => !R k) n = (k : Int)) := Lib.hid (firstOf_at hlt (fun j hj => by have := HOK.out j hj; simp only [this]; rfl) (by simp only [ht]; rfl))
    clear ht
    go_wp2_with fail
    refine (all1_left pu pk pn (R k) (gE l k) wr pb hpr hcr HK.out).mono ?_
    rintro e w2 ⟨rfl, hb2⟩
    rw [HT.out]
    go_wp2
    go_ret
    exact ⟨ret_int HF.out.symm, ex_trans hbl hb2⟩
   ·
    have HT := Lib.hid ht
    clear ht
    go_wp2_with fail
    refine (all1_left pu pk pn (R k) (gE l k) wr pb hpr hcr HK.out).mono ?_
    rintro e w2 ⟨rfl, hb2⟩
    rw [HT.out]
    go_wp2
    go_roundw
    case rel => exact ⟨k + 1, by omega, by go_num, fun j hj => by rcases Nat.lt_succ_iff_lt_or_eq.1 hj with h | h; exact HOK.out j h; exact h ▸ HT.out, ex_trans hbl hb2⟩
    case measure => simp [intOf]; omega
  ·
   obtain rfl : k = n := by omega
   have HF : Hid (firstOf (fun k => !R k) k = -1) := Lib.hid (firstOf_neg fun j hj => by have := hok j hj; simp only [this]; rfl)
   go_wp2
   go_ret
   exact ⟨ret_int HF.out.symm, hbl⟩
theorem cont_left (pu pk pn : Nat) (R : Nat → Bool) (l : List Rd) (n : Nat) (A : Option Addr) (c : Nat) (w : World) (hA : SlAt w w.heap.size 10 A n (fE l)) (hl : n ≤ 1000000) (pb : Nat) (hp : pb < w.heap.size) (hc : w.cell? ⟨pb, 0, none⟩ = some (.func (.func 100) #[] #[.pointer (some ⟨pu, 0, none⟩), .pointer (some ⟨pk, 0, none⟩), .pointer (some ⟨pn, 0, none⟩)])) (H : ∀ k W, k < n → Below w.heap.size w W → Calls Tryz.prog 100 #[.agg #[.int .i64 (gE l k).day, .int .i64 (gE l k).shown, .int .i64 (gE l k).err, .int .i64 (gE l k).bare, .int .i64 (gE l k).air.lo, .int .i64 (gE l k).air.hi, .int .i64 (gE l k).rate.lo, .int .i64 (gE l k).rate.hi, .int .i64 (gE l k).deep, .bool (gE l k).broken], .pointer (some ⟨pu, 0, none⟩), .pointer (some ⟨pk, 0, none⟩), .pointer (some ⟨pn, 0, none⟩)] W fun e w' => e = .returned (.bool (R k)) ∧ Below W.heap.size W w') :
  Calls Tryz.prog 124 #[.slice A n c, .func (.func 125) #[] #[.pointer (some ⟨pb, 0, none⟩)]] w fun e w' => e = .returned (.bool (!allTo R n)) ∧ Below w.heap.size w w' := by
 have HF : Hid (decide (0 ≤ firstOf (fun k => !R k) n) = !allTo R n) := Lib.hid (by rw [firstOf_nonneg]; simp)
 go_enter Tryz.func124, Tryz.ntmps124
 go_wp2_with fail
 refine (index_left pu pk pn R l n A c w hA hl pb hp hc H).mono ?_
 rintro e w2 ⟨rfl, hb2⟩
 go_wp2
 go_ret
 exact ⟨ret_bool HF.out, hb2⟩
theorem all_left (pu pk pn : Nat) (R : Nat → Bool) (l : List Rd) (n : Nat) (A : Option Addr) (c : Nat) (w : World) (hA : SlAt w w.heap.size 10 A n (fE l)) (hl : n ≤ 1000000) (H : ∀ k W, k < n → Below w.heap.size w W → Calls Tryz.prog 100 #[.agg #[.int .i64 (gE l k).day, .int .i64 (gE l k).shown, .int .i64 (gE l k).err, .int .i64 (gE l k).bare, .int .i64 (gE l k).air.lo, .int .i64 (gE l k).air.hi, .int .i64 (gE l k).rate.lo, .int .i64 (gE l k).rate.hi, .int .i64 (gE l k).deep, .bool (gE l k).broken], .pointer (some ⟨pu, 0, none⟩), .pointer (some ⟨pk, 0, none⟩), .pointer (some ⟨pn, 0, none⟩)] W fun e w' => e = .returned (.bool (R k)) ∧ Below W.heap.size W w') :
  Calls Tryz.prog 97 #[.slice A n c, .func (.func 100) #[] #[.pointer (some ⟨pu, 0, none⟩), .pointer (some ⟨pk, 0, none⟩), .pointer (some ⟨pn, 0, none⟩)]] w fun e w' => e = .returned (.bool (allTo R n)) ∧ Below w.heap.size w w' := by
 have hb1 := ex_alloc (Below.refl w.heap.size w) (.cells #[.func (.func 100) #[] #[.pointer (some ⟨pu, 0, none⟩), .pointer (some ⟨pk, 0, none⟩), .pointer (some ⟨pn, 0, none⟩)]] 167)
 have q1 : Blk (w.alloc (.cells #[.func (.func 100) #[] #[.pointer (some ⟨pu, 0, none⟩), .pointer (some ⟨pk, 0, none⟩), .pointer (some ⟨pn, 0, none⟩)]] 167)) w.heap.size 167 #[.func (.func 100) #[] #[.pointer (some ⟨pu, 0, none⟩), .pointer (some ⟨pk, 0, none⟩), .pointer (some ⟨pn, 0, none⟩)]] := Blk.new _ _ _
 go_enter Tryz.func97, Tryz.ntmps97
 go_wp2_with fail
 refine (cont_left pu pk pn R l n A c _ (hA.go hb1) hl w.heap.size q1.lt (q1.cell 0) (fun k W hk hW => H k W hk (ex_trans hb1 hW))).mono ?_
 rintro e w2 ⟨rfl, hb2⟩
 go_wp2
 go_ret
 exact ⟨ret_bool (by simp), ex_trans hb1 hb2⟩

end Go.Proofs.YtkaogjhnogkcdaaGreat
end

section
namespace Go.Proofs.YtkaogjhnogkcdaaGreat
open Go.RowKit
attribute [local go_sem] Ex.cell? Ex.frozen? Gx.cell?

set_option maxRecDepth 100000 in
set_option maxHeartbeats 6400000 in
theorem Glass_y (g : Gl) (Ab Ad : Option Addr) (cb cd : Nat) (w : World) (hg : GlIn w w.heap.size g Ab Ad) (hnb : g.bands.length ≤ 1000) (hnd : g.depths.length ≤ 1000) :
    Calls Tryz.prog 37 #[.agg #[.int .i64 g.base, .slice Ab g.bands.length cb, .slice Ad g.depths.length cd, .int .i64 g.blo, .int .i64 g.bhi]] w fun e w' => (∃ Ab' Ad' cb' cd', e = .returned (.agg #[.int .i64 g.base, .slice Ab' g.bands.length cb', .slice Ad' g.depths.length cd', .int .i64 g.blo, .int .i64 g.bhi]) ∧ GlIn w' w'.heap.size g Ab' Ad' ∧ YoungAt Ab' w.heap.size ∧ YoungAt Ad' w.heap.size) ∧ Below w.heap.size w w' := by
  obtain ⟨iB, hiB, hzB0, hzB1, hzB2⟩ := info_parts bdG_info
  have HIB := Lib.hid hiB
  obtain ⟨iD, hiD, hzD0, hzD1, hzD2⟩ := info_parts dpG_info
  have HID := Lib.hid hiD
  clear hiB hiD
  have hb1 := ex_alloc (ex_alloc (Below.refl w.heap.size w) (.cells #[.int .i64 g.base, .slice Ab g.bands.length cb, .slice Ad g.depths.length cd, .int .i64 g.blo, .int .i64 g.bhi] 27)) (.cells #[.int .i64 0, .slice none 0 0, .slice none 0 0, .int .i64 0, .int .i64 0] 43)
  have q1 : Blk ((w.alloc (.cells #[.int .i64 g.base, .slice Ab g.bands.length cb, .slice Ad g.depths.length cd, .int .i64 g.blo, .int .i64 g.bhi] 27)).alloc (.cells #[.int .i64 0, .slice none 0 0, .slice none 0 0, .int .i64 0, .int .i64 0] 43)) w.heap.size 27 #[.int .i64 g.base, .slice Ab g.bands.length cb, .slice Ad g.depths.length cd, .int .i64 g.blo, .int .i64 g.bhi] := (Blk.new _ _ _).alloc _
  have q2 : Blk ((w.alloc (.cells #[.int .i64 g.base, .slice Ab g.bands.length cb, .slice Ad g.depths.length cd, .int .i64 g.blo, .int .i64 g.bhi] 27)).alloc (.cells #[.int .i64 0, .slice none 0 0, .slice none 0 0, .int .i64 0, .int .i64 0] 43)) (w.heap.size + 1) 43 #[.int .i64 0, .slice none 0 0, .slice none 0 0, .int .i64 0, .int .i64 0] := Blk.new' _ _ _ (by simp)
  have hsz : ((w.alloc (.cells #[.int .i64 g.base, .slice Ab g.bands.length cb, .slice Ad g.depths.length cd, .int .i64 g.blo, .int .i64 g.bhi] 27)).alloc (.cells #[.int .i64 0, .slice none 0 0, .slice none 0 0, .int .i64 0, .int .i64 0] 43)).heap.size = w.heap.size + 1 + 1 := by simp
  go_enter Tryz.func37, Tryz.ntmps37
  go_wp2_with fail
  have HSZ := Lib.hid hsz
  clear hsz
  generalize (w.alloc (.cells #[.int .i64 g.base, .slice Ab g.bands.length cb, .slice Ad g.depths.length cd, .int .i64 g.blo, .int .i64 g.bhi] 27)).alloc (.cells #[.int .i64 0, .slice none 0 0, .slice none 0 0, .int .i64 0, .int .i64 0] 43) = W at *
  have a0 : W.cell? ⟨w.heap.size, 0, none⟩ = some (.int .i64 g.base) := q1.cell 0
  have a3 : W.cell? ⟨w.heap.size, 3, none⟩ = some (.int .i64 g.blo) := q1.cell 3
  have a4 : W.cell? ⟨w.heap.size, 4, none⟩ = some (.int .i64 g.bhi) := q1.cell 4
  have l1 := q1.lt
  have hX0 := (Below.refl W.heap.size W).drew
  refine Code.wp_mono (Q := GAQ g Ab Ad cb cd w) ?_ ?_
  rotate_left
  · refine wp_region_ext_fork 7 4 6 [(false, 5), (true, 6)] [(true, 4), (false, 5)] [(false, 0), (false, 1), (false, 2), (false, 3)] (by kernel_rfl) (by kernel_rfl) (by rintro d v c a w ⟨h, _⟩; cases h) ?_
    repeat (refine fk_quiet rfl ?_; go_big_quiet_step (fail); refine wpQuiet_nil ?_)
    refine fk_fork rfl rfl ?_ ?_
    · go_wp2_with fail
      refine (to_law _ _ _).mono ?_
      rintro e x1 ⟨rfl, hx1⟩
      have hX1 := ex_trans hX0 hx1
      go_wp2_with fail
      refine ⟨inEx hX1, ?_⟩
      repeat (refine mix_quiet rfl ?_; go_big_quiet_step (fail); refine wpQuiet_nil ?_)
      refine mix_loud rfl ?_
      go_wp2_with fail
      refine ⟨inEx (ex_alloc hX1 _), ?_⟩
      refine mix_nil rfl ?_
      go_wp2
      have hX2 := ex_alloc hX1 (.cells #[.int .i64 g.base, .slice none 0 0, .slice none 0 0, .int .i64 g.blo, .int .i64 g.bhi] 43)
      exact ⟨rfl, x1.heap.size, ⟨ex_trans hb1 hX2, q1.below hX2 q1.lt, q2.below hX2 q2.lt, by have := hX1.size; have := HSZ.out; omega, Blk.new _ _ _⟩, exFrame' (by kernel_rfl)⟩
    · go_wp2_with fail
      have hXA : Below W.heap.size W (W.alloc (.cells #[.int .i64 0, .slice none 0 0, .slice none 0 0, .int .i64 0, .int .i64 0] 43)).drew := (ex_alloc (Below.refl _ _) _).drew
      refine ⟨inEx hXA, ?_⟩
      have qp : Blk (W.alloc (.cells #[.int .i64 0, .slice none 0 0, .slice none 0 0, .int .i64 0, .int .i64 0] 43)).drew W.heap.size 43 #[.int .i64 0, .slice none 0 0, .slice none 0 0, .int .i64 0, .int .i64 0] := Blk.new _ _ _
      refine mix_loud rfl ?_
      go_wp2_with fail
      refine (to_law _ _ _).mono ?_
      rintro e x1 ⟨rfl, hx1⟩
      have hX1 : Below W.heap.size W x1 := ex_trans hXA hx1
      go_wp2_with fail
      refine ⟨inEx hX1, ?_⟩
      repeat (refine mix_quiet rfl ?_; go_big_quiet_step (fail); refine wpQuiet_nil ?_)
      refine mix_nil rfl ?_
      have r0 := qp.below hx1 qp.lt
      have b0 := r0.cell 0
      have b1 := r0.cell 1
      have b2 := r0.cell 2
      have b3 := r0.cell 3
      have b4 := r0.cell 4
      have f0 := r0.frozen 0
      have f1 := r0.frozen 1
      have f2 := r0.frozen 2
      have f3 := r0.frozen 3
      have f4 := r0.frozen 4
      have lr := r0.lt
      simp at b0 b1 b2 b3 b4
      have r5 := ((((r0.set_ 0 (.int .i64 g.base)).set_ 1 (.slice none 0 0)).set_ 2 (.slice none 0 0)).set_ 3 (.int .i64 g.blo)).set_ 4 (.int .i64 g.bhi)
      simp only [List.setIfInBounds_toArray, List.set_cons_zero, List.set_cons_succ] at r5
      have hf : Fr (fun b => b = W.heap.size) x1 (((((x1.setCell ⟨W.heap.size, 0, none⟩ (.int .i64 g.base)).setCell ⟨W.heap.size, 1, none⟩ (.slice none 0 0)).setCell ⟨W.heap.size, 2, none⟩ (.slice none 0 0)).setCell ⟨W.heap.size, 3, none⟩ (.int .i64 g.blo)).setCell ⟨W.heap.size, 4, none⟩ (.int .i64 g.bhi)) :=
        (((((Fr.refl (fun b => b = W.heap.size) x1).andSet rfl).andSet rfl).andSet rfl).andSet rfl).andSet rfl
      have hX2 := hf.toBelow hX1 hX1.size (fun x hx => by rw [hx]; exact Nat.le_refl _)
      go_wp2
      exact ⟨rfl, W.heap.size, ⟨ex_trans hb1 hX2, q1.below hX2 q1.lt, q2.below hX2 q2.lt, by have := HSZ.out; omega, r5⟩, exFrame' (by kernel_rfl)⟩
  rintro e a' W1 ⟨rfl, p, hGA, u, rfl⟩
  clear a0 a3 a4 l1 hX0 q1 q2 hb1 HSZ
  go_wp2_with fail
  go_loopw [4] (fun i wr => ∃ (k : Nat) (vB : Value), k ≤ g.bands.length ∧ i = .int .i64 k ∧ GA g #[.int .i64 g.base, .slice Ab g.bands.length cb, .slice Ad g.depths.length cd, .int .i64 g.blo, .int .i64 g.bhi] w p vB (.slice none 0 0) wr ∧ wr.ownsRow (w.heap.size + 1 + 1) 161 3 vB (g.bands.take k).length ((g.bands.take k).flatMap cB))
    (fun i _ => g.bands.length - (intOf i).toNat)
  case atStart => exact ⟨0, _, by omega, rfl, hGA, ⟨rfl, .inl ⟨rfl, rfl⟩⟩⟩
  case round =>
    clear hGA
    obtain ⟨k, vB, hk, rfl, hGA, hown⟩ := hrel
    have a1 : wr.cell? ⟨w.heap.size, 1, none⟩ = some (.slice Ab g.bands.length cb) := hGA.q1.cell 1
    have l1 := hGA.q1.lt
    have lp := hGA.qp.lt
    have e1 : wr.cell? ⟨p, 1, none⟩ = some vB := hGA.qp.cell 1
    have hwr := hGA.bw.size
    have hpw := hGA.hp
    by_cases hlt : k < g.bands.length
    · obtain ⟨b, off, rfl, hb, c0, c1, c2⟩ := IsBds.at_ (hg.b.below hGA.bw) hlt
      have HE := Lib.hid (gB_at hlt)
      have hbr : b < wr.heap.size := by omega
      obtain ⟨row, hrow⟩ : ∃ row, vB.ownBlock = row := ⟨_, rfl⟩
      have hn1 : ¬ some b = row := fun e => by have := own_ge hown (hrow.trans e.symm); omega
      have hn2 : ¬ some w.heap.size = row := fun e => by have := own_ge hown (hrow.trans e.symm); omega
      have hn3 : ¬ some p = row := fun e => own_blkne hown hGA.qp (by decide) (hrow.trans e.symm)
      have HROW := Lib.hid hrow
      clear hrow
      have HGA := Lib.hid hGA
      clear hGA
      go_wp2_with fail
      refine wp_region_gx_mix row 18 [(false, 0), (false, 1), (false, 2), (false, 3), (false, 4), (false, 5), (false, 6), (false, 7), (false, 8), (false, 9), (false, 10), (false, 11), (false, 12), (false, 13), (true, 14), (false, 15), (true, 16), (true, 17)] (by kernel_rfl) (by kernel_rfl) (by intro d _ _ _ _ h; cases d <;> exact h) ?_
      repeat (refine mix_quiet rfl ?_; go_big_quiet_step (fail); refine wpQuiet_nil ?_)
      refine mix_loud rfl ?_
      go_wp2_with fail
      refine (to_law _ _ _).mono ?_
      rintro e x1 ⟨rfl, hx1⟩
      have hX1 : Below wr.heap.size wr x1 := (Below.refl wr.heap.size wr).drew.trans hx1
      go_wp2_with fail
      refine ⟨inGx (grown_row hX1), ?_⟩
      repeat (refine mix_quiet rfl ?_; go_big_quiet_step (fail); refine wpQuiet_nil ?_)
      refine mix_loud rfl ?_
      go_wp2_with fail
      have hX2 := ex_alloc hX1 (.cells #[.int .i64 (gB g.bands k).from_, .int .i64 (gB g.bands k).lo, .int .i64 (gB g.bands k).hi] 161)
      refine ⟨inGx (grown_row hX2), ?_⟩
      have y4 := own_below hown hX2
      have hlen : (g.bands.take k).length = k := by rw [List.length_take]; omega
      have c63 : (g.bands.take k).length + 1 ≤ maxLen := by unfold maxLen; omega
      have cby : ((g.bands.take k).length + 1) * 24 ≤ 140737488355328 := by omega
      have hbase : w.heap.size + 1 + 1 ≤ (x1.alloc (.cells #[.int .i64 (gB g.bands k).from_, .int .i64 (gB g.bands k).lo, .int .i64 (gB g.bands k).hi] 161)).heap.size := by have := hX1.size; simp; omega
      have HLEN := Lib.hid hlen
      clear hlen
      refine mix_loud rfl ?_
      go_wp2_with (at_builtin; refine wpList_append_lies _ rfl _ _ _ rfl (w.heap.size + 1 + 1) 161 iB _ 3 24 Tryz.underlying39 HIB.out hzB0 hzB1 hzB2 rfl (by omega) vB _ _ rfl y4 ⟨x1.heap.size, 0, none⟩ 1 1 [.int .i64 (gB g.bands k).from_, .int .i64 (gB g.bands k).lo, .int .i64 (gB g.bands k).hi] rfl rfl (World.news_of_block (heap_alloc_new x1 _)) (by simp [Value.oneCell']) (by omega) c63 cby hbase (x1.heap.size + 1) (by simp) ?_; intro gg cap w1 hown' hgrow hat hlt')
      rw [HROW.out] at hgrow
      have hgB := (grown_row (r := row) hX2).andThen hgrow (fun j hj => .inr hj)
      refine ⟨inGx hgB, ?_⟩
      refine mix_nil rfl ?_
      have G := HGA.out
      have qp1 := G.qp.grown hgB hn3
      have e2 : w1.cell? ⟨p, 1, none⟩ = some vB := qp1.cell 1
      have f2 := qp1.frozen 1
      have lp1 := qp1.lt
      rw [HLEN.out] at hown'
      go_wp2
      have hf : Fr (fun b => b = p ∨ vB.ownBlock = some b) wr (w1.setCell ⟨p, 1, none⟩ (.slice (some ⟨gg, 0, none⟩) (k + 1) cap)) := (Fr.grown hgB (fun b hb => .inl (.inr (by rw [HROW.out]; exact hb)))).andSet (.inl rfl)
      go_roundw
      case rel => exact ⟨k + 1, _, by omega, by go_num, G.step hown hf (qp1.set_ 1 _), own_fr (flat_snoc hlt (by rw [HLEN.out]) (by rw [← HE.out]; exact hown')) (Fr.set (R := fun b => b = p) _ _ _ _ rfl) (fun b hb hbp => own_blkne hown' qp1 (by decide) (hbp ▸ hb))⟩
      case measure => simp [intOf]; omega
    · have HK : Hid (k = g.bands.length) := Lib.hid (by omega)
      rw [HK.out, List.take_length] at hown
      have HOB := Lib.hid hown
      clear hown
      go_wp2_with fail
      go_loopw [5] (fun i wr => ∃ (k : Nat) (vD : Value), k ≤ g.depths.length ∧ i = .int .i64 k ∧ GA g #[.int .i64 g.base, .slice Ab g.bands.length cb, .slice Ad g.depths.length cd, .int .i64 g.blo, .int .i64 g.bhi] w p vB vD wr ∧ wr.ownsRow (w.heap.size + 1 + 1) 161 3 vB g.bands.length (g.bands.flatMap cB) ∧ wr.ownsRow (w.heap.size + 1 + 1) 164 2 vD (g.depths.take k).length ((g.depths.take k).flatMap cD))
        (fun i _ => g.depths.length - (intOf i).toNat)
      case atStart => exact ⟨0, _, by omega, rfl, hGA, HOB.out, ⟨rfl, .inl ⟨rfl, rfl⟩⟩⟩
      case round =>
        clear hGA hlt hwr hpw lp l1 hk HK HOB
        obtain ⟨k, vD, hk, rfl, hGA, hownB, hown⟩ := hrel
        have HOB := Lib.hid hownB
        clear hownB
        have a1 : wr.cell? ⟨w.heap.size, 2, none⟩ = some (.slice Ad g.depths.length cd) := hGA.q1.cell 2
        have l1 := hGA.q1.lt
        have lp := hGA.qp.lt
        have e1 : wr.cell? ⟨p, 2, none⟩ = some vD := hGA.qp.cell 2
        have hwr := hGA.bw.size
        have hpw := hGA.hp
        by_cases hlt : k < g.depths.length
        · obtain ⟨b, off, rfl, hb, c0, c1⟩ := IsDps.at_ (hg.d.below hGA.bw) hlt
          have HE := Lib.hid (gD_at hlt)
          have hbr : b < wr.heap.size := by omega
          obtain ⟨row, hrow⟩ : ∃ row, vD.ownBlock = row := ⟨_, rfl⟩
          have hn1 : ¬ some b = row := fun e => by have := own_ge hown (hrow.trans e.symm); omega
          have hn2 : ¬ some w.heap.size = row := fun e => by have := own_ge hown (hrow.trans e.symm); omega
          have hn3 : ¬ some p = row := fun e => own_blkne hown hGA.qp (by decide) (hrow.trans e.symm)
          have HROW := Lib.hid hrow
          clear hrow
          have HGA := Lib.hid hGA
          clear hGA
          go_wp2_with fail
          refine wp_region_gx_mix row 17 [(false, 0), (false, 1), (false, 2), (false, 3), (false, 4), (false, 5), (false, 6), (false, 7), (false, 8), (false, 9), (false, 10), (false, 11), (false, 12), (false, 13), (false, 14), (true, 15), (true, 16)] (by kernel_rfl) (by kernel_rfl) (by intro d _ _ _ _ h; cases d <;> exact h) ?_
          repeat (refine mix_quiet rfl ?_; go_big_quiet_step (fail); refine wpQuiet_nil ?_)
          refine mix_loud rfl ?_
          go_wp2_with fail
          have hX2 : Below wr.heap.size wr (wr.alloc (.cells #[.int .i64 (gD g.depths k).from_, .int .i64 (gD g.depths k).sink] 164)).drew := ((Below.refl wr.heap.size wr).alloc (Nat.le_refl _) _).drew
          refine ⟨inGx (grown_row hX2), ?_⟩
          have y4 := own_below hown hX2
          have hlen : (g.depths.take k).length = k := by rw [List.length_take]; omega
          have c63 : (g.depths.take k).length + 1 ≤ maxLen := by unfold maxLen; omega
          have cby : ((g.depths.take k).length + 1) * 16 ≤ 140737488355328 := by omega
          have hbase : w.heap.size + 1 + 1 ≤ (wr.alloc (.cells #[.int .i64 (gD g.depths k).from_, .int .i64 (gD g.depths k).sink] 164)).drew.heap.size := by simp; omega
          have hnew : ∀ j u, ([.int .i64 (gD g.depths k).from_, .int .i64 (gD g.depths k).sink] : List Value)[j]? = some u → (wr.alloc (.cells #[.int .i64 (gD g.depths k).from_, .int .i64 (gD g.depths k).sink] 164)).drew.cell? ((⟨wr.heap.size, 0, none⟩ : Addr).add j) = some u := World.news_of_block (heap_alloc_new wr _)
          have HLEN := Lib.hid hlen
          clear hlen
          refine mix_loud rfl ?_
          go_wp2_with (at_builtin; refine wpList_append_lies _ rfl _ _ _ rfl (w.heap.size + 1 + 1) 164 iD _ 2 16 Tryz.underlying40 HID.out hzD0 hzD1 hzD2 rfl (by omega) vD _ _ rfl y4 ⟨wr.heap.size, 0, none⟩ 1 1 [.int .i64 (gD g.depths k).from_, .int .i64 (gD g.depths k).sink] rfl rfl hnew (by simp [Value.oneCell']) (by omega) c63 cby hbase (wr.heap.size + 1) (by simp) ?_; intro gg cap w1 hown' hgrow hat hlt')
          rw [HROW.out] at hgrow
          have hgB := (grown_row (r := row) hX2).andThen hgrow (fun j hj => .inr hj)
          refine ⟨inGx hgB, ?_⟩
          refine mix_nil rfl ?_
          have G := HGA.out
          have qp1 := G.qp.grown hgB hn3
          have e2 : w1.cell? ⟨p, 2, none⟩ = some vD := qp1.cell 2
          have f2 := qp1.frozen 2
          have lp1 := qp1.lt
          rw [HLEN.out] at hown'
          go_wp2
          have hf : Fr (fun b => b = p ∨ vD.ownBlock = some b) wr (w1.setCell ⟨p, 2, none⟩ (.slice (some ⟨gg, 0, none⟩) (k + 1) cap)) := (Fr.grown hgB (fun b hb => .inl (.inr (by rw [HROW.out]; exact hb)))).andSet (.inl rfl)
          go_roundw
          case rel => exact ⟨k + 1, _, by omega, by go_num, G.step hown hf (qp1.set_ 2 _), own_fr HOB.out hf (fun b hb hbp => by
              rcases hbp with hbp | hbp
              · exact own_blkne HOB.out G.qp (by decide) (hbp ▸ hb)
              · exact own_ownne HOB.out hown (by decide) hb hbp), own_fr (flat_snoc hlt (by rw [HLEN.out]) (by rw [← HE.out]; exact hown')) (Fr.set (R := fun b => b = p) _ _ _ _ rfl) (fun b hb hbp => own_blkne hown' qp1 (by decide) (hbp ▸ hb))⟩
          case measure => simp [intOf]; omega
        · have HK : Hid (k = g.depths.length) := Lib.hid (by omega)
          rw [HK.out, List.take_length] at hown
          clear HK
          obtain ⟨Ab', cb', hvB, hcb1, hcb2, hsB⟩ := own_B HOB.out
          obtain ⟨Ad', cd', hvD, hcd1, hcd2, hsD⟩ := own_D hown
          subst hvB hvD
          have yB : YoungAt Ab' w.heap.size := fun b off e => by have := own_ge HOB.out (g := b) (by rw [e]; simp [Value.ownBlock]); omega
          have yD : YoungAt Ad' w.heap.size := fun b off e => by have := own_ge hown (g := b) (by rw [e]; simp [Value.ownBlock]); omega
          have YBD := Lib.hid (And.intro yB yD)
          clear yB yD
          have G := hGA
          have HG := Lib.hid hGA
          have g0 : wr.cell? ⟨p, 0, none⟩ = some (.int .i64 g.base) := G.qp.cell 0
          have g1 : wr.cell? ⟨p, 1, none⟩ = some (.slice Ab' g.bands.length cb') := G.qp.cell 1
          have g3 : wr.cell? ⟨p, 3, none⟩ = some (.int .i64 g.blo) := G.qp.cell 3
          have g4 : wr.cell? ⟨p, 4, none⟩ = some (.int .i64 g.bhi) := G.qp.cell 4
          have r0 := G.q2
          have b0 := r0.cell 0
          have b1 := r0.cell 1
          have b2 := r0.cell 2
          have b3 := r0.cell 3
          have b4 := r0.cell 4
          have f0 := r0.frozen 0
          have f1 := r0.frozen 1
          have f2 := r0.frozen 2
          have f3 := r0.frozen 3
          have f4 := r0.frozen 4
          have lr := r0.lt
          simp at b0 b1 b2 b3 b4
          have hf : Fr (fun b => b = w.heap.size + 1) wr (((((wr.setCell ⟨w.heap.size + 1, 0, none⟩ (.int .i64 g.base)).setCell ⟨w.heap.size + 1, 1, none⟩ (.slice Ab' g.bands.length cb')).setCell ⟨w.heap.size + 1, 2, none⟩ (.slice Ad' g.depths.length cd')).setCell ⟨w.heap.size + 1, 3, none⟩ (.int .i64 g.blo)).setCell ⟨w.heap.size + 1, 4, none⟩ (.int .i64 g.bhi)) :=
            (((((Fr.refl (fun b => b = w.heap.size + 1) wr).andSet rfl).andSet rfl).andSet rfl).andSet rfl).andSet rfl
          have r5 := ((((r0.set_ 0 (.int .i64 g.base)).set_ 1 (.slice Ab' g.bands.length cb')).set_ 2 (.slice Ad' g.depths.length cd')).set_ 3 (.int .i64 g.blo)).set_ 4 (.int .i64 g.bhi)
          simp only [List.setIfInBounds_toArray, List.set_cons_zero, List.set_cons_succ] at r5
          clear hGA G
          go_wp2
          refine bodyPost_ret (results_cell_row rfl _ _ (w.heap.size + 1) 43 #[.int .i64 g.base, .slice Ab' g.bands.length cb', .slice Ad' g.depths.length cd', .int .i64 g.blo, .int .i64 g.bhi] (0, 0) _ rfl r5 rfl rfl rfl) rfl ?_
          have oB := own_fr HOB.out hf (fun b hb h => by have := own_ge HOB.out hb; omega)
          have oD := own_fr hown hf (fun b hb h => by have := own_ge hown hb; omega)
          obtain ⟨_, _, e1, _, _, u1⟩ := own_B oB
          obtain ⟨_, _, e2, _, _, u2⟩ := own_D oD
          injection e1 with e1 _ _
          injection e2 with e2 _ _
          subst e1 e2
          exact ⟨⟨_, _, _, _, rfl, ⟨u1, u2⟩, YBD.out.1, YBD.out.2⟩, hf.toBelow HG.out.bw HG.out.bw.size (fun x hx => by omega)⟩

end Go.Proofs.YtkaogjhnogkcdaaGreat
end

section
namespace Go.Proofs.YtkaogjhnogkcdaaGreat
open Go.RowKit
attribute [local go_sem] Ex.cell? Ex.frozen?

set_option maxRecDepth 100000 in
set_option maxHeartbeats 800000 in
theorem sr_down (n : Int) (w : World) (hn : -1000000000 ≤ n ∧ n ≤ 1000000000) :
  Calls Tryz.prog 119 #[.int .i64 n, .int .i64 100000] w fun e w' => e = .returned (.int .i64 (n / 100000)) ∧ w = w' := by
 obtain ⟨d1, d2⟩ := down_eq (n := n)
 by_cases h : n.tmod 100000 < 0
 ·
  have HR := Lib.hid (d1 h)
  have h' : decide (n.tmod 100000 < 0) = true := decide_eq_true h
  have hq : -10001 ≤ n.tdiv 100000 ∧ n.tdiv 100000 ≤ 10001 := by have := HR.out; omega
  clear d1 d2 h
  go_enter Tryz.func119, Tryz.ntmps119
  go_wp2
  go_ret
  exact ⟨ret_int HR.out, rfl⟩
 ·
  have HR := Lib.hid (d2 h)
  have h' : decide (n.tmod 100000 < 0) = false := decide_eq_false h
  clear d1 d2 h
  go_enter Tryz.func119, Tryz.ntmps119
  go_wp2
  go_ret
  exact ⟨ret_int HR.out, rfl⟩
set_option maxRecDepth 100000 in
set_option maxHeartbeats 1600000 in
theorem sr_stem (r : Rd) (k air : Int) (w : World) (hr : RdBd r) (hk : 0 ≤ k ∧ k ≤ 20) (ha : -100 ≤ air ∧ air ≤ 100) :
  Calls Tryz.prog 89 #[.agg #[.int .i64 r.day, .int .i64 r.shown, .int .i64 r.err, .int .i64 r.bare, .int .i64 r.air.lo, .int .i64 r.air.hi, .int .i64 r.rate.lo, .int .i64 r.rate.hi, .int .i64 r.deep, .bool r.broken], .int .i64 k, .int .i64 air] w fun e w' => e = .returned (.int .i64 (stemP r k air)) ∧ Below w.heap.size w w' := by
 obtain ⟨b1, b2, _⟩ := stem_bd hr hk ha
 have b3 := hr.shown
 go_enter Tryz.func89, Tryz.ntmps89
 go_upto_region 1 with fail
 show Code.wp _ _ _ _ _
 refine box1 (K := fun V => Code.wp _ _ _ _ V) ?_
 intro V hb1 q1
 obtain ⟨pq1, hpq1⟩ : ∃ p, w.heap.size = p := ⟨_, rfl⟩
 rw [hpq1] at q1 ⊢
 have hp1 : w.heap.size ≤ pq1 := by omega
 clear hpq1
 have a0 : V.cell? ⟨pq1, 0, none⟩ = some (.int .i64 r.day) := q1.cell 0
 have a1 : V.cell? ⟨pq1, 1, none⟩ = some (.int .i64 r.shown) := q1.cell 1
 have a2 : V.cell? ⟨pq1, 2, none⟩ = some (.int .i64 r.err) := q1.cell 2
 have a3 : V.cell? ⟨pq1, 3, none⟩ = some (.int .i64 r.bare) := q1.cell 3
 have a4 : V.cell? ⟨pq1, 4, none⟩ = some (.int .i64 r.air.lo) := q1.cell 4
 have a5 : V.cell? ⟨pq1, 5, none⟩ = some (.int .i64 r.air.hi) := q1.cell 5
 have a6 : V.cell? ⟨pq1, 6, none⟩ = some (.int .i64 r.rate.lo) := q1.cell 6
 have a7 : V.cell? ⟨pq1, 7, none⟩ = some (.int .i64 r.rate.hi) := q1.cell 7
 have a8 : V.cell? ⟨pq1, 8, none⟩ = some (.int .i64 r.deep) := q1.cell 8
 have a9 : V.cell? ⟨pq1, 9, none⟩ = some (.bool r.broken) := q1.cell 9
 have la := q1.lt
 go_wp2_with fail
 refine (sr_down _ _ (by omega)).mono ?_
 rintro e w' ⟨rfl, rfl⟩
 go_wp2
 go_ret
 exact ⟨rfl, hb1⟩

def lifeF (h : List Rg) (l : List Ic) : Int := if hisF h ≠ 0 then hisF h else icsF h.length l
theorem use_life {t : Tb} {h : List Rg} {l : List Ic} : useE t h l = if ckTube t ≠ 0 then ckTube t else lifeF h l := by
 by_cases hc : ckTube t = 0
 ·
  rw [if_neg (by simp [hc]), useE_2 hc, iced_eq', lived_eq]
  have e : ckGlass t.g = 0 := ck_glass hc
  rw [if_neg (by simp [e] : ¬ ckGlass t.g ≠ 0)]
  rfl
 ·
  rw [if_pos hc, useE_1 hc]
set_option maxRecDepth 100000 in
set_option maxHeartbeats 1600000 in
theorem sr_life (Ah Ai : Option Addr) (ch ci : Nat) (h : List Rg) (l : List Ic) (w : World) (hh : SlAt w w.heap.size 2 Ah h.length (fR h)) (hi : SlAt w w.heap.size 3 Ai l.length (fC l)) (hhl : h.length ≤ 1000000) :
  Calls Tryz.prog 72 #[.slice Ah h.length ch, .slice Ai l.length ci] w fun e w' => e = .returned (.int .i64 (lifeF h l)) ∧ Below w.heap.size w w' := by
 by_cases hc : hisF h = 0
 ·
  have HR : Hid (lifeF h l = icsF h.length l) := Lib.hid (if_neg (by simp [hc]))
  have HC := Lib.hid hc
  clear hc
  go_enter Tryz.func72, Tryz.ntmps72
  go_wp2_with fail
  refine (HistoryFault_any Ah ch h _ hh).mono ?_
  rintro e V1 ⟨rfl, hV1⟩
  replace hi := (hi.below hV1).up hV1.size
  have B_V1 := ex_trans (Below.refl w.heap.size w) hV1
  rw [HC.out]
  go_wp2_with fail
  refine (IcesFault_any Ah Ai ch ci h.length l _ hhl hi).mono ?_
  rintro e V2 ⟨rfl, hV2⟩
  replace hi := (hi.below hV2).up hV2.size
  have B_V2 := ex_trans B_V1 hV2
  go_wp2
  go_ret
  exact ⟨ret_int HR.out.symm, B_V2⟩
 ·
  have HR : Hid (lifeF h l = hisF h) := Lib.hid (if_pos hc)
  have e1 : (hisF h != 0) = true := by simp [hc]
  clear hc
  go_enter Tryz.func72, Tryz.ntmps72
  go_wp2_with fail
  refine (HistoryFault_any Ah ch h _ hh).mono ?_
  rintro e V3 ⟨rfl, hV3⟩
  replace hi := (hi.below hV3).up hV3.size
  have B_V3 := ex_trans (Below.refl w.heap.size w) hV3
  go_wp2
  go_ret
  exact ⟨ret_int HR.out.symm, B_V3⟩

set_option maxRecDepth 100000 in
set_option maxHeartbeats 1600000 in
theorem sr_faultL (t : Tb) (Ab Ad : Option Addr) (cb cd : Nat) (w : World) (hg : GlIn w w.heap.size t.g Ab Ad) :
  Calls Tryz.prog 51 #[.agg #[.int .i64 t.g.base, .slice Ab t.g.bands.length cb, .slice Ad t.g.depths.length cd, .int .i64 t.g.blo, .int .i64 t.g.bhi, .int .i64 t.k.lo, .int .i64 t.k.hi, .int .i64 t.lag.lo, .int .i64 t.lag.hi, .int .i64 t.sq.lo, .int .i64 t.sq.hi, .int .i64 t.term]] w fun e w' => e = .returned (.int .i64 (ckTube t)) ∧ Below w.heap.size w w' := by
 go_enter Tryz.func51, Tryz.ntmps51
 go_upto_region 1 with fail
 show Code.wp _ _ _ _ _
 refine box1 (K := fun V => Code.wp _ _ _ _ V) ?_
 intro V hb1 q1
 replace hg := hg.go hb1
 obtain ⟨pq1, hpq1⟩ : ∃ p, w.heap.size = p := ⟨_, rfl⟩
 rw [hpq1] at q1 ⊢
 have hp1 : w.heap.size ≤ pq1 := by omega
 clear hpq1
 go_wp2_with (refine pause_at 3 rfl ?_)
 refine Paused.mk ?_
 refine wpList_load_row rfl 29 _ rfl _ rfl 29 _ (0, 0) _ (q1) Tryz.underlying29 rfl (by kernel_rfl) ?_
 go_wp2_with fail
 refine (sr_fault t Ab Ad cb cd _ hg).mono ?_
 rintro e V1 ⟨rfl, hV1⟩
 replace q1 := q1.below hV1 q1.lt
 replace hg := hg.go hV1
 have B_V1 := ex_trans hb1 hV1
 go_wp2
 go_ret
 exact ⟨rfl, B_V1⟩

set_option maxRecDepth 100000 in
set_option maxHeartbeats 1600000 in
theorem sr_lived (t : Tb) (Ab Ad : Option Addr) (cb cd : Nat) (Ah Ai : Option Addr) (ch ci : Nat) (h : List Rg) (l : List Ic) (w : World) (hg : GlIn w w.heap.size t.g Ab Ad) (hh : SlAt w w.heap.size 2 Ah h.length (fR h)) (hi : SlAt w w.heap.size 3 Ai l.length (fC l)) (hhl : h.length ≤ 1000000) :
  Calls Tryz.prog 28 #[.agg #[.int .i64 t.g.base, .slice Ab t.g.bands.length cb, .slice Ad t.g.depths.length cd, .int .i64 t.g.blo, .int .i64 t.g.bhi, .int .i64 t.k.lo, .int .i64 t.k.hi, .int .i64 t.lag.lo, .int .i64 t.lag.hi, .int .i64 t.sq.lo, .int .i64 t.sq.hi, .int .i64 t.term], .slice Ah h.length ch, .slice Ai l.length ci] w fun e w' => e = .returned (.int .i64 (useE t h l)) ∧ Below w.heap.size w w' := by
 by_cases hc : ckTube t = 0
 ·
  have HR : Hid (useE t h l = lifeF h l) := Lib.hid (by rw [use_life, if_neg (by simp [hc])])
  have HC := Lib.hid hc
  clear hc
  go_enter Tryz.func28, Tryz.ntmps28
  go_upto_region 1 with fail
  show Code.wp _ _ _ _ _
  refine box1 (K := fun V => Code.wp _ _ _ _ V) ?_
  intro V hb1 q1
  replace hg := hg.go hb1
  replace hh := (hh.below hb1).up hb1.size
  replace hi := (hi.below hb1).up hb1.size
  obtain ⟨pq1, hpq1⟩ : ∃ p, w.heap.size = p := ⟨_, rfl⟩
  rw [hpq1] at q1 ⊢
  have hp1 : w.heap.size ≤ pq1 := by omega
  clear hpq1
  go_wp2_with (refine pause_at 8 rfl ?_)
  refine Paused.mk ?_
  refine wpList_load_row rfl 29 _ rfl _ rfl 29 _ (0, 0) _ (q1) Tryz.underlying29 rfl (by kernel_rfl) ?_
  go_wp2_with fail
  refine (sr_faultL t Ab Ad cb cd _ hg).mono ?_
  rintro e V1 ⟨rfl, hV1⟩
  replace q1 := q1.below hV1 q1.lt
  replace hg := hg.go hV1
  replace hh := (hh.below hV1).up hV1.size
  replace hi := (hi.below hV1).up hV1.size
  have B_V1 := ex_trans hb1 hV1
  rw [HC.out]
  go_wp2_with fail
  refine (sr_life Ah Ai ch ci h l _ hh hi hhl).mono ?_
  rintro e V2 ⟨rfl, hV2⟩
  replace q1 := q1.below hV2 q1.lt
  replace hg := hg.go hV2
  replace hh := (hh.below hV2).up hV2.size
  replace hi := (hi.below hV2).up hV2.size
  have B_V2 := ex_trans B_V1 hV2
  go_wp2
  go_ret
  exact ⟨ret_int HR.out.symm, B_V2⟩
 ·
  have HR : Hid (useE t h l = ckTube t) := Lib.hid (by rw [use_life, if_pos hc])
  have e1 : (ckTube t != 0) = true := by simp [hc]
  clear hc
  go_enter Tryz.func28, Tryz.ntmps28
  go_upto_region 1 with fail
  show Code.wp _ _ _ _ _
  refine box1 (K := fun V => Code.wp _ _ _ _ V) ?_
  intro V hb1 q1
  replace hg := hg.go hb1
  replace hh := (hh.below hb1).up hb1.size
  replace hi := (hi.below hb1).up hb1.size
  obtain ⟨pq1, hpq1⟩ : ∃ p, w.heap.size = p := ⟨_, rfl⟩
  rw [hpq1] at q1 ⊢
  have hp1 : w.heap.size ≤ pq1 := by omega
  clear hpq1
  go_wp2_with (refine pause_at 8 rfl ?_)
  refine Paused.mk ?_
  refine wpList_load_row rfl 29 _ rfl _ rfl 29 _ (0, 0) _ (q1) Tryz.underlying29 rfl (by kernel_rfl) ?_
  go_wp2_with fail
  refine (sr_faultL t Ab Ad cb cd _ hg).mono ?_
  rintro e V3 ⟨rfl, hV3⟩
  replace q1 := q1.below hV3 q1.lt
  replace hg := hg.go hV3
  replace hh := (hh.below hV3).up hV3.size
  replace hi := (hi.below hV3).up hV3.size
  have B_V3 := ex_trans hb1 hV3
  go_wp2
  go_ret
  exact ⟨ret_int HR.out.symm, B_V3⟩

set_option maxRecDepth 100000 in
set_option maxHeartbeats 1600000 in
theorem sr_thin (t : Tb) (Ab Ad : Option Addr) (cb cd : Nat) (Ah Ai : Option Addr) (nh ni ch ci : Nat) (w : World) :
  Calls Tryz.prog 15 #[.agg #[.int .i64 t.g.base, .slice Ab t.g.bands.length cb, .slice Ad t.g.depths.length cd, .int .i64 t.g.blo, .int .i64 t.g.bhi, .int .i64 t.k.lo, .int .i64 t.k.hi, .int .i64 t.lag.lo, .int .i64 t.lag.hi, .int .i64 t.sq.lo, .int .i64 t.sq.hi, .int .i64 t.term], .slice Ah nh ch, .slice Ai ni ci] w fun e w' => e = .returned (.bool (thinB t.g.bands.length t.g.depths.length nh ni)) ∧ Below w.heap.size w w' := by
 go_enter Tryz.func15, Tryz.ntmps15
 go_upto_region 1 with fail
 show Code.wp _ _ _ _ _
 refine box1 (K := fun V => Code.wp _ _ _ _ V) ?_
 intro V hb1 q1
 obtain ⟨pq1, hpq1⟩ : ∃ p, w.heap.size = p := ⟨_, rfl⟩
 rw [hpq1] at q1 ⊢
 have hp1 : w.heap.size ≤ pq1 := by omega
 clear hpq1
 have a0 : V.cell? ⟨pq1, 0, none⟩ = some (.int .i64 t.g.base) := q1.cell 0
 have a1 : V.cell? ⟨pq1, 1, none⟩ = some (.slice Ab t.g.bands.length cb) := q1.cell 1
 have a2 : V.cell? ⟨pq1, 2, none⟩ = some (.slice Ad t.g.depths.length cd) := q1.cell 2
 have a3 : V.cell? ⟨pq1, 3, none⟩ = some (.int .i64 t.g.blo) := q1.cell 3
 have a4 : V.cell? ⟨pq1, 4, none⟩ = some (.int .i64 t.g.bhi) := q1.cell 4
 have a5 : V.cell? ⟨pq1, 5, none⟩ = some (.int .i64 t.k.lo) := q1.cell 5
 have a6 : V.cell? ⟨pq1, 6, none⟩ = some (.int .i64 t.k.hi) := q1.cell 6
 have a7 : V.cell? ⟨pq1, 7, none⟩ = some (.int .i64 t.lag.lo) := q1.cell 7
 have a8 : V.cell? ⟨pq1, 8, none⟩ = some (.int .i64 t.lag.hi) := q1.cell 8
 have a9 : V.cell? ⟨pq1, 9, none⟩ = some (.int .i64 t.sq.lo) := q1.cell 9
 have a10 : V.cell? ⟨pq1, 10, none⟩ = some (.int .i64 t.sq.hi) := q1.cell 10
 have a11 : V.cell? ⟨pq1, 11, none⟩ = some (.int .i64 t.term) := q1.cell 11
 have la := q1.lt
 go_wp2_with fail
 refine (Thin_any t.g.base t.g.blo t.g.bhi Ab Ad Ah Ai t.g.bands.length t.g.depths.length nh ni cb cd ch ci _).mono ?_
 rintro e V1 ⟨rfl, hV1⟩
 replace q1 := q1.below hV1 q1.lt
 have B_V1 := ex_trans hb1 hV1
 clear a0 a1 a2 a3 a4 a5 a6 a7 a8 a9 a10 a11 la
 go_wp2
 go_ret
 exact ⟨rfl, B_V1⟩

set_option maxRecDepth 100000 in
set_option maxHeartbeats 3200000 in
theorem sr_Reading (r : Rd) (w : World) :
  Calls Tryz.prog 21 #[.agg #[.int .i64 r.day, .int .i64 r.shown, .int .i64 r.err, .int .i64 r.bare, .int .i64 r.air.lo, .int .i64 r.air.hi, .int .i64 r.rate.lo, .int .i64 r.rate.hi, .int .i64 r.deep, .bool r.broken]] w fun e w' => e = .returned (.agg #[.int .i64 r.day, .int .i64 r.shown, .int .i64 r.err, .int .i64 r.bare, .int .i64 r.air.lo, .int .i64 r.air.hi, .int .i64 r.rate.lo, .int .i64 r.rate.hi, .int .i64 r.deep, .bool r.broken]) ∧ Below w.heap.size w w' := by
 go_enter Tryz.func21, Tryz.ntmps21
 go_upto_region 1 with fail
 show Code.wp _ _ _ _ _
 refine box2 (K := fun V => Code.wp _ _ _ _ V) ?_
 intro V hb1 q1 q3
 obtain ⟨pq1, hpq1⟩ : ∃ p, w.heap.size = p := ⟨_, rfl⟩
 obtain ⟨pq3, hpq3⟩ : ∃ p, w.heap.size + 1 = p := ⟨_, rfl⟩
 rw [hpq3] at q3 ⊢
 rw [hpq1] at q1 ⊢
 have hp1 : w.heap.size ≤ pq1 := by omega
 have hp3 : w.heap.size ≤ pq3 := by omega
 clear hpq1 hpq3
 have a0 : V.cell? ⟨pq1, 0, none⟩ = some (.int .i64 r.day) := q1.cell 0
 have a1 : V.cell? ⟨pq1, 1, none⟩ = some (.int .i64 r.shown) := q1.cell 1
 have a2 : V.cell? ⟨pq1, 2, none⟩ = some (.int .i64 r.err) := q1.cell 2
 have a3 : V.cell? ⟨pq1, 3, none⟩ = some (.int .i64 r.bare) := q1.cell 3
 have a4 : V.cell? ⟨pq1, 4, none⟩ = some (.int .i64 r.air.lo) := q1.cell 4
 have a5 : V.cell? ⟨pq1, 5, none⟩ = some (.int .i64 r.air.hi) := q1.cell 5
 have a6 : V.cell? ⟨pq1, 6, none⟩ = some (.int .i64 r.rate.lo) := q1.cell 6
 have a7 : V.cell? ⟨pq1, 7, none⟩ = some (.int .i64 r.rate.hi) := q1.cell 7
 have a8 : V.cell? ⟨pq1, 8, none⟩ = some (.int .i64 r.deep) := q1.cell 8
 have a9 : V.cell? ⟨pq1, 9, none⟩ = some (.bool r.broken) := q1.cell 9
 have la := q1.lt
 go_wp2_with fail
 refine wp_region_ext_tq 19 (.quiet 0 (.quiet 1 (.quiet 2 (.quiet 3 (.quiet 4 (.quiet 5 (.quiet 6 (.quiet 7 (.quiet 8 (.quiet 9 (.quiet 11 (.quiet 12 (.quiet 14 (.quiet 15 (.quiet 16 (.quiet 17 (.loud 10 (.loud 13 (.quiet 18 .done))))))))))))))))))) (by kernel_rfl) (by kernel_rfl) (by intro d _ _ _ _ h; cases d <;> exact h) ?_
 have D0 := (Below.refl V.heap.size V).drew
 repeat (refine tq_quiet rfl ?_; go_big_quiet_step (fail); refine wpQuiet_nil ?_)
 refine tq_loud rfl ?_
 go_wp2_with fail
 refine (sr_to r.air _).mono ?_
 rintro e V1 ⟨rfl, hV1⟩
 have N10 := ex_trans ((Below.refl V.heap.size V)).drew hV1
 go_wp2_with fail
 refine ⟨inEx N10, ?_⟩
 repeat (refine tq_quiet rfl ?_; go_big_quiet_step (fail); refine wpQuiet_nil ?_)
 refine tq_loud rfl ?_
 go_wp2_with fail
 refine (sr_to r.rate _).mono ?_
 rintro e V2 ⟨rfl, hV2⟩
 have N13 := ex_trans N10 hV2
 go_wp2_with fail
 refine ⟨inEx N13, ?_⟩
 repeat (refine tq_quiet rfl ?_; go_big_quiet_step (fail); refine wpQuiet_nil ?_)
 refine tq_done (r := [_]) rfl ?_
 have XX := N13
 have XS := XX.size
 replace q1 := q1.below XX q1.lt
 replace q3 := q3.below XX q3.lt
 have B_V3 := ex_trans hb1 XX
 clear a0 a1 a2 a3 a4 a5 a6 a7 a8 a9 la
 clear D0 XX XS hV2 N13 hV1 N10 
 generalize V2 = V3 at *
 go_wp2_with (refine pause_store 52 rfl ?_)
 refine Paused.mk ?_
 refine wpList_store_row rfl 52 _ _ rfl _ #[.int .i64 r.day, .int .i64 r.shown, .int .i64 r.err, .int .i64 r.bare, .int .i64 r.air.lo, .int .i64 r.air.hi, .int .i64 r.rate.lo, .int .i64 r.rate.hi, .int .i64 r.deep, .bool r.broken] (by kernel_rfl) (by kernel_rfl) 52 _ q3 (by kernel_rfl) (by kernel_rfl) (by kernel_rfl) ?_
 have m3 := q3.setRow #[.int .i64 r.day, .int .i64 r.shown, .int .i64 r.err, .int .i64 r.bare, .int .i64 r.air.lo, .int .i64 r.air.hi, .int .i64 r.rate.lo, .int .i64 r.rate.hi, .int .i64 r.deep, .bool r.broken]
 have XZ := ex_row B_V3 hp3 #[.int .i64 r.day, .int .i64 r.shown, .int .i64 r.err, .int .i64 r.bare, .int .i64 r.air.lo, .int .i64 r.air.hi, .int .i64 r.rate.lo, .int .i64 r.rate.hi, .int .i64 r.deep, .bool r.broken]
 go_wp2
 refine bodyPost_ret (results_cell_row rfl _ _ _ 52 #[.int .i64 r.day, .int .i64 r.shown, .int .i64 r.err, .int .i64 r.bare, .int .i64 r.air.lo, .int .i64 r.air.hi, .int .i64 r.rate.lo, .int .i64 r.rate.hi, .int .i64 r.deep, .bool r.broken] (0, 0) _ rfl m3 rfl rfl rfl) rfl ?_
 exact ⟨rfl, XZ⟩


end Go.Proofs.YtkaogjhnogkcdaaGreat
end

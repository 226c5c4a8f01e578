/- Stem's reference and law: conversions, and what is valid (walks). -/
import Derived.Test.YtkaogjhnogkcdaaGreatJ14
import Derived.Test.YtkaogjhnogkcdaaGreatJ10
set_option linter.unusedVariables false
set_option linter.unusedSimpArgs false
set_option linter.unusedSectionVars false
section
namespace Go.Proofs.YtkaogjhnogkcdaaGreat
open Go.RowKit
attribute [local go_sem] Ex.cell? Ex.frozen?

set_option maxRecDepth 100000 in
set_option maxHeartbeats 1600000 in
theorem sr_between (x y : Int) (w : World) :
  Calls Tryz.prog 42 #[.int .i64 x, .int .i64 y] w fun e w' => e = .returned (.agg #[.int .i64 x, .int .i64 y]) ∧ Below w.heap.size w w' := by
 go_enter Tryz.func42, Tryz.ntmps42
 go_upto_region 1 with fail
 show Code.wp _ _ _ _ _
 refine box1 (K := fun V => Code.wp _ _ _ _ V) ?_
 intro V hb1 q1
 obtain ⟨pq1, hpq1⟩ : ∃ p, w.heap.size = p := ⟨_, rfl⟩
 rw [hpq1] at q1 ⊢
 have hp1 : w.heap.size ≤ pq1 := by omega
 clear hpq1
 have a0 : V.cell? ⟨pq1, 0, none⟩ = some (.int .i64 0) := q1.cell 0
 have a1 : V.cell? ⟨pq1, 1, none⟩ = some (.int .i64 0) := q1.cell 1
 have la := q1.lt
 have fr := q1.frozen0
 have m3 := (q1.set_ 0 (.int .i64 x)).set_ 1 (.int .i64 y)
 simp only [List.setIfInBounds_toArray, List.set_cons_zero, List.set_cons_succ] at m3
 go_wp2
 refine bodyPost_ret (results_cell_row rfl _ _ _ 41 #[.int .i64 x, .int .i64 y] (0, 0) _ rfl m3 rfl rfl rfl) rfl ?_
 exact ⟨rfl, ex_set (p := ⟨pq1, 1, none⟩) (ex_set (p := ⟨pq1, 0, none⟩) (hb1) hp1 _) hp1 _⟩

set_option maxRecDepth 100000 in
set_option maxHeartbeats 1600000 in
theorem sr_to (R : Rg) (w : World) :
  Calls Tryz.prog 31 #[.agg #[.int .i64 R.lo, .int .i64 R.hi]] w fun e w' => e = .returned (.agg #[.int .i64 R.lo, .int .i64 R.hi]) ∧ Below w.heap.size w w' := by
 go_enter Tryz.func31, Tryz.ntmps31
 go_upto_region 1 with fail
 show Code.wp _ _ _ _ _
 refine box2 (K := fun V => Code.wp _ _ _ _ V) ?_
 intro V hb1 q1 q3
 obtain ⟨pq1, hpq1⟩ : ∃ p, w.heap.size = p := ⟨_, rfl⟩
 obtain ⟨pq3, hpq3⟩ : ∃ p, w.heap.size + 1 = p := ⟨_, rfl⟩
 rw [hpq3] at q3 ⊢
 rw [hpq1] at q1 ⊢
 have hp1 : w.heap.size ≤ pq1 := by omega
 have hp3 : w.heap.size ≤ pq3 := by omega
 clear hpq1 hpq3
 have a0 : V.cell? ⟨pq1, 0, none⟩ = some (.int .i64 R.lo) := q1.cell 0
 have a1 : V.cell? ⟨pq1, 1, none⟩ = some (.int .i64 R.hi) := q1.cell 1
 have la := q1.lt
 have c0 : V.cell? ⟨pq3, 0, none⟩ = some (.int .i64 0) := q3.cell 0
 have c1 : V.cell? ⟨pq3, 1, none⟩ = some (.int .i64 0) := q3.cell 1
 have lc := q3.lt
 have fr := q3.frozen0
 have m3 := (q3.set_ 0 (.int .i64 R.lo)).set_ 1 (.int .i64 R.hi)
 simp only [List.setIfInBounds_toArray, List.set_cons_zero, List.set_cons_succ] at m3
 go_wp2
 refine bodyPost_ret (results_cell_row rfl _ _ _ 41 #[.int .i64 R.lo, .int .i64 R.hi] (0, 0) _ rfl m3 rfl rfl rfl) rfl ?_
 exact ⟨rfl, ex_set (p := ⟨pq3, 1, none⟩) (ex_set (p := ⟨pq3, 0, none⟩) (hb1) hp3 _) hp3 _⟩

set_option maxRecDepth 100000 in
set_option maxHeartbeats 1600000 in
theorem sr_span (R : Rg) (lo hi : Int) (w : World) :
  Calls Tryz.prog 79 #[.agg #[.int .i64 R.lo, .int .i64 R.hi], .int .i64 lo, .int .i64 hi] w fun e w' => e = .returned (.bool (spB R.lo R.hi lo hi)) ∧ Below w.heap.size w w' := by
 cases t1 : inB R.lo lo R.hi
 ·
  have HR : Hid (spB R.lo R.hi lo hi = false) := Lib.hid (by rw [← Bool.not_eq_true, spB_iff]; rintro ⟨h1, h2, _⟩; rw [inB_iff.2 ⟨h1, h2⟩] at t1; cases t1)
  have T1 := Lib.hid t1
  clear t1
  go_enter Tryz.func79, Tryz.ntmps79
  go_upto_region 1 with fail
  show Code.wp _ _ _ _ _
  refine box1 (K := fun V => Code.wp _ _ _ _ V) ?_
  intro V hb1 q1
  obtain ⟨pq1, hpq1⟩ : ∃ p, w.heap.size = p := ⟨_, rfl⟩
  rw [hpq1] at q1 ⊢
  have hp1 : w.heap.size ≤ pq1 := by omega
  clear hpq1
  have a0 : V.cell? ⟨pq1, 0, none⟩ = some (.int .i64 R.lo) := q1.cell 0
  have a1 : V.cell? ⟨pq1, 1, none⟩ = some (.int .i64 R.hi) := q1.cell 1
  have la := q1.lt
  go_wp2_with fail
  refine (In_any _ _ _ _).mono ?_
  rintro e w' ⟨rfl, rfl⟩
  rw [T1.out]
  go_wp2
  go_ret
  exact ⟨ret_bool HR.out.symm, hb1⟩
 ·
  have HR : Hid (spB R.lo R.hi lo hi = decide (R.hi ≤ hi)) := Lib.hid (by have h1 := inB_iff.1 t1; unfold spB; simp [h1.1, h1.2])
  have T1 := Lib.hid t1
  clear t1
  go_enter Tryz.func79, Tryz.ntmps79
  go_upto_region 1 with fail
  show Code.wp _ _ _ _ _
  refine box1 (K := fun V => Code.wp _ _ _ _ V) ?_
  intro V hb1 q1
  obtain ⟨pq1, hpq1⟩ : ∃ p, w.heap.size = p := ⟨_, rfl⟩
  rw [hpq1] at q1 ⊢
  have hp1 : w.heap.size ≤ pq1 := by omega
  clear hpq1
  have a0 : V.cell? ⟨pq1, 0, none⟩ = some (.int .i64 R.lo) := q1.cell 0
  have a1 : V.cell? ⟨pq1, 1, none⟩ = some (.int .i64 R.hi) := q1.cell 1
  have la := q1.lt
  go_wp2_with fail
  refine (In_any _ _ _ _).mono ?_
  rintro e w' ⟨rfl, rfl⟩
  rw [T1.out]
  go_wp2
  go_ret
  exact ⟨ret_bool HR.out.symm, hb1⟩

set_option maxRecDepth 100000 in
set_option maxHeartbeats 1600000 in
theorem sr_fault (t : Tb) (Ab Ad : Option Addr) (cb cd : Nat) (w : World) (hg : GlIn w w.heap.size t.g Ab Ad) :
  Calls Tryz.prog 92 #[.agg #[.int .i64 t.g.base, .slice Ab t.g.bands.length cb, .slice Ad t.g.depths.length cd, .int .i64 t.g.blo, .int .i64 t.g.bhi, .int .i64 t.k.lo, .int .i64 t.k.hi, .int .i64 t.lag.lo, .int .i64 t.lag.hi, .int .i64 t.sq.lo, .int .i64 t.sq.hi, .int .i64 t.term]] w fun e w' => e = .returned (.int .i64 (ckTube t)) ∧ Below w.heap.size w w' := by
 by_cases hc : ckGlass t.g = 0
 ·
  have HC := Lib.hid hc
  clear hc
  cases t1 : spB t.k.lo t.k.hi 0 20
  ·
   have HR : Hid (ckTube t = 1) := Lib.hid (ck_f HC.out (by unfold tbOk; rw [t1]; rfl))
   have T1 := Lib.hid t1
   clear t1
   go_enter Tryz.func92, Tryz.ntmps92
   go_upto_region 1 with fail
   show Code.wp _ _ _ _ _
   refine box1 (K := fun V => Code.wp _ _ _ _ V) ?_
   intro V hb1 q1
   replace hg := hg.go hb1
   obtain ⟨pq1, hpq1⟩ : ∃ p, w.heap.size = p := ⟨_, rfl⟩
   rw [hpq1] at q1 ⊢
   have hp1 : w.heap.size ≤ pq1 := by omega
   clear hpq1
   have a0 : V.cell? ⟨pq1, 0, none⟩ = some (.int .i64 t.g.base) := q1.cell 0
   have a1 : V.cell? ⟨pq1, 1, none⟩ = some (.slice Ab t.g.bands.length cb) := q1.cell 1
   have a2 : V.cell? ⟨pq1, 2, none⟩ = some (.slice Ad t.g.depths.length cd) := q1.cell 2
   have a3 : V.cell? ⟨pq1, 3, none⟩ = some (.int .i64 t.g.blo) := q1.cell 3
   have a4 : V.cell? ⟨pq1, 4, none⟩ = some (.int .i64 t.g.bhi) := q1.cell 4
   have a5 : V.cell? ⟨pq1, 5, none⟩ = some (.int .i64 t.k.lo) := q1.cell 5
   have a6 : V.cell? ⟨pq1, 6, none⟩ = some (.int .i64 t.k.hi) := q1.cell 6
   have a7 : V.cell? ⟨pq1, 7, none⟩ = some (.int .i64 t.lag.lo) := q1.cell 7
   have a8 : V.cell? ⟨pq1, 8, none⟩ = some (.int .i64 t.lag.hi) := q1.cell 8
   have a9 : V.cell? ⟨pq1, 9, none⟩ = some (.int .i64 t.sq.lo) := q1.cell 9
   have a10 : V.cell? ⟨pq1, 10, none⟩ = some (.int .i64 t.sq.hi) := q1.cell 10
   have a11 : V.cell? ⟨pq1, 11, none⟩ = some (.int .i64 t.term) := q1.cell 11
   have la := q1.lt
   go_wp2_with fail
   refine (Fault_any t.g _ _ _ _ _ hg).mono ?_
   rintro e V1 ⟨rfl, hV1⟩
   replace q1 := q1.below hV1 q1.lt
   replace hg := hg.go hV1
   have B_V1 := ex_trans hb1 hV1
   clear a0 a1 a2 a3 a4 a5 a6 a7 a8 a9 a10 a11 la
   have a5 : V1.cell? ⟨pq1, 5, none⟩ = some (.int .i64 t.k.lo) := q1.cell 5
   have a6 : V1.cell? ⟨pq1, 6, none⟩ = some (.int .i64 t.k.hi) := q1.cell 6
   have a7 : V1.cell? ⟨pq1, 7, none⟩ = some (.int .i64 t.lag.lo) := q1.cell 7
   have a8 : V1.cell? ⟨pq1, 8, none⟩ = some (.int .i64 t.lag.hi) := q1.cell 8
   have a9 : V1.cell? ⟨pq1, 9, none⟩ = some (.int .i64 t.sq.lo) := q1.cell 9
   have a10 : V1.cell? ⟨pq1, 10, none⟩ = some (.int .i64 t.sq.hi) := q1.cell 10
   have a11 : V1.cell? ⟨pq1, 11, none⟩ = some (.int .i64 t.term) := q1.cell 11
   have la := q1.lt
   rw [HC.out]
   go_wp2_with fail
   refine (sr_span t.k _ _ _).mono ?_
   rintro e V2 ⟨rfl, hV2⟩
   replace q1 := q1.below hV2 q1.lt
   replace hg := hg.go hV2
   have B_V2 := ex_trans B_V1 hV2
   clear a5 a6 a7 a8 a9 a10 a11 la
   have a5 : V2.cell? ⟨pq1, 5, none⟩ = some (.int .i64 t.k.lo) := q1.cell 5
   have a6 : V2.cell? ⟨pq1, 6, none⟩ = some (.int .i64 t.k.hi) := q1.cell 6
   have a7 : V2.cell? ⟨pq1, 7, none⟩ = some (.int .i64 t.lag.lo) := q1.cell 7
   have a8 : V2.cell? ⟨pq1, 8, none⟩ = some (.int .i64 t.lag.hi) := q1.cell 8
   have a9 : V2.cell? ⟨pq1, 9, none⟩ = some (.int .i64 t.sq.lo) := q1.cell 9
   have a10 : V2.cell? ⟨pq1, 10, none⟩ = some (.int .i64 t.sq.hi) := q1.cell 10
   have a11 : V2.cell? ⟨pq1, 11, none⟩ = some (.int .i64 t.term) := q1.cell 11
   have la := q1.lt
   rw [T1.out]
   go_wp2
   go_ret
   exact ⟨ret_int HR.out.symm, B_V2⟩
  ·
   cases t2 : spB t.lag.lo t.lag.hi 0 5
   ·
    have HR : Hid (ckTube t = 1) := Lib.hid (ck_f HC.out (by unfold tbOk; rw [t1, t2]; rfl))
    have T1 := Lib.hid t1
    have T2 := Lib.hid t2
    clear t1 t2
    go_enter Tryz.func92, Tryz.ntmps92
    go_upto_region 1 with fail
    show Code.wp _ _ _ _ _
    refine box1 (K := fun V => Code.wp _ _ _ _ V) ?_
    intro V hb1 q1
    replace hg := hg.go hb1
    obtain ⟨pq1, hpq1⟩ : ∃ p, w.heap.size = p := ⟨_, rfl⟩
    rw [hpq1] at q1 ⊢
    have hp1 : w.heap.size ≤ pq1 := by omega
    clear hpq1
    have a0 : V.cell? ⟨pq1, 0, none⟩ = some (.int .i64 t.g.base) := q1.cell 0
    have a1 : V.cell? ⟨pq1, 1, none⟩ = some (.slice Ab t.g.bands.length cb) := q1.cell 1
    have a2 : V.cell? ⟨pq1, 2, none⟩ = some (.slice Ad t.g.depths.length cd) := q1.cell 2
    have a3 : V.cell? ⟨pq1, 3, none⟩ = some (.int .i64 t.g.blo) := q1.cell 3
    have a4 : V.cell? ⟨pq1, 4, none⟩ = some (.int .i64 t.g.bhi) := q1.cell 4
    have a5 : V.cell? ⟨pq1, 5, none⟩ = some (.int .i64 t.k.lo) := q1.cell 5
    have a6 : V.cell? ⟨pq1, 6, none⟩ = some (.int .i64 t.k.hi) := q1.cell 6
    have a7 : V.cell? ⟨pq1, 7, none⟩ = some (.int .i64 t.lag.lo) := q1.cell 7
    have a8 : V.cell? ⟨pq1, 8, none⟩ = some (.int .i64 t.lag.hi) := q1.cell 8
    have a9 : V.cell? ⟨pq1, 9, none⟩ = some (.int .i64 t.sq.lo) := q1.cell 9
    have a10 : V.cell? ⟨pq1, 10, none⟩ = some (.int .i64 t.sq.hi) := q1.cell 10
    have a11 : V.cell? ⟨pq1, 11, none⟩ = some (.int .i64 t.term) := q1.cell 11
    have la := q1.lt
    go_wp2_with fail
    refine (Fault_any t.g _ _ _ _ _ hg).mono ?_
    rintro e V3 ⟨rfl, hV3⟩
    replace q1 := q1.below hV3 q1.lt
    replace hg := hg.go hV3
    have B_V3 := ex_trans hb1 hV3
    clear a0 a1 a2 a3 a4 a5 a6 a7 a8 a9 a10 a11 la
    have a5 : V3.cell? ⟨pq1, 5, none⟩ = some (.int .i64 t.k.lo) := q1.cell 5
    have a6 : V3.cell? ⟨pq1, 6, none⟩ = some (.int .i64 t.k.hi) := q1.cell 6
    have a7 : V3.cell? ⟨pq1, 7, none⟩ = some (.int .i64 t.lag.lo) := q1.cell 7
    have a8 : V3.cell? ⟨pq1, 8, none⟩ = some (.int .i64 t.lag.hi) := q1.cell 8
    have a9 : V3.cell? ⟨pq1, 9, none⟩ = some (.int .i64 t.sq.lo) := q1.cell 9
    have a10 : V3.cell? ⟨pq1, 10, none⟩ = some (.int .i64 t.sq.hi) := q1.cell 10
    have a11 : V3.cell? ⟨pq1, 11, none⟩ = some (.int .i64 t.term) := q1.cell 11
    have la := q1.lt
    rw [HC.out]
    go_wp2_with fail
    refine (sr_span t.k _ _ _).mono ?_
    rintro e V4 ⟨rfl, hV4⟩
    replace q1 := q1.below hV4 q1.lt
    replace hg := hg.go hV4
    have B_V4 := ex_trans B_V3 hV4
    clear a5 a6 a7 a8 a9 a10 a11 la
    have a5 : V4.cell? ⟨pq1, 5, none⟩ = some (.int .i64 t.k.lo) := q1.cell 5
    have a6 : V4.cell? ⟨pq1, 6, none⟩ = some (.int .i64 t.k.hi) := q1.cell 6
    have a7 : V4.cell? ⟨pq1, 7, none⟩ = some (.int .i64 t.lag.lo) := q1.cell 7
    have a8 : V4.cell? ⟨pq1, 8, none⟩ = some (.int .i64 t.lag.hi) := q1.cell 8
    have a9 : V4.cell? ⟨pq1, 9, none⟩ = some (.int .i64 t.sq.lo) := q1.cell 9
    have a10 : V4.cell? ⟨pq1, 10, none⟩ = some (.int .i64 t.sq.hi) := q1.cell 10
    have a11 : V4.cell? ⟨pq1, 11, none⟩ = some (.int .i64 t.term) := q1.cell 11
    have la := q1.lt
    rw [T1.out]
    go_wp2_with fail
    refine (sr_span t.lag _ _ _).mono ?_
    rintro e V5 ⟨rfl, hV5⟩
    replace q1 := q1.below hV5 q1.lt
    replace hg := hg.go hV5
    have B_V5 := ex_trans B_V4 hV5
    clear a5 a6 a7 a8 a9 a10 a11 la
    have a5 : V5.cell? ⟨pq1, 5, none⟩ = some (.int .i64 t.k.lo) := q1.cell 5
    have a6 : V5.cell? ⟨pq1, 6, none⟩ = some (.int .i64 t.k.hi) := q1.cell 6
    have a7 : V5.cell? ⟨pq1, 7, none⟩ = some (.int .i64 t.lag.lo) := q1.cell 7
    have a8 : V5.cell? ⟨pq1, 8, none⟩ = some (.int .i64 t.lag.hi) := q1.cell 8
    have a9 : V5.cell? ⟨pq1, 9, none⟩ = some (.int .i64 t.sq.lo) := q1.cell 9
    have a10 : V5.cell? ⟨pq1, 10, none⟩ = some (.int .i64 t.sq.hi) := q1.cell 10
    have a11 : V5.cell? ⟨pq1, 11, none⟩ = some (.int .i64 t.term) := q1.cell 11
    have la := q1.lt
    rw [T2.out]
    go_wp2
    go_ret
    exact ⟨ret_int HR.out.symm, B_V5⟩
   ·
    cases t3 : spB t.sq.lo t.sq.hi 0 3
    ·
     have HR : Hid (ckTube t = 1) := Lib.hid (ck_f HC.out (by unfold tbOk; rw [t1, t2, t3]; rfl))
     have T1 := Lib.hid t1
     have T2 := Lib.hid t2
     have T3 := Lib.hid t3
     clear t1 t2 t3
     go_enter Tryz.func92, Tryz.ntmps92
     go_upto_region 1 with fail
     show Code.wp _ _ _ _ _
     refine box1 (K := fun V => Code.wp _ _ _ _ V) ?_
     intro V hb1 q1
     replace hg := hg.go hb1
     obtain ⟨pq1, hpq1⟩ : ∃ p, w.heap.size = p := ⟨_, rfl⟩
     rw [hpq1] at q1 ⊢
     have hp1 : w.heap.size ≤ pq1 := by omega
     clear hpq1
     have a0 : V.cell? ⟨pq1, 0, none⟩ = some (.int .i64 t.g.base) := q1.cell 0
     have a1 : V.cell? ⟨pq1, 1, none⟩ = some (.slice Ab t.g.bands.length cb) := q1.cell 1
     have a2 : V.cell? ⟨pq1, 2, none⟩ = some (.slice Ad t.g.depths.length cd) := q1.cell 2
     have a3 : V.cell? ⟨pq1, 3, none⟩ = some (.int .i64 t.g.blo) := q1.cell 3
     have a4 : V.cell? ⟨pq1, 4, none⟩ = some (.int .i64 t.g.bhi) := q1.cell 4
     have a5 : V.cell? ⟨pq1, 5, none⟩ = some (.int .i64 t.k.lo) := q1.cell 5
     have a6 : V.cell? ⟨pq1, 6, none⟩ = some (.int .i64 t.k.hi) := q1.cell 6
     have a7 : V.cell? ⟨pq1, 7, none⟩ = some (.int .i64 t.lag.lo) := q1.cell 7
     have a8 : V.cell? ⟨pq1, 8, none⟩ = some (.int .i64 t.lag.hi) := q1.cell 8
     have a9 : V.cell? ⟨pq1, 9, none⟩ = some (.int .i64 t.sq.lo) := q1.cell 9
     have a10 : V.cell? ⟨pq1, 10, none⟩ = some (.int .i64 t.sq.hi) := q1.cell 10
     have a11 : V.cell? ⟨pq1, 11, none⟩ = some (.int .i64 t.term) := q1.cell 11
     have la := q1.lt
     go_wp2_with fail
     refine (Fault_any t.g _ _ _ _ _ hg).mono ?_
     rintro e V6 ⟨rfl, hV6⟩
     replace q1 := q1.below hV6 q1.lt
     replace hg := hg.go hV6
     have B_V6 := ex_trans hb1 hV6
     clear a0 a1 a2 a3 a4 a5 a6 a7 a8 a9 a10 a11 la
     have a5 : V6.cell? ⟨pq1, 5, none⟩ = some (.int .i64 t.k.lo) := q1.cell 5
     have a6 : V6.cell? ⟨pq1, 6, none⟩ = some (.int .i64 t.k.hi) := q1.cell 6
     have a7 : V6.cell? ⟨pq1, 7, none⟩ = some (.int .i64 t.lag.lo) := q1.cell 7
     have a8 : V6.cell? ⟨pq1, 8, none⟩ = some (.int .i64 t.lag.hi) := q1.cell 8
     have a9 : V6.cell? ⟨pq1, 9, none⟩ = some (.int .i64 t.sq.lo) := q1.cell 9
     have a10 : V6.cell? ⟨pq1, 10, none⟩ = some (.int .i64 t.sq.hi) := q1.cell 10
     have a11 : V6.cell? ⟨pq1, 11, none⟩ = some (.int .i64 t.term) := q1.cell 11
     have la := q1.lt
     rw [HC.out]
     go_wp2_with fail
     refine (sr_span t.k _ _ _).mono ?_
     rintro e V7 ⟨rfl, hV7⟩
     replace q1 := q1.below hV7 q1.lt
     replace hg := hg.go hV7
     have B_V7 := ex_trans B_V6 hV7
     clear a5 a6 a7 a8 a9 a10 a11 la
     have a5 : V7.cell? ⟨pq1, 5, none⟩ = some (.int .i64 t.k.lo) := q1.cell 5
     have a6 : V7.cell? ⟨pq1, 6, none⟩ = some (.int .i64 t.k.hi) := q1.cell 6
     have a7 : V7.cell? ⟨pq1, 7, none⟩ = some (.int .i64 t.lag.lo) := q1.cell 7
     have a8 : V7.cell? ⟨pq1, 8, none⟩ = some (.int .i64 t.lag.hi) := q1.cell 8
     have a9 : V7.cell? ⟨pq1, 9, none⟩ = some (.int .i64 t.sq.lo) := q1.cell 9
     have a10 : V7.cell? ⟨pq1, 10, none⟩ = some (.int .i64 t.sq.hi) := q1.cell 10
     have a11 : V7.cell? ⟨pq1, 11, none⟩ = some (.int .i64 t.term) := q1.cell 11
     have la := q1.lt
     rw [T1.out]
     go_wp2_with fail
     refine (sr_span t.lag _ _ _).mono ?_
     rintro e V8 ⟨rfl, hV8⟩
     replace q1 := q1.below hV8 q1.lt
     replace hg := hg.go hV8
     have B_V8 := ex_trans B_V7 hV8
     clear a5 a6 a7 a8 a9 a10 a11 la
     have a5 : V8.cell? ⟨pq1, 5, none⟩ = some (.int .i64 t.k.lo) := q1.cell 5
     have a6 : V8.cell? ⟨pq1, 6, none⟩ = some (.int .i64 t.k.hi) := q1.cell 6
     have a7 : V8.cell? ⟨pq1, 7, none⟩ = some (.int .i64 t.lag.lo) := q1.cell 7
     have a8 : V8.cell? ⟨pq1, 8, none⟩ = some (.int .i64 t.lag.hi) := q1.cell 8
     have a9 : V8.cell? ⟨pq1, 9, none⟩ = some (.int .i64 t.sq.lo) := q1.cell 9
     have a10 : V8.cell? ⟨pq1, 10, none⟩ = some (.int .i64 t.sq.hi) := q1.cell 10
     have a11 : V8.cell? ⟨pq1, 11, none⟩ = some (.int .i64 t.term) := q1.cell 11
     have la := q1.lt
     rw [T2.out]
     go_wp2_with fail
     refine (sr_span t.sq _ _ _).mono ?_
     rintro e V9 ⟨rfl, hV9⟩
     replace q1 := q1.below hV9 q1.lt
     replace hg := hg.go hV9
     have B_V9 := ex_trans B_V8 hV9
     clear a5 a6 a7 a8 a9 a10 a11 la
     have a5 : V9.cell? ⟨pq1, 5, none⟩ = some (.int .i64 t.k.lo) := q1.cell 5
     have a6 : V9.cell? ⟨pq1, 6, none⟩ = some (.int .i64 t.k.hi) := q1.cell 6
     have a7 : V9.cell? ⟨pq1, 7, none⟩ = some (.int .i64 t.lag.lo) := q1.cell 7
     have a8 : V9.cell? ⟨pq1, 8, none⟩ = some (.int .i64 t.lag.hi) := q1.cell 8
     have a9 : V9.cell? ⟨pq1, 9, none⟩ = some (.int .i64 t.sq.lo) := q1.cell 9
     have a10 : V9.cell? ⟨pq1, 10, none⟩ = some (.int .i64 t.sq.hi) := q1.cell 10
     have a11 : V9.cell? ⟨pq1, 11, none⟩ = some (.int .i64 t.term) := q1.cell 11
     have la := q1.lt
     rw [T3.out]
     go_wp2
     go_ret
     exact ⟨ret_int HR.out.symm, B_V9⟩
    ·
     cases t4 : inB t.term 0 16
     ·
      have HR : Hid (ckTube t = 1) := Lib.hid (ck_f HC.out (by unfold tbOk; rw [t1, t2, t3, t4]; rfl))
      have T1 := Lib.hid t1
      have T2 := Lib.hid t2
      have T3 := Lib.hid t3
      have T4 := Lib.hid t4
      clear t1 t2 t3 t4
      go_enter Tryz.func92, Tryz.ntmps92
      go_upto_region 1 with fail
      show Code.wp _ _ _ _ _
      refine box1 (K := fun V => Code.wp _ _ _ _ V) ?_
      intro V hb1 q1
      replace hg := hg.go hb1
      obtain ⟨pq1, hpq1⟩ : ∃ p, w.heap.size = p := ⟨_, rfl⟩
      rw [hpq1] at q1 ⊢
      have hp1 : w.heap.size ≤ pq1 := by omega
      clear hpq1
      have a0 : V.cell? ⟨pq1, 0, none⟩ = some (.int .i64 t.g.base) := q1.cell 0
      have a1 : V.cell? ⟨pq1, 1, none⟩ = some (.slice Ab t.g.bands.length cb) := q1.cell 1
      have a2 : V.cell? ⟨pq1, 2, none⟩ = some (.slice Ad t.g.depths.length cd) := q1.cell 2
      have a3 : V.cell? ⟨pq1, 3, none⟩ = some (.int .i64 t.g.blo) := q1.cell 3
      have a4 : V.cell? ⟨pq1, 4, none⟩ = some (.int .i64 t.g.bhi) := q1.cell 4
      have a5 : V.cell? ⟨pq1, 5, none⟩ = some (.int .i64 t.k.lo) := q1.cell 5
      have a6 : V.cell? ⟨pq1, 6, none⟩ = some (.int .i64 t.k.hi) := q1.cell 6
      have a7 : V.cell? ⟨pq1, 7, none⟩ = some (.int .i64 t.lag.lo) := q1.cell 7
      have a8 : V.cell? ⟨pq1, 8, none⟩ = some (.int .i64 t.lag.hi) := q1.cell 8
      have a9 : V.cell? ⟨pq1, 9, none⟩ = some (.int .i64 t.sq.lo) := q1.cell 9
      have a10 : V.cell? ⟨pq1, 10, none⟩ = some (.int .i64 t.sq.hi) := q1.cell 10
      have a11 : V.cell? ⟨pq1, 11, none⟩ = some (.int .i64 t.term) := q1.cell 11
      have la := q1.lt
      go_wp2_with fail
      refine (Fault_any t.g _ _ _ _ _ hg).mono ?_
      rintro e V10 ⟨rfl, hV10⟩
      replace q1 := q1.below hV10 q1.lt
      replace hg := hg.go hV10
      have B_V10 := ex_trans hb1 hV10
      clear a0 a1 a2 a3 a4 a5 a6 a7 a8 a9 a10 a11 la
      have a5 : V10.cell? ⟨pq1, 5, none⟩ = some (.int .i64 t.k.lo) := q1.cell 5
      have a6 : V10.cell? ⟨pq1, 6, none⟩ = some (.int .i64 t.k.hi) := q1.cell 6
      have a7 : V10.cell? ⟨pq1, 7, none⟩ = some (.int .i64 t.lag.lo) := q1.cell 7
      have a8 : V10.cell? ⟨pq1, 8, none⟩ = some (.int .i64 t.lag.hi) := q1.cell 8
      have a9 : V10.cell? ⟨pq1, 9, none⟩ = some (.int .i64 t.sq.lo) := q1.cell 9
      have a10 : V10.cell? ⟨pq1, 10, none⟩ = some (.int .i64 t.sq.hi) := q1.cell 10
      have a11 : V10.cell? ⟨pq1, 11, none⟩ = some (.int .i64 t.term) := q1.cell 11
      have la := q1.lt
      rw [HC.out]
      go_wp2_with fail
      refine (sr_span t.k _ _ _).mono ?_
      rintro e V11 ⟨rfl, hV11⟩
      replace q1 := q1.below hV11 q1.lt
      replace hg := hg.go hV11
      have B_V11 := ex_trans B_V10 hV11
      clear a5 a6 a7 a8 a9 a10 a11 la
      have a5 : V11.cell? ⟨pq1, 5, none⟩ = some (.int .i64 t.k.lo) := q1.cell 5
      have a6 : V11.cell? ⟨pq1, 6, none⟩ = some (.int .i64 t.k.hi) := q1.cell 6
      have a7 : V11.cell? ⟨pq1, 7, none⟩ = some (.int .i64 t.lag.lo) := q1.cell 7
      have a8 : V11.cell? ⟨pq1, 8, none⟩ = some (.int .i64 t.lag.hi) := q1.cell 8
      have a9 : V11.cell? ⟨pq1, 9, none⟩ = some (.int .i64 t.sq.lo) := q1.cell 9
      have a10 : V11.cell? ⟨pq1, 10, none⟩ = some (.int .i64 t.sq.hi) := q1.cell 10
      have a11 : V11.cell? ⟨pq1, 11, none⟩ = some (.int .i64 t.term) := q1.cell 11
      have la := q1.lt
      rw [T1.out]
      go_wp2_with fail
      refine (sr_span t.lag _ _ _).mono ?_
      rintro e V12 ⟨rfl, hV12⟩
      replace q1 := q1.below hV12 q1.lt
      replace hg := hg.go hV12
      have B_V12 := ex_trans B_V11 hV12
      clear a5 a6 a7 a8 a9 a10 a11 la
      have a5 : V12.cell? ⟨pq1, 5, none⟩ = some (.int .i64 t.k.lo) := q1.cell 5
      have a6 : V12.cell? ⟨pq1, 6, none⟩ = some (.int .i64 t.k.hi) := q1.cell 6
      have a7 : V12.cell? ⟨pq1, 7, none⟩ = some (.int .i64 t.lag.lo) := q1.cell 7
      have a8 : V12.cell? ⟨pq1, 8, none⟩ = some (.int .i64 t.lag.hi) := q1.cell 8
      have a9 : V12.cell? ⟨pq1, 9, none⟩ = some (.int .i64 t.sq.lo) := q1.cell 9
      have a10 : V12.cell? ⟨pq1, 10, none⟩ = some (.int .i64 t.sq.hi) := q1.cell 10
      have a11 : V12.cell? ⟨pq1, 11, none⟩ = some (.int .i64 t.term) := q1.cell 11
      have la := q1.lt
      rw [T2.out]
      go_wp2_with fail
      refine (sr_span t.sq _ _ _).mono ?_
      rintro e V13 ⟨rfl, hV13⟩
      replace q1 := q1.below hV13 q1.lt
      replace hg := hg.go hV13
      have B_V13 := ex_trans B_V12 hV13
      clear a5 a6 a7 a8 a9 a10 a11 la
      have a5 : V13.cell? ⟨pq1, 5, none⟩ = some (.int .i64 t.k.lo) := q1.cell 5
      have a6 : V13.cell? ⟨pq1, 6, none⟩ = some (.int .i64 t.k.hi) := q1.cell 6
      have a7 : V13.cell? ⟨pq1, 7, none⟩ = some (.int .i64 t.lag.lo) := q1.cell 7
      have a8 : V13.cell? ⟨pq1, 8, none⟩ = some (.int .i64 t.lag.hi) := q1.cell 8
      have a9 : V13.cell? ⟨pq1, 9, none⟩ = some (.int .i64 t.sq.lo) := q1.cell 9
      have a10 : V13.cell? ⟨pq1, 10, none⟩ = some (.int .i64 t.sq.hi) := q1.cell 10
      have a11 : V13.cell? ⟨pq1, 11, none⟩ = some (.int .i64 t.term) := q1.cell 11
      have la := q1.lt
      rw [T3.out]
      go_wp2_with fail
      refine (In_any _ _ _ _).mono ?_
      rintro e w' ⟨rfl, rfl⟩
      rw [T4.out]
      go_wp2
      go_ret
      exact ⟨ret_int HR.out.symm, B_V13⟩
     ·
      have HR : Hid (ckTube t = 0) := Lib.hid (ck_t HC.out (by unfold tbOk; rw [t1, t2, t3, t4]; rfl))
      have T1 := Lib.hid t1
      have T2 := Lib.hid t2
      have T3 := Lib.hid t3
      have T4 := Lib.hid t4
      clear t1 t2 t3 t4
      go_enter Tryz.func92, Tryz.ntmps92
      go_upto_region 1 with fail
      show Code.wp _ _ _ _ _
      refine box1 (K := fun V => Code.wp _ _ _ _ V) ?_
      intro V hb1 q1
      replace hg := hg.go hb1
      obtain ⟨pq1, hpq1⟩ : ∃ p, w.heap.size = p := ⟨_, rfl⟩
      rw [hpq1] at q1 ⊢
      have hp1 : w.heap.size ≤ pq1 := by omega
      clear hpq1
      have a0 : V.cell? ⟨pq1, 0, none⟩ = some (.int .i64 t.g.base) := q1.cell 0
      have a1 : V.cell? ⟨pq1, 1, none⟩ = some (.slice Ab t.g.bands.length cb) := q1.cell 1
      have a2 : V.cell? ⟨pq1, 2, none⟩ = some (.slice Ad t.g.depths.length cd) := q1.cell 2
      have a3 : V.cell? ⟨pq1, 3, none⟩ = some (.int .i64 t.g.blo) := q1.cell 3
      have a4 : V.cell? ⟨pq1, 4, none⟩ = some (.int .i64 t.g.bhi) := q1.cell 4
      have a5 : V.cell? ⟨pq1, 5, none⟩ = some (.int .i64 t.k.lo) := q1.cell 5
      have a6 : V.cell? ⟨pq1, 6, none⟩ = some (.int .i64 t.k.hi) := q1.cell 6
      have a7 : V.cell? ⟨pq1, 7, none⟩ = some (.int .i64 t.lag.lo) := q1.cell 7
      have a8 : V.cell? ⟨pq1, 8, none⟩ = some (.int .i64 t.lag.hi) := q1.cell 8
      have a9 : V.cell? ⟨pq1, 9, none⟩ = some (.int .i64 t.sq.lo) := q1.cell 9
      have a10 : V.cell? ⟨pq1, 10, none⟩ = some (.int .i64 t.sq.hi) := q1.cell 10
      have a11 : V.cell? ⟨pq1, 11, none⟩ = some (.int .i64 t.term) := q1.cell 11
      have la := q1.lt
      go_wp2_with fail
      refine (Fault_any t.g _ _ _ _ _ hg).mono ?_
      rintro e V14 ⟨rfl, hV14⟩
      replace q1 := q1.below hV14 q1.lt
      replace hg := hg.go hV14
      have B_V14 := ex_trans hb1 hV14
      clear a0 a1 a2 a3 a4 a5 a6 a7 a8 a9 a10 a11 la
      have a5 : V14.cell? ⟨pq1, 5, none⟩ = some (.int .i64 t.k.lo) := q1.cell 5
      have a6 : V14.cell? ⟨pq1, 6, none⟩ = some (.int .i64 t.k.hi) := q1.cell 6
      have a7 : V14.cell? ⟨pq1, 7, none⟩ = some (.int .i64 t.lag.lo) := q1.cell 7
      have a8 : V14.cell? ⟨pq1, 8, none⟩ = some (.int .i64 t.lag.hi) := q1.cell 8
      have a9 : V14.cell? ⟨pq1, 9, none⟩ = some (.int .i64 t.sq.lo) := q1.cell 9
      have a10 : V14.cell? ⟨pq1, 10, none⟩ = some (.int .i64 t.sq.hi) := q1.cell 10
      have a11 : V14.cell? ⟨pq1, 11, none⟩ = some (.int .i64 t.term) := q1.cell 11
      have la := q1.lt
      rw [HC.out]
      go_wp2_with fail
      refine (sr_span t.k _ _ _).mono ?_
      rintro e V15 ⟨rfl, hV15⟩
      replace q1 := q1.below hV15 q1.lt
      replace hg := hg.go hV15
      have B_V15 := ex_trans B_V14 hV15
      clear a5 a6 a7 a8 a9 a10 a11 la
      have a5 : V15.cell? ⟨pq1, 5, none⟩ = some (.int .i64 t.k.lo) := q1.cell 5
      have a6 : V15.cell? ⟨pq1, 6, none⟩ = some (.int .i64 t.k.hi) := q1.cell 6
      have a7 : V15.cell? ⟨pq1, 7, none⟩ = some (.int .i64 t.lag.lo) := q1.cell 7
      have a8 : V15.cell? ⟨pq1, 8, none⟩ = some (.int .i64 t.lag.hi) := q1.cell 8
      have a9 : V15.cell? ⟨pq1, 9, none⟩ = some (.int .i64 t.sq.lo) := q1.cell 9
      have a10 : V15.cell? ⟨pq1, 10, none⟩ = some (.int .i64 t.sq.hi) := q1.cell 10
      have a11 : V15.cell? ⟨pq1, 11, none⟩ = some (.int .i64 t.term) := q1.cell 11
      have la := q1.lt
      rw [T1.out]
      go_wp2_with fail
      refine (sr_span t.lag _ _ _).mono ?_
      rintro e V16 ⟨rfl, hV16⟩
      replace q1 := q1.below hV16 q1.lt
      replace hg := hg.go hV16
      have B_V16 := ex_trans B_V15 hV16
      clear a5 a6 a7 a8 a9 a10 a11 la
      have a5 : V16.cell? ⟨pq1, 5, none⟩ = some (.int .i64 t.k.lo) := q1.cell 5
      have a6 : V16.cell? ⟨pq1, 6, none⟩ = some (.int .i64 t.k.hi) := q1.cell 6
      have a7 : V16.cell? ⟨pq1, 7, none⟩ = some (.int .i64 t.lag.lo) := q1.cell 7
      have a8 : V16.cell? ⟨pq1, 8, none⟩ = some (.int .i64 t.lag.hi) := q1.cell 8
      have a9 : V16.cell? ⟨pq1, 9, none⟩ = some (.int .i64 t.sq.lo) := q1.cell 9
      have a10 : V16.cell? ⟨pq1, 10, none⟩ = some (.int .i64 t.sq.hi) := q1.cell 10
      have a11 : V16.cell? ⟨pq1, 11, none⟩ = some (.int .i64 t.term) := q1.cell 11
      have la := q1.lt
      rw [T2.out]
      go_wp2_with fail
      refine (sr_span t.sq _ _ _).mono ?_
      rintro e V17 ⟨rfl, hV17⟩
      replace q1 := q1.below hV17 q1.lt
      replace hg := hg.go hV17
      have B_V17 := ex_trans B_V16 hV17
      clear a5 a6 a7 a8 a9 a10 a11 la
      have a5 : V17.cell? ⟨pq1, 5, none⟩ = some (.int .i64 t.k.lo) := q1.cell 5
      have a6 : V17.cell? ⟨pq1, 6, none⟩ = some (.int .i64 t.k.hi) := q1.cell 6
      have a7 : V17.cell? ⟨pq1, 7, none⟩ = some (.int .i64 t.lag.lo) := q1.cell 7
      have a8 : V17.cell? ⟨pq1, 8, none⟩ = some (.int .i64 t.lag.hi) := q1.cell 8
      have a9 : V17.cell? ⟨pq1, 9, none⟩ = some (.int .i64 t.sq.lo) := q1.cell 9
      have a10 : V17.cell? ⟨pq1, 10, none⟩ = some (.int .i64 t.sq.hi) := q1.cell 10
      have a11 : V17.cell? ⟨pq1, 11, none⟩ = some (.int .i64 t.term) := q1.cell 11
      have la := q1.lt
      rw [T3.out]
      go_wp2_with fail
      refine (In_any _ _ _ _).mono ?_
      rintro e w' ⟨rfl, rfl⟩
      rw [T4.out]
      go_wp2
      go_ret
      exact ⟨ret_int HR.out.symm, B_V17⟩
 ·
  have HR : Hid (ckTube t = ckGlass t.g) := Lib.hid (ck_g hc)
  have e1 : (ckGlass t.g != 0) = true := by simp [hc]
  clear hc
  go_enter Tryz.func92, Tryz.ntmps92
  go_upto_region 1 with fail
  show Code.wp _ _ _ _ _
  refine box1 (K := fun V => Code.wp _ _ _ _ V) ?_
  intro V hb1 q1
  replace hg := hg.go hb1
  obtain ⟨pq1, hpq1⟩ : ∃ p, w.heap.size = p := ⟨_, rfl⟩
  rw [hpq1] at q1 ⊢
  have hp1 : w.heap.size ≤ pq1 := by omega
  clear hpq1
  have a0 : V.cell? ⟨pq1, 0, none⟩ = some (.int .i64 t.g.base) := q1.cell 0
  have a1 : V.cell? ⟨pq1, 1, none⟩ = some (.slice Ab t.g.bands.length cb) := q1.cell 1
  have a2 : V.cell? ⟨pq1, 2, none⟩ = some (.slice Ad t.g.depths.length cd) := q1.cell 2
  have a3 : V.cell? ⟨pq1, 3, none⟩ = some (.int .i64 t.g.blo) := q1.cell 3
  have a4 : V.cell? ⟨pq1, 4, none⟩ = some (.int .i64 t.g.bhi) := q1.cell 4
  have a5 : V.cell? ⟨pq1, 5, none⟩ = some (.int .i64 t.k.lo) := q1.cell 5
  have a6 : V.cell? ⟨pq1, 6, none⟩ = some (.int .i64 t.k.hi) := q1.cell 6
  have a7 : V.cell? ⟨pq1, 7, none⟩ = some (.int .i64 t.lag.lo) := q1.cell 7
  have a8 : V.cell? ⟨pq1, 8, none⟩ = some (.int .i64 t.lag.hi) := q1.cell 8
  have a9 : V.cell? ⟨pq1, 9, none⟩ = some (.int .i64 t.sq.lo) := q1.cell 9
  have a10 : V.cell? ⟨pq1, 10, none⟩ = some (.int .i64 t.sq.hi) := q1.cell 10
  have a11 : V.cell? ⟨pq1, 11, none⟩ = some (.int .i64 t.term) := q1.cell 11
  have la := q1.lt
  go_wp2_with fail
  refine (Fault_any t.g _ _ _ _ _ hg).mono ?_
  rintro e V18 ⟨rfl, hV18⟩
  replace q1 := q1.below hV18 q1.lt
  replace hg := hg.go hV18
  have B_V18 := ex_trans hb1 hV18
  clear a0 a1 a2 a3 a4 a5 a6 a7 a8 a9 a10 a11 la
  go_wp2
  go_ret
  exact ⟨ret_int HR.out.symm, B_V18⟩

set_option maxRecDepth 100000 in
set_option maxHeartbeats 1600000 in
theorem sr_isreading (d : Int) (r : Rd) (w : World) (hd : -1000000 ≤ d ∧ d ≤ 1000000) :
  Calls Tryz.prog 33 #[.agg #[.int .i64 r.day, .int .i64 r.shown, .int .i64 r.err, .int .i64 r.bare, .int .i64 r.air.lo, .int .i64 r.air.hi, .int .i64 r.rate.lo, .int .i64 r.rate.hi, .int .i64 r.deep, .bool r.broken], .int .i64 d] w fun e w' => e = .returned (.bool (rdOk d r)) ∧ Below w.heap.size w w' := by
 cases t1 : inB r.day 0 (d - 1)
 ·
  have HR : Hid (rdOk d r = false) := Lib.hid (by unfold rdOk; rw [t1]; rfl)
  have T1 := Lib.hid t1
  clear t1
  go_enter Tryz.func33, Tryz.ntmps33
  go_upto_region 1 with fail
  show Code.wp _ _ _ _ _
  refine box1 (K := fun V => Code.wp _ _ _ _ V) ?_
  intro V hb1 q1
  obtain ⟨pq1, hpq1⟩ : ∃ p, w.heap.size = p := ⟨_, rfl⟩
  rw [hpq1] at q1 ⊢
  have hp1 : w.heap.size ≤ pq1 := by omega
  clear hpq1
  have a0 : V.cell? ⟨pq1, 0, none⟩ = some (.int .i64 r.day) := q1.cell 0
  have a1 : V.cell? ⟨pq1, 1, none⟩ = some (.int .i64 r.shown) := q1.cell 1
  have a2 : V.cell? ⟨pq1, 2, none⟩ = some (.int .i64 r.err) := q1.cell 2
  have a3 : V.cell? ⟨pq1, 3, none⟩ = some (.int .i64 r.bare) := q1.cell 3
  have a4 : V.cell? ⟨pq1, 4, none⟩ = some (.int .i64 r.air.lo) := q1.cell 4
  have a5 : V.cell? ⟨pq1, 5, none⟩ = some (.int .i64 r.air.hi) := q1.cell 5
  have a6 : V.cell? ⟨pq1, 6, none⟩ = some (.int .i64 r.rate.lo) := q1.cell 6
  have a7 : V.cell? ⟨pq1, 7, none⟩ = some (.int .i64 r.rate.hi) := q1.cell 7
  have a8 : V.cell? ⟨pq1, 8, none⟩ = some (.int .i64 r.deep) := q1.cell 8
  have a9 : V.cell? ⟨pq1, 9, none⟩ = some (.bool r.broken) := q1.cell 9
  have la := q1.lt
  go_wp2_with fail
  refine (In_any _ _ _ _).mono ?_
  rintro e w' ⟨rfl, rfl⟩
  rw [T1.out]
  go_wp2
  go_ret
  exact ⟨ret_bool HR.out.symm, hb1⟩
 ·
  cases t2 : inB r.shown (-5000) 5000
  ·
   have HR : Hid (rdOk d r = false) := Lib.hid (by unfold rdOk; rw [t1, t2]; rfl)
   have T1 := Lib.hid t1
   have T2 := Lib.hid t2
   clear t1 t2
   go_enter Tryz.func33, Tryz.ntmps33
   go_upto_region 1 with fail
   show Code.wp _ _ _ _ _
   refine box1 (K := fun V => Code.wp _ _ _ _ V) ?_
   intro V hb1 q1
   obtain ⟨pq1, hpq1⟩ : ∃ p, w.heap.size = p := ⟨_, rfl⟩
   rw [hpq1] at q1 ⊢
   have hp1 : w.heap.size ≤ pq1 := by omega
   clear hpq1
   have a0 : V.cell? ⟨pq1, 0, none⟩ = some (.int .i64 r.day) := q1.cell 0
   have a1 : V.cell? ⟨pq1, 1, none⟩ = some (.int .i64 r.shown) := q1.cell 1
   have a2 : V.cell? ⟨pq1, 2, none⟩ = some (.int .i64 r.err) := q1.cell 2
   have a3 : V.cell? ⟨pq1, 3, none⟩ = some (.int .i64 r.bare) := q1.cell 3
   have a4 : V.cell? ⟨pq1, 4, none⟩ = some (.int .i64 r.air.lo) := q1.cell 4
   have a5 : V.cell? ⟨pq1, 5, none⟩ = some (.int .i64 r.air.hi) := q1.cell 5
   have a6 : V.cell? ⟨pq1, 6, none⟩ = some (.int .i64 r.rate.lo) := q1.cell 6
   have a7 : V.cell? ⟨pq1, 7, none⟩ = some (.int .i64 r.rate.hi) := q1.cell 7
   have a8 : V.cell? ⟨pq1, 8, none⟩ = some (.int .i64 r.deep) := q1.cell 8
   have a9 : V.cell? ⟨pq1, 9, none⟩ = some (.bool r.broken) := q1.cell 9
   have la := q1.lt
   go_wp2_with fail
   refine (In_any _ _ _ _).mono ?_
   rintro e w' ⟨rfl, rfl⟩
   rw [T1.out]
   go_wp2_with fail
   refine (In_any _ _ _ _).mono ?_
   rintro e w' ⟨rfl, rfl⟩
   rw [T2.out]
   go_wp2
   go_ret
   exact ⟨ret_bool HR.out.symm, hb1⟩
  ·
   cases t3 : inB r.err 0 20
   ·
    have HR : Hid (rdOk d r = false) := Lib.hid (by unfold rdOk; rw [t1, t2, t3]; rfl)
    have T1 := Lib.hid t1
    have T2 := Lib.hid t2
    have T3 := Lib.hid t3
    clear t1 t2 t3
    go_enter Tryz.func33, Tryz.ntmps33
    go_upto_region 1 with fail
    show Code.wp _ _ _ _ _
    refine box1 (K := fun V => Code.wp _ _ _ _ V) ?_
    intro V hb1 q1
    obtain ⟨pq1, hpq1⟩ : ∃ p, w.heap.size = p := ⟨_, rfl⟩
    rw [hpq1] at q1 ⊢
    have hp1 : w.heap.size ≤ pq1 := by omega
    clear hpq1
    have a0 : V.cell? ⟨pq1, 0, none⟩ = some (.int .i64 r.day) := q1.cell 0
    have a1 : V.cell? ⟨pq1, 1, none⟩ = some (.int .i64 r.shown) := q1.cell 1
    have a2 : V.cell? ⟨pq1, 2, none⟩ = some (.int .i64 r.err) := q1.cell 2
    have a3 : V.cell? ⟨pq1, 3, none⟩ = some (.int .i64 r.bare) := q1.cell 3
    have a4 : V.cell? ⟨pq1, 4, none⟩ = some (.int .i64 r.air.lo) := q1.cell 4
    have a5 : V.cell? ⟨pq1, 5, none⟩ = some (.int .i64 r.air.hi) := q1.cell 5
    have a6 : V.cell? ⟨pq1, 6, none⟩ = some (.int .i64 r.rate.lo) := q1.cell 6
    have a7 : V.cell? ⟨pq1, 7, none⟩ = some (.int .i64 r.rate.hi) := q1.cell 7
    have a8 : V.cell? ⟨pq1, 8, none⟩ = some (.int .i64 r.deep) := q1.cell 8
    have a9 : V.cell? ⟨pq1, 9, none⟩ = some (.bool r.broken) := q1.cell 9
    have la := q1.lt
    go_wp2_with fail
    refine (In_any _ _ _ _).mono ?_
    rintro e w' ⟨rfl, rfl⟩
    rw [T1.out]
    go_wp2_with fail
    refine (In_any _ _ _ _).mono ?_
    rintro e w' ⟨rfl, rfl⟩
    rw [T2.out]
    go_wp2_with fail
    refine (In_any _ _ _ _).mono ?_
    rintro e w' ⟨rfl, rfl⟩
    rw [T3.out]
    go_wp2
    go_ret
    exact ⟨ret_bool HR.out.symm, hb1⟩
   ·
    cases t4 : inB r.bare 0 300
    ·
     have HR : Hid (rdOk d r = false) := Lib.hid (by unfold rdOk; rw [t1, t2, t3, t4]; rfl)
     have T1 := Lib.hid t1
     have T2 := Lib.hid t2
     have T3 := Lib.hid t3
     have T4 := Lib.hid t4
     clear t1 t2 t3 t4
     go_enter Tryz.func33, Tryz.ntmps33
     go_upto_region 1 with fail
     show Code.wp _ _ _ _ _
     refine box1 (K := fun V => Code.wp _ _ _ _ V) ?_
     intro V hb1 q1
     obtain ⟨pq1, hpq1⟩ : ∃ p, w.heap.size = p := ⟨_, rfl⟩
     rw [hpq1] at q1 ⊢
     have hp1 : w.heap.size ≤ pq1 := by omega
     clear hpq1
     have a0 : V.cell? ⟨pq1, 0, none⟩ = some (.int .i64 r.day) := q1.cell 0
     have a1 : V.cell? ⟨pq1, 1, none⟩ = some (.int .i64 r.shown) := q1.cell 1
     have a2 : V.cell? ⟨pq1, 2, none⟩ = some (.int .i64 r.err) := q1.cell 2
     have a3 : V.cell? ⟨pq1, 3, none⟩ = some (.int .i64 r.bare) := q1.cell 3
     have a4 : V.cell? ⟨pq1, 4, none⟩ = some (.int .i64 r.air.lo) := q1.cell 4
     have a5 : V.cell? ⟨pq1, 5, none⟩ = some (.int .i64 r.air.hi) := q1.cell 5
     have a6 : V.cell? ⟨pq1, 6, none⟩ = some (.int .i64 r.rate.lo) := q1.cell 6
     have a7 : V.cell? ⟨pq1, 7, none⟩ = some (.int .i64 r.rate.hi) := q1.cell 7
     have a8 : V.cell? ⟨pq1, 8, none⟩ = some (.int .i64 r.deep) := q1.cell 8
     have a9 : V.cell? ⟨pq1, 9, none⟩ = some (.bool r.broken) := q1.cell 9
     have la := q1.lt
     go_wp2_with fail
     refine (In_any _ _ _ _).mono ?_
     rintro e w' ⟨rfl, rfl⟩
     rw [T1.out]
     go_wp2_with fail
     refine (In_any _ _ _ _).mono ?_
     rintro e w' ⟨rfl, rfl⟩
     rw [T2.out]
     go_wp2_with fail
     refine (In_any _ _ _ _).mono ?_
     rintro e w' ⟨rfl, rfl⟩
     rw [T3.out]
     go_wp2_with fail
     refine (In_any _ _ _ _).mono ?_
     rintro e w' ⟨rfl, rfl⟩
     rw [T4.out]
     go_wp2
     go_ret
     exact ⟨ret_bool HR.out.symm, hb1⟩
    ·
     cases t5 : spB r.air.lo r.air.hi (-100) 100
     ·
      have HR : Hid (rdOk d r = false) := Lib.hid (by unfold rdOk; rw [t1, t2, t3, t4, t5]; rfl)
      have T1 := Lib.hid t1
      have T2 := Lib.hid t2
      have T3 := Lib.hid t3
      have T4 := Lib.hid t4
      have T5 := Lib.hid t5
      clear t1 t2 t3 t4 t5
      go_enter Tryz.func33, Tryz.ntmps33
      go_upto_region 1 with fail
      show Code.wp _ _ _ _ _
      refine box1 (K := fun V => Code.wp _ _ _ _ V) ?_
      intro V hb1 q1
      obtain ⟨pq1, hpq1⟩ : ∃ p, w.heap.size = p := ⟨_, rfl⟩
      rw [hpq1] at q1 ⊢
      have hp1 : w.heap.size ≤ pq1 := by omega
      clear hpq1
      have a0 : V.cell? ⟨pq1, 0, none⟩ = some (.int .i64 r.day) := q1.cell 0
      have a1 : V.cell? ⟨pq1, 1, none⟩ = some (.int .i64 r.shown) := q1.cell 1
      have a2 : V.cell? ⟨pq1, 2, none⟩ = some (.int .i64 r.err) := q1.cell 2
      have a3 : V.cell? ⟨pq1, 3, none⟩ = some (.int .i64 r.bare) := q1.cell 3
      have a4 : V.cell? ⟨pq1, 4, none⟩ = some (.int .i64 r.air.lo) := q1.cell 4
      have a5 : V.cell? ⟨pq1, 5, none⟩ = some (.int .i64 r.air.hi) := q1.cell 5
      have a6 : V.cell? ⟨pq1, 6, none⟩ = some (.int .i64 r.rate.lo) := q1.cell 6
      have a7 : V.cell? ⟨pq1, 7, none⟩ = some (.int .i64 r.rate.hi) := q1.cell 7
      have a8 : V.cell? ⟨pq1, 8, none⟩ = some (.int .i64 r.deep) := q1.cell 8
      have a9 : V.cell? ⟨pq1, 9, none⟩ = some (.bool r.broken) := q1.cell 9
      have la := q1.lt
      go_wp2_with fail
      refine (In_any _ _ _ _).mono ?_
      rintro e w' ⟨rfl, rfl⟩
      rw [T1.out]
      go_wp2_with fail
      refine (In_any _ _ _ _).mono ?_
      rintro e w' ⟨rfl, rfl⟩
      rw [T2.out]
      go_wp2_with fail
      refine (In_any _ _ _ _).mono ?_
      rintro e w' ⟨rfl, rfl⟩
      rw [T3.out]
      go_wp2_with fail
      refine (In_any _ _ _ _).mono ?_
      rintro e w' ⟨rfl, rfl⟩
      rw [T4.out]
      go_wp2_with fail
      refine (sr_span r.air _ _ _).mono ?_
      rintro e V1 ⟨rfl, hV1⟩
      replace q1 := q1.below hV1 q1.lt
      have B_V1 := ex_trans hb1 hV1
      clear a0 a1 a2 a3 a4 a5 a6 a7 a8 a9 la
      have a0 : V1.cell? ⟨pq1, 0, none⟩ = some (.int .i64 r.day) := q1.cell 0
      have a1 : V1.cell? ⟨pq1, 1, none⟩ = some (.int .i64 r.shown) := q1.cell 1
      have a2 : V1.cell? ⟨pq1, 2, none⟩ = some (.int .i64 r.err) := q1.cell 2
      have a3 : V1.cell? ⟨pq1, 3, none⟩ = some (.int .i64 r.bare) := q1.cell 3
      have a4 : V1.cell? ⟨pq1, 4, none⟩ = some (.int .i64 r.air.lo) := q1.cell 4
      have a5 : V1.cell? ⟨pq1, 5, none⟩ = some (.int .i64 r.air.hi) := q1.cell 5
      have a6 : V1.cell? ⟨pq1, 6, none⟩ = some (.int .i64 r.rate.lo) := q1.cell 6
      have a7 : V1.cell? ⟨pq1, 7, none⟩ = some (.int .i64 r.rate.hi) := q1.cell 7
      have a8 : V1.cell? ⟨pq1, 8, none⟩ = some (.int .i64 r.deep) := q1.cell 8
      have a9 : V1.cell? ⟨pq1, 9, none⟩ = some (.bool r.broken) := q1.cell 9
      have la := q1.lt
      rw [T5.out]
      go_wp2
      go_ret
      exact ⟨ret_bool HR.out.symm, B_V1⟩
     ·
      cases t6 : spB r.rate.lo r.rate.hi (-20) 20
      ·
       have HR : Hid (rdOk d r = false) := Lib.hid (by unfold rdOk; rw [t1, t2, t3, t4, t5, t6]; rfl)
       have T1 := Lib.hid t1
       have T2 := Lib.hid t2
       have T3 := Lib.hid t3
       have T4 := Lib.hid t4
       have T5 := Lib.hid t5
       have T6 := Lib.hid t6
       clear t1 t2 t3 t4 t5 t6
       go_enter Tryz.func33, Tryz.ntmps33
       go_upto_region 1 with fail
       show Code.wp _ _ _ _ _
       refine box1 (K := fun V => Code.wp _ _ _ _ V) ?_
       intro V hb1 q1
       obtain ⟨pq1, hpq1⟩ : ∃ p, w.heap.size = p := ⟨_, rfl⟩
       rw [hpq1] at q1 ⊢
       have hp1 : w.heap.size ≤ pq1 := by omega
       clear hpq1
       have a0 : V.cell? ⟨pq1, 0, none⟩ = some (.int .i64 r.day) := q1.cell 0
       have a1 : V.cell? ⟨pq1, 1, none⟩ = some (.int .i64 r.shown) := q1.cell 1
       have a2 : V.cell? ⟨pq1, 2, none⟩ = some (.int .i64 r.err) := q1.cell 2
       have a3 : V.cell? ⟨pq1, 3, none⟩ = some (.int .i64 r.bare) := q1.cell 3
       have a4 : V.cell? ⟨pq1, 4, none⟩ = some (.int .i64 r.air.lo) := q1.cell 4
       have a5 : V.cell? ⟨pq1, 5, none⟩ = some (.int .i64 r.air.hi) := q1.cell 5
       have a6 : V.cell? ⟨pq1, 6, none⟩ = some (.int .i64 r.rate.lo) := q1.cell 6
       have a7 : V.cell? ⟨pq1, 7, none⟩ = some (.int .i64 r.rate.hi) := q1.cell 7
       have a8 : V.cell? ⟨pq1, 8, none⟩ = some (.int .i64 r.deep) := q1.cell 8
       have a9 : V.cell? ⟨pq1, 9, none⟩ = some (.bool r.broken) := q1.cell 9
       have la := q1.lt
       go_wp2_with fail
       refine (In_any _ _ _ _).mono ?_
       rintro e w' ⟨rfl, rfl⟩
       rw [T1.out]
       go_wp2_with fail
       refine (In_any _ _ _ _).mono ?_
       rintro e w' ⟨rfl, rfl⟩
       rw [T2.out]
       go_wp2_with fail
       refine (In_any _ _ _ _).mono ?_
       rintro e w' ⟨rfl, rfl⟩
       rw [T3.out]
       go_wp2_with fail
       refine (In_any _ _ _ _).mono ?_
       rintro e w' ⟨rfl, rfl⟩
       rw [T4.out]
       go_wp2_with fail
       refine (sr_span r.air _ _ _).mono ?_
       rintro e V2 ⟨rfl, hV2⟩
       replace q1 := q1.below hV2 q1.lt
       have B_V2 := ex_trans hb1 hV2
       clear a0 a1 a2 a3 a4 a5 a6 a7 a8 a9 la
       have a0 : V2.cell? ⟨pq1, 0, none⟩ = some (.int .i64 r.day) := q1.cell 0
       have a1 : V2.cell? ⟨pq1, 1, none⟩ = some (.int .i64 r.shown) := q1.cell 1
       have a2 : V2.cell? ⟨pq1, 2, none⟩ = some (.int .i64 r.err) := q1.cell 2
       have a3 : V2.cell? ⟨pq1, 3, none⟩ = some (.int .i64 r.bare) := q1.cell 3
       have a4 : V2.cell? ⟨pq1, 4, none⟩ = some (.int .i64 r.air.lo) := q1.cell 4
       have a5 : V2.cell? ⟨pq1, 5, none⟩ = some (.int .i64 r.air.hi) := q1.cell 5
       have a6 : V2.cell? ⟨pq1, 6, none⟩ = some (.int .i64 r.rate.lo) := q1.cell 6
       have a7 : V2.cell? ⟨pq1, 7, none⟩ = some (.int .i64 r.rate.hi) := q1.cell 7
       have a8 : V2.cell? ⟨pq1, 8, none⟩ = some (.int .i64 r.deep) := q1.cell 8
       have a9 : V2.cell? ⟨pq1, 9, none⟩ = some (.bool r.broken) := q1.cell 9
       have la := q1.lt
       rw [T5.out]
       go_wp2_with fail
       refine (sr_span r.rate _ _ _).mono ?_
       rintro e V3 ⟨rfl, hV3⟩
       replace q1 := q1.below hV3 q1.lt
       have B_V3 := ex_trans B_V2 hV3
       clear a0 a1 a2 a3 a4 a5 a6 a7 a8 a9 la
       have a0 : V3.cell? ⟨pq1, 0, none⟩ = some (.int .i64 r.day) := q1.cell 0
       have a1 : V3.cell? ⟨pq1, 1, none⟩ = some (.int .i64 r.shown) := q1.cell 1
       have a2 : V3.cell? ⟨pq1, 2, none⟩ = some (.int .i64 r.err) := q1.cell 2
       have a3 : V3.cell? ⟨pq1, 3, none⟩ = some (.int .i64 r.bare) := q1.cell 3
       have a4 : V3.cell? ⟨pq1, 4, none⟩ = some (.int .i64 r.air.lo) := q1.cell 4
       have a5 : V3.cell? ⟨pq1, 5, none⟩ = some (.int .i64 r.air.hi) := q1.cell 5
       have a6 : V3.cell? ⟨pq1, 6, none⟩ = some (.int .i64 r.rate.lo) := q1.cell 6
       have a7 : V3.cell? ⟨pq1, 7, none⟩ = some (.int .i64 r.rate.hi) := q1.cell 7
       have a8 : V3.cell? ⟨pq1, 8, none⟩ = some (.int .i64 r.deep) := q1.cell 8
       have a9 : V3.cell? ⟨pq1, 9, none⟩ = some (.bool r.broken) := q1.cell 9
       have la := q1.lt
       rw [T6.out]
       go_wp2
       go_ret
       exact ⟨ret_bool HR.out.symm, B_V3⟩
      ·
       cases t7 : inB r.deep 0 20
       ·
        have HR : Hid (rdOk d r = false) := Lib.hid (by unfold rdOk; rw [t1, t2, t3, t4, t5, t6, t7]; rfl)
        have T1 := Lib.hid t1
        have T2 := Lib.hid t2
        have T3 := Lib.hid t3
        have T4 := Lib.hid t4
        have T5 := Lib.hid t5
        have T6 := Lib.hid t6
        have T7 := Lib.hid t7
        clear t1 t2 t3 t4 t5 t6 t7
        go_enter Tryz.func33, Tryz.ntmps33
        go_upto_region 1 with fail
        show Code.wp _ _ _ _ _
        refine box1 (K := fun V => Code.wp _ _ _ _ V) ?_
        intro V hb1 q1
        obtain ⟨pq1, hpq1⟩ : ∃ p, w.heap.size = p := ⟨_, rfl⟩
        rw [hpq1] at q1 ⊢
        have hp1 : w.heap.size ≤ pq1 := by omega
        clear hpq1
        have a0 : V.cell? ⟨pq1, 0, none⟩ = some (.int .i64 r.day) := q1.cell 0
        have a1 : V.cell? ⟨pq1, 1, none⟩ = some (.int .i64 r.shown) := q1.cell 1
        have a2 : V.cell? ⟨pq1, 2, none⟩ = some (.int .i64 r.err) := q1.cell 2
        have a3 : V.cell? ⟨pq1, 3, none⟩ = some (.int .i64 r.bare) := q1.cell 3
        have a4 : V.cell? ⟨pq1, 4, none⟩ = some (.int .i64 r.air.lo) := q1.cell 4
        have a5 : V.cell? ⟨pq1, 5, none⟩ = some (.int .i64 r.air.hi) := q1.cell 5
        have a6 : V.cell? ⟨pq1, 6, none⟩ = some (.int .i64 r.rate.lo) := q1.cell 6
        have a7 : V.cell? ⟨pq1, 7, none⟩ = some (.int .i64 r.rate.hi) := q1.cell 7
        have a8 : V.cell? ⟨pq1, 8, none⟩ = some (.int .i64 r.deep) := q1.cell 8
        have a9 : V.cell? ⟨pq1, 9, none⟩ = some (.bool r.broken) := q1.cell 9
        have la := q1.lt
        go_wp2_with fail
        refine (In_any _ _ _ _).mono ?_
        rintro e w' ⟨rfl, rfl⟩
        rw [T1.out]
        go_wp2_with fail
        refine (In_any _ _ _ _).mono ?_
        rintro e w' ⟨rfl, rfl⟩
        rw [T2.out]
        go_wp2_with fail
        refine (In_any _ _ _ _).mono ?_
        rintro e w' ⟨rfl, rfl⟩
        rw [T3.out]
        go_wp2_with fail
        refine (In_any _ _ _ _).mono ?_
        rintro e w' ⟨rfl, rfl⟩
        rw [T4.out]
        go_wp2_with fail
        refine (sr_span r.air _ _ _).mono ?_
        rintro e V4 ⟨rfl, hV4⟩
        replace q1 := q1.below hV4 q1.lt
        have B_V4 := ex_trans hb1 hV4
        clear a0 a1 a2 a3 a4 a5 a6 a7 a8 a9 la
        have a0 : V4.cell? ⟨pq1, 0, none⟩ = some (.int .i64 r.day) := q1.cell 0
        have a1 : V4.cell? ⟨pq1, 1, none⟩ = some (.int .i64 r.shown) := q1.cell 1
        have a2 : V4.cell? ⟨pq1, 2, none⟩ = some (.int .i64 r.err) := q1.cell 2
        have a3 : V4.cell? ⟨pq1, 3, none⟩ = some (.int .i64 r.bare) := q1.cell 3
        have a4 : V4.cell? ⟨pq1, 4, none⟩ = some (.int .i64 r.air.lo) := q1.cell 4
        have a5 : V4.cell? ⟨pq1, 5, none⟩ = some (.int .i64 r.air.hi) := q1.cell 5
        have a6 : V4.cell? ⟨pq1, 6, none⟩ = some (.int .i64 r.rate.lo) := q1.cell 6
        have a7 : V4.cell? ⟨pq1, 7, none⟩ = some (.int .i64 r.rate.hi) := q1.cell 7
        have a8 : V4.cell? ⟨pq1, 8, none⟩ = some (.int .i64 r.deep) := q1.cell 8
        have a9 : V4.cell? ⟨pq1, 9, none⟩ = some (.bool r.broken) := q1.cell 9
        have la := q1.lt
        rw [T5.out]
        go_wp2_with fail
        refine (sr_span r.rate _ _ _).mono ?_
        rintro e V5 ⟨rfl, hV5⟩
        replace q1 := q1.below hV5 q1.lt
        have B_V5 := ex_trans B_V4 hV5
        clear a0 a1 a2 a3 a4 a5 a6 a7 a8 a9 la
        have a0 : V5.cell? ⟨pq1, 0, none⟩ = some (.int .i64 r.day) := q1.cell 0
        have a1 : V5.cell? ⟨pq1, 1, none⟩ = some (.int .i64 r.shown) := q1.cell 1
        have a2 : V5.cell? ⟨pq1, 2, none⟩ = some (.int .i64 r.err) := q1.cell 2
        have a3 : V5.cell? ⟨pq1, 3, none⟩ = some (.int .i64 r.bare) := q1.cell 3
        have a4 : V5.cell? ⟨pq1, 4, none⟩ = some (.int .i64 r.air.lo) := q1.cell 4
        have a5 : V5.cell? ⟨pq1, 5, none⟩ = some (.int .i64 r.air.hi) := q1.cell 5
        have a6 : V5.cell? ⟨pq1, 6, none⟩ = some (.int .i64 r.rate.lo) := q1.cell 6
        have a7 : V5.cell? ⟨pq1, 7, none⟩ = some (.int .i64 r.rate.hi) := q1.cell 7
        have a8 : V5.cell? ⟨pq1, 8, none⟩ = some (.int .i64 r.deep) := q1.cell 8
        have a9 : V5.cell? ⟨pq1, 9, none⟩ = some (.bool r.broken) := q1.cell 9
        have la := q1.lt
        rw [T6.out]
        go_wp2_with fail
        refine (In_any _ _ _ _).mono ?_
        rintro e w' ⟨rfl, rfl⟩
        rw [T7.out]
        go_wp2
        go_ret
        exact ⟨ret_bool HR.out.symm, B_V5⟩
       ·
        have HR : Hid (rdOk d r = true) := Lib.hid (by unfold rdOk; rw [t1, t2, t3, t4, t5, t6, t7]; rfl)
        have T1 := Lib.hid t1
        have T2 := Lib.hid t2
        have T3 := Lib.hid t3
        have T4 := Lib.hid t4
        have T5 := Lib.hid t5
        have T6 := Lib.hid t6
        have T7 := Lib.hid t7
        clear t1 t2 t3 t4 t5 t6 t7
        go_enter Tryz.func33, Tryz.ntmps33
        go_upto_region 1 with fail
        show Code.wp _ _ _ _ _
        refine box1 (K := fun V => Code.wp _ _ _ _ V) ?_
        intro V hb1 q1
        obtain ⟨pq1, hpq1⟩ : ∃ p, w.heap.size = p := ⟨_, rfl⟩
        rw [hpq1] at q1 ⊢
        have hp1 : w.heap.size ≤ pq1 := by omega
        clear hpq1
        have a0 : V.cell? ⟨pq1, 0, none⟩ = some (.int .i64 r.day) := q1.cell 0
        have a1 : V.cell? ⟨pq1, 1, none⟩ = some (.int .i64 r.shown) := q1.cell 1
        have a2 : V.cell? ⟨pq1, 2, none⟩ = some (.int .i64 r.err) := q1.cell 2
        have a3 : V.cell? ⟨pq1, 3, none⟩ = some (.int .i64 r.bare) := q1.cell 3
        have a4 : V.cell? ⟨pq1, 4, none⟩ = some (.int .i64 r.air.lo) := q1.cell 4
        have a5 : V.cell? ⟨pq1, 5, none⟩ = some (.int .i64 r.air.hi) := q1.cell 5
        have a6 : V.cell? ⟨pq1, 6, none⟩ = some (.int .i64 r.rate.lo) := q1.cell 6
        have a7 : V.cell? ⟨pq1, 7, none⟩ = some (.int .i64 r.rate.hi) := q1.cell 7
        have a8 : V.cell? ⟨pq1, 8, none⟩ = some (.int .i64 r.deep) := q1.cell 8
        have a9 : V.cell? ⟨pq1, 9, none⟩ = some (.bool r.broken) := q1.cell 9
        have la := q1.lt
        go_wp2_with fail
        refine (In_any _ _ _ _).mono ?_
        rintro e w' ⟨rfl, rfl⟩
        rw [T1.out]
        go_wp2_with fail
        refine (In_any _ _ _ _).mono ?_
        rintro e w' ⟨rfl, rfl⟩
        rw [T2.out]
        go_wp2_with fail
        refine (In_any _ _ _ _).mono ?_
        rintro e w' ⟨rfl, rfl⟩
        rw [T3.out]
        go_wp2_with fail
        refine (In_any _ _ _ _).mono ?_
        rintro e w' ⟨rfl, rfl⟩
        rw [T4.out]
        go_wp2_with fail
        refine (sr_span r.air _ _ _).mono ?_
        rintro e V6 ⟨rfl, hV6⟩
        replace q1 := q1.below hV6 q1.lt
        have B_V6 := ex_trans hb1 hV6
        clear a0 a1 a2 a3 a4 a5 a6 a7 a8 a9 la
        have a0 : V6.cell? ⟨pq1, 0, none⟩ = some (.int .i64 r.day) := q1.cell 0
        have a1 : V6.cell? ⟨pq1, 1, none⟩ = some (.int .i64 r.shown) := q1.cell 1
        have a2 : V6.cell? ⟨pq1, 2, none⟩ = some (.int .i64 r.err) := q1.cell 2
        have a3 : V6.cell? ⟨pq1, 3, none⟩ = some (.int .i64 r.bare) := q1.cell 3
        have a4 : V6.cell? ⟨pq1, 4, none⟩ = some (.int .i64 r.air.lo) := q1.cell 4
        have a5 : V6.cell? ⟨pq1, 5, none⟩ = some (.int .i64 r.air.hi) := q1.cell 5
        have a6 : V6.cell? ⟨pq1, 6, none⟩ = some (.int .i64 r.rate.lo) := q1.cell 6
        have a7 : V6.cell? ⟨pq1, 7, none⟩ = some (.int .i64 r.rate.hi) := q1.cell 7
        have a8 : V6.cell? ⟨pq1, 8, none⟩ = some (.int .i64 r.deep) := q1.cell 8
        have a9 : V6.cell? ⟨pq1, 9, none⟩ = some (.bool r.broken) := q1.cell 9
        have la := q1.lt
        rw [T5.out]
        go_wp2_with fail
        refine (sr_span r.rate _ _ _).mono ?_
        rintro e V7 ⟨rfl, hV7⟩
        replace q1 := q1.below hV7 q1.lt
        have B_V7 := ex_trans B_V6 hV7
        clear a0 a1 a2 a3 a4 a5 a6 a7 a8 a9 la
        have a0 : V7.cell? ⟨pq1, 0, none⟩ = some (.int .i64 r.day) := q1.cell 0
        have a1 : V7.cell? ⟨pq1, 1, none⟩ = some (.int .i64 r.shown) := q1.cell 1
        have a2 : V7.cell? ⟨pq1, 2, none⟩ = some (.int .i64 r.err) := q1.cell 2
        have a3 : V7.cell? ⟨pq1, 3, none⟩ = some (.int .i64 r.bare) := q1.cell 3
        have a4 : V7.cell? ⟨pq1, 4, none⟩ = some (.int .i64 r.air.lo) := q1.cell 4
        have a5 : V7.cell? ⟨pq1, 5, none⟩ = some (.int .i64 r.air.hi) := q1.cell 5
        have a6 : V7.cell? ⟨pq1, 6, none⟩ = some (.int .i64 r.rate.lo) := q1.cell 6
        have a7 : V7.cell? ⟨pq1, 7, none⟩ = some (.int .i64 r.rate.hi) := q1.cell 7
        have a8 : V7.cell? ⟨pq1, 8, none⟩ = some (.int .i64 r.deep) := q1.cell 8
        have a9 : V7.cell? ⟨pq1, 9, none⟩ = some (.bool r.broken) := q1.cell 9
        have la := q1.lt
        rw [T6.out]
        go_wp2_with fail
        refine (In_any _ _ _ _).mono ?_
        rintro e w' ⟨rfl, rfl⟩
        rw [T7.out]
        go_wp2
        go_ret
        exact ⟨ret_bool HR.out.symm, B_V7⟩

end Go.Proofs.YtkaogjhnogkcdaaGreat
end

/- Stem: within inside has least greatest CheckTube reading down stem late squeezed corrections without (walks). · Stem: down stem late squeezed corrections without least greatest (walks). -/
import Derived.Test.YtkaogjhnogkcdaaK1
set_option linter.unusedVariables false
set_option linter.unusedSimpArgs false
set_option linter.unusedSectionVars false
section
namespace Go.Proofs.Ytkaogjhnogkcdaa
open Go.RowKit
attribute [local go_sem] Ex.cell?

theorem sm_within (n lo hi : Int) (w : World) :
  Calls Try.prog 29 #[.int .i64 n, .int .i64 lo, .int .i64 hi] w fun e w' => e = .returned (.bool (inB n lo hi)) ∧ w = w' := by
 by_cases h1 : lo ≤ n
 ·
  by_cases h2 : n ≤ hi
  ·
   go_enter Try.func29, Try.ntmps29
   go_wp2
   go_ret
   simp [inB, h1, h2]
  ·
   have h2' : decide (n ≤ hi) = false := by simpa using h2
   go_enter Try.func29, Try.ntmps29
   go_wp2
   go_ret
   simp [inB, h1, h2]
 ·
  have h1' : decide (lo ≤ n) = false := by simpa using h1
  go_enter Try.func29, Try.ntmps29
  go_wp2
  go_ret
  exact ⟨by rw [inB, h1']; rfl, rfl⟩

theorem sm_inside (a b lo hi : Int) (w : World) :
  Calls Try.prog 32 #[.agg #[.int .i64 a, .int .i64 b], .int .i64 lo, .int .i64 hi] w fun e w' => e = .returned (.bool (spB a b lo hi)) ∧ Below w.heap.size w w' := by
 by_cases h1 : lo ≤ a
 ·
  by_cases h2 : a ≤ b
  ·
   by_cases h3 : b ≤ hi
   ·
    rw [show spB a b lo hi = true by simp [spB, h1, h2, h3]]
    go_enter Try.func32, Try.ntmps32
    go_wp2
    go_ret
    exact ⟨rfl, ex_alloc (Below.refl _ _) _⟩
   ·
    rw [show spB a b lo hi = false by simp [spB, h1, h2, h3]]
    have h3' : decide (b ≤ hi) = false := by simpa using h3
    go_enter Try.func32, Try.ntmps32
    go_wp2
    go_ret
    exact ⟨rfl, ex_alloc (Below.refl _ _) _⟩
  ·
   rw [show spB a b lo hi = false by simp [spB, h1, h2]]
   have h2' : decide (a ≤ b) = false := by simpa using h2
   go_enter Try.func32, Try.ntmps32
   go_wp2
   go_ret
   exact ⟨rfl, ex_alloc (Below.refl _ _) _⟩
 ·
  rw [show spB a b lo hi = false by simp [spB, h1]]
  have h1' : decide (lo ≤ a) = false := by simpa using h1
  go_enter Try.func32, Try.ntmps32
  go_wp2
  go_ret
  exact ⟨rfl, ex_alloc (Below.refl _ _) _⟩

theorem sm_has (a b n : Int) (w : World) :
  Calls Try.prog 28 #[.agg #[.int .i64 a, .int .i64 b], .int .i64 n] w fun e w' => e = .returned (.bool (inB n a b)) ∧ Below w.heap.size w w' := by
 go_enter Try.func28, Try.ntmps28
 go_wp2_with (go_at_call 29; refine (sm_within _ _ _ _).mono ?_; rintro e w' ⟨rfl, rfl⟩)
 go_ret
 exact ⟨rfl, ex_alloc (Below.refl _ _) _⟩

theorem ck_g {t : Tb} (h : ckGlass t.g ≠ 0) : ckTube t = ckGlass t.g := if_pos h
theorem ck_t {t : Tb} (h : ckGlass t.g = 0) (hb : tbOk t = true) : ckTube t = 0 := by unfold ckTube; rw [if_neg (by simp [h]), if_pos hb]
theorem ck_f {t : Tb} (h : ckGlass t.g = 0) (hb : tbOk t = false) : ckTube t = 1 := by unfold ckTube; rw [if_neg (by simp [h]), if_neg (by simp [hb])]

set_option maxRecDepth 100000 in
set_option maxHeartbeats 1600000 in
theorem CheckTube_any (t : Tb) (Ab Ad : Option Addr) (cb cd : Nat) (w : World) (hg : GlIn w w.heap.size t.g Ab Ad) :
  Calls Try.prog 14 #[.agg #[.int .i64 t.g.base, .slice Ab t.g.bands.length cb, .slice Ad t.g.depths.length cd, .int .i64 t.g.blo, .int .i64 t.g.bhi, .int .i64 t.k.lo, .int .i64 t.k.hi, .int .i64 t.lag.lo, .int .i64 t.lag.hi, .int .i64 t.sq.lo, .int .i64 t.sq.hi, .int .i64 t.term]] w fun e w' => e = .returned (.int .i64 (ckTube t)) ∧ Below w.heap.size w w' := by
 by_cases hc : ckGlass t.g = 0
 ·
  have HC := Lib.hid hc
  clear hc
  cases t1 : spB t.k.lo t.k.hi 0 20
  ·
   have HR : Hid (ckTube t = 1) := Lib.hid (ck_f HC.out (by unfold tbOk; rw [t1]; rfl))
   have T1 := Lib.hid t1
   clear t1
   go_enter Try.func14, Try.ntmps14
   go_upto_region 1 with fail
   show Code.wp _ _ _ _ _
   refine box1 (K := fun V => Code.wp _ _ _ _ V) ?_
   intro V hb1 q1
   replace hg := hg.go hb1
   obtain ⟨pq1, hpq1⟩ : ∃ p, w.heap.size = p := ⟨_, rfl⟩
   rw [hpq1] at q1 ⊢
   have hp1 : w.heap.size ≤ pq1 := by omega
   clear hpq1
   have a0 : V.cell? ⟨pq1, 0, none⟩ = some (.int .i64 t.g.base) := q1.cell 0
   have a1 : V.cell? ⟨pq1, 1, none⟩ = some (.slice Ab t.g.bands.length cb) := q1.cell 1
   have a2 : V.cell? ⟨pq1, 2, none⟩ = some (.slice Ad t.g.depths.length cd) := q1.cell 2
   have a3 : V.cell? ⟨pq1, 3, none⟩ = some (.int .i64 t.g.blo) := q1.cell 3
   have a4 : V.cell? ⟨pq1, 4, none⟩ = some (.int .i64 t.g.bhi) := q1.cell 4
   have a5 : V.cell? ⟨pq1, 5, none⟩ = some (.int .i64 t.k.lo) := q1.cell 5
   have a6 : V.cell? ⟨pq1, 6, none⟩ = some (.int .i64 t.k.hi) := q1.cell 6
   have a7 : V.cell? ⟨pq1, 7, none⟩ = some (.int .i64 t.lag.lo) := q1.cell 7
   have a8 : V.cell? ⟨pq1, 8, none⟩ = some (.int .i64 t.lag.hi) := q1.cell 8
   have a9 : V.cell? ⟨pq1, 9, none⟩ = some (.int .i64 t.sq.lo) := q1.cell 9
   have a10 : V.cell? ⟨pq1, 10, none⟩ = some (.int .i64 t.sq.hi) := q1.cell 10
   have a11 : V.cell? ⟨pq1, 11, none⟩ = some (.int .i64 t.term) := q1.cell 11
   have la := q1.lt
   go_wp2_with fail
   refine (check_any t.g _ _ _ _ _ hg).mono ?_
   rintro e V1 ⟨rfl, hV1⟩
   replace q1 := q1.below hV1 q1.lt
   replace hg := hg.go hV1
   have B_V1 := ex_trans hb1 hV1
   clear a0 a1 a2 a3 a4 a5 a6 a7 a8 a9 a10 a11 la
   have a5 : V1.cell? ⟨pq1, 5, none⟩ = some (.int .i64 t.k.lo) := q1.cell 5
   have a6 : V1.cell? ⟨pq1, 6, none⟩ = some (.int .i64 t.k.hi) := q1.cell 6
   have a7 : V1.cell? ⟨pq1, 7, none⟩ = some (.int .i64 t.lag.lo) := q1.cell 7
   have a8 : V1.cell? ⟨pq1, 8, none⟩ = some (.int .i64 t.lag.hi) := q1.cell 8
   have a9 : V1.cell? ⟨pq1, 9, none⟩ = some (.int .i64 t.sq.lo) := q1.cell 9
   have a10 : V1.cell? ⟨pq1, 10, none⟩ = some (.int .i64 t.sq.hi) := q1.cell 10
   have a11 : V1.cell? ⟨pq1, 11, none⟩ = some (.int .i64 t.term) := q1.cell 11
   have la := q1.lt
   rw [HC.out]
   go_wp2_with fail
   refine (sm_inside _ _ _ _ _).mono ?_
   rintro e V2 ⟨rfl, hV2⟩
   replace q1 := q1.below hV2 q1.lt
   replace hg := hg.go hV2
   have B_V2 := ex_trans B_V1 hV2
   clear a5 a6 a7 a8 a9 a10 a11 la
   have a5 : V2.cell? ⟨pq1, 5, none⟩ = some (.int .i64 t.k.lo) := q1.cell 5
   have a6 : V2.cell? ⟨pq1, 6, none⟩ = some (.int .i64 t.k.hi) := q1.cell 6
   have a7 : V2.cell? ⟨pq1, 7, none⟩ = some (.int .i64 t.lag.lo) := q1.cell 7
   have a8 : V2.cell? ⟨pq1, 8, none⟩ = some (.int .i64 t.lag.hi) := q1.cell 8
   have a9 : V2.cell? ⟨pq1, 9, none⟩ = some (.int .i64 t.sq.lo) := q1.cell 9
   have a10 : V2.cell? ⟨pq1, 10, none⟩ = some (.int .i64 t.sq.hi) := q1.cell 10
   have a11 : V2.cell? ⟨pq1, 11, none⟩ = some (.int .i64 t.term) := q1.cell 11
   have la := q1.lt
   rw [T1.out]
   go_wp2
   go_ret
   exact ⟨ret_int HR.out.symm, B_V2⟩
  ·
   cases t2 : spB t.lag.lo t.lag.hi 0 5
   ·
    have HR : Hid (ckTube t = 1) := Lib.hid (ck_f HC.out (by unfold tbOk; rw [t1, t2]; rfl))
    have T1 := Lib.hid t1
    have T2 := Lib.hid t2
    clear t1 t2
    go_enter Try.func14, Try.ntmps14
    go_upto_region 1 with fail
    show Code.wp _ _ _ _ _
    refine box1 (K := fun V => Code.wp _ _ _ _ V) ?_
    intro V hb1 q1
    replace hg := hg.go hb1
    obtain ⟨pq1, hpq1⟩ : ∃ p, w.heap.size = p := ⟨_, rfl⟩
    rw [hpq1] at q1 ⊢
    have hp1 : w.heap.size ≤ pq1 := by omega
    clear hpq1
    have a0 : V.cell? ⟨pq1, 0, none⟩ = some (.int .i64 t.g.base) := q1.cell 0
    have a1 : V.cell? ⟨pq1, 1, none⟩ = some (.slice Ab t.g.bands.length cb) := q1.cell 1
    have a2 : V.cell? ⟨pq1, 2, none⟩ = some (.slice Ad t.g.depths.length cd) := q1.cell 2
    have a3 : V.cell? ⟨pq1, 3, none⟩ = some (.int .i64 t.g.blo) := q1.cell 3
    have a4 : V.cell? ⟨pq1, 4, none⟩ = some (.int .i64 t.g.bhi) := q1.cell 4
    have a5 : V.cell? ⟨pq1, 5, none⟩ = some (.int .i64 t.k.lo) := q1.cell 5
    have a6 : V.cell? ⟨pq1, 6, none⟩ = some (.int .i64 t.k.hi) := q1.cell 6
    have a7 : V.cell? ⟨pq1, 7, none⟩ = some (.int .i64 t.lag.lo) := q1.cell 7
    have a8 : V.cell? ⟨pq1, 8, none⟩ = some (.int .i64 t.lag.hi) := q1.cell 8
    have a9 : V.cell? ⟨pq1, 9, none⟩ = some (.int .i64 t.sq.lo) := q1.cell 9
    have a10 : V.cell? ⟨pq1, 10, none⟩ = some (.int .i64 t.sq.hi) := q1.cell 10
    have a11 : V.cell? ⟨pq1, 11, none⟩ = some (.int .i64 t.term) := q1.cell 11
    have la := q1.lt
    go_wp2_with fail
    refine (check_any t.g _ _ _ _ _ hg).mono ?_
    rintro e V3 ⟨rfl, hV3⟩
    replace q1 := q1.below hV3 q1.lt
    replace hg := hg.go hV3
    have B_V3 := ex_trans hb1 hV3
    clear a0 a1 a2 a3 a4 a5 a6 a7 a8 a9 a10 a11 la
    have a5 : V3.cell? ⟨pq1, 5, none⟩ = some (.int .i64 t.k.lo) := q1.cell 5
    have a6 : V3.cell? ⟨pq1, 6, none⟩ = some (.int .i64 t.k.hi) := q1.cell 6
    have a7 : V3.cell? ⟨pq1, 7, none⟩ = some (.int .i64 t.lag.lo) := q1.cell 7
    have a8 : V3.cell? ⟨pq1, 8, none⟩ = some (.int .i64 t.lag.hi) := q1.cell 8
    have a9 : V3.cell? ⟨pq1, 9, none⟩ = some (.int .i64 t.sq.lo) := q1.cell 9
    have a10 : V3.cell? ⟨pq1, 10, none⟩ = some (.int .i64 t.sq.hi) := q1.cell 10
    have a11 : V3.cell? ⟨pq1, 11, none⟩ = some (.int .i64 t.term) := q1.cell 11
    have la := q1.lt
    rw [HC.out]
    go_wp2_with fail
    refine (sm_inside _ _ _ _ _).mono ?_
    rintro e V4 ⟨rfl, hV4⟩
    replace q1 := q1.below hV4 q1.lt
    replace hg := hg.go hV4
    have B_V4 := ex_trans B_V3 hV4
    clear a5 a6 a7 a8 a9 a10 a11 la
    have a5 : V4.cell? ⟨pq1, 5, none⟩ = some (.int .i64 t.k.lo) := q1.cell 5
    have a6 : V4.cell? ⟨pq1, 6, none⟩ = some (.int .i64 t.k.hi) := q1.cell 6
    have a7 : V4.cell? ⟨pq1, 7, none⟩ = some (.int .i64 t.lag.lo) := q1.cell 7
    have a8 : V4.cell? ⟨pq1, 8, none⟩ = some (.int .i64 t.lag.hi) := q1.cell 8
    have a9 : V4.cell? ⟨pq1, 9, none⟩ = some (.int .i64 t.sq.lo) := q1.cell 9
    have a10 : V4.cell? ⟨pq1, 10, none⟩ = some (.int .i64 t.sq.hi) := q1.cell 10
    have a11 : V4.cell? ⟨pq1, 11, none⟩ = some (.int .i64 t.term) := q1.cell 11
    have la := q1.lt
    rw [T1.out]
    go_wp2_with fail
    refine (sm_inside _ _ _ _ _).mono ?_
    rintro e V5 ⟨rfl, hV5⟩
    replace q1 := q1.below hV5 q1.lt
    replace hg := hg.go hV5
    have B_V5 := ex_trans B_V4 hV5
    clear a5 a6 a7 a8 a9 a10 a11 la
    have a5 : V5.cell? ⟨pq1, 5, none⟩ = some (.int .i64 t.k.lo) := q1.cell 5
    have a6 : V5.cell? ⟨pq1, 6, none⟩ = some (.int .i64 t.k.hi) := q1.cell 6
    have a7 : V5.cell? ⟨pq1, 7, none⟩ = some (.int .i64 t.lag.lo) := q1.cell 7
    have a8 : V5.cell? ⟨pq1, 8, none⟩ = some (.int .i64 t.lag.hi) := q1.cell 8
    have a9 : V5.cell? ⟨pq1, 9, none⟩ = some (.int .i64 t.sq.lo) := q1.cell 9
    have a10 : V5.cell? ⟨pq1, 10, none⟩ = some (.int .i64 t.sq.hi) := q1.cell 10
    have a11 : V5.cell? ⟨pq1, 11, none⟩ = some (.int .i64 t.term) := q1.cell 11
    have la := q1.lt
    rw [T2.out]
    go_wp2
    go_ret
    exact ⟨ret_int HR.out.symm, B_V5⟩
   ·
    cases t3 : spB t.sq.lo t.sq.hi 0 3
    ·
     have HR : Hid (ckTube t = 1) := Lib.hid (ck_f HC.out (by unfold tbOk; rw [t1, t2, t3]; rfl))
     have T1 := Lib.hid t1
     have T2 := Lib.hid t2
     have T3 := Lib.hid t3
     clear t1 t2 t3
     go_enter Try.func14, Try.ntmps14
     go_upto_region 1 with fail
     show Code.wp _ _ _ _ _
     refine box1 (K := fun V => Code.wp _ _ _ _ V) ?_
     intro V hb1 q1
     replace hg := hg.go hb1
     obtain ⟨pq1, hpq1⟩ : ∃ p, w.heap.size = p := ⟨_, rfl⟩
     rw [hpq1] at q1 ⊢
     have hp1 : w.heap.size ≤ pq1 := by omega
     clear hpq1
     have a0 : V.cell? ⟨pq1, 0, none⟩ = some (.int .i64 t.g.base) := q1.cell 0
     have a1 : V.cell? ⟨pq1, 1, none⟩ = some (.slice Ab t.g.bands.length cb) := q1.cell 1
     have a2 : V.cell? ⟨pq1, 2, none⟩ = some (.slice Ad t.g.depths.length cd) := q1.cell 2
     have a3 : V.cell? ⟨pq1, 3, none⟩ = some (.int .i64 t.g.blo) := q1.cell 3
     have a4 : V.cell? ⟨pq1, 4, none⟩ = some (.int .i64 t.g.bhi) := q1.cell 4
     have a5 : V.cell? ⟨pq1, 5, none⟩ = some (.int .i64 t.k.lo) := q1.cell 5
     have a6 : V.cell? ⟨pq1, 6, none⟩ = some (.int .i64 t.k.hi) := q1.cell 6
     have a7 : V.cell? ⟨pq1, 7, none⟩ = some (.int .i64 t.lag.lo) := q1.cell 7
     have a8 : V.cell? ⟨pq1, 8, none⟩ = some (.int .i64 t.lag.hi) := q1.cell 8
     have a9 : V.cell? ⟨pq1, 9, none⟩ = some (.int .i64 t.sq.lo) := q1.cell 9
     have a10 : V.cell? ⟨pq1, 10, none⟩ = some (.int .i64 t.sq.hi) := q1.cell 10
     have a11 : V.cell? ⟨pq1, 11, none⟩ = some (.int .i64 t.term) := q1.cell 11
     have la := q1.lt
     go_wp2_with fail
     refine (check_any t.g _ _ _ _ _ hg).mono ?_
     rintro e V6 ⟨rfl, hV6⟩
     replace q1 := q1.below hV6 q1.lt
     replace hg := hg.go hV6
     have B_V6 := ex_trans hb1 hV6
     clear a0 a1 a2 a3 a4 a5 a6 a7 a8 a9 a10 a11 la
     have a5 : V6.cell? ⟨pq1, 5, none⟩ = some (.int .i64 t.k.lo) := q1.cell 5
     have a6 : V6.cell? ⟨pq1, 6, none⟩ = some (.int .i64 t.k.hi) := q1.cell 6
     have a7 : V6.cell? ⟨pq1, 7, none⟩ = some (.int .i64 t.lag.lo) := q1.cell 7
     have a8 : V6.cell? ⟨pq1, 8, none⟩ = some (.int .i64 t.lag.hi) := q1.cell 8
     have a9 : V6.cell? ⟨pq1, 9, none⟩ = some (.int .i64 t.sq.lo) := q1.cell 9
     have a10 : V6.cell? ⟨pq1, 10, none⟩ = some (.int .i64 t.sq.hi) := q1.cell 10
     have a11 : V6.cell? ⟨pq1, 11, none⟩ = some (.int .i64 t.term) := q1.cell 11
     have la := q1.lt
     rw [HC.out]
     go_wp2_with fail
     refine (sm_inside _ _ _ _ _).mono ?_
     rintro e V7 ⟨rfl, hV7⟩
     replace q1 := q1.below hV7 q1.lt
     replace hg := hg.go hV7
     have B_V7 := ex_trans B_V6 hV7
     clear a5 a6 a7 a8 a9 a10 a11 la
     have a5 : V7.cell? ⟨pq1, 5, none⟩ = some (.int .i64 t.k.lo) := q1.cell 5
     have a6 : V7.cell? ⟨pq1, 6, none⟩ = some (.int .i64 t.k.hi) := q1.cell 6
     have a7 : V7.cell? ⟨pq1, 7, none⟩ = some (.int .i64 t.lag.lo) := q1.cell 7
     have a8 : V7.cell? ⟨pq1, 8, none⟩ = some (.int .i64 t.lag.hi) := q1.cell 8
     have a9 : V7.cell? ⟨pq1, 9, none⟩ = some (.int .i64 t.sq.lo) := q1.cell 9
     have a10 : V7.cell? ⟨pq1, 10, none⟩ = some (.int .i64 t.sq.hi) := q1.cell 10
     have a11 : V7.cell? ⟨pq1, 11, none⟩ = some (.int .i64 t.term) := q1.cell 11
     have la := q1.lt
     rw [T1.out]
     go_wp2_with fail
     refine (sm_inside _ _ _ _ _).mono ?_
     rintro e V8 ⟨rfl, hV8⟩
     replace q1 := q1.below hV8 q1.lt
     replace hg := hg.go hV8
     have B_V8 := ex_trans B_V7 hV8
     clear a5 a6 a7 a8 a9 a10 a11 la
     have a5 : V8.cell? ⟨pq1, 5, none⟩ = some (.int .i64 t.k.lo) := q1.cell 5
     have a6 : V8.cell? ⟨pq1, 6, none⟩ = some (.int .i64 t.k.hi) := q1.cell 6
     have a7 : V8.cell? ⟨pq1, 7, none⟩ = some (.int .i64 t.lag.lo) := q1.cell 7
     have a8 : V8.cell? ⟨pq1, 8, none⟩ = some (.int .i64 t.lag.hi) := q1.cell 8
     have a9 : V8.cell? ⟨pq1, 9, none⟩ = some (.int .i64 t.sq.lo) := q1.cell 9
     have a10 : V8.cell? ⟨pq1, 10, none⟩ = some (.int .i64 t.sq.hi) := q1.cell 10
     have a11 : V8.cell? ⟨pq1, 11, none⟩ = some (.int .i64 t.term) := q1.cell 11
     have la := q1.lt
     rw [T2.out]
     go_wp2_with fail
     refine (sm_inside _ _ _ _ _).mono ?_
     rintro e V9 ⟨rfl, hV9⟩
     replace q1 := q1.below hV9 q1.lt
     replace hg := hg.go hV9
     have B_V9 := ex_trans B_V8 hV9
     clear a5 a6 a7 a8 a9 a10 a11 la
     have a5 : V9.cell? ⟨pq1, 5, none⟩ = some (.int .i64 t.k.lo) := q1.cell 5
     have a6 : V9.cell? ⟨pq1, 6, none⟩ = some (.int .i64 t.k.hi) := q1.cell 6
     have a7 : V9.cell? ⟨pq1, 7, none⟩ = some (.int .i64 t.lag.lo) := q1.cell 7
     have a8 : V9.cell? ⟨pq1, 8, none⟩ = some (.int .i64 t.lag.hi) := q1.cell 8
     have a9 : V9.cell? ⟨pq1, 9, none⟩ = some (.int .i64 t.sq.lo) := q1.cell 9
     have a10 : V9.cell? ⟨pq1, 10, none⟩ = some (.int .i64 t.sq.hi) := q1.cell 10
     have a11 : V9.cell? ⟨pq1, 11, none⟩ = some (.int .i64 t.term) := q1.cell 11
     have la := q1.lt
     rw [T3.out]
     go_wp2
     go_ret
     exact ⟨ret_int HR.out.symm, B_V9⟩
    ·
     cases t4 : inB t.term 0 16
     ·
      have HR : Hid (ckTube t = 1) := Lib.hid (ck_f HC.out (by unfold tbOk; rw [t1, t2, t3, t4]; rfl))
      have T1 := Lib.hid t1
      have T2 := Lib.hid t2
      have T3 := Lib.hid t3
      have T4 := Lib.hid t4
      clear t1 t2 t3 t4
      go_enter Try.func14, Try.ntmps14
      go_upto_region 1 with fail
      show Code.wp _ _ _ _ _
      refine box1 (K := fun V => Code.wp _ _ _ _ V) ?_
      intro V hb1 q1
      replace hg := hg.go hb1
      obtain ⟨pq1, hpq1⟩ : ∃ p, w.heap.size = p := ⟨_, rfl⟩
      rw [hpq1] at q1 ⊢
      have hp1 : w.heap.size ≤ pq1 := by omega
      clear hpq1
      have a0 : V.cell? ⟨pq1, 0, none⟩ = some (.int .i64 t.g.base) := q1.cell 0
      have a1 : V.cell? ⟨pq1, 1, none⟩ = some (.slice Ab t.g.bands.length cb) := q1.cell 1
      have a2 : V.cell? ⟨pq1, 2, none⟩ = some (.slice Ad t.g.depths.length cd) := q1.cell 2
      have a3 : V.cell? ⟨pq1, 3, none⟩ = some (.int .i64 t.g.blo) := q1.cell 3
      have a4 : V.cell? ⟨pq1, 4, none⟩ = some (.int .i64 t.g.bhi) := q1.cell 4
      have a5 : V.cell? ⟨pq1, 5, none⟩ = some (.int .i64 t.k.lo) := q1.cell 5
      have a6 : V.cell? ⟨pq1, 6, none⟩ = some (.int .i64 t.k.hi) := q1.cell 6
      have a7 : V.cell? ⟨pq1, 7, none⟩ = some (.int .i64 t.lag.lo) := q1.cell 7
      have a8 : V.cell? ⟨pq1, 8, none⟩ = some (.int .i64 t.lag.hi) := q1.cell 8
      have a9 : V.cell? ⟨pq1, 9, none⟩ = some (.int .i64 t.sq.lo) := q1.cell 9
      have a10 : V.cell? ⟨pq1, 10, none⟩ = some (.int .i64 t.sq.hi) := q1.cell 10
      have a11 : V.cell? ⟨pq1, 11, none⟩ = some (.int .i64 t.term) := q1.cell 11
      have la := q1.lt
      go_wp2_with fail
      refine (check_any t.g _ _ _ _ _ hg).mono ?_
      rintro e V10 ⟨rfl, hV10⟩
      replace q1 := q1.below hV10 q1.lt
      replace hg := hg.go hV10
      have B_V10 := ex_trans hb1 hV10
      clear a0 a1 a2 a3 a4 a5 a6 a7 a8 a9 a10 a11 la
      have a5 : V10.cell? ⟨pq1, 5, none⟩ = some (.int .i64 t.k.lo) := q1.cell 5
      have a6 : V10.cell? ⟨pq1, 6, none⟩ = some (.int .i64 t.k.hi) := q1.cell 6
      have a7 : V10.cell? ⟨pq1, 7, none⟩ = some (.int .i64 t.lag.lo) := q1.cell 7
      have a8 : V10.cell? ⟨pq1, 8, none⟩ = some (.int .i64 t.lag.hi) := q1.cell 8
      have a9 : V10.cell? ⟨pq1, 9, none⟩ = some (.int .i64 t.sq.lo) := q1.cell 9
      have a10 : V10.cell? ⟨pq1, 10, none⟩ = some (.int .i64 t.sq.hi) := q1.cell 10
      have a11 : V10.cell? ⟨pq1, 11, none⟩ = some (.int .i64 t.term) := q1.cell 11
      have la := q1.lt
      rw [HC.out]
      go_wp2_with fail
      refine (sm_inside _ _ _ _ _).mono ?_
      rintro e V11 ⟨rfl, hV11⟩
      replace q1 := q1.below hV11 q1.lt
      replace hg := hg.go hV11
      have B_V11 := ex_trans B_V10 hV11
      clear a5 a6 a7 a8 a9 a10 a11 la
      have a5 : V11.cell? ⟨pq1, 5, none⟩ = some (.int .i64 t.k.lo) := q1.cell 5
      have a6 : V11.cell? ⟨pq1, 6, none⟩ = some (.int .i64 t.k.hi) := q1.cell 6
      have a7 : V11.cell? ⟨pq1, 7, none⟩ = some (.int .i64 t.lag.lo) := q1.cell 7
      have a8 : V11.cell? ⟨pq1, 8, none⟩ = some (.int .i64 t.lag.hi) := q1.cell 8
      have a9 : V11.cell? ⟨pq1, 9, none⟩ = some (.int .i64 t.sq.lo) := q1.cell 9
      have a10 : V11.cell? ⟨pq1, 10, none⟩ = some (.int .i64 t.sq.hi) := q1.cell 10
      have a11 : V11.cell? ⟨pq1, 11, none⟩ = some (.int .i64 t.term) := q1.cell 11
      have la := q1.lt
      rw [T1.out]
      go_wp2_with fail
      refine (sm_inside _ _ _ _ _).mono ?_
      rintro e V12 ⟨rfl, hV12⟩
      replace q1 := q1.below hV12 q1.lt
      replace hg := hg.go hV12
      have B_V12 := ex_trans B_V11 hV12
      clear a5 a6 a7 a8 a9 a10 a11 la
      have a5 : V12.cell? ⟨pq1, 5, none⟩ = some (.int .i64 t.k.lo) := q1.cell 5
      have a6 : V12.cell? ⟨pq1, 6, none⟩ = some (.int .i64 t.k.hi) := q1.cell 6
      have a7 : V12.cell? ⟨pq1, 7, none⟩ = some (.int .i64 t.lag.lo) := q1.cell 7
      have a8 : V12.cell? ⟨pq1, 8, none⟩ = some (.int .i64 t.lag.hi) := q1.cell 8
      have a9 : V12.cell? ⟨pq1, 9, none⟩ = some (.int .i64 t.sq.lo) := q1.cell 9
      have a10 : V12.cell? ⟨pq1, 10, none⟩ = some (.int .i64 t.sq.hi) := q1.cell 10
      have a11 : V12.cell? ⟨pq1, 11, none⟩ = some (.int .i64 t.term) := q1.cell 11
      have la := q1.lt
      rw [T2.out]
      go_wp2_with fail
      refine (sm_inside _ _ _ _ _).mono ?_
      rintro e V13 ⟨rfl, hV13⟩
      replace q1 := q1.below hV13 q1.lt
      replace hg := hg.go hV13
      have B_V13 := ex_trans B_V12 hV13
      clear a5 a6 a7 a8 a9 a10 a11 la
      have a5 : V13.cell? ⟨pq1, 5, none⟩ = some (.int .i64 t.k.lo) := q1.cell 5
      have a6 : V13.cell? ⟨pq1, 6, none⟩ = some (.int .i64 t.k.hi) := q1.cell 6
      have a7 : V13.cell? ⟨pq1, 7, none⟩ = some (.int .i64 t.lag.lo) := q1.cell 7
      have a8 : V13.cell? ⟨pq1, 8, none⟩ = some (.int .i64 t.lag.hi) := q1.cell 8
      have a9 : V13.cell? ⟨pq1, 9, none⟩ = some (.int .i64 t.sq.lo) := q1.cell 9
      have a10 : V13.cell? ⟨pq1, 10, none⟩ = some (.int .i64 t.sq.hi) := q1.cell 10
      have a11 : V13.cell? ⟨pq1, 11, none⟩ = some (.int .i64 t.term) := q1.cell 11
      have la := q1.lt
      rw [T3.out]
      go_wp2_with fail
      refine (sm_within _ _ _ _).mono ?_
      rintro e w' ⟨rfl, rfl⟩
      rw [T4.out]
      go_wp2
      go_ret
      exact ⟨ret_int HR.out.symm, B_V13⟩
     ·
      have HR : Hid (ckTube t = 0) := Lib.hid (ck_t HC.out (by unfold tbOk; rw [t1, t2, t3, t4]; rfl))
      have T1 := Lib.hid t1
      have T2 := Lib.hid t2
      have T3 := Lib.hid t3
      have T4 := Lib.hid t4
      clear t1 t2 t3 t4
      go_enter Try.func14, Try.ntmps14
      go_upto_region 1 with fail
      show Code.wp _ _ _ _ _
      refine box1 (K := fun V => Code.wp _ _ _ _ V) ?_
      intro V hb1 q1
      replace hg := hg.go hb1
      obtain ⟨pq1, hpq1⟩ : ∃ p, w.heap.size = p := ⟨_, rfl⟩
      rw [hpq1] at q1 ⊢
      have hp1 : w.heap.size ≤ pq1 := by omega
      clear hpq1
      have a0 : V.cell? ⟨pq1, 0, none⟩ = some (.int .i64 t.g.base) := q1.cell 0
      have a1 : V.cell? ⟨pq1, 1, none⟩ = some (.slice Ab t.g.bands.length cb) := q1.cell 1
      have a2 : V.cell? ⟨pq1, 2, none⟩ = some (.slice Ad t.g.depths.length cd) := q1.cell 2
      have a3 : V.cell? ⟨pq1, 3, none⟩ = some (.int .i64 t.g.blo) := q1.cell 3
      have a4 : V.cell? ⟨pq1, 4, none⟩ = some (.int .i64 t.g.bhi) := q1.cell 4
      have a5 : V.cell? ⟨pq1, 5, none⟩ = some (.int .i64 t.k.lo) := q1.cell 5
      have a6 : V.cell? ⟨pq1, 6, none⟩ = some (.int .i64 t.k.hi) := q1.cell 6
      have a7 : V.cell? ⟨pq1, 7, none⟩ = some (.int .i64 t.lag.lo) := q1.cell 7
      have a8 : V.cell? ⟨pq1, 8, none⟩ = some (.int .i64 t.lag.hi) := q1.cell 8
      have a9 : V.cell? ⟨pq1, 9, none⟩ = some (.int .i64 t.sq.lo) := q1.cell 9
      have a10 : V.cell? ⟨pq1, 10, none⟩ = some (.int .i64 t.sq.hi) := q1.cell 10
      have a11 : V.cell? ⟨pq1, 11, none⟩ = some (.int .i64 t.term) := q1.cell 11
      have la := q1.lt
      go_wp2_with fail
      refine (check_any t.g _ _ _ _ _ hg).mono ?_
      rintro e V14 ⟨rfl, hV14⟩
      replace q1 := q1.below hV14 q1.lt
      replace hg := hg.go hV14
      have B_V14 := ex_trans hb1 hV14
      clear a0 a1 a2 a3 a4 a5 a6 a7 a8 a9 a10 a11 la
      have a5 : V14.cell? ⟨pq1, 5, none⟩ = some (.int .i64 t.k.lo) := q1.cell 5
      have a6 : V14.cell? ⟨pq1, 6, none⟩ = some (.int .i64 t.k.hi) := q1.cell 6
      have a7 : V14.cell? ⟨pq1, 7, none⟩ = some (.int .i64 t.lag.lo) := q1.cell 7
      have a8 : V14.cell? ⟨pq1, 8, none⟩ = some (.int .i64 t.lag.hi) := q1.cell 8
      have a9 : V14.cell? ⟨pq1, 9, none⟩ = some (.int .i64 t.sq.lo) := q1.cell 9
      have a10 : V14.cell? ⟨pq1, 10, none⟩ = some (.int .i64 t.sq.hi) := q1.cell 10
      have a11 : V14.cell? ⟨pq1, 11, none⟩ = some (.int .i64 t.term) := q1.cell 11
      have la := q1.lt
      rw [HC.out]
      go_wp2_with fail
      refine (sm_inside _ _ _ _ _).mono ?_
      rintro e V15 ⟨rfl, hV15⟩
      replace q1 := q1.below hV15 q1.lt
      replace hg := hg.go hV15
      have B_V15 := ex_trans B_V14 hV15
      clear a5 a6 a7 a8 a9 a10 a11 la
      have a5 : V15.cell? ⟨pq1, 5, none⟩ = some (.int .i64 t.k.lo) := q1.cell 5
      have a6 : V15.cell? ⟨pq1, 6, none⟩ = some (.int .i64 t.k.hi) := q1.cell 6
      have a7 : V15.cell? ⟨pq1, 7, none⟩ = some (.int .i64 t.lag.lo) := q1.cell 7
      have a8 : V15.cell? ⟨pq1, 8, none⟩ = some (.int .i64 t.lag.hi) := q1.cell 8
      have a9 : V15.cell? ⟨pq1, 9, none⟩ = some (.int .i64 t.sq.lo) := q1.cell 9
      have a10 : V15.cell? ⟨pq1, 10, none⟩ = some (.int .i64 t.sq.hi) := q1.cell 10
      have a11 : V15.cell? ⟨pq1, 11, none⟩ = some (.int .i64 t.term) := q1.cell 11
      have la := q1.lt
      rw [T1.out]
      go_wp2_with fail
      refine (sm_inside _ _ _ _ _).mono ?_
      rintro e V16 ⟨rfl, hV16⟩
      replace q1 := q1.below hV16 q1.lt
      replace hg := hg.go hV16
      have B_V16 := ex_trans B_V15 hV16
      clear a5 a6 a7 a8 a9 a10 a11 la
      have a5 : V16.cell? ⟨pq1, 5, none⟩ = some (.int .i64 t.k.lo) := q1.cell 5
      have a6 : V16.cell? ⟨pq1, 6, none⟩ = some (.int .i64 t.k.hi) := q1.cell 6
      have a7 : V16.cell? ⟨pq1, 7, none⟩ = some (.int .i64 t.lag.lo) := q1.cell 7
      have a8 : V16.cell? ⟨pq1, 8, none⟩ = some (.int .i64 t.lag.hi) := q1.cell 8
      have a9 : V16.cell? ⟨pq1, 9, none⟩ = some (.int .i64 t.sq.lo) := q1.cell 9
      have a10 : V16.cell? ⟨pq1, 10, none⟩ = some (.int .i64 t.sq.hi) := q1.cell 10
      have a11 : V16.cell? ⟨pq1, 11, none⟩ = some (.int .i64 t.term) := q1.cell 11
      have la := q1.lt
      rw [T2.out]
      go_wp2_with fail
      refine (sm_inside _ _ _ _ _).mono ?_
      rintro e V17 ⟨rfl, hV17⟩
      replace q1 := q1.below hV17 q1.lt
      replace hg := hg.go hV17
      have B_V17 := ex_trans B_V16 hV17
      clear a5 a6 a7 a8 a9 a10 a11 la
      have a5 : V17.cell? ⟨pq1, 5, none⟩ = some (.int .i64 t.k.lo) := q1.cell 5
      have a6 : V17.cell? ⟨pq1, 6, none⟩ = some (.int .i64 t.k.hi) := q1.cell 6
      have a7 : V17.cell? ⟨pq1, 7, none⟩ = some (.int .i64 t.lag.lo) := q1.cell 7
      have a8 : V17.cell? ⟨pq1, 8, none⟩ = some (.int .i64 t.lag.hi) := q1.cell 8
      have a9 : V17.cell? ⟨pq1, 9, none⟩ = some (.int .i64 t.sq.lo) := q1.cell 9
      have a10 : V17.cell? ⟨pq1, 10, none⟩ = some (.int .i64 t.sq.hi) := q1.cell 10
      have a11 : V17.cell? ⟨pq1, 11, none⟩ = some (.int .i64 t.term) := q1.cell 11
      have la := q1.lt
      rw [T3.out]
      go_wp2_with fail
      refine (sm_within _ _ _ _).mono ?_
      rintro e w' ⟨rfl, rfl⟩
      rw [T4.out]
      go_wp2
      go_ret
      exact ⟨ret_int HR.out.symm, B_V17⟩
 ·
  have HR : Hid (ckTube t = ckGlass t.g) := Lib.hid (ck_g hc)
  have e1 : (ckGlass t.g != 0) = true := by simp [hc]
  clear hc
  go_enter Try.func14, Try.ntmps14
  go_upto_region 1 with fail
  show Code.wp _ _ _ _ _
  refine box1 (K := fun V => Code.wp _ _ _ _ V) ?_
  intro V hb1 q1
  replace hg := hg.go hb1
  obtain ⟨pq1, hpq1⟩ : ∃ p, w.heap.size = p := ⟨_, rfl⟩
  rw [hpq1] at q1 ⊢
  have hp1 : w.heap.size ≤ pq1 := by omega
  clear hpq1
  have a0 : V.cell? ⟨pq1, 0, none⟩ = some (.int .i64 t.g.base) := q1.cell 0
  have a1 : V.cell? ⟨pq1, 1, none⟩ = some (.slice Ab t.g.bands.length cb) := q1.cell 1
  have a2 : V.cell? ⟨pq1, 2, none⟩ = some (.slice Ad t.g.depths.length cd) := q1.cell 2
  have a3 : V.cell? ⟨pq1, 3, none⟩ = some (.int .i64 t.g.blo) := q1.cell 3
  have a4 : V.cell? ⟨pq1, 4, none⟩ = some (.int .i64 t.g.bhi) := q1.cell 4
  have a5 : V.cell? ⟨pq1, 5, none⟩ = some (.int .i64 t.k.lo) := q1.cell 5
  have a6 : V.cell? ⟨pq1, 6, none⟩ = some (.int .i64 t.k.hi) := q1.cell 6
  have a7 : V.cell? ⟨pq1, 7, none⟩ = some (.int .i64 t.lag.lo) := q1.cell 7
  have a8 : V.cell? ⟨pq1, 8, none⟩ = some (.int .i64 t.lag.hi) := q1.cell 8
  have a9 : V.cell? ⟨pq1, 9, none⟩ = some (.int .i64 t.sq.lo) := q1.cell 9
  have a10 : V.cell? ⟨pq1, 10, none⟩ = some (.int .i64 t.sq.hi) := q1.cell 10
  have a11 : V.cell? ⟨pq1, 11, none⟩ = some (.int .i64 t.term) := q1.cell 11
  have la := q1.lt
  go_wp2_with fail
  refine (check_any t.g _ _ _ _ _ hg).mono ?_
  rintro e V18 ⟨rfl, hV18⟩
  replace q1 := q1.below hV18 q1.lt
  replace hg := hg.go hV18
  have B_V18 := ex_trans hb1 hV18
  clear a0 a1 a2 a3 a4 a5 a6 a7 a8 a9 a10 a11 la
  go_wp2
  go_ret
  exact ⟨ret_int HR.out.symm, B_V18⟩

set_option maxRecDepth 100000 in
set_option maxHeartbeats 1600000 in
theorem reading_any (d : Int) (r : Rd) (w : World) (hd : -1000000 ≤ d ∧ d ≤ 1000000) :
  Calls Try.prog 19 #[.int .i64 d, .agg #[.int .i64 r.day, .int .i64 r.shown, .int .i64 r.err, .int .i64 r.bare, .int .i64 r.air.lo, .int .i64 r.air.hi, .int .i64 r.rate.lo, .int .i64 r.rate.hi, .int .i64 r.deep, .bool r.broken]] w fun e w' => e = .returned (.bool (rdOk d r)) ∧ Below w.heap.size w w' := by
 cases t1 : inB r.day 0 (d - 1)
 ·
  have HR : Hid (rdOk d r = false) := Lib.hid (by unfold rdOk; rw [t1]; rfl)
  have T1 := Lib.hid t1
  clear t1
  go_enter Try.func19, Try.ntmps19
  go_upto_region 1 with fail
  show Code.wp _ _ _ _ _
  refine box1 (K := fun V => Code.wp _ _ _ _ V) ?_
  intro V hb1 q1
  obtain ⟨pq1, hpq1⟩ : ∃ p, w.heap.size = p := ⟨_, rfl⟩
  rw [hpq1] at q1 ⊢
  have hp1 : w.heap.size ≤ pq1 := by omega
  clear hpq1
  have a0 : V.cell? ⟨pq1, 0, none⟩ = some (.int .i64 r.day) := q1.cell 0
  have a1 : V.cell? ⟨pq1, 1, none⟩ = some (.int .i64 r.shown) := q1.cell 1
  have a2 : V.cell? ⟨pq1, 2, none⟩ = some (.int .i64 r.err) := q1.cell 2
  have a3 : V.cell? ⟨pq1, 3, none⟩ = some (.int .i64 r.bare) := q1.cell 3
  have a4 : V.cell? ⟨pq1, 4, none⟩ = some (.int .i64 r.air.lo) := q1.cell 4
  have a5 : V.cell? ⟨pq1, 5, none⟩ = some (.int .i64 r.air.hi) := q1.cell 5
  have a6 : V.cell? ⟨pq1, 6, none⟩ = some (.int .i64 r.rate.lo) := q1.cell 6
  have a7 : V.cell? ⟨pq1, 7, none⟩ = some (.int .i64 r.rate.hi) := q1.cell 7
  have a8 : V.cell? ⟨pq1, 8, none⟩ = some (.int .i64 r.deep) := q1.cell 8
  have a9 : V.cell? ⟨pq1, 9, none⟩ = some (.bool r.broken) := q1.cell 9
  have la := q1.lt
  go_wp2_with fail
  refine (sm_within _ _ _ _).mono ?_
  rintro e w' ⟨rfl, rfl⟩
  rw [T1.out]
  go_wp2
  go_ret
  exact ⟨ret_bool HR.out.symm, hb1⟩
 ·
  cases t2 : inB r.shown (-5000) 5000
  ·
   have HR : Hid (rdOk d r = false) := Lib.hid (by unfold rdOk; rw [t1, t2]; rfl)
   have T1 := Lib.hid t1
   have T2 := Lib.hid t2
   clear t1 t2
   go_enter Try.func19, Try.ntmps19
   go_upto_region 1 with fail
   show Code.wp _ _ _ _ _
   refine box1 (K := fun V => Code.wp _ _ _ _ V) ?_
   intro V hb1 q1
   obtain ⟨pq1, hpq1⟩ : ∃ p, w.heap.size = p := ⟨_, rfl⟩
   rw [hpq1] at q1 ⊢
   have hp1 : w.heap.size ≤ pq1 := by omega
   clear hpq1
   have a0 : V.cell? ⟨pq1, 0, none⟩ = some (.int .i64 r.day) := q1.cell 0
   have a1 : V.cell? ⟨pq1, 1, none⟩ = some (.int .i64 r.shown) := q1.cell 1
   have a2 : V.cell? ⟨pq1, 2, none⟩ = some (.int .i64 r.err) := q1.cell 2
   have a3 : V.cell? ⟨pq1, 3, none⟩ = some (.int .i64 r.bare) := q1.cell 3
   have a4 : V.cell? ⟨pq1, 4, none⟩ = some (.int .i64 r.air.lo) := q1.cell 4
   have a5 : V.cell? ⟨pq1, 5, none⟩ = some (.int .i64 r.air.hi) := q1.cell 5
   have a6 : V.cell? ⟨pq1, 6, none⟩ = some (.int .i64 r.rate.lo) := q1.cell 6
   have a7 : V.cell? ⟨pq1, 7, none⟩ = some (.int .i64 r.rate.hi) := q1.cell 7
   have a8 : V.cell? ⟨pq1, 8, none⟩ = some (.int .i64 r.deep) := q1.cell 8
   have a9 : V.cell? ⟨pq1, 9, none⟩ = some (.bool r.broken) := q1.cell 9
   have la := q1.lt
   go_wp2_with fail
   refine (sm_within _ _ _ _).mono ?_
   rintro e w' ⟨rfl, rfl⟩
   rw [T1.out]
   go_wp2_with fail
   refine (sm_within _ _ _ _).mono ?_
   rintro e w' ⟨rfl, rfl⟩
   rw [T2.out]
   go_wp2
   go_ret
   exact ⟨ret_bool HR.out.symm, hb1⟩
  ·
   cases t3 : inB r.err 0 20
   ·
    have HR : Hid (rdOk d r = false) := Lib.hid (by unfold rdOk; rw [t1, t2, t3]; rfl)
    have T1 := Lib.hid t1
    have T2 := Lib.hid t2
    have T3 := Lib.hid t3
    clear t1 t2 t3
    go_enter Try.func19, Try.ntmps19
    go_upto_region 1 with fail
    show Code.wp _ _ _ _ _
    refine box1 (K := fun V => Code.wp _ _ _ _ V) ?_
    intro V hb1 q1
    obtain ⟨pq1, hpq1⟩ : ∃ p, w.heap.size = p := ⟨_, rfl⟩
    rw [hpq1] at q1 ⊢
    have hp1 : w.heap.size ≤ pq1 := by omega
    clear hpq1
    have a0 : V.cell? ⟨pq1, 0, none⟩ = some (.int .i64 r.day) := q1.cell 0
    have a1 : V.cell? ⟨pq1, 1, none⟩ = some (.int .i64 r.shown) := q1.cell 1
    have a2 : V.cell? ⟨pq1, 2, none⟩ = some (.int .i64 r.err) := q1.cell 2
    have a3 : V.cell? ⟨pq1, 3, none⟩ = some (.int .i64 r.bare) := q1.cell 3
    have a4 : V.cell? ⟨pq1, 4, none⟩ = some (.int .i64 r.air.lo) := q1.cell 4
    have a5 : V.cell? ⟨pq1, 5, none⟩ = some (.int .i64 r.air.hi) := q1.cell 5
    have a6 : V.cell? ⟨pq1, 6, none⟩ = some (.int .i64 r.rate.lo) := q1.cell 6
    have a7 : V.cell? ⟨pq1, 7, none⟩ = some (.int .i64 r.rate.hi) := q1.cell 7
    have a8 : V.cell? ⟨pq1, 8, none⟩ = some (.int .i64 r.deep) := q1.cell 8
    have a9 : V.cell? ⟨pq1, 9, none⟩ = some (.bool r.broken) := q1.cell 9
    have la := q1.lt
    go_wp2_with fail
    refine (sm_within _ _ _ _).mono ?_
    rintro e w' ⟨rfl, rfl⟩
    rw [T1.out]
    go_wp2_with fail
    refine (sm_within _ _ _ _).mono ?_
    rintro e w' ⟨rfl, rfl⟩
    rw [T2.out]
    go_wp2_with fail
    refine (sm_within _ _ _ _).mono ?_
    rintro e w' ⟨rfl, rfl⟩
    rw [T3.out]
    go_wp2
    go_ret
    exact ⟨ret_bool HR.out.symm, hb1⟩
   ·
    cases t4 : inB r.bare 0 300
    ·
     have HR : Hid (rdOk d r = false) := Lib.hid (by unfold rdOk; rw [t1, t2, t3, t4]; rfl)
     have T1 := Lib.hid t1
     have T2 := Lib.hid t2
     have T3 := Lib.hid t3
     have T4 := Lib.hid t4
     clear t1 t2 t3 t4
     go_enter Try.func19, Try.ntmps19
     go_upto_region 1 with fail
     show Code.wp _ _ _ _ _
     refine box1 (K := fun V => Code.wp _ _ _ _ V) ?_
     intro V hb1 q1
     obtain ⟨pq1, hpq1⟩ : ∃ p, w.heap.size = p := ⟨_, rfl⟩
     rw [hpq1] at q1 ⊢
     have hp1 : w.heap.size ≤ pq1 := by omega
     clear hpq1
     have a0 : V.cell? ⟨pq1, 0, none⟩ = some (.int .i64 r.day) := q1.cell 0
     have a1 : V.cell? ⟨pq1, 1, none⟩ = some (.int .i64 r.shown) := q1.cell 1
     have a2 : V.cell? ⟨pq1, 2, none⟩ = some (.int .i64 r.err) := q1.cell 2
     have a3 : V.cell? ⟨pq1, 3, none⟩ = some (.int .i64 r.bare) := q1.cell 3
     have a4 : V.cell? ⟨pq1, 4, none⟩ = some (.int .i64 r.air.lo) := q1.cell 4
     have a5 : V.cell? ⟨pq1, 5, none⟩ = some (.int .i64 r.air.hi) := q1.cell 5
     have a6 : V.cell? ⟨pq1, 6, none⟩ = some (.int .i64 r.rate.lo) := q1.cell 6
     have a7 : V.cell? ⟨pq1, 7, none⟩ = some (.int .i64 r.rate.hi) := q1.cell 7
     have a8 : V.cell? ⟨pq1, 8, none⟩ = some (.int .i64 r.deep) := q1.cell 8
     have a9 : V.cell? ⟨pq1, 9, none⟩ = some (.bool r.broken) := q1.cell 9
     have la := q1.lt
     go_wp2_with fail
     refine (sm_within _ _ _ _).mono ?_
     rintro e w' ⟨rfl, rfl⟩
     rw [T1.out]
     go_wp2_with fail
     refine (sm_within _ _ _ _).mono ?_
     rintro e w' ⟨rfl, rfl⟩
     rw [T2.out]
     go_wp2_with fail
     refine (sm_within _ _ _ _).mono ?_
     rintro e w' ⟨rfl, rfl⟩
     rw [T3.out]
     go_wp2_with fail
     refine (sm_within _ _ _ _).mono ?_
     rintro e w' ⟨rfl, rfl⟩
     rw [T4.out]
     go_wp2
     go_ret
     exact ⟨ret_bool HR.out.symm, hb1⟩
    ·
     cases t5 : spB r.air.lo r.air.hi (-100) 100
     ·
      have HR : Hid (rdOk d r = false) := Lib.hid (by unfold rdOk; rw [t1, t2, t3, t4, t5]; rfl)
      have T1 := Lib.hid t1
      have T2 := Lib.hid t2
      have T3 := Lib.hid t3
      have T4 := Lib.hid t4
      have T5 := Lib.hid t5
      clear t1 t2 t3 t4 t5
      go_enter Try.func19, Try.ntmps19
      go_upto_region 1 with fail
      show Code.wp _ _ _ _ _
      refine box1 (K := fun V => Code.wp _ _ _ _ V) ?_
      intro V hb1 q1
      obtain ⟨pq1, hpq1⟩ : ∃ p, w.heap.size = p := ⟨_, rfl⟩
      rw [hpq1] at q1 ⊢
      have hp1 : w.heap.size ≤ pq1 := by omega
      clear hpq1
      have a0 : V.cell? ⟨pq1, 0, none⟩ = some (.int .i64 r.day) := q1.cell 0
      have a1 : V.cell? ⟨pq1, 1, none⟩ = some (.int .i64 r.shown) := q1.cell 1
      have a2 : V.cell? ⟨pq1, 2, none⟩ = some (.int .i64 r.err) := q1.cell 2
      have a3 : V.cell? ⟨pq1, 3, none⟩ = some (.int .i64 r.bare) := q1.cell 3
      have a4 : V.cell? ⟨pq1, 4, none⟩ = some (.int .i64 r.air.lo) := q1.cell 4
      have a5 : V.cell? ⟨pq1, 5, none⟩ = some (.int .i64 r.air.hi) := q1.cell 5
      have a6 : V.cell? ⟨pq1, 6, none⟩ = some (.int .i64 r.rate.lo) := q1.cell 6
      have a7 : V.cell? ⟨pq1, 7, none⟩ = some (.int .i64 r.rate.hi) := q1.cell 7
      have a8 : V.cell? ⟨pq1, 8, none⟩ = some (.int .i64 r.deep) := q1.cell 8
      have a9 : V.cell? ⟨pq1, 9, none⟩ = some (.bool r.broken) := q1.cell 9
      have la := q1.lt
      go_wp2_with fail
      refine (sm_within _ _ _ _).mono ?_
      rintro e w' ⟨rfl, rfl⟩
      rw [T1.out]
      go_wp2_with fail
      refine (sm_within _ _ _ _).mono ?_
      rintro e w' ⟨rfl, rfl⟩
      rw [T2.out]
      go_wp2_with fail
      refine (sm_within _ _ _ _).mono ?_
      rintro e w' ⟨rfl, rfl⟩
      rw [T3.out]
      go_wp2_with fail
      refine (sm_within _ _ _ _).mono ?_
      rintro e w' ⟨rfl, rfl⟩
      rw [T4.out]
      go_wp2_with fail
      refine (sm_inside _ _ _ _ _).mono ?_
      rintro e V1 ⟨rfl, hV1⟩
      replace q1 := q1.below hV1 q1.lt
      have B_V1 := ex_trans hb1 hV1
      clear a0 a1 a2 a3 a4 a5 a6 a7 a8 a9 la
      have a0 : V1.cell? ⟨pq1, 0, none⟩ = some (.int .i64 r.day) := q1.cell 0
      have a1 : V1.cell? ⟨pq1, 1, none⟩ = some (.int .i64 r.shown) := q1.cell 1
      have a2 : V1.cell? ⟨pq1, 2, none⟩ = some (.int .i64 r.err) := q1.cell 2
      have a3 : V1.cell? ⟨pq1, 3, none⟩ = some (.int .i64 r.bare) := q1.cell 3
      have a4 : V1.cell? ⟨pq1, 4, none⟩ = some (.int .i64 r.air.lo) := q1.cell 4
      have a5 : V1.cell? ⟨pq1, 5, none⟩ = some (.int .i64 r.air.hi) := q1.cell 5
      have a6 : V1.cell? ⟨pq1, 6, none⟩ = some (.int .i64 r.rate.lo) := q1.cell 6
      have a7 : V1.cell? ⟨pq1, 7, none⟩ = some (.int .i64 r.rate.hi) := q1.cell 7
      have a8 : V1.cell? ⟨pq1, 8, none⟩ = some (.int .i64 r.deep) := q1.cell 8
      have a9 : V1.cell? ⟨pq1, 9, none⟩ = some (.bool r.broken) := q1.cell 9
      have la := q1.lt
      rw [T5.out]
      go_wp2
      go_ret
      exact ⟨ret_bool HR.out.symm, B_V1⟩
     ·
      cases t6 : spB r.rate.lo r.rate.hi (-20) 20
      ·
       have HR : Hid (rdOk d r = false) := Lib.hid (by unfold rdOk; rw [t1, t2, t3, t4, t5, t6]; rfl)
       have T1 := Lib.hid t1
       have T2 := Lib.hid t2
       have T3 := Lib.hid t3
       have T4 := Lib.hid t4
       have T5 := Lib.hid t5
       have T6 := Lib.hid t6
       clear t1 t2 t3 t4 t5 t6
       go_enter Try.func19, Try.ntmps19
       go_upto_region 1 with fail
       show Code.wp _ _ _ _ _
       refine box1 (K := fun V => Code.wp _ _ _ _ V) ?_
       intro V hb1 q1
       obtain ⟨pq1, hpq1⟩ : ∃ p, w.heap.size = p := ⟨_, rfl⟩
       rw [hpq1] at q1 ⊢
       have hp1 : w.heap.size ≤ pq1 := by omega
       clear hpq1
       have a0 : V.cell? ⟨pq1, 0, none⟩ = some (.int .i64 r.day) := q1.cell 0
       have a1 : V.cell? ⟨pq1, 1, none⟩ = some (.int .i64 r.shown) := q1.cell 1
       have a2 : V.cell? ⟨pq1, 2, none⟩ = some (.int .i64 r.err) := q1.cell 2
       have a3 : V.cell? ⟨pq1, 3, none⟩ = some (.int .i64 r.bare) := q1.cell 3
       have a4 : V.cell? ⟨pq1, 4, none⟩ = some (.int .i64 r.air.lo) := q1.cell 4
       have a5 : V.cell? ⟨pq1, 5, none⟩ = some (.int .i64 r.air.hi) := q1.cell 5
       have a6 : V.cell? ⟨pq1, 6, none⟩ = some (.int .i64 r.rate.lo) := q1.cell 6
       have a7 : V.cell? ⟨pq1, 7, none⟩ = some (.int .i64 r.rate.hi) := q1.cell 7
       have a8 : V.cell? ⟨pq1, 8, none⟩ = some (.int .i64 r.deep) := q1.cell 8
       have a9 : V.cell? ⟨pq1, 9, none⟩ = some (.bool r.broken) := q1.cell 9
       have la := q1.lt
       go_wp2_with fail
       refine (sm_within _ _ _ _).mono ?_
       rintro e w' ⟨rfl, rfl⟩
       rw [T1.out]
       go_wp2_with fail
       refine (sm_within _ _ _ _).mono ?_
       rintro e w' ⟨rfl, rfl⟩
       rw [T2.out]
       go_wp2_with fail
       refine (sm_within _ _ _ _).mono ?_
       rintro e w' ⟨rfl, rfl⟩
       rw [T3.out]
       go_wp2_with fail
       refine (sm_within _ _ _ _).mono ?_
       rintro e w' ⟨rfl, rfl⟩
       rw [T4.out]
       go_wp2_with fail
       refine (sm_inside _ _ _ _ _).mono ?_
       rintro e V2 ⟨rfl, hV2⟩
       replace q1 := q1.below hV2 q1.lt
       have B_V2 := ex_trans hb1 hV2
       clear a0 a1 a2 a3 a4 a5 a6 a7 a8 a9 la
       have a0 : V2.cell? ⟨pq1, 0, none⟩ = some (.int .i64 r.day) := q1.cell 0
       have a1 : V2.cell? ⟨pq1, 1, none⟩ = some (.int .i64 r.shown) := q1.cell 1
       have a2 : V2.cell? ⟨pq1, 2, none⟩ = some (.int .i64 r.err) := q1.cell 2
       have a3 : V2.cell? ⟨pq1, 3, none⟩ = some (.int .i64 r.bare) := q1.cell 3
       have a4 : V2.cell? ⟨pq1, 4, none⟩ = some (.int .i64 r.air.lo) := q1.cell 4
       have a5 : V2.cell? ⟨pq1, 5, none⟩ = some (.int .i64 r.air.hi) := q1.cell 5
       have a6 : V2.cell? ⟨pq1, 6, none⟩ = some (.int .i64 r.rate.lo) := q1.cell 6
       have a7 : V2.cell? ⟨pq1, 7, none⟩ = some (.int .i64 r.rate.hi) := q1.cell 7
       have a8 : V2.cell? ⟨pq1, 8, none⟩ = some (.int .i64 r.deep) := q1.cell 8
       have a9 : V2.cell? ⟨pq1, 9, none⟩ = some (.bool r.broken) := q1.cell 9
       have la := q1.lt
       rw [T5.out]
       go_wp2_with fail
       refine (sm_inside _ _ _ _ _).mono ?_
       rintro e V3 ⟨rfl, hV3⟩
       replace q1 := q1.below hV3 q1.lt
       have B_V3 := ex_trans B_V2 hV3
       clear a0 a1 a2 a3 a4 a5 a6 a7 a8 a9 la
       have a0 : V3.cell? ⟨pq1, 0, none⟩ = some (.int .i64 r.day) := q1.cell 0
       have a1 : V3.cell? ⟨pq1, 1, none⟩ = some (.int .i64 r.shown) := q1.cell 1
       have a2 : V3.cell? ⟨pq1, 2, none⟩ = some (.int .i64 r.err) := q1.cell 2
       have a3 : V3.cell? ⟨pq1, 3, none⟩ = some (.int .i64 r.bare) := q1.cell 3
       have a4 : V3.cell? ⟨pq1, 4, none⟩ = some (.int .i64 r.air.lo) := q1.cell 4
       have a5 : V3.cell? ⟨pq1, 5, none⟩ = some (.int .i64 r.air.hi) := q1.cell 5
       have a6 : V3.cell? ⟨pq1, 6, none⟩ = some (.int .i64 r.rate.lo) := q1.cell 6
       have a7 : V3.cell? ⟨pq1, 7, none⟩ = some (.int .i64 r.rate.hi) := q1.cell 7
       have a8 : V3.cell? ⟨pq1, 8, none⟩ = some (.int .i64 r.deep) := q1.cell 8
       have a9 : V3.cell? ⟨pq1, 9, none⟩ = some (.bool r.broken) := q1.cell 9
       have la := q1.lt
       rw [T6.out]
       go_wp2
       go_ret
       exact ⟨ret_bool HR.out.symm, B_V3⟩
      ·
       cases t7 : inB r.deep 0 20
       ·
        have HR : Hid (rdOk d r = false) := Lib.hid (by unfold rdOk; rw [t1, t2, t3, t4, t5, t6, t7]; rfl)
        have T1 := Lib.hid t1
        have T2 := Lib.hid t2
        have T3 := Lib.hid t3
        have T4 := Lib.hid t4
        have T5 := Lib.hid t5
        have T6 := Lib.hid t6
        have T7 := Lib.hid t7
        clear t1 t2 t3 t4 t5 t6 t7
        go_enter Try.func19, Try.ntmps19
        go_upto_region 1 with fail
        show Code.wp _ _ _ _ _
        refine box1 (K := fun V => Code.wp _ _ _ _ V) ?_
        intro V hb1 q1
        obtain ⟨pq1, hpq1⟩ : ∃ p, w.heap.size = p := ⟨_, rfl⟩
        rw [hpq1] at q1 ⊢
        have hp1 : w.heap.size ≤ pq1 := by omega
        clear hpq1
        have a0 : V.cell? ⟨pq1, 0, none⟩ = some (.int .i64 r.day) := q1.cell 0
        have a1 : V.cell? ⟨pq1, 1, none⟩ = some (.int .i64 r.shown) := q1.cell 1
        have a2 : V.cell? ⟨pq1, 2, none⟩ = some (.int .i64 r.err) := q1.cell 2
        have a3 : V.cell? ⟨pq1, 3, none⟩ = some (.int .i64 r.bare) := q1.cell 3
        have a4 : V.cell? ⟨pq1, 4, none⟩ = some (.int .i64 r.air.lo) := q1.cell 4
        have a5 : V.cell? ⟨pq1, 5, none⟩ = some (.int .i64 r.air.hi) := q1.cell 5
        have a6 : V.cell? ⟨pq1, 6, none⟩ = some (.int .i64 r.rate.lo) := q1.cell 6
        have a7 : V.cell? ⟨pq1, 7, none⟩ = some (.int .i64 r.rate.hi) := q1.cell 7
        have a8 : V.cell? ⟨pq1, 8, none⟩ = some (.int .i64 r.deep) := q1.cell 8
        have a9 : V.cell? ⟨pq1, 9, none⟩ = some (.bool r.broken) := q1.cell 9
        have la := q1.lt
        go_wp2_with fail
        refine (sm_within _ _ _ _).mono ?_
        rintro e w' ⟨rfl, rfl⟩
        rw [T1.out]
        go_wp2_with fail
        refine (sm_within _ _ _ _).mono ?_
        rintro e w' ⟨rfl, rfl⟩
        rw [T2.out]
        go_wp2_with fail
        refine (sm_within _ _ _ _).mono ?_
        rintro e w' ⟨rfl, rfl⟩
        rw [T3.out]
        go_wp2_with fail
        refine (sm_within _ _ _ _).mono ?_
        rintro e w' ⟨rfl, rfl⟩
        rw [T4.out]
        go_wp2_with fail
        refine (sm_inside _ _ _ _ _).mono ?_
        rintro e V4 ⟨rfl, hV4⟩
        replace q1 := q1.below hV4 q1.lt
        have B_V4 := ex_trans hb1 hV4
        clear a0 a1 a2 a3 a4 a5 a6 a7 a8 a9 la
        have a0 : V4.cell? ⟨pq1, 0, none⟩ = some (.int .i64 r.day) := q1.cell 0
        have a1 : V4.cell? ⟨pq1, 1, none⟩ = some (.int .i64 r.shown) := q1.cell 1
        have a2 : V4.cell? ⟨pq1, 2, none⟩ = some (.int .i64 r.err) := q1.cell 2
        have a3 : V4.cell? ⟨pq1, 3, none⟩ = some (.int .i64 r.bare) := q1.cell 3
        have a4 : V4.cell? ⟨pq1, 4, none⟩ = some (.int .i64 r.air.lo) := q1.cell 4
        have a5 : V4.cell? ⟨pq1, 5, none⟩ = some (.int .i64 r.air.hi) := q1.cell 5
        have a6 : V4.cell? ⟨pq1, 6, none⟩ = some (.int .i64 r.rate.lo) := q1.cell 6
        have a7 : V4.cell? ⟨pq1, 7, none⟩ = some (.int .i64 r.rate.hi) := q1.cell 7
        have a8 : V4.cell? ⟨pq1, 8, none⟩ = some (.int .i64 r.deep) := q1.cell 8
        have a9 : V4.cell? ⟨pq1, 9, none⟩ = some (.bool r.broken) := q1.cell 9
        have la := q1.lt
        rw [T5.out]
        go_wp2_with fail
        refine (sm_inside _ _ _ _ _).mono ?_
        rintro e V5 ⟨rfl, hV5⟩
        replace q1 := q1.below hV5 q1.lt
        have B_V5 := ex_trans B_V4 hV5
        clear a0 a1 a2 a3 a4 a5 a6 a7 a8 a9 la
        have a0 : V5.cell? ⟨pq1, 0, none⟩ = some (.int .i64 r.day) := q1.cell 0
        have a1 : V5.cell? ⟨pq1, 1, none⟩ = some (.int .i64 r.shown) := q1.cell 1
        have a2 : V5.cell? ⟨pq1, 2, none⟩ = some (.int .i64 r.err) := q1.cell 2
        have a3 : V5.cell? ⟨pq1, 3, none⟩ = some (.int .i64 r.bare) := q1.cell 3
        have a4 : V5.cell? ⟨pq1, 4, none⟩ = some (.int .i64 r.air.lo) := q1.cell 4
        have a5 : V5.cell? ⟨pq1, 5, none⟩ = some (.int .i64 r.air.hi) := q1.cell 5
        have a6 : V5.cell? ⟨pq1, 6, none⟩ = some (.int .i64 r.rate.lo) := q1.cell 6
        have a7 : V5.cell? ⟨pq1, 7, none⟩ = some (.int .i64 r.rate.hi) := q1.cell 7
        have a8 : V5.cell? ⟨pq1, 8, none⟩ = some (.int .i64 r.deep) := q1.cell 8
        have a9 : V5.cell? ⟨pq1, 9, none⟩ = some (.bool r.broken) := q1.cell 9
        have la := q1.lt
        rw [T6.out]
        go_wp2_with fail
        refine (sm_within _ _ _ _).mono ?_
        rintro e w' ⟨rfl, rfl⟩
        rw [T7.out]
        go_wp2
        go_ret
        exact ⟨ret_bool HR.out.symm, B_V5⟩
       ·
        have HR : Hid (rdOk d r = true) := Lib.hid (by unfold rdOk; rw [t1, t2, t3, t4, t5, t6, t7]; rfl)
        have T1 := Lib.hid t1
        have T2 := Lib.hid t2
        have T3 := Lib.hid t3
        have T4 := Lib.hid t4
        have T5 := Lib.hid t5
        have T6 := Lib.hid t6
        have T7 := Lib.hid t7
        clear t1 t2 t3 t4 t5 t6 t7
        go_enter Try.func19, Try.ntmps19
        go_upto_region 1 with fail
        show Code.wp _ _ _ _ _
        refine box1 (K := fun V => Code.wp _ _ _ _ V) ?_
        intro V hb1 q1
        obtain ⟨pq1, hpq1⟩ : ∃ p, w.heap.size = p := ⟨_, rfl⟩
        rw [hpq1] at q1 ⊢
        have hp1 : w.heap.size ≤ pq1 := by omega
        clear hpq1
        have a0 : V.cell? ⟨pq1, 0, none⟩ = some (.int .i64 r.day) := q1.cell 0
        have a1 : V.cell? ⟨pq1, 1, none⟩ = some (.int .i64 r.shown) := q1.cell 1
        have a2 : V.cell? ⟨pq1, 2, none⟩ = some (.int .i64 r.err) := q1.cell 2
        have a3 : V.cell? ⟨pq1, 3, none⟩ = some (.int .i64 r.bare) := q1.cell 3
        have a4 : V.cell? ⟨pq1, 4, none⟩ = some (.int .i64 r.air.lo) := q1.cell 4
        have a5 : V.cell? ⟨pq1, 5, none⟩ = some (.int .i64 r.air.hi) := q1.cell 5
        have a6 : V.cell? ⟨pq1, 6, none⟩ = some (.int .i64 r.rate.lo) := q1.cell 6
        have a7 : V.cell? ⟨pq1, 7, none⟩ = some (.int .i64 r.rate.hi) := q1.cell 7
        have a8 : V.cell? ⟨pq1, 8, none⟩ = some (.int .i64 r.deep) := q1.cell 8
        have a9 : V.cell? ⟨pq1, 9, none⟩ = some (.bool r.broken) := q1.cell 9
        have la := q1.lt
        go_wp2_with fail
        refine (sm_within _ _ _ _).mono ?_
        rintro e w' ⟨rfl, rfl⟩
        rw [T1.out]
        go_wp2_with fail
        refine (sm_within _ _ _ _).mono ?_
        rintro e w' ⟨rfl, rfl⟩
        rw [T2.out]
        go_wp2_with fail
        refine (sm_within _ _ _ _).mono ?_
        rintro e w' ⟨rfl, rfl⟩
        rw [T3.out]
        go_wp2_with fail
        refine (sm_within _ _ _ _).mono ?_
        rintro e w' ⟨rfl, rfl⟩
        rw [T4.out]
        go_wp2_with fail
        refine (sm_inside _ _ _ _ _).mono ?_
        rintro e V6 ⟨rfl, hV6⟩
        replace q1 := q1.below hV6 q1.lt
        have B_V6 := ex_trans hb1 hV6
        clear a0 a1 a2 a3 a4 a5 a6 a7 a8 a9 la
        have a0 : V6.cell? ⟨pq1, 0, none⟩ = some (.int .i64 r.day) := q1.cell 0
        have a1 : V6.cell? ⟨pq1, 1, none⟩ = some (.int .i64 r.shown) := q1.cell 1
        have a2 : V6.cell? ⟨pq1, 2, none⟩ = some (.int .i64 r.err) := q1.cell 2
        have a3 : V6.cell? ⟨pq1, 3, none⟩ = some (.int .i64 r.bare) := q1.cell 3
        have a4 : V6.cell? ⟨pq1, 4, none⟩ = some (.int .i64 r.air.lo) := q1.cell 4
        have a5 : V6.cell? ⟨pq1, 5, none⟩ = some (.int .i64 r.air.hi) := q1.cell 5
        have a6 : V6.cell? ⟨pq1, 6, none⟩ = some (.int .i64 r.rate.lo) := q1.cell 6
        have a7 : V6.cell? ⟨pq1, 7, none⟩ = some (.int .i64 r.rate.hi) := q1.cell 7
        have a8 : V6.cell? ⟨pq1, 8, none⟩ = some (.int .i64 r.deep) := q1.cell 8
        have a9 : V6.cell? ⟨pq1, 9, none⟩ = some (.bool r.broken) := q1.cell 9
        have la := q1.lt
        rw [T5.out]
        go_wp2_with fail
        refine (sm_inside _ _ _ _ _).mono ?_
        rintro e V7 ⟨rfl, hV7⟩
        replace q1 := q1.below hV7 q1.lt
        have B_V7 := ex_trans B_V6 hV7
        clear a0 a1 a2 a3 a4 a5 a6 a7 a8 a9 la
        have a0 : V7.cell? ⟨pq1, 0, none⟩ = some (.int .i64 r.day) := q1.cell 0
        have a1 : V7.cell? ⟨pq1, 1, none⟩ = some (.int .i64 r.shown) := q1.cell 1
        have a2 : V7.cell? ⟨pq1, 2, none⟩ = some (.int .i64 r.err) := q1.cell 2
        have a3 : V7.cell? ⟨pq1, 3, none⟩ = some (.int .i64 r.bare) := q1.cell 3
        have a4 : V7.cell? ⟨pq1, 4, none⟩ = some (.int .i64 r.air.lo) := q1.cell 4
        have a5 : V7.cell? ⟨pq1, 5, none⟩ = some (.int .i64 r.air.hi) := q1.cell 5
        have a6 : V7.cell? ⟨pq1, 6, none⟩ = some (.int .i64 r.rate.lo) := q1.cell 6
        have a7 : V7.cell? ⟨pq1, 7, none⟩ = some (.int .i64 r.rate.hi) := q1.cell 7
        have a8 : V7.cell? ⟨pq1, 8, none⟩ = some (.int .i64 r.deep) := q1.cell 8
        have a9 : V7.cell? ⟨pq1, 9, none⟩ = some (.bool r.broken) := q1.cell 9
        have la := q1.lt
        rw [T6.out]
        go_wp2_with fail
        refine (sm_within _ _ _ _).mono ?_
        rintro e w' ⟨rfl, rfl⟩
        rw [T7.out]
        go_wp2
        go_ret
        exact ⟨ret_bool HR.out.symm, B_V7⟩

end Go.Proofs.Ytkaogjhnogkcdaa
end

section
namespace Go.Proofs.Ytkaogjhnogkcdaa
open Go.RowKit
attribute [local go_sem] Ex.cell?

theorem down_eq {n : Int} : (n.tmod 100000 < 0 → n.tdiv 100000 - 1 = n / 100000) ∧ (¬ n.tmod 100000 < 0 → n.tdiv 100000 = n / 100000) := by
 have e1 := Int.tdiv_eq_ediv (a := n) (b := 100000)
 have e2 := Int.tmod_eq_emod (a := n) (b := 100000)
 split at e1
 ·
  rename_i h
  rw [if_pos h] at e2
  omega
 ·
  rename_i h
  rw [if_neg h] at e2
  have : Int.sign 100000 = 1 := rfl
  omega
set_option maxHeartbeats 800000 in
theorem sm_down (n : Int) (w : World) (hn : -1000000000 ≤ n ∧ n ≤ 1000000000) :
  Calls Try.prog 66 #[.int .i64 n, .int .i64 100000] w fun e w' => e = .returned (.int .i64 (n / 100000)) ∧ w = w' := by
 obtain ⟨d1, d2⟩ := down_eq (n := n)
 by_cases h : n.tmod 100000 < 0
 ·
  have HR := Lib.hid (d1 h)
  have h' : decide (n.tmod 100000 < 0) = true := decide_eq_true h
  have hq : -10001 ≤ n.tdiv 100000 ∧ n.tdiv 100000 ≤ 10001 := by have := HR.out; omega
  clear d1 d2 h
  go_enter Try.func66, Try.ntmps66
  go_wp2
  go_ret
  exact ⟨ret_int HR.out, rfl⟩
 ·
  have HR := Lib.hid (d2 h)
  have h' : decide (n.tmod 100000 < 0) = false := decide_eq_false h
  clear d1 d2 h
  go_enter Try.func66, Try.ntmps66
  go_wp2
  go_ret
  exact ⟨ret_int HR.out, rfl⟩
set_option maxHeartbeats 800000 in
theorem sm_stem (t : Tb) (Ab Ad : Option Addr) (cb cd : Nat) (r : Rd) (q : Ki) (air v : Int) (w : World) (hr : RdBd r) (hk : 0 ≤ q.k ∧ q.k ≤ 20) (ha : -100 ≤ air ∧ air ≤ 100) :
  Calls Try.prog 55 #[.agg #[.int .i64 t.g.base, .slice Ab t.g.bands.length cb, .slice Ad t.g.depths.length cd, .int .i64 t.g.blo, .int .i64 t.g.bhi, .int .i64 t.k.lo, .int .i64 t.k.hi, .int .i64 t.lag.lo, .int .i64 t.lag.hi, .int .i64 t.sq.lo, .int .i64 t.sq.hi, .int .i64 t.term, .int .i64 r.day, .int .i64 r.shown, .int .i64 r.err, .int .i64 r.bare, .int .i64 r.air.lo, .int .i64 r.air.hi, .int .i64 r.rate.lo, .int .i64 r.rate.hi, .int .i64 r.deep, .bool r.broken], .agg #[.int .i64 q.k, .int .i64 q.lag, .int .i64 q.sq], .int .i64 air, .int .i64 v] w fun e w' => e = .returned (.int .i64 (stemP r q.k air)) ∧ Below w.heap.size w w' := by
 obtain ⟨b1, b2, _⟩ := stem_bd hr hk ha
 have b3 := hr.shown
 have hb1 := ex_alloc (ex_alloc (Below.refl w.heap.size w) (.cells #[.int .i64 t.g.base, .slice Ab t.g.bands.length cb, .slice Ad t.g.depths.length cd, .int .i64 t.g.blo, .int .i64 t.g.bhi, .int .i64 t.k.lo, .int .i64 t.k.hi, .int .i64 t.lag.lo, .int .i64 t.lag.hi, .int .i64 t.sq.lo, .int .i64 t.sq.hi, .int .i64 t.term, .int .i64 r.day, .int .i64 r.shown, .int .i64 r.err, .int .i64 r.bare, .int .i64 r.air.lo, .int .i64 r.air.hi, .int .i64 r.rate.lo, .int .i64 r.rate.hi, .int .i64 r.deep, .bool r.broken] 69)) (.cells #[.int .i64 q.k, .int .i64 q.lag, .int .i64 q.sq] 80)
 go_enter Try.func55, Try.ntmps55
 go_wp2_with fail
 refine (sm_down _ _ (by omega)).mono ?_
 rintro e w' ⟨rfl, rfl⟩
 go_wp2
 go_ret
 exact ⟨rfl, hb1⟩
set_option maxHeartbeats 800000 in
theorem sm_late (t : Tb) (Ab Ad : Option Addr) (cb cd : Nat) (r : Rd) (q : Ki) (v rate : Int) (w : World) (hq : KiBd q) (ha : -20 ≤ rate ∧ rate ≤ 20) :
  Calls Try.prog 56 #[.agg #[.int .i64 t.g.base, .slice Ab t.g.bands.length cb, .slice Ad t.g.depths.length cd, .int .i64 t.g.blo, .int .i64 t.g.bhi, .int .i64 t.k.lo, .int .i64 t.k.hi, .int .i64 t.lag.lo, .int .i64 t.lag.hi, .int .i64 t.sq.lo, .int .i64 t.sq.hi, .int .i64 t.term, .int .i64 r.day, .int .i64 r.shown, .int .i64 r.err, .int .i64 r.bare, .int .i64 r.air.lo, .int .i64 r.air.hi, .int .i64 r.rate.lo, .int .i64 r.rate.hi, .int .i64 r.deep, .bool r.broken], .agg #[.int .i64 q.k, .int .i64 q.lag, .int .i64 q.sq], .int .i64 v, .int .i64 rate] w fun e w' => e = .returned (.int .i64 (rate * q.lag)) ∧ Below w.heap.size w w' := by
 have b1 := late_bd hq ha
 have hb1 := ex_alloc (ex_alloc (Below.refl w.heap.size w) (.cells #[.int .i64 t.g.base, .slice Ab t.g.bands.length cb, .slice Ad t.g.depths.length cd, .int .i64 t.g.blo, .int .i64 t.g.bhi, .int .i64 t.k.lo, .int .i64 t.k.hi, .int .i64 t.lag.lo, .int .i64 t.lag.hi, .int .i64 t.sq.lo, .int .i64 t.sq.hi, .int .i64 t.term, .int .i64 r.day, .int .i64 r.shown, .int .i64 r.err, .int .i64 r.bare, .int .i64 r.air.lo, .int .i64 r.air.hi, .int .i64 r.rate.lo, .int .i64 r.rate.hi, .int .i64 r.deep, .bool r.broken] 69)) (.cells #[.int .i64 q.k, .int .i64 q.lag, .int .i64 q.sq] 80)
 go_enter Try.func56, Try.ntmps56
 go_wp2
 go_ret
 exact ⟨rfl, hb1⟩
set_option maxHeartbeats 800000 in
theorem sm_squeezed (t : Tb) (Ab Ad : Option Addr) (cb cd : Nat) (r : Rd) (q : Ki) (v u : Int) (w : World) (hq : KiBd q) (hr : RdBd r) :
  Calls Try.prog 57 #[.agg #[.int .i64 t.g.base, .slice Ab t.g.bands.length cb, .slice Ad t.g.depths.length cd, .int .i64 t.g.blo, .int .i64 t.g.bhi, .int .i64 t.k.lo, .int .i64 t.k.hi, .int .i64 t.lag.lo, .int .i64 t.lag.hi, .int .i64 t.sq.lo, .int .i64 t.sq.hi, .int .i64 t.term, .int .i64 r.day, .int .i64 r.shown, .int .i64 r.err, .int .i64 r.bare, .int .i64 r.air.lo, .int .i64 r.air.hi, .int .i64 r.rate.lo, .int .i64 r.rate.hi, .int .i64 r.deep, .bool r.broken], .agg #[.int .i64 q.k, .int .i64 q.lag, .int .i64 q.sq], .int .i64 v, .int .i64 u] w fun e w' => e = .returned (.int .i64 (-(q.sq * r.deep))) ∧ Below w.heap.size w w' := by
 have b1 := deep_bd hq hr
 have b2 := hq.sq
 have e1 : -q.sq * r.deep = -(q.sq * r.deep) := Int.neg_mul _ _
 have hb1 := ex_alloc (ex_alloc (Below.refl w.heap.size w) (.cells #[.int .i64 t.g.base, .slice Ab t.g.bands.length cb, .slice Ad t.g.depths.length cd, .int .i64 t.g.blo, .int .i64 t.g.bhi, .int .i64 t.k.lo, .int .i64 t.k.hi, .int .i64 t.lag.lo, .int .i64 t.lag.hi, .int .i64 t.sq.lo, .int .i64 t.sq.hi, .int .i64 t.term, .int .i64 r.day, .int .i64 r.shown, .int .i64 r.err, .int .i64 r.bare, .int .i64 r.air.lo, .int .i64 r.air.hi, .int .i64 r.rate.lo, .int .i64 r.rate.hi, .int .i64 r.deep, .bool r.broken] 69)) (.cells #[.int .i64 q.k, .int .i64 q.lag, .int .i64 q.sq] 80)
 go_enter Try.func57, Try.ntmps57
 go_wp2
 go_ret
 exact ⟨ret_int (by first | rfl | exact e1 | simp [e1]), hb1⟩
theorem run_store_fn {P : Program} {w : World} {a : Addr} {m : Mode} (f : Fn) (x y : Array Value) : (store a (.func f x y) m).run P w = stored P w a (.func f x y) m := run_store P w a _ m rfl
attribute [local go_sem] run_store_fn
def partsV : Array Value := #[.func (.func 55) #[] #[], .func (.func 56) #[] #[], .func (.func 57) #[] #[]]
set_option maxRecDepth 100000 in
theorem sm_parts (w : World) :
  Calls Try.prog 45 #[] w fun e w' => e = .returned (.agg #[.func (.func 55) #[] #[], .func (.func 56) #[] #[], .func (.func 57) #[] #[]]) ∧ Below w.heap.size w w' := by
 have hb1 := ex_alloc (Below.refl w.heap.size w) (.cells partsV 102)
 have q1 : Blk (w.alloc (.cells partsV 102)) w.heap.size 102 partsV := Blk.new _ _ _
 unfold partsV at q1 hb1
 go_enter Try.func45, Try.ntmps45
 go_wp2
 refine bodyPost_ret (results_cell_row rfl _ _ w.heap.size 102 _ (0, 0) _ rfl q1 rfl rfl rfl) rfl ?_
 exact ⟨rfl, hb1⟩
end Go.Proofs.Ytkaogjhnogkcdaa
end

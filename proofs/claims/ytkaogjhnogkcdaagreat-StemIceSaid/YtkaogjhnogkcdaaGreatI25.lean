/- Stem's reference: IsTruth (walk). -/
import Derived.Test.YtkaogjhnogkcdaaGreatI21
import Derived.Test.YtkaogjhnogkcdaaGreatI15
set_option linter.unusedVariables false
set_option linter.unusedSimpArgs false
set_option linter.unusedSectionVars false
section
namespace Go.Proofs.YtkaogjhnogkcdaaGreat
open Go.RowKit
attribute [local go_sem] Ex.cell? Ex.frozen?

set_option maxRecDepth 100000 in
set_option maxHeartbeats 12800000 in
theorem sr_istruth (t : Tb) (Ab Ad : Option Addr) (cb cd : Nat) (r : Rd) (x : Tx) (w : World) (he : -9223372036854775808 < r.err) (he2 : r.err ≤ 9223372036854775807) :
  Calls Tryz.prog 53 #[.agg #[.int .i64 t.g.base, .slice Ab t.g.bands.length cb, .slice Ad t.g.depths.length cd, .int .i64 t.g.blo, .int .i64 t.g.bhi, .int .i64 t.k.lo, .int .i64 t.k.hi, .int .i64 t.lag.lo, .int .i64 t.lag.hi, .int .i64 t.sq.lo, .int .i64 t.sq.hi, .int .i64 t.term], .agg #[.int .i64 r.day, .int .i64 r.shown, .int .i64 r.err, .int .i64 r.bare, .int .i64 r.air.lo, .int .i64 r.air.hi, .int .i64 r.rate.lo, .int .i64 r.rate.hi, .int .i64 r.deep, .bool r.broken], .agg #[.int .i64 x.zero, .int .i64 x.k, .int .i64 x.lag, .int .i64 x.sq, .int .i64 x.air, .int .i64 x.rate, .int .i64 x.off]] w fun e w' => e = .returned (.bool (txOk t r x)) ∧ Below w.heap.size w w' := by
 obtain ⟨z0, hb0⟩ : ∃ b, inB x.k t.k.lo t.k.hi = b := ⟨_, rfl⟩
 obtain ⟨z1, hb1⟩ : ∃ b, inB x.lag t.lag.lo t.lag.hi = b := ⟨_, rfl⟩
 obtain ⟨z2, hb2⟩ : ∃ b, inB x.sq t.sq.lo t.sq.hi = b := ⟨_, rfl⟩
 obtain ⟨z3, hb3⟩ : ∃ b, inB x.air r.air.lo r.air.hi = b := ⟨_, rfl⟩
 obtain ⟨z4, hb4⟩ : ∃ b, inB x.rate r.rate.lo r.rate.hi = b := ⟨_, rfl⟩
 obtain ⟨z5, hb5⟩ : ∃ b, inB x.off (-r.err) r.err = b := ⟨_, rfl⟩
 obtain ⟨z6, hb6⟩ : ∃ b, inB x.zero (-2000) 2000 = b := ⟨_, rfl⟩
 have HR : Hid (txOk t r x = (z0 && (z1 && (z2 && (z3 && (z4 && (z5 && z6))))))) := Lib.hid (by unfold txOk; rw [hb0, hb1, hb2, hb3, hb4, hb5, hb6])
 have HB0 := Lib.hid hb0
 have HB1 := Lib.hid hb1
 have HB2 := Lib.hid hb2
 have HB3 := Lib.hid hb3
 have HB4 := Lib.hid hb4
 have HB5 := Lib.hid hb5
 have HB6 := Lib.hid hb6
 clear hb0 hb1 hb2 hb3 hb4 hb5 hb6
 go_enter Tryz.func53, Tryz.ntmps53
 go_wp2_with fail
 rename_i xk hxk
 simp only [List.append_eq, List.cons_append, List.nil_append] at hxk
 refine box3 (K := fun V => Calls _ _ _ V _) ?_
 intro V hb1 q1 q2 q3
 obtain ⟨pq1, hpq1⟩ : ∃ p, w.heap.size = p := ⟨_, rfl⟩
 obtain ⟨pq2, hpq2⟩ : ∃ p, w.heap.size + 1 = p := ⟨_, rfl⟩
 obtain ⟨pq3, hpq3⟩ : ∃ p, w.heap.size + 1 + 1 = p := ⟨_, rfl⟩
 rw [hpq3] at q3 ⊢
 rw [hpq2] at q2 ⊢
 rw [hpq1] at q1 ⊢
 have hp1 : w.heap.size ≤ pq1 := by omega
 have hp2 : w.heap.size ≤ pq2 := by omega
 have hp3 : w.heap.size ≤ pq3 := by omega
 clear hpq1 hpq2 hpq3
 have a0 : V.cell? ⟨pq1, 0, none⟩ = some (.int .i64 t.g.base) := q1.cell 0
 have a1 : V.cell? ⟨pq1, 1, none⟩ = some (.slice Ab t.g.bands.length cb) := q1.cell 1
 have a2 : V.cell? ⟨pq1, 2, none⟩ = some (.slice Ad t.g.depths.length cd) := q1.cell 2
 have a3 : V.cell? ⟨pq1, 3, none⟩ = some (.int .i64 t.g.blo) := q1.cell 3
 have a4 : V.cell? ⟨pq1, 4, none⟩ = some (.int .i64 t.g.bhi) := q1.cell 4
 have a5 : V.cell? ⟨pq1, 5, none⟩ = some (.int .i64 t.k.lo) := q1.cell 5
 have a6 : V.cell? ⟨pq1, 6, none⟩ = some (.int .i64 t.k.hi) := q1.cell 6
 have a7 : V.cell? ⟨pq1, 7, none⟩ = some (.int .i64 t.lag.lo) := q1.cell 7
 have a8 : V.cell? ⟨pq1, 8, none⟩ = some (.int .i64 t.lag.hi) := q1.cell 8
 have a9 : V.cell? ⟨pq1, 9, none⟩ = some (.int .i64 t.sq.lo) := q1.cell 9
 have a10 : V.cell? ⟨pq1, 10, none⟩ = some (.int .i64 t.sq.hi) := q1.cell 10
 have a11 : V.cell? ⟨pq1, 11, none⟩ = some (.int .i64 t.term) := q1.cell 11
 have la := q1.lt
 have b0 : V.cell? ⟨pq2, 0, none⟩ = some (.int .i64 r.day) := q2.cell 0
 have b1 : V.cell? ⟨pq2, 1, none⟩ = some (.int .i64 r.shown) := q2.cell 1
 have b2 : V.cell? ⟨pq2, 2, none⟩ = some (.int .i64 r.err) := q2.cell 2
 have b3 : V.cell? ⟨pq2, 3, none⟩ = some (.int .i64 r.bare) := q2.cell 3
 have b4 : V.cell? ⟨pq2, 4, none⟩ = some (.int .i64 r.air.lo) := q2.cell 4
 have b5 : V.cell? ⟨pq2, 5, none⟩ = some (.int .i64 r.air.hi) := q2.cell 5
 have b6 : V.cell? ⟨pq2, 6, none⟩ = some (.int .i64 r.rate.lo) := q2.cell 6
 have b7 : V.cell? ⟨pq2, 7, none⟩ = some (.int .i64 r.rate.hi) := q2.cell 7
 have b8 : V.cell? ⟨pq2, 8, none⟩ = some (.int .i64 r.deep) := q2.cell 8
 have b9 : V.cell? ⟨pq2, 9, none⟩ = some (.bool r.broken) := q2.cell 9
 have lb := q2.lt
 have c0 : V.cell? ⟨pq3, 0, none⟩ = some (.int .i64 x.zero) := q3.cell 0
 have c1 : V.cell? ⟨pq3, 1, none⟩ = some (.int .i64 x.k) := q3.cell 1
 have c2 : V.cell? ⟨pq3, 2, none⟩ = some (.int .i64 x.lag) := q3.cell 2
 have c3 : V.cell? ⟨pq3, 3, none⟩ = some (.int .i64 x.sq) := q3.cell 3
 have c4 : V.cell? ⟨pq3, 4, none⟩ = some (.int .i64 x.air) := q3.cell 4
 have c5 : V.cell? ⟨pq3, 5, none⟩ = some (.int .i64 x.rate) := q3.cell 5
 have c6 : V.cell? ⟨pq3, 6, none⟩ = some (.int .i64 x.off) := q3.cell 6
 have lc := q3.lt
 refine (In_any _ _ _ _).mono ?_
 rintro e w' ⟨rfl, rfl⟩
 rw [HB0.out]
 cases z0
 ·
  go_wp2
  go_ret
  exact ⟨ret_bool HR.out.symm, hb1⟩
 ·
  go_wp2_with fail
  refine (In_any _ _ _ _).mono ?_
  rintro e w' ⟨rfl, rfl⟩
  rw [HB1.out]
  cases z1
  ·
   go_wp2
   go_ret
   exact ⟨ret_bool HR.out.symm, hb1⟩
  ·
   go_wp2_with fail
   refine (In_any _ _ _ _).mono ?_
   rintro e w' ⟨rfl, rfl⟩
   rw [HB2.out]
   cases z2
   ·
    go_wp2
    go_ret
    exact ⟨ret_bool HR.out.symm, hb1⟩
   ·
    go_wp2_with fail
    refine (In_any _ _ _ _).mono ?_
    rintro e w' ⟨rfl, rfl⟩
    rw [HB3.out]
    cases z3
    ·
     go_wp2
     go_ret
     exact ⟨ret_bool HR.out.symm, hb1⟩
    ·
     go_wp2_with fail
     refine (In_any _ _ _ _).mono ?_
     rintro e w' ⟨rfl, rfl⟩
     rw [HB4.out]
     cases z4
     ·
      go_wp2
      go_ret
      exact ⟨ret_bool HR.out.symm, hb1⟩
     ·
      go_wp2_with fail
      refine (In_any _ _ _ _).mono ?_
      rintro e w' ⟨rfl, rfl⟩
      rw [HB5.out]
      cases z5
      ·
       go_wp2
       go_ret
       exact ⟨ret_bool HR.out.symm, hb1⟩
      ·
       go_wp2_with fail
       refine (In_any _ _ _ _).mono ?_
       rintro e w' ⟨rfl, rfl⟩
       rw [HB6.out]
       go_wp2
       go_ret
       exact ⟨ret_bool HR.out.symm, hb1⟩


end Go.Proofs.YtkaogjhnogkcdaaGreat
end

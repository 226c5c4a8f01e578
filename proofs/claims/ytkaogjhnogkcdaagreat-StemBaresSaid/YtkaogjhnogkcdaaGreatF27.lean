/- Stem's law: ends (walk). · Stem's law: lives (walk). · Stem (plain): what Correct and Accept tell when a reading is asked rightly. · The law StemBares (walk). -/
import Derived.Deep.LoopGhost
import Derived.Test.YtkaogjhnogkcdaaGreatF21
import Derived.Test.YtkaogjhnogkcdaaGreatF10
import Derived.Test.YtkaogjhnogkcdaaGreatF13
import Derived.Test.YtkaogjhnogkcdaaGreatF12
import Derived.Test.YtkaogjhnogkcdaaGreatF19
import Derived.Test.YtkaogjhnogkcdaaGreatF26
set_option linter.unusedVariables false
set_option linter.unusedSimpArgs false
set_option linter.unusedSectionVars false
section
namespace Go.Proofs.YtkaogjhnogkcdaaGreat
open Go.RowKit
attribute [local go_sem] Ex.cell? Ex.frozen?

theorem endOf_yes {r : Rg} {n : Nat} (h : n % 2 = 1) : endOf r n = r.hi := by unfold endOf; rw [if_neg (by omega)]
theorem endOf_no {r : Rg} {n : Nat} (h : ¬ n % 2 = 1) : endOf r n = r.lo := by unfold endOf; rw [if_pos (by omega)]
set_option maxRecDepth 100000 in
set_option maxHeartbeats 6400000 in
theorem sl_ends (t : Tb) (Ab Ad : Option Addr) (cb cd : Nat) (r : Rd) (w : World) (ht : TbBd t) (hr : RdBd r) :
  Calls Tryz.prog 25 #[.agg #[.int .i64 t.g.base, .slice Ab t.g.bands.length cb, .slice Ad t.g.depths.length cd, .int .i64 t.g.blo, .int .i64 t.g.bhi, .int .i64 t.k.lo, .int .i64 t.k.hi, .int .i64 t.lag.lo, .int .i64 t.lag.hi, .int .i64 t.sq.lo, .int .i64 t.sq.hi, .int .i64 t.term], .agg #[.int .i64 r.day, .int .i64 r.shown, .int .i64 r.err, .int .i64 r.bare, .int .i64 r.air.lo, .int .i64 r.air.hi, .int .i64 r.rate.lo, .int .i64 r.rate.hi, .int .i64 r.deep, .bool r.broken]] w fun e w' => e = .returned (.agg #[.int .i64 (bndP t r).lo, .int .i64 (bndP t r).hi]) ∧ Below w.heap.size w w' := by
 go_enter Tryz.func25, Tryz.ntmps25
 go_upto_region 1 with fail
 show Code.wp _ _ _ _ _
 refine box3 (K := fun V => Code.wp _ _ _ _ V) ?_
 intro V hb1 q1 q2 q3
 obtain ⟨pq1, hpq1⟩ : ∃ p, w.heap.size = p := ⟨_, rfl⟩
 obtain ⟨pq2, hpq2⟩ : ∃ p, w.heap.size + 1 = p := ⟨_, rfl⟩
 obtain ⟨pq3, hpq3⟩ : ∃ p, w.heap.size + 1 + 1 = p := ⟨_, rfl⟩
 rw [hpq3] at q3 ⊢
 rw [hpq2] at q2 ⊢
 rw [hpq1] at q1 ⊢
 have hp1 : w.heap.size ≤ pq1 := by omega
 have hp2 : w.heap.size ≤ pq2 := by omega
 have hp3 : w.heap.size ≤ pq3 := by omega
 clear hpq1 hpq2 hpq3
 have NG := ex_alloc (Below.refl V.heap.size V) (.cells #[.int .i64 1073741824, .int .i64 (-1073741824)] 25)
 have q5 : Blk (V.alloc (.cells #[.int .i64 1073741824, .int .i64 (-1073741824)] 25)) V.heap.size 25 #[.int .i64 1073741824, .int .i64 (-1073741824)] := Blk.new _ _ _
 have lt_q1 := q1.lt
 have lt_q2 := q2.lt
 have lt_q3 := q3.lt
 go_upto_region 3 with fail
 obtain ⟨p5, hp5'⟩ : ∃ p, V.heap.size = p := ⟨_, rfl⟩
 rw [hp5'] at q5 lt_q1 lt_q2 lt_q3 ⊢
 have zp5 : w.heap.size ≤ p5 := by have := hb1.size; omega
 clear hp5'
 have nq1_p5 : pq1 ≠ p5 := by omega
 clear lt_q1
 have nq2_p5 : pq2 ≠ p5 := by omega
 clear lt_q2
 have nq3_p5 : pq3 ≠ p5 := by omega
 clear lt_q3
 replace q1 := q1.below NG q1.lt
 replace q2 := q2.below NG q2.lt
 replace q3 := q3.below NG q3.lt
 have B_V1 := ex_trans hb1 NG
 clear NG
 generalize V.alloc (.cells #[.int .i64 1073741824, .int .i64 (-1073741824)] 25) = V1 at *
 refine wp_loop (fun a wr => ∃ b : Nat, b ≤ 32 ∧ Below w.heap.size w wr ∧ Blk wr pq1 29 #[.int .i64 t.g.base, .slice Ab t.g.bands.length cb, .slice Ad t.g.depths.length cd, .int .i64 t.g.blo, .int .i64 t.g.bhi, .int .i64 t.k.lo, .int .i64 t.k.hi, .int .i64 t.lag.lo, .int .i64 t.lag.hi, .int .i64 t.sq.lo, .int .i64 t.sq.hi, .int .i64 t.term] ∧ Blk wr pq2 33 #[.int .i64 r.day, .int .i64 r.shown, .int .i64 r.err, .int .i64 r.bare, .int .i64 r.air.lo, .int .i64 r.air.hi, .int .i64 r.rate.lo, .int .i64 r.rate.hi, .int .i64 r.deep, .bool r.broken] ∧ Blk wr pq3 25 #[.int .i64 0, .int .i64 0] ∧ Blk wr p5 25 #[.int .i64 (corTo t r b).lo, .int .i64 (corTo t r b).hi] ∧ ∃ u : Nat → Value, a = ⟨List.toArray (u 0 :: u 1 :: .pointer (some ⟨pq1, 0, none⟩) :: .pointer (some ⟨pq2, 0, none⟩) :: .pointer (some ⟨pq3, 0, none⟩) :: .pointer (some ⟨p5, 0, none⟩) :: .int .i64 (b : Int) :: u 7 :: u 8 :: u 9 :: u 10 :: u 11 :: u 12 :: u 13 :: u 14 :: u 15 :: u 16 :: u 17 :: u 18 :: u 19 :: u 20 :: u 21 :: u 22 :: u 23 :: u 24 :: u 25 :: u 26 :: u 27 :: u 28 :: u 29 :: u 30 :: u 31 :: u 32 :: u 33 :: u 34 :: u 35 :: u 36 :: u 37 :: u 38 :: u 39 :: u 40 :: u 41 :: u 42 :: u 43 :: u 44 :: u 45 :: u 46 :: u 47 :: u 48 :: u 49 :: u 50 :: u 51 :: u 52 :: u 53 :: u 54 :: u 55 :: u 56 :: u 57 :: u 58 :: u 59 :: u 60 :: u 61 :: u 62 :: u 63 :: u 64 :: u 65 :: u 66 :: u 67 :: u 68 :: u 69 :: u 70 :: u 71 :: u 72 :: u 73 :: u 74 :: u 75 :: u 76 :: u 77 :: u 78 :: u 79 :: u 80 :: u 81 :: u 82 :: u 83 :: u 84 :: u 85 :: u 86 :: u 87 :: []), []⟩) (fun a _ => 32 - (intOf (a.tmps.getD 6 undef)).toNat) ⟨0, by omega, B_V1, q1, q2, q3, q5, exFrame (by kernel_rfl)⟩ ?_
 rintro a wr ⟨b, hb, hbl, r1, r2, r3, r5, u, rfl⟩
 clear q1 q2 q3 q5 B_V1
 have q1 := r1
 have q2 := r2
 have q3 := r3
 have q5 := r5
 clear r1 r2 r3 r5
 by_cases hlt : b < 32
 ·
  have a5 := q1.cell 5
  have a7 := q1.cell 7
  have a9 := q1.cell 9
  have la := q1.lt
  simp at a5 a7 a9
  have b4 := q2.cell 4
  have b6 := q2.cell 6
  have lb := q2.lt
  simp at b4 b6
  have NG := ex_alloc (Below.refl wr.heap.size wr) (.cells #[.int .i64 0, .int .i64 t.k.lo, .int .i64 t.lag.lo, .int .i64 t.sq.lo, .int .i64 r.air.lo, .int .i64 r.rate.lo, .int .i64 0] 82)
  have q7 : Blk (wr.alloc (.cells #[.int .i64 0, .int .i64 t.k.lo, .int .i64 t.lag.lo, .int .i64 t.sq.lo, .int .i64 r.air.lo, .int .i64 r.rate.lo, .int .i64 0] 82)) wr.heap.size 82 #[.int .i64 0, .int .i64 t.k.lo, .int .i64 t.lag.lo, .int .i64 t.sq.lo, .int .i64 r.air.lo, .int .i64 r.rate.lo, .int .i64 0] := Blk.new _ _ _
  have lt_q1 := q1.lt
  have lt_q2 := q2.lt
  have lt_q3 := q3.lt
  have lt_q5 := q5.lt
  go_upto_region 6 with fail
  clear a5 a7 a9 la b4 b6 lb
  obtain ⟨p7, hp7'⟩ : ∃ p, wr.heap.size = p := ⟨_, rfl⟩
  rw [hp7'] at q7 lt_q1 lt_q2 lt_q3 lt_q5 ⊢
  have zp7 : w.heap.size ≤ p7 := by have := hbl.size; omega
  clear hp7'
  have nq1_p7 : pq1 ≠ p7 := by omega
  clear lt_q1
  have nq2_p7 : pq2 ≠ p7 := by omega
  clear lt_q2
  have nq3_p7 : pq3 ≠ p7 := by omega
  clear lt_q3
  have nq5_p7 : p5 ≠ p7 := by omega
  clear lt_q5
  replace q1 := q1.below NG q1.lt
  replace q2 := q2.below NG q2.lt
  replace q3 := q3.below NG q3.lt
  replace q5 := q5.below NG q5.lt
  have B_V2 := ex_trans hbl NG
  clear NG
  generalize wr.alloc (.cells #[.int .i64 0, .int .i64 t.k.lo, .int .i64 t.lag.lo, .int .i64 t.sq.lo, .int .i64 r.air.lo, .int .i64 r.rate.lo, .int .i64 0] 82) = V2 at *
  have hb32 := hlt
  clear hlt
  rename_i K1 hK1 K2 hK2
  have hrest6 : ∀ (V3 : World) (a : Act), Below w.heap.size w V3 → Blk V3 pq1 29 #[.int .i64 t.g.base, .slice Ab t.g.bands.length cb, .slice Ad t.g.depths.length cd, .int .i64 t.g.blo, .int .i64 t.g.bhi, .int .i64 t.k.lo, .int .i64 t.k.hi, .int .i64 t.lag.lo, .int .i64 t.lag.hi, .int .i64 t.sq.lo, .int .i64 t.sq.hi, .int .i64 t.term] → Blk V3 pq2 33 #[.int .i64 r.day, .int .i64 r.shown, .int .i64 r.err, .int .i64 r.bare, .int .i64 r.air.lo, .int .i64 r.air.hi, .int .i64 r.rate.lo, .int .i64 r.rate.hi, .int .i64 r.deep, .bool r.broken] → Blk V3 pq3 25 #[.int .i64 0, .int .i64 0] → Blk V3 p5 25 #[.int .i64 (corTo t r b).lo, .int .i64 (corTo t r b).hi] → Blk V3 p7 82 #[.int .i64 0, .int .i64 (endOf t.k b), .int .i64 t.lag.lo, .int .i64 t.sq.lo, .int .i64 r.air.lo, .int .i64 r.rate.lo, .int .i64 0] → (∃ u : Nat → Value, a = ⟨List.toArray (u 0 :: u 1 :: .pointer (some ⟨pq1, 0, none⟩) :: .pointer (some ⟨pq2, 0, none⟩) :: .pointer (some ⟨pq3, 0, none⟩) :: .pointer (some ⟨p5, 0, none⟩) :: .int .i64 (b : Int) :: .pointer (some ⟨p7, 0, none⟩) :: u 8 :: u 9 :: u 10 :: u 11 :: u 12 :: u 13 :: u 14 :: u 15 :: u 16 :: u 17 :: u 18 :: u 19 :: u 20 :: u 21 :: u 22 :: u 23 :: u 24 :: u 25 :: u 26 :: u 27 :: u 28 :: u 29 :: u 30 :: u 31 :: u 32 :: u 33 :: u 34 :: u 35 :: u 36 :: u 37 :: u 38 :: u 39 :: u 40 :: u 41 :: u 42 :: u 43 :: u 44 :: u 45 :: u 46 :: u 47 :: u 48 :: u 49 :: u 50 :: u 51 :: u 52 :: u 53 :: u 54 :: u 55 :: u 56 :: u 57 :: u 58 :: u 59 :: u 60 :: u 61 :: u 62 :: u 63 :: u 64 :: u 65 :: u 66 :: u 67 :: u 68 :: u 69 :: u 70 :: u 71 :: u 72 :: u 73 :: u 74 :: u 75 :: u 76 :: u 77 :: u 78 :: u 79 :: u 80 :: u 81 :: u 82 :: u 83 :: u 84 :: u 85 :: u 86 :: u 87 :: []), []⟩) → K1 a V3 := by
   clear q1 q2 q3 q5 q7 B_V2
   rintro V3 a hbl q1 q2 q3 q5 q7 ⟨u, rfl⟩
   refine hK1 _ _ ?_
   clear hK1 hK2 K1 K2
   go_upto_region 8 with fail
   rename_i K1 hK1 K2 hK2
   have hrest8 : ∀ (V4 : World) (a : Act), Below w.heap.size w V4 → Blk V4 pq1 29 #[.int .i64 t.g.base, .slice Ab t.g.bands.length cb, .slice Ad t.g.depths.length cd, .int .i64 t.g.blo, .int .i64 t.g.bhi, .int .i64 t.k.lo, .int .i64 t.k.hi, .int .i64 t.lag.lo, .int .i64 t.lag.hi, .int .i64 t.sq.lo, .int .i64 t.sq.hi, .int .i64 t.term] → Blk V4 pq2 33 #[.int .i64 r.day, .int .i64 r.shown, .int .i64 r.err, .int .i64 r.bare, .int .i64 r.air.lo, .int .i64 r.air.hi, .int .i64 r.rate.lo, .int .i64 r.rate.hi, .int .i64 r.deep, .bool r.broken] → Blk V4 pq3 25 #[.int .i64 0, .int .i64 0] → Blk V4 p5 25 #[.int .i64 (corTo t r b).lo, .int .i64 (corTo t r b).hi] → Blk V4 p7 82 #[.int .i64 0, .int .i64 (endOf t.k b), .int .i64 (endOf t.lag (b / 2)), .int .i64 t.sq.lo, .int .i64 r.air.lo, .int .i64 r.rate.lo, .int .i64 0] → (∃ u : Nat → Value, a = ⟨List.toArray (u 0 :: u 1 :: .pointer (some ⟨pq1, 0, none⟩) :: .pointer (some ⟨pq2, 0, none⟩) :: .pointer (some ⟨pq3, 0, none⟩) :: .pointer (some ⟨p5, 0, none⟩) :: .int .i64 (b : Int) :: .pointer (some ⟨p7, 0, none⟩) :: u 8 :: u 9 :: u 10 :: u 11 :: u 12 :: u 13 :: u 14 :: u 15 :: u 16 :: u 17 :: u 18 :: u 19 :: u 20 :: u 21 :: u 22 :: u 23 :: u 24 :: u 25 :: u 26 :: u 27 :: u 28 :: u 29 :: u 30 :: u 31 :: u 32 :: u 33 :: u 34 :: u 35 :: u 36 :: u 37 :: u 38 :: u 39 :: u 40 :: u 41 :: u 42 :: u 43 :: u 44 :: u 45 :: u 46 :: u 47 :: u 48 :: u 49 :: u 50 :: u 51 :: u 52 :: u 53 :: u 54 :: u 55 :: u 56 :: u 57 :: u 58 :: u 59 :: u 60 :: u 61 :: u 62 :: u 63 :: u 64 :: u 65 :: u 66 :: u 67 :: u 68 :: u 69 :: u 70 :: u 71 :: u 72 :: u 73 :: u 74 :: u 75 :: u 76 :: u 77 :: u 78 :: u 79 :: u 80 :: u 81 :: u 82 :: u 83 :: u 84 :: u 85 :: u 86 :: u 87 :: []), []⟩) → K1 a V4 := by
    clear q1 q2 q3 q5 q7 hbl
    rintro V4 a hbl q1 q2 q3 q5 q7 ⟨u, rfl⟩
    refine hK1 _ _ ?_
    clear hK1 hK2 K1 K2
    go_upto_region 10 with fail
    rename_i K1 hK1 K2 hK2
    have hrest10 : ∀ (V5 : World) (a : Act), Below w.heap.size w V5 → Blk V5 pq1 29 #[.int .i64 t.g.base, .slice Ab t.g.bands.length cb, .slice Ad t.g.depths.length cd, .int .i64 t.g.blo, .int .i64 t.g.bhi, .int .i64 t.k.lo, .int .i64 t.k.hi, .int .i64 t.lag.lo, .int .i64 t.lag.hi, .int .i64 t.sq.lo, .int .i64 t.sq.hi, .int .i64 t.term] → Blk V5 pq2 33 #[.int .i64 r.day, .int .i64 r.shown, .int .i64 r.err, .int .i64 r.bare, .int .i64 r.air.lo, .int .i64 r.air.hi, .int .i64 r.rate.lo, .int .i64 r.rate.hi, .int .i64 r.deep, .bool r.broken] → Blk V5 pq3 25 #[.int .i64 0, .int .i64 0] → Blk V5 p5 25 #[.int .i64 (corTo t r b).lo, .int .i64 (corTo t r b).hi] → Blk V5 p7 82 #[.int .i64 0, .int .i64 (endOf t.k b), .int .i64 (endOf t.lag (b / 2)), .int .i64 (endOf t.sq (b / 4)), .int .i64 r.air.lo, .int .i64 r.rate.lo, .int .i64 0] → (∃ u : Nat → Value, a = ⟨List.toArray (u 0 :: u 1 :: .pointer (some ⟨pq1, 0, none⟩) :: .pointer (some ⟨pq2, 0, none⟩) :: .pointer (some ⟨pq3, 0, none⟩) :: .pointer (some ⟨p5, 0, none⟩) :: .int .i64 (b : Int) :: .pointer (some ⟨p7, 0, none⟩) :: u 8 :: u 9 :: u 10 :: u 11 :: u 12 :: u 13 :: u 14 :: u 15 :: u 16 :: u 17 :: u 18 :: u 19 :: u 20 :: u 21 :: u 22 :: u 23 :: u 24 :: u 25 :: u 26 :: u 27 :: u 28 :: u 29 :: u 30 :: u 31 :: u 32 :: u 33 :: u 34 :: u 35 :: u 36 :: u 37 :: u 38 :: u 39 :: u 40 :: u 41 :: u 42 :: u 43 :: u 44 :: u 45 :: u 46 :: u 47 :: u 48 :: u 49 :: u 50 :: u 51 :: u 52 :: u 53 :: u 54 :: u 55 :: u 56 :: u 57 :: u 58 :: u 59 :: u 60 :: u 61 :: u 62 :: u 63 :: u 64 :: u 65 :: u 66 :: u 67 :: u 68 :: u 69 :: u 70 :: u 71 :: u 72 :: u 73 :: u 74 :: u 75 :: u 76 :: u 77 :: u 78 :: u 79 :: u 80 :: u 81 :: u 82 :: u 83 :: u 84 :: u 85 :: u 86 :: u 87 :: []), []⟩) → K1 a V5 := by
     clear q1 q2 q3 q5 q7 hbl
     rintro V5 a hbl q1 q2 q3 q5 q7 ⟨u, rfl⟩
     refine hK1 _ _ ?_
     clear hK1 hK2 K1 K2
     go_upto_region 12 with fail
     rename_i K1 hK1 K2 hK2
     have hrest12 : ∀ (V6 : World) (a : Act), Below w.heap.size w V6 → Blk V6 pq1 29 #[.int .i64 t.g.base, .slice Ab t.g.bands.length cb, .slice Ad t.g.depths.length cd, .int .i64 t.g.blo, .int .i64 t.g.bhi, .int .i64 t.k.lo, .int .i64 t.k.hi, .int .i64 t.lag.lo, .int .i64 t.lag.hi, .int .i64 t.sq.lo, .int .i64 t.sq.hi, .int .i64 t.term] → Blk V6 pq2 33 #[.int .i64 r.day, .int .i64 r.shown, .int .i64 r.err, .int .i64 r.bare, .int .i64 r.air.lo, .int .i64 r.air.hi, .int .i64 r.rate.lo, .int .i64 r.rate.hi, .int .i64 r.deep, .bool r.broken] → Blk V6 pq3 25 #[.int .i64 0, .int .i64 0] → Blk V6 p5 25 #[.int .i64 (corTo t r b).lo, .int .i64 (corTo t r b).hi] → Blk V6 p7 82 #[.int .i64 0, .int .i64 (endOf t.k b), .int .i64 (endOf t.lag (b / 2)), .int .i64 (endOf t.sq (b / 4)), .int .i64 (endOf r.air (b / 8)), .int .i64 r.rate.lo, .int .i64 0] → (∃ u : Nat → Value, a = ⟨List.toArray (u 0 :: u 1 :: .pointer (some ⟨pq1, 0, none⟩) :: .pointer (some ⟨pq2, 0, none⟩) :: .pointer (some ⟨pq3, 0, none⟩) :: .pointer (some ⟨p5, 0, none⟩) :: .int .i64 (b : Int) :: .pointer (some ⟨p7, 0, none⟩) :: u 8 :: u 9 :: u 10 :: u 11 :: u 12 :: u 13 :: u 14 :: u 15 :: u 16 :: u 17 :: u 18 :: u 19 :: u 20 :: u 21 :: u 22 :: u 23 :: u 24 :: u 25 :: u 26 :: u 27 :: u 28 :: u 29 :: u 30 :: u 31 :: u 32 :: u 33 :: u 34 :: u 35 :: u 36 :: u 37 :: u 38 :: u 39 :: u 40 :: u 41 :: u 42 :: u 43 :: u 44 :: u 45 :: u 46 :: u 47 :: u 48 :: u 49 :: u 50 :: u 51 :: u 52 :: u 53 :: u 54 :: u 55 :: u 56 :: u 57 :: u 58 :: u 59 :: u 60 :: u 61 :: u 62 :: u 63 :: u 64 :: u 65 :: u 66 :: u 67 :: u 68 :: u 69 :: u 70 :: u 71 :: u 72 :: u 73 :: u 74 :: u 75 :: u 76 :: u 77 :: u 78 :: u 79 :: u 80 :: u 81 :: u 82 :: u 83 :: u 84 :: u 85 :: u 86 :: u 87 :: []), []⟩) → K1 a V6 := by
      clear q1 q2 q3 q5 q7 hbl
      rintro V6 a hbl q1 q2 q3 q5 q7 ⟨u, rfl⟩
      refine hK1 _ _ ?_
      clear hK1 hK2 K1 K2
      go_upto_region 14 with fail
      rename_i K1 hK1 K2 hK2
      have hrest14 : ∀ (V7 : World) (a : Act), Below w.heap.size w V7 → Blk V7 pq1 29 #[.int .i64 t.g.base, .slice Ab t.g.bands.length cb, .slice Ad t.g.depths.length cd, .int .i64 t.g.blo, .int .i64 t.g.bhi, .int .i64 t.k.lo, .int .i64 t.k.hi, .int .i64 t.lag.lo, .int .i64 t.lag.hi, .int .i64 t.sq.lo, .int .i64 t.sq.hi, .int .i64 t.term] → Blk V7 pq2 33 #[.int .i64 r.day, .int .i64 r.shown, .int .i64 r.err, .int .i64 r.bare, .int .i64 r.air.lo, .int .i64 r.air.hi, .int .i64 r.rate.lo, .int .i64 r.rate.hi, .int .i64 r.deep, .bool r.broken] → Blk V7 pq3 25 #[.int .i64 0, .int .i64 0] → Blk V7 p5 25 #[.int .i64 (corTo t r b).lo, .int .i64 (corTo t r b).hi] → Blk V7 p7 82 #[.int .i64 0, .int .i64 (endOf t.k b), .int .i64 (endOf t.lag (b / 2)), .int .i64 (endOf t.sq (b / 4)), .int .i64 (endOf r.air (b / 8)), .int .i64 (endOf r.rate (b / 16)), .int .i64 0] → (∃ u : Nat → Value, a = ⟨List.toArray (u 0 :: u 1 :: .pointer (some ⟨pq1, 0, none⟩) :: .pointer (some ⟨pq2, 0, none⟩) :: .pointer (some ⟨pq3, 0, none⟩) :: .pointer (some ⟨p5, 0, none⟩) :: .int .i64 (b : Int) :: .pointer (some ⟨p7, 0, none⟩) :: u 8 :: u 9 :: u 10 :: u 11 :: u 12 :: u 13 :: u 14 :: u 15 :: u 16 :: u 17 :: u 18 :: u 19 :: u 20 :: u 21 :: u 22 :: u 23 :: u 24 :: u 25 :: u 26 :: u 27 :: u 28 :: u 29 :: u 30 :: u 31 :: u 32 :: u 33 :: u 34 :: u 35 :: u 36 :: u 37 :: u 38 :: u 39 :: u 40 :: u 41 :: u 42 :: u 43 :: u 44 :: u 45 :: u 46 :: u 47 :: u 48 :: u 49 :: u 50 :: u 51 :: u 52 :: u 53 :: u 54 :: u 55 :: u 56 :: u 57 :: u 58 :: u 59 :: u 60 :: u 61 :: u 62 :: u 63 :: u 64 :: u 65 :: u 66 :: u 67 :: u 68 :: u 69 :: u 70 :: u 71 :: u 72 :: u 73 :: u 74 :: u 75 :: u 76 :: u 77 :: u 78 :: u 79 :: u 80 :: u 81 :: u 82 :: u 83 :: u 84 :: u 85 :: u 86 :: u 87 :: []), []⟩) → K1 a V7 := by
       clear q1 q2 q3 q5 q7 hbl
       rintro V7 a hbl q1 q2 q3 q5 q7 ⟨u, rfl⟩
       refine hK1 _ _ ?_
       clear hK1 hK2 K1 K2
       have hq : KiBd (Tx.ki (⟨0, endOf t.k b, endOf t.lag (b / 2), endOf t.sq (b / 4), endOf r.air (b / 8), endOf r.rate (b / 16), 0⟩ : Tx)) := (corK_in ht b).bd ht
       have hpb := corP_bd ht hr b
       have HE : Hid (playW r (⟨0, endOf t.k b, endOf t.lag (b / 2), endOf t.sq (b / 4), endOf r.air (b / 8), endOf r.rate (b / 16), 0⟩ : Tx) = corP t r b) := Lib.hid (by unfold playW corP corK Tx.ki; simp only [Int.sub_zero])
       have HC : Hid (corTo t r (b + 1) = ⟨min (corTo t r b).lo (corP t r b - r.err), max (corTo t r b).hi (corP t r b + r.err)⟩) := Lib.hid rfl
       have hcb := corTo_bd ht hr b
       have her := hr.err
       have ha := hr.air
       have hra := hr.rate
       go_wp2_with (refine pause_at 69 rfl ?_)
       refine Paused.mk ?_
       refine wpList_load_row rfl 33 _ rfl _ rfl 33 _ (0, 0) _ (q2) Tryz.underlying33 rfl (by kernel_rfl) ?_
       go_wp2_with (refine pause_at 70 rfl ?_)
       refine Paused.mk ?_
       refine wpList_load_row rfl 82 _ rfl _ rfl 82 _ (0, 0) _ (q7) Tryz.underlying82 rfl (by kernel_rfl) ?_
       go_wp2_with fail
       refine (sr_play r (⟨0, endOf t.k b, endOf t.lag (b / 2), endOf t.sq (b / 4), endOf r.air (b / 8), endOf r.rate (b / 16), 0⟩ : Tx) _ hr hq (by rcases endOf_or r.air (b / 8) with h | h <;> simp only [h] <;> omega) (by rcases endOf_or r.rate (b / 16) with h | h <;> simp only [h] <;> omega) (by simp only; omega) (by simp only; omega)).mono ?_
       rintro e V8 ⟨rfl, hV8⟩
       replace q1 := q1.below hV8 q1.lt
       replace q2 := q2.below hV8 q2.lt
       replace q3 := q3.below hV8 q3.lt
       replace q5 := q5.below hV8 q5.lt
       replace q7 := q7.below hV8 q7.lt
       have B_V8 := ex_trans hbl hV8
       rw [HE.out]
       generalize corP t r b = n at *
       generalize corTo t r b = o at *
       clear hq ha hra q7
       have b2 : V8.cell? ⟨pq2, 2, none⟩ = some (.int .i64 r.err) := q2.cell 2
       have lb := q2.lt
       have u0 := q5.cell 0
       have u1 := q5.cell 1
       have fu := q5.frozen0
       have lu := q5.lt
       simp at u0 u1
       have m5 := (q5.set_ 0 (.int .i64 (min o.lo (n - r.err)))).set_ 1 (.int .i64 (max o.hi (n + r.err)))
       simp only [List.setIfInBounds_toArray, List.set_cons_zero, List.set_cons_succ] at m5
       have mq1 := (q1.far (p := ⟨p5, 0, none⟩) nq1_p5 (.int .i64 (min o.lo (n - r.err)))).far (p := ⟨p5, 1, none⟩) nq1_p5 (.int .i64 (max o.hi (n + r.err)))
       have mq2 := (q2.far (p := ⟨p5, 0, none⟩) nq2_p5 (.int .i64 (min o.lo (n - r.err)))).far (p := ⟨p5, 1, none⟩) nq2_p5 (.int .i64 (max o.hi (n + r.err)))
       have mq3 := (q3.far (p := ⟨p5, 0, none⟩) nq3_p5 (.int .i64 (min o.lo (n - r.err)))).far (p := ⟨p5, 1, none⟩) nq3_p5 (.int .i64 (max o.hi (n + r.err)))
       have mB := ex_set (p := ⟨p5, 1, none⟩) (ex_set (p := ⟨p5, 0, none⟩) B_V8 zp5 (.int .i64 (min o.lo (n - r.err)))) zp5 (.int .i64 (max o.hi (n + r.err)))
       go_wp2
       refine ⟨⟨b + 1, by omega, mB, mq1, mq2, mq3, by rw [HC.out]; exact m5, exFrame (by kernel_rfl)⟩, ?_⟩
       show 32 - (intOf (.int .i64 ((b : Int) + 1))).toNat < 32 - (intOf (.int .i64 (b : Int))).toNat
       simp [intOf]
       omega
      clear hK1
      by_cases hbit : (b / 16) % 2 = 1
      ·
       have e1 : ((b : Int) / 16 % 2 == 1) = true := by rw [beq_iff_eq]; omega
       rw [endOf_yes hbit] at hrest14
       have c1 := q2.cell 7
       have lc := q2.lt
       have d1 := q7.cell 5
       have f7 := q7.frozen0
       have l7 := q7.lt
       simp at c1 d1
       go_wp2_with fail
       refine hrest14 _ _ (ex_set (p := ⟨p7, 5, none⟩) hbl zp7 (.int .i64 r.rate.hi)) (q1.far (p := ⟨p7, 5, none⟩) nq1_p7 (.int .i64 r.rate.hi)) (q2.far (p := ⟨p7, 5, none⟩) nq2_p7 (.int .i64 r.rate.hi)) (q3.far (p := ⟨p7, 5, none⟩) nq3_p7 (.int .i64 r.rate.hi)) (q5.far (p := ⟨p7, 5, none⟩) nq5_p7 (.int .i64 r.rate.hi)) ?_ (exFrame (by kernel_rfl))
       have m7 := q7.set_ 5 (.int .i64 r.rate.hi)
       simp only [List.setIfInBounds_toArray, List.set_cons_zero, List.set_cons_succ] at m7
       exact m7
      ·
       have e1 : ((b : Int) / 16 % 2 == 1) = false := by rw [beq_eq_false_iff_ne]; omega
       rw [endOf_no hbit] at hrest14
       go_wp2_with fail
       exact hrest14 _ _ hbl q1 q2 q3 q5 q7 (exFrame (by kernel_rfl))
     clear hK1
     by_cases hbit : (b / 8) % 2 = 1
     ·
      have e1 : ((b : Int) / 8 % 2 == 1) = true := by rw [beq_iff_eq]; omega
      rw [endOf_yes hbit] at hrest12
      have c1 := q2.cell 5
      have lc := q2.lt
      have d1 := q7.cell 4
      have f7 := q7.frozen0
      have l7 := q7.lt
      simp at c1 d1
      go_wp2_with fail
      refine hrest12 _ _ (ex_set (p := ⟨p7, 4, none⟩) hbl zp7 (.int .i64 r.air.hi)) (q1.far (p := ⟨p7, 4, none⟩) nq1_p7 (.int .i64 r.air.hi)) (q2.far (p := ⟨p7, 4, none⟩) nq2_p7 (.int .i64 r.air.hi)) (q3.far (p := ⟨p7, 4, none⟩) nq3_p7 (.int .i64 r.air.hi)) (q5.far (p := ⟨p7, 4, none⟩) nq5_p7 (.int .i64 r.air.hi)) ?_ (exFrame (by kernel_rfl))
      have m7 := q7.set_ 4 (.int .i64 r.air.hi)
      simp only [List.setIfInBounds_toArray, List.set_cons_zero, List.set_cons_succ] at m7
      exact m7
     ·
      have e1 : ((b : Int) / 8 % 2 == 1) = false := by rw [beq_eq_false_iff_ne]; omega
      rw [endOf_no hbit] at hrest12
      go_wp2_with fail
      exact hrest12 _ _ hbl q1 q2 q3 q5 q7 (exFrame (by kernel_rfl))
    clear hK1
    by_cases hbit : (b / 4) % 2 = 1
    ·
     have e1 : ((b : Int) / 4 % 2 == 1) = true := by rw [beq_iff_eq]; omega
     rw [endOf_yes hbit] at hrest10
     have c1 := q1.cell 10
     have lc := q1.lt
     have d1 := q7.cell 3
     have f7 := q7.frozen0
     have l7 := q7.lt
     simp at c1 d1
     go_wp2_with fail
     refine hrest10 _ _ (ex_set (p := ⟨p7, 3, none⟩) hbl zp7 (.int .i64 t.sq.hi)) (q1.far (p := ⟨p7, 3, none⟩) nq1_p7 (.int .i64 t.sq.hi)) (q2.far (p := ⟨p7, 3, none⟩) nq2_p7 (.int .i64 t.sq.hi)) (q3.far (p := ⟨p7, 3, none⟩) nq3_p7 (.int .i64 t.sq.hi)) (q5.far (p := ⟨p7, 3, none⟩) nq5_p7 (.int .i64 t.sq.hi)) ?_ (exFrame (by kernel_rfl))
     have m7 := q7.set_ 3 (.int .i64 t.sq.hi)
     simp only [List.setIfInBounds_toArray, List.set_cons_zero, List.set_cons_succ] at m7
     exact m7
    ·
     have e1 : ((b : Int) / 4 % 2 == 1) = false := by rw [beq_eq_false_iff_ne]; omega
     rw [endOf_no hbit] at hrest10
     go_wp2_with fail
     exact hrest10 _ _ hbl q1 q2 q3 q5 q7 (exFrame (by kernel_rfl))
   clear hK1
   by_cases hbit : (b / 2) % 2 = 1
   ·
    have e1 : ((b : Int) / 2 % 2 == 1) = true := by rw [beq_iff_eq]; omega
    rw [endOf_yes hbit] at hrest8
    have c1 := q1.cell 8
    have lc := q1.lt
    have d1 := q7.cell 2
    have f7 := q7.frozen0
    have l7 := q7.lt
    simp at c1 d1
    go_wp2_with fail
    refine hrest8 _ _ (ex_set (p := ⟨p7, 2, none⟩) hbl zp7 (.int .i64 t.lag.hi)) (q1.far (p := ⟨p7, 2, none⟩) nq1_p7 (.int .i64 t.lag.hi)) (q2.far (p := ⟨p7, 2, none⟩) nq2_p7 (.int .i64 t.lag.hi)) (q3.far (p := ⟨p7, 2, none⟩) nq3_p7 (.int .i64 t.lag.hi)) (q5.far (p := ⟨p7, 2, none⟩) nq5_p7 (.int .i64 t.lag.hi)) ?_ (exFrame (by kernel_rfl))
    have m7 := q7.set_ 2 (.int .i64 t.lag.hi)
    simp only [List.setIfInBounds_toArray, List.set_cons_zero, List.set_cons_succ] at m7
    exact m7
   ·
    have e1 : ((b : Int) / 2 % 2 == 1) = false := by rw [beq_eq_false_iff_ne]; omega
    rw [endOf_no hbit] at hrest8
    go_wp2_with fail
    exact hrest8 _ _ hbl q1 q2 q3 q5 q7 (exFrame (by kernel_rfl))
  clear hK1
  by_cases hbit : b % 2 = 1
  ·
   have e1 : ((b : Int) % 2 == 1) = true := by rw [beq_iff_eq]; omega
   rw [endOf_yes hbit] at hrest6
   have c1 := q1.cell 6
   have lc := q1.lt
   have d1 := q7.cell 1
   have f7 := q7.frozen0
   have l7 := q7.lt
   simp at c1 d1
   go_wp2_with fail
   refine hrest6 _ _ (ex_set (p := ⟨p7, 1, none⟩) B_V2 zp7 (.int .i64 t.k.hi)) (q1.far (p := ⟨p7, 1, none⟩) nq1_p7 (.int .i64 t.k.hi)) (q2.far (p := ⟨p7, 1, none⟩) nq2_p7 (.int .i64 t.k.hi)) (q3.far (p := ⟨p7, 1, none⟩) nq3_p7 (.int .i64 t.k.hi)) (q5.far (p := ⟨p7, 1, none⟩) nq5_p7 (.int .i64 t.k.hi)) ?_ (exFrame (by kernel_rfl))
   have m7 := q7.set_ 1 (.int .i64 t.k.hi)
   simp only [List.setIfInBounds_toArray, List.set_cons_zero, List.set_cons_succ] at m7
   exact m7
  ·
   have e1 : ((b : Int) % 2 == 1) = false := by rw [beq_eq_false_iff_ne]; omega
   rw [endOf_no hbit] at hrest6
   go_wp2_with fail
   exact hrest6 _ _ B_V2 q1 q2 q3 q5 q7 (exFrame (by kernel_rfl))
 ·
  obtain rfl : b = 32 := by omega
  have HO := Lib.hid (ends_eq ht hr)
  have u0 := q5.cell 0
  have u1 := q5.cell 1
  have lu := q5.lt
  simp at u0 u1
  rw [HO.out] at u0 u1
  clear hlt q5
  generalize hbn : bndP t r = n at *
  have HBN := Lib.hid hbn
  clear hbn
  have r0 := q3.cell 0
  have r1 := q3.cell 1
  have fr := q3.frozen0
  have lr := q3.lt
  simp at r0 r1
  have m3 := (q3.set_ 0 (.int .i64 n.lo)).set_ 1 (.int .i64 n.hi)
  simp only [List.setIfInBounds_toArray, List.set_cons_zero, List.set_cons_succ] at m3
  go_wp2
  refine bodyPost_ret (results_cell_row rfl _ _ _ 25 #[.int .i64 n.lo, .int .i64 n.hi] (0, 0) _ rfl m3 rfl rfl rfl) rfl ?_
  exact ⟨by rw [HBN.out], ex_set (p := ⟨pq3, 1, none⟩) (ex_set (p := ⟨pq3, 0, none⟩) hbl hp3 _) hp3 _⟩


end Go.Proofs.YtkaogjhnogkcdaaGreat
end

section
namespace Go.Proofs.YtkaogjhnogkcdaaGreat
open Go.RowKit
attribute [local go_sem] Ex.cell? Ex.frozen?

structure LivOk (t : Tb) (h : List Rg) (l : List Ic) (zs : List Int) : Prop where
  nb : t.g.bands.length ≤ 5
  nd : t.g.depths.length ≤ 6
  nh : h.length ≤ 20
  l4 : l.length ≤ 4
  use0 : useE t h l = 0
  ag : agreeB t.g h l off0 = true
  ok : Ok t.g h
  tb : TbBd t
  ck : ckTube t = 0
  bd : IcesBd l
  truth : ∃ t1 t2 t3, truthB t.g h t1 t2 t3 = true ∧ zs = playTo t.g t1 t2 t3 h.length ∧ AllOf zs l
structure LivV (t : Tb) (h : List Rg) (w' : World) (e : Ending) : Prop where
  out : (∃ A c n A' c' n', e = .returned (.tuple #[.slice A n c, .slice A' n' c', .bool false])) ∨
    (∃ Ai ci, ∃ l : List Ic, ∃ Az cz, ∃ zs : List Int, e = .returned (.tuple #[.slice Ai l.length ci, .slice Az h.length cz, .bool true]) ∧ LivOk t h l zs ∧ l.length ≤ ci ∧ ci ≤ maxLen ∧
      SlAt w' w'.heap.size 3 Ai l.length (fC l) ∧ SlAt w' w'.heap.size 1 Az h.length (fI zs))
end Go.Proofs.YtkaogjhnogkcdaaGreat
end

section
namespace Go.Proofs.YtkaogjhnogkcdaaGreat
open Go.RowKit
attribute [local go_sem] Ex.cell?

end Go.Proofs.YtkaogjhnogkcdaaGreat
end

section
namespace Go.Proofs.YtkaogjhnogkcdaaGreat
open Go.RowKit
attribute [local go_sem] Ex.cell? Ex.frozen?

def DueIs (f : Int → Bool) (b : Nat) (D : Int) : Prop := (D = -1 ∧ ∀ m : Int, 0 ≤ m → m < b → f m = false) ∨ (0 ≤ D ∧ D < b ∧ f D = true ∧ ∀ m : Int, D < m → m < b → f m = false)
theorem due_0 {f : Int → Bool} : DueIs f 0 (-1) := .inl ⟨rfl, fun m h1 h2 => by omega⟩
theorem due_no {f : Int → Bool} {b : Nat} {D : Int} (h : DueIs f b D) (hf : f b = false) : DueIs f (b + 1) D := by
 rcases h with ⟨h1, h2⟩ | ⟨h1, h2, h3, h4⟩
 ·
  refine .inl ⟨h1, fun m h5 h6 => ?_⟩
  by_cases e : m = b
  ·
   rw [e]; exact hf
  ·
   exact h2 m h5 (by omega)
 ·
  refine .inr ⟨h1, by omega, h3, fun m h5 h6 => ?_⟩
  by_cases e : m = b
  ·
   rw [e]; exact hf
  ·
   exact h4 m h5 (by omega)
theorem due_yes {f : Int → Bool} {b : Nat} (hf : f b = true) : DueIs f (b + 1) b := .inr ⟨by omega, by omega, hf, fun m h1 h2 => by omega⟩
theorem due_bd {f : Int → Bool} {b : Nat} {D : Int} (h : DueIs f b D) : -1 ≤ D ∧ D < 1000000 ∨ 1000000 ≤ (b : Int) := by
 rcases h with ⟨h1, _⟩ | ⟨h1, h2, _⟩ <;> omega
theorem due_much {f : Int → Bool} {D v ev : Int} (h : DueIs f 301 D) (hm : MuchIs f v ev) : (D = -1 ∧ v = 0 ∧ ev = 7) ∨ (0 ≤ D ∧ D ≤ 300 ∧ v = D ∧ ev = 0) := by
 rcases h with ⟨h1, h2⟩ | ⟨h1, h2, h3, h4⟩
 ·
  rcases hm with ⟨n, a, b, c, _⟩ | ⟨_, b, c⟩
  ·
   have := h2 n a (by omega); rw [this] at c; cases c
  ·
   exact .inl ⟨h1, b, c⟩
 ·
  rcases hm with ⟨n, a, b, c, d, e, f'⟩ | ⟨a, _⟩
  ·
   have : n = D := by
    rcases Int.lt_trichotomy n D with hlt | he | hgt
    ·
     have := d D hlt (by omega); rw [this] at h3; cases h3
    ·
     exact he
    ·
     have := h4 n hgt (by omega); rw [this] at c; cases c
   exact .inr ⟨h1, by omega, by rw [e, this], f'⟩
  ·
   have := a D h1 (by omega); rw [this] at h3; cases h3
theorem bar_cases {t : Tb} {h : List Rg} {l : List Ic} {r : Rd} {most v ev : Int} (hb : BarV t h l r most v ev) :
  (askE t h l r ≠ 0 ∧ v = 0 ∧ ev = askE t h l r) ∨ (askE t h l r = 0 ∧ most < 0 ∧ v = 0 ∧ ev = 2) ∨ (askE t h l r = 0 ∧ 0 ≤ most ∧ refE t l r (agreeB t.g h l off0) ≠ 0 ∧ v = 0 ∧ ev = refE t l r (agreeB t.g h l off0)) ∨
  (askE t h l r = 0 ∧ 0 ≤ most ∧ refE t l r (agreeB t.g h l off0) = 0 ∧ ∃ zs, ZsOf t.g h l zs ∧ MuchIs (okN t r (gR zs r.day.toNat) most) v ev) := by
 by_cases ha : askE t h l r = 0
 ·
  by_cases hm : most < 0
  ·
   rcases hb with ⟨_, b, c⟩ | ⟨_, b, _⟩
   ·
    exact .inr (.inl ⟨ha, hm, c, by rw [b, (acc_1 (.inr hm)).1, ha]; rfl⟩)
   ·
    omega
  ·
   by_cases hr : refE t l r (agreeB t.g h l off0) = 0
   ·
    rcases hb with ⟨a, _⟩ | ⟨_, _, _, _, d⟩
    ·
     exact absurd (by rw [acc_2 ha (by omega), hr]) a
    ·
     exact .inr (.inr (.inr ⟨ha, by omega, hr, d⟩))
   ·
    rcases hb with ⟨_, b, c⟩ | ⟨_, _, _, d, _⟩
    ·
     exact .inr (.inr (.inl ⟨ha, by omega, hr, c, by rw [b, acc_2 ha (by omega)]⟩))
    ·
     exact absurd d hr
 ·
  refine .inl ⟨ha, ?_⟩
  have e := (acc_1 (most := most) (.inl ha)).1
  have eb : badE (askE t h l r) = askE t h l r := if_pos ha
  rcases hb with ⟨_, b, c⟩ | ⟨_, _, d, _⟩
  ·
   exact ⟨c, by rw [b, e, eb]⟩
  ·
   exact absurd d ha
theorem okN_dec {t : Tb} {r : Rd} {z : Rg} {most n : Int} : okN t r z most n = decide ((bndP t (rB r n)).hi - (bndP t (rB r n)).lo + z.hi - z.lo ≤ most) := by
 unfold okN corP2
 simp only
 congr 1
 exact propext ⟨fun h => by omega, fun h => by omega⟩
set_option maxRecDepth 100000 in
set_option maxHeartbeats 12800000 in
theorem sl_bares (t : Tb) (Ab Ad : Option Addr) (cb cd : Nat) (Ah Ai : Option Addr) (ch ci : Nat) (h : List Rg) (l : List Ic) (r : Rd) (most : Int) (w : World) (hg : GlIn w w.heap.size t.g Ab Ad) (hh : SlAt w w.heap.size 2 Ah h.length (fR h)) (hi : SlAt w w.heap.size 3 Ai l.length (fC l)) :
  Calls Tryz.prog 3 #[.agg #[.int .i64 t.g.base, .slice Ab t.g.bands.length cb, .slice Ad t.g.depths.length cd, .int .i64 t.g.blo, .int .i64 t.g.bhi, .int .i64 t.k.lo, .int .i64 t.k.hi, .int .i64 t.lag.lo, .int .i64 t.lag.hi, .int .i64 t.sq.lo, .int .i64 t.sq.hi, .int .i64 t.term], .slice Ah h.length ch, .slice Ai l.length ci, .agg #[.int .i64 r.day, .int .i64 r.shown, .int .i64 r.err, .int .i64 r.bare, .int .i64 r.air.lo, .int .i64 r.air.hi, .int .i64 r.rate.lo, .int .i64 r.rate.hi, .int .i64 r.deep, .bool r.broken], .int .i64 most] w fun e w' => e = .returned (.bool true) ∧ Below w.heap.size w w' := by
 cases hth : thinB t.g.bands.length t.g.depths.length h.length l.length
 ·
  have HTH := Lib.hid hth
  clear hth
  go_enter Tryz.func3, Tryz.ntmps3
  go_upto_region 1 with fail
  show Code.wp _ _ _ _ _
  refine box2 (K := fun V => Code.wp _ _ _ _ V) ?_
  intro V hb1 q1 q2
  replace hg := hg.go hb1
  replace hh := (hh.below hb1).up hb1.size
  replace hi := (hi.below hb1).up hb1.size
  obtain ⟨pq1, hpq1⟩ : ∃ p, w.heap.size = p := ⟨_, rfl⟩
  obtain ⟨pq2, hpq2⟩ : ∃ p, w.heap.size + 1 = p := ⟨_, rfl⟩
  rw [hpq2] at q2 ⊢
  rw [hpq1] at q1 ⊢
  have hp1 : w.heap.size ≤ pq1 := by omega
  have hp2 : w.heap.size ≤ pq2 := by omega
  clear hpq1 hpq2
  go_wp2_with (refine pause_at 20 rfl ?_)
  refine Paused.mk ?_
  refine wpList_load_row rfl 29 _ rfl _ rfl 29 _ (0, 0) _ (q1) Tryz.underlying29 rfl (by kernel_rfl) ?_
  go_wp2_with fail
  refine (sr_thin t Ab Ad cb cd Ah Ai h.length l.length ch ci _).mono ?_
  rintro e V1 ⟨rfl, hV1⟩
  replace q1 := q1.below hV1 q1.lt
  replace q2 := q2.below hV1 q2.lt
  replace hg := hg.go hV1
  replace hh := (hh.below hV1).up hV1.size
  replace hi := (hi.below hV1).up hV1.size
  have B_V1 := ex_trans hb1 hV1
  rw [HTH.out]
  go_wp2_with fail
  refine (sl_awake _).mono ?_
  rintro e V2 ⟨rfl, hV2⟩
  replace q1 := q1.below hV2 q1.lt
  replace q2 := q2.below hV2 q2.lt
  replace hg := hg.go hV2
  replace hh := (hh.below hV2).up hV2.size
  replace hi := (hi.below hV2).up hV2.size
  have B_V2 := ex_trans B_V1 hV2
  go_wp2
  go_ret
  exact ⟨rfl, B_V2⟩
 ·
  have HTH := Lib.hid hth
  obtain ⟨hnb, hnd, hnh, hni⟩ := thinB_iff.1 hth
  clear hth
  go_enter Tryz.func3, Tryz.ntmps3
  go_upto_region 1 with fail
  show Code.wp _ _ _ _ _
  refine box2 (K := fun V => Code.wp _ _ _ _ V) ?_
  intro V hb1 q1 q2
  replace hg := hg.go hb1
  replace hh := (hh.below hb1).up hb1.size
  replace hi := (hi.below hb1).up hb1.size
  obtain ⟨pq1, hpq1⟩ : ∃ p, w.heap.size = p := ⟨_, rfl⟩
  obtain ⟨pq2, hpq2⟩ : ∃ p, w.heap.size + 1 = p := ⟨_, rfl⟩
  rw [hpq2] at q2 ⊢
  rw [hpq1] at q1 ⊢
  have hp1 : w.heap.size ≤ pq1 := by omega
  have hp2 : w.heap.size ≤ pq2 := by omega
  clear hpq1 hpq2
  go_wp2_with (refine pause_at 20 rfl ?_)
  refine Paused.mk ?_
  refine wpList_load_row rfl 29 _ rfl _ rfl 29 _ (0, 0) _ (q1) Tryz.underlying29 rfl (by kernel_rfl) ?_
  go_wp2_with fail
  refine (sr_thin t Ab Ad cb cd Ah Ai h.length l.length ch ci _).mono ?_
  rintro e V3 ⟨rfl, hV3⟩
  replace q1 := q1.below hV3 q1.lt
  replace q2 := q2.below hV3 q2.lt
  replace hg := hg.go hV3
  replace hh := (hh.below hV3).up hV3.size
  replace hi := (hi.below hV3).up hV3.size
  have B_V3 := ex_trans hb1 hV3
  rw [HTH.out]
  go_upto_region 3 with fail
  rename_i K0 hK0
  have hrest : ∀ (V4 : World) (v : Int) (ev : Int) (a : Act), Below V3.heap.size V3 V4 → Hid (BarV t h l r most v ev) → (∃ u : Nat → Value, a = ⟨List.toArray (u 0 :: .slice Ah h.length ch :: .slice Ai l.length ci :: u 3 :: .int .i64 most :: .pointer (some ⟨pq1, 0, none⟩) :: u 6 :: u 7 :: .pointer (some ⟨pq2, 0, none⟩) :: u 9 :: .bool false :: .int .i64 v :: .int .i64 ev :: u 13 :: u 14 :: u 15 :: u 16 :: u 17 :: u 18 :: u 19 :: u 20 :: u 21 :: u 22 :: u 23 :: u 24 :: u 25 :: u 26 :: u 27 :: u 28 :: u 29 :: u 30 :: u 31 :: u 32 :: u 33 :: u 34 :: u 35 :: u 36 :: u 37 :: u 38 :: u 39 :: u 40 :: u 41 :: u 42 :: u 43 :: u 44 :: u 45 :: u 46 :: u 47 :: u 48 :: u 49 :: u 50 :: u 51 :: u 52 :: u 53 :: u 54 :: u 55 :: u 56 :: u 57 :: u 58 :: u 59 :: u 60 :: u 61 :: u 62 :: u 63 :: u 64 :: u 65 :: u 66 :: u 67 :: u 68 :: u 69 :: u 70 :: u 71 :: u 72 :: u 73 :: u 74 :: u 75 :: u 76 :: u 77 :: u 78 :: u 79 :: u 80 :: u 81 :: u 82 :: u 83 :: u 84 :: u 85 :: u 86 :: u 87 :: u 88 :: u 89 :: u 90 :: u 91 :: u 92 :: u 93 :: u 94 :: u 95 :: u 96 :: u 97 :: u 98 :: u 99 :: u 100 :: u 101 :: u 102 :: u 103 :: u 104 :: u 105 :: u 106 :: u 107 :: u 108 :: u 109 :: u 110 :: u 111 :: u 112 :: u 113 :: u 114 :: u 115 :: u 116 :: u 117 :: u 118 :: u 119 :: u 120 :: u 121 :: u 122 :: []), []⟩) → K0 a V4 := by
   rintro V4 v ev a hX9  hc ⟨u, rfl⟩
   refine hK0 _ _ ?_
   clear hK0 K0
   replace q1 := q1.below hX9 q1.lt
   replace q2 := q2.below hX9 q2.lt
   replace hg := hg.go hX9
   replace hh := (hh.below hX9).up hX9.size
   replace hi := (hi.below hX9).up hX9.size
   have B_V4 := ex_trans B_V3 hX9
   have CA := Lib.hid (bar_cases hc.out)
   clear hc
   rcases CA.out with ⟨ha, rfl, rfl⟩ | ⟨ha, hm, rfl, rfl⟩ | ⟨ha, hm, hr, rfl, rfl⟩ | ⟨ha, hm, hr, zs, hz, hmu⟩
   ·
    clear CA
    have e1 : (askE t h l r == 0) = false := by simp [ha]
    have e2 : (askE t h l r != 0) = true := by simp [ha]
    clear ha
    go_wp2_with (refine pause_at 39 rfl ?_)
    refine Paused.mk ?_
    refine wpList_load_row rfl 29 _ rfl _ rfl 29 _ (0, 0) _ (q1) Tryz.underlying29 rfl (by kernel_rfl) ?_
    go_wp2_with (refine pause_at 42 rfl ?_)
    refine Paused.mk ?_
    refine wpList_load_row rfl 33 _ rfl _ rfl 33 _ (0, 0) _ (q2) Tryz.underlying33 rfl (by kernel_rfl) ?_
    go_wp2_with fail
    refine (sr_asked t Ab Ad cb cd Ah Ai ch ci h l r _ hg hh hi (by omega)).mono ?_
    rintro e V5 ⟨rfl, hV5⟩
    replace q1 := q1.below hV5 q1.lt
    replace q2 := q2.below hV5 q2.lt
    replace hg := hg.go hV5
    replace hh := (hh.below hV5).up hV5.size
    replace hi := (hi.below hV5).up hV5.size
    have B_V5 := ex_trans B_V4 hV5
    go_wp2_with fail
    refine (sl_awake _).mono ?_
    rintro e V6 ⟨rfl, hV6⟩
    replace q1 := q1.below hV6 q1.lt
    replace q2 := q2.below hV6 q2.lt
    replace hg := hg.go hV6
    replace hh := (hh.below hV6).up hV6.size
    replace hi := (hi.below hV6).up hV6.size
    have B_V6 := ex_trans B_V5 hV6
    go_wp2
    go_ret
    exact ⟨rfl, B_V6⟩
   ·
    clear CA
    have HA := Lib.hid ha
    clear ha
    have d1 : decide (most < 0) = true := decide_eq_true hm
    go_wp2_with (refine pause_at 39 rfl ?_)
    refine Paused.mk ?_
    refine wpList_load_row rfl 29 _ rfl _ rfl 29 _ (0, 0) _ (q1) Tryz.underlying29 rfl (by kernel_rfl) ?_
    go_wp2_with (refine pause_at 42 rfl ?_)
    refine Paused.mk ?_
    refine wpList_load_row rfl 33 _ rfl _ rfl 33 _ (0, 0) _ (q2) Tryz.underlying33 rfl (by kernel_rfl) ?_
    go_wp2_with fail
    refine (sr_asked t Ab Ad cb cd Ah Ai ch ci h l r _ hg hh hi (by omega)).mono ?_
    rintro e V7 ⟨rfl, hV7⟩
    replace q1 := q1.below hV7 q1.lt
    replace q2 := q2.below hV7 q2.lt
    replace hg := hg.go hV7
    replace hh := (hh.below hV7).up hV7.size
    replace hi := (hi.below hV7).up hV7.size
    have B_V7 := ex_trans B_V4 hV7
    rw [HA.out]
    go_wp2_with fail
    refine (sl_awake _).mono ?_
    rintro e V8 ⟨rfl, hV8⟩
    replace q1 := q1.below hV8 q1.lt
    replace q2 := q2.below hV8 q2.lt
    replace hg := hg.go hV8
    replace hh := (hh.below hV8).up hV8.size
    replace hi := (hi.below hV8).up hV8.size
    have B_V8 := ex_trans B_V7 hV8
    go_wp2
    go_ret
    exact ⟨rfl, B_V8⟩
   ·
    clear CA
    have HA := Lib.hid ha
    have HO := Lib.hid (ask_bd ha)
    have HBD := Lib.hid (iced_bd (useE_0 (ask_0 ha).1).2)
    obtain ⟨k, hk, hkl⟩ := HO.out.day
    have hday : 0 ≤ r.day ∧ r.day ≤ 1000000 := by omega
    have HK := Lib.hid hk
    have HKT : Hid (r.day.toNat = k) := Lib.hid (by omega)
    clear hk ha
    have d1 : decide (most < 0) = false := decide_eq_false (by omega)
    have e1 : (refE t l r (agreeB t.g h l off0) == 0) = false := by simp [hr]
    have e2 : (refE t l r (agreeB t.g h l off0) != 0) = true := by simp [hr]
    clear hr
    go_wp2_with (refine pause_at 39 rfl ?_)
    refine Paused.mk ?_
    refine wpList_load_row rfl 29 _ rfl _ rfl 29 _ (0, 0) _ (q1) Tryz.underlying29 rfl (by kernel_rfl) ?_
    go_wp2_with (refine pause_at 42 rfl ?_)
    refine Paused.mk ?_
    refine wpList_load_row rfl 33 _ rfl _ rfl 33 _ (0, 0) _ (q2) Tryz.underlying33 rfl (by kernel_rfl) ?_
    go_wp2_with fail
    refine (sr_asked t Ab Ad cb cd Ah Ai ch ci h l r _ hg hh hi (by omega)).mono ?_
    rintro e V9 ⟨rfl, hV9⟩
    replace q1 := q1.below hV9 q1.lt
    replace q2 := q2.below hV9 q2.lt
    replace hg := hg.go hV9
    replace hh := (hh.below hV9).up hV9.size
    replace hi := (hi.below hV9).up hV9.size
    have B_V9 := ex_trans B_V4 hV9
    rw [HA.out]
    go_wp2_with (refine pause_at 52 rfl ?_)
    refine Paused.mk ?_
    refine wpList_load_row rfl 29 _ rfl _ rfl 29 _ (0, 0) _ (q1) Tryz.underlying29 rfl (by kernel_rfl) ?_
    go_wp2_with (refine pause_at 55 rfl ?_)
    refine Paused.mk ?_
    refine wpList_load_row rfl 33 _ rfl _ rfl 33 _ (0, 0) _ (q2) Tryz.underlying33 rfl (by kernel_rfl) ?_
    go_wp2_with fail
    refine (sr_refused t Ab Ad cb cd Ah Ai ch ci h l r _ hg hh hi HO.out.ok HBD.out (by omega) hday).mono ?_
    rintro e V10 ⟨rfl, hV10⟩
    replace q1 := q1.below hV10 q1.lt
    replace q2 := q2.below hV10 q2.lt
    replace hg := hg.go hV10
    replace hh := (hh.below hV10).up hV10.size
    replace hi := (hi.below hV10).up hV10.size
    have B_V10 := ex_trans B_V9 hV10
    go_wp2_with fail
    refine (sl_awake _).mono ?_
    rintro e V11 ⟨rfl, hV11⟩
    replace q1 := q1.below hV11 q1.lt
    replace q2 := q2.below hV11 q2.lt
    replace hg := hg.go hV11
    replace hh := (hh.below hV11).up hV11.size
    replace hi := (hi.below hV11).up hV11.size
    have B_V11 := ex_trans B_V10 hV11
    go_wp2
    go_ret
    exact ⟨rfl, B_V11⟩
   ·
    clear CA
    have HA := Lib.hid ha
    have HO := Lib.hid (ask_bd ha)
    have HBD := Lib.hid (iced_bd (useE_0 (ask_0 ha).1).2)
    obtain ⟨k, hk, hkl⟩ := HO.out.day
    have hday : 0 ≤ r.day ∧ r.day ≤ 1000000 := by omega
    have HK := Lib.hid hk
    have HKT : Hid (r.day.toNat = k) := Lib.hid (by omega)
    clear hk ha
    have d1 : decide (most < 0) = false := decide_eq_false (by omega)
    have HR := Lib.hid hr
    have HZ := Lib.hid hz
    have HM : Hid (MuchIs (okN t r (gR zs k) most) v ev) := Lib.hid (by rw [← HKT.out]; exact hmu)
    have HAG := Lib.hid (ref_ag hr)
    have hzb := zs_bd HO.out.ok hz k hkl
    clear hr hz hmu
    go_wp2_with (refine pause_at 39 rfl ?_)
    refine Paused.mk ?_
    refine wpList_load_row rfl 29 _ rfl _ rfl 29 _ (0, 0) _ (q1) Tryz.underlying29 rfl (by kernel_rfl) ?_
    go_wp2_with (refine pause_at 42 rfl ?_)
    refine Paused.mk ?_
    refine wpList_load_row rfl 33 _ rfl _ rfl 33 _ (0, 0) _ (q2) Tryz.underlying33 rfl (by kernel_rfl) ?_
    go_wp2_with fail
    refine (sr_asked t Ab Ad cb cd Ah Ai ch ci h l r _ hg hh hi (by omega)).mono ?_
    rintro e V12 ⟨rfl, hV12⟩
    replace q1 := q1.below hV12 q1.lt
    replace q2 := q2.below hV12 q2.lt
    replace hg := hg.go hV12
    replace hh := (hh.below hV12).up hV12.size
    replace hi := (hi.below hV12).up hV12.size
    have B_V12 := ex_trans B_V4 hV12
    rw [HA.out]
    go_wp2_with (refine pause_at 52 rfl ?_)
    refine Paused.mk ?_
    refine wpList_load_row rfl 29 _ rfl _ rfl 29 _ (0, 0) _ (q1) Tryz.underlying29 rfl (by kernel_rfl) ?_
    go_wp2_with (refine pause_at 55 rfl ?_)
    refine Paused.mk ?_
    refine wpList_load_row rfl 33 _ rfl _ rfl 33 _ (0, 0) _ (q2) Tryz.underlying33 rfl (by kernel_rfl) ?_
    go_wp2_with fail
    refine (sr_refused t Ab Ad cb cd Ah Ai ch ci h l r _ hg hh hi HO.out.ok HBD.out (by omega) hday).mono ?_
    rintro e V13 ⟨rfl, hV13⟩
    replace q1 := q1.below hV13 q1.lt
    replace q2 := q2.below hV13 q2.lt
    replace hg := hg.go hV13
    replace hh := (hh.below hV13).up hV13.size
    replace hi := (hi.below hV13).up hV13.size
    have B_V13 := ex_trans B_V12 hV13
    rw [HR.out]
    have a0 : V13.cell? ⟨pq1, 0, none⟩ = some (.int .i64 t.g.base) := q1.cell 0
    have a1 : V13.cell? ⟨pq1, 1, none⟩ = some (.slice Ab t.g.bands.length cb) := q1.cell 1
    have a2 : V13.cell? ⟨pq1, 2, none⟩ = some (.slice Ad t.g.depths.length cd) := q1.cell 2
    have a3 : V13.cell? ⟨pq1, 3, none⟩ = some (.int .i64 t.g.blo) := q1.cell 3
    have a4 : V13.cell? ⟨pq1, 4, none⟩ = some (.int .i64 t.g.bhi) := q1.cell 4
    have la := q1.lt
    go_wp2_with fail
    refine (sr_zeros t.g _ _ _ _ _ _ _ _ h l _ hg hh hi HO.out.ok HBD.out (by omega) HAG.out).mono ?_
    rintro e V14 ⟨⟨Az, zs', rfl, hz', hsz⟩, hV14⟩
    replace q1 := q1.below hV14 q1.lt
    replace q2 := q2.below hV14 q2.lt
    replace hg := hg.go hV14
    replace hh := (hh.below hV14).up hV14.size
    replace hi := (hi.below hV14).up hV14.size
    have B_V14 := ex_trans B_V13 hV14
    clear a0 a1 a2 a3 a4 la
    obtain rfl := ZsOf.uniq HZ.out hz'.out
    clear hz'
    have b0 : V14.cell? ⟨pq2, 0, none⟩ = some (.int .i64 r.day) := q2.cell 0
    rw [HK.out] at b0
    have lb := q2.lt
    obtain ⟨bz, oz, hAz, hbz, z0, z1⟩ := IsRgs.at_ hsz hkl
    subst hAz
    generalize hzk : gR zs k = z at *
    have HZK := Lib.hid hzk
    clear hzk
    go_upto_region 12 with fail
    rename_i K0 hK0
    have hrest : ∀ (V15 : World) (pg px : Nat) (a : Act), Below V14.heap.size V14 V15 → pg ≠ px → V14.heap.size ≤ pg → Blk V15 pg 25 #[.int .i64 z.lo, .int .i64 z.hi] → V14.heap.size ≤ px → Blk V15 px 33 #[.int .i64 r.day, .int .i64 r.shown, .int .i64 r.err, .int .i64 r.bare, .int .i64 r.air.lo, .int .i64 r.air.hi, .int .i64 r.rate.lo, .int .i64 r.rate.hi, .int .i64 r.deep, .bool r.broken] → (∃ u : Nat → Value, a = ⟨List.toArray (u 0 :: u 1 :: u 2 :: u 3 :: .int .i64 most :: .pointer (some ⟨pq1, 0, none⟩) :: u 6 :: u 7 :: u 8 :: u 9 :: .bool false :: .int .i64 v :: .int .i64 ev :: .int .i64 0 :: .int .i64 (-1) :: u 15 :: u 16 :: .pointer (some ⟨pg, 0, none⟩) :: .pointer (some ⟨px, 0, none⟩) :: u 19 :: u 20 :: u 21 :: u 22 :: u 23 :: u 24 :: u 25 :: u 26 :: u 27 :: u 28 :: u 29 :: u 30 :: u 31 :: u 32 :: u 33 :: u 34 :: u 35 :: u 36 :: u 37 :: u 38 :: u 39 :: u 40 :: u 41 :: u 42 :: u 43 :: u 44 :: u 45 :: u 46 :: u 47 :: u 48 :: u 49 :: u 50 :: u 51 :: u 52 :: u 53 :: u 54 :: u 55 :: u 56 :: u 57 :: u 58 :: u 59 :: u 60 :: u 61 :: u 62 :: u 63 :: u 64 :: u 65 :: u 66 :: u 67 :: u 68 :: u 69 :: u 70 :: u 71 :: u 72 :: u 73 :: u 74 :: u 75 :: u 76 :: u 77 :: u 78 :: u 79 :: u 80 :: u 81 :: u 82 :: u 83 :: u 84 :: u 85 :: u 86 :: u 87 :: u 88 :: u 89 :: u 90 :: u 91 :: u 92 :: u 93 :: u 94 :: u 95 :: u 96 :: u 97 :: u 98 :: u 99 :: u 100 :: u 101 :: u 102 :: u 103 :: u 104 :: u 105 :: u 106 :: u 107 :: u 108 :: u 109 :: u 110 :: u 111 :: u 112 :: u 113 :: u 114 :: u 115 :: u 116 :: u 117 :: u 118 :: u 119 :: u 120 :: u 121 :: u 122 :: []), []⟩) → K0 a V15 := by
     rintro V15 pg px a hX9 ngx yg bg yx bx ⟨u, rfl⟩
     refine hK0 _ _ ?_
     clear hK0 K0
     have q1_0 := q1
     have q2_0 := q2
     have hg_0 := hg
     have hh_0 := hh
     have hi_0 := hi
     have hsz_0 := hsz
     have X_V15 := hX9
     replace q1 := q1.below hX9 q1.lt
     replace q2 := q2.below hX9 q2.lt
     replace hg := hg.go hX9
     replace hh := (hh.below hX9).up hX9.size
     replace hi := (hi.below hX9).up hX9.size
     replace hsz := (hsz.below hX9).up hX9.size
     have B_V15 := ex_trans B_V14 hX9
     have zpg : w.heap.size ≤ pg := by have := B_V14.size; omega
     have zpx : w.heap.size ≤ px := by have := B_V14.size; omega
     clear hg
     clear hh
     clear hi
     clear hsz
     clear q2
     have x3 := bx.cell 3
     have fx := bx.frozen0
     have lx := bx.lt
     simp at x3
     go_wp2_with fail
     clear x3 fx lx
     replace bx := bx.set_ 3 (.int .i64 0)
     replace bg := bg.far (p := ⟨px, 3, none⟩) ngx (.int .i64 0)
     simp only [List.setIfInBounds_toArray, List.set_cons_zero, List.set_cons_succ] at bx
     have XS := ex_set (p := ⟨px, 3, none⟩) X_V15 yx (.int .i64 0)
     generalize V15.setCell ⟨px, 3, none⟩ (.int .i64 0) = V16 at *
     replace q1 := q1_0.below XS q1_0.lt
     have B_V16 := ex_trans B_V14 XS
     have X_V16 := XS
     clear XS
     refine wp_loop_ghost (fun n a wr => Rel (fun a wr => ∃ b : Nat, b ≤ 301 ∧ Hid (n + b = 301) ∧ ∃ D : Int, Hid (DueIs (okN t r z most) b D) ∧ Below V14.heap.size V14 wr ∧ Blk wr px 33 #[.int .i64 r.day, .int .i64 r.shown, .int .i64 r.err, .int .i64 (b : Int), .int .i64 r.air.lo, .int .i64 r.air.hi, .int .i64 r.rate.lo, .int .i64 r.rate.hi, .int .i64 r.deep, .bool r.broken] ∧ Blk wr pg 25 #[.int .i64 z.lo, .int .i64 z.hi] ∧ ∃ u : Nat → Value, a = ⟨List.toArray (u 0 :: u 1 :: u 2 :: u 3 :: .int .i64 most :: .pointer (some ⟨pq1, 0, none⟩) :: u 6 :: u 7 :: u 8 :: u 9 :: .bool false :: .int .i64 v :: .int .i64 ev :: .int .i64 0 :: .int .i64 D :: u 15 :: u 16 :: .pointer (some ⟨pg, 0, none⟩) :: .pointer (some ⟨px, 0, none⟩) :: u 19 :: u 20 :: u 21 :: u 22 :: u 23 :: u 24 :: u 25 :: u 26 :: u 27 :: u 28 :: u 29 :: u 30 :: u 31 :: u 32 :: u 33 :: u 34 :: u 35 :: u 36 :: u 37 :: u 38 :: u 39 :: u 40 :: u 41 :: u 42 :: u 43 :: u 44 :: u 45 :: u 46 :: u 47 :: u 48 :: u 49 :: u 50 :: u 51 :: u 52 :: u 53 :: u 54 :: u 55 :: u 56 :: u 57 :: u 58 :: u 59 :: u 60 :: u 61 :: u 62 :: u 63 :: u 64 :: u 65 :: u 66 :: u 67 :: u 68 :: u 69 :: u 70 :: u 71 :: u 72 :: u 73 :: u 74 :: u 75 :: u 76 :: u 77 :: u 78 :: u 79 :: u 80 :: u 81 :: u 82 :: u 83 :: u 84 :: u 85 :: u 86 :: u 87 :: u 88 :: u 89 :: u 90 :: u 91 :: u 92 :: u 93 :: u 94 :: u 95 :: u 96 :: u 97 :: u 98 :: u 99 :: u 100 :: u 101 :: u 102 :: u 103 :: u 104 :: u 105 :: u 106 :: u 107 :: u 108 :: u 109 :: u 110 :: u 111 :: u 112 :: u 113 :: u 114 :: u 115 :: u 116 :: u 117 :: u 118 :: u 119 :: u 120 :: u 121 :: u 122 :: []), []⟩) a wr) 301 ⟨⟨0, by omega, Lib.hid rfl, -1, Lib.hid due_0, X_V16, bx, bg, exFrame (by kernel_rfl)⟩⟩ ?_
     clear bx bg q1 X_V16 B_V16
     rintro n0 a wr ⟨⟨b, hb, HN, D, HD, hX, bx, bg, u, rfl⟩⟩
     have hB := ex_trans B_V14 hX
     have q1 := q1_0.below hX q1_0.lt
     by_cases hlt : b < 301
     ·
      have HDB := due_bd HD.out
      have hDb : -1 ≤ D ∧ D < 1000000 := by omega
      clear HDB
      have x3 := bx.cell 3
      have fx := bx.frozen0
      have lx := bx.lt
      simp at x3
      have e1 : decide ((b : Int) ≤ 300) = true := decide_eq_true (by omega)
      have HRB := Lib.hid (rB_bd HO.out.rd (n := (b : Int)) (by omega) (by omega))
      have hbb := bnd_bd HO.out.tb HRB.out
      have HOK : Hid (okN t r z most (b : Int) = decide ((bndP t (rB r (b : Int))).hi - (bndP t (rB r (b : Int))).lo + z.hi - z.lo ≤ most)) := Lib.hid okN_dec
      go_wp2_with (refine pause_at 81 rfl ?_)
      refine Paused.mk ?_
      refine wpList_load_row rfl 29 _ rfl _ rfl 29 _ (0, 0) _ (q1) Tryz.underlying29 rfl (by kernel_rfl) ?_
      go_wp2_with (refine pause_at 82 rfl ?_)
      refine Paused.mk ?_
      refine wpList_load_row rfl 33 _ rfl _ rfl 33 _ (0, 0) _ (bx) Tryz.underlying33 rfl (by kernel_rfl) ?_
      clear x3 fx lx e1
      go_wp2_with fail
      refine (sl_ends t Ab Ad cb cd (rB r (b : Int)) _ HO.out.tb HRB.out).mono ?_
      rintro e V17 ⟨rfl, hV17⟩
      replace q1 := q1.below hV17 q1.lt
      replace bx := bx.below hV17 bx.lt
      replace bg := bg.below hV17 bg.lt
      have B_V17 := ex_trans hB hV17
      have X_V17 := ex_trans hX hV17
      generalize bndP t (rB r (b : Int)) = o at *
      have NG := ex_alloc (Below.refl V17.heap.size V17) (.cells #[.int .i64 o.lo, .int .i64 o.hi] 25)
      have q9 : Blk (V17.alloc (.cells #[.int .i64 o.lo, .int .i64 o.hi] 25)) V17.heap.size 25 #[.int .i64 o.lo, .int .i64 o.hi] := Blk.new _ _ _
      have lt_q1 := q1.lt
      have lt_bx := bx.lt
      have lt_bg := bg.lt
      go_upto_region 17 with fail
      obtain ⟨p9, hp9'⟩ : ∃ p, V17.heap.size = p := ⟨_, rfl⟩
      rw [hp9'] at q9 lt_q1 lt_bx lt_bg ⊢
      have zp9 : w.heap.size ≤ p9 := by have := B_V17.size; omega
      clear hp9'
      have nq1_p9 : pq1 ≠ p9 := by omega
      clear lt_q1
      have nbx_p9 : px ≠ p9 := by omega
      clear lt_bx
      have nbg_p9 : pg ≠ p9 := by omega
      clear lt_bg
      replace q1 := q1.below NG q1.lt
      replace bx := bx.below NG bx.lt
      replace bg := bg.below NG bg.lt
      have B_V18 := ex_trans B_V17 NG
      have X_V18 := ex_trans X_V17 NG
      clear NG
      generalize V17.alloc (.cells #[.int .i64 o.lo, .int .i64 o.hi] 25) = V18 at *
      have g0 := bg.cell 0
      have g1 := bg.cell 1
      have lg := bg.lt
      have y0 := q9.cell 0
      have y1 := q9.cell 1
      have ly := q9.lt
      simp at g0 g1 y0 y1
      have x3 := bx.cell 3
      have fx := bx.frozen0
      have lx := bx.lt
      simp at x3
      have ngx' : pg ≠ px := ngx
      have mx := bx.set_ 3 (.int .i64 ((b : Int) + 1))
      have mg := bg.far (p := ⟨px, 3, none⟩) ngx (.int .i64 ((b : Int) + 1))
      simp only [List.setIfInBounds_toArray, List.set_cons_zero, List.set_cons_succ] at mx
      have mX := ex_set (p := ⟨px, 3, none⟩) X_V18 yx (.int .i64 ((b : Int) + 1))
      by_cases hok : o.hi - o.lo + z.hi - z.lo ≤ most
      ·
       have d2 : decide (o.hi - o.lo + z.hi - z.lo ≤ most) = true := decide_eq_true hok
       have HDN : Hid (DueIs (okN t r z most) (b + 1) (b : Int)) := Lib.hid (due_yes (by rw [HOK.out, d2]))
       go_wp2
       exact ⟨300 - b, by have := HN.out; omega, ⟨⟨b + 1, by omega, Lib.hid (by omega), (b : Int), HDN, mX, mx, mg, exFrame (by kernel_rfl)⟩⟩⟩
      ·
       have d2 : decide (o.hi - o.lo + z.hi - z.lo ≤ most) = false := decide_eq_false hok
       have HDN : Hid (DueIs (okN t r z most) (b + 1) D) := Lib.hid (due_no HD.out (by rw [HOK.out, d2]))
       go_wp2
       exact ⟨300 - b, by have := HN.out; omega, ⟨⟨b + 1, by omega, Lib.hid (by omega), D, HDN, mX, mx, mg, exFrame (by kernel_rfl)⟩⟩⟩
     ·
      obtain rfl : b = 301 := by omega
      have e1 : decide (((301 : Nat) : Int) ≤ 300) = false := decide_eq_false (by omega)
      have x3 := bx.cell 3
      have fx := bx.frozen0
      have lx := bx.lt
      simp at x3
      rcases due_much HD.out HM.out with ⟨rfl, rfl, rfl⟩ | ⟨h0, h3, rfl, rfl⟩
      ·
       go_wp2_with fail
       refine (sl_awake _).mono ?_
       rintro e V19 ⟨rfl, hV19⟩
       replace q1 := q1.below hV19 q1.lt
       replace bx := bx.below hV19 bx.lt
       replace bg := bg.below hV19 bg.lt
       have B_V19 := ex_trans hB hV19
       have X_V19 := ex_trans hX hV19
       go_wp2
       go_ret
       exact ⟨rfl, B_V19⟩
      ·
       have e2 : decide (v < 0) = false := decide_eq_false (by omega)
       go_wp2_with fail
       refine (sl_awake _).mono ?_
       rintro e V20 ⟨rfl, hV20⟩
       replace q1 := q1.below hV20 q1.lt
       replace bx := bx.below hV20 bx.lt
       replace bg := bg.below hV20 bg.lt
       have B_V20 := ex_trans hB hV20
       have X_V20 := ex_trans hX hV20
       go_wp2
       go_ret
       exact ⟨rfl, B_V20⟩
    refine wp_region_ext_tq 9 (.quiet 0 (.quiet 1 (.quiet 2 (.quiet 3 (.quiet 4 (.quiet 5 (.fork 6 (.loud 7 (.loud 8 .done)) 7 (.loud 6 (.loud 8 .done))))))))) (by kernel_rfl) (by kernel_rfl) (by intro d _ _ _ _ h; cases d <;> exact h) ?_
    have D0 := (Below.refl V14.heap.size V14).drew
    repeat (refine tq_quiet rfl ?_; first | (refine wpQuiet_load_row rfl 29 _ rfl _ rfl 29 _ (0, 0) _ q1.ex Tryz.underlying29 rfl (by kernel_rfl) ?_; simp only [Act.put, List.setIfInBounds_toArray, List.set_cons_zero, List.set_cons_succ]; refine wpQuiet_nil ?_) | (refine wpQuiet_load_row rfl 33 _ rfl _ rfl 33 _ (0, 0) _ q2.ex Tryz.underlying33 rfl (by kernel_rfl) ?_; simp only [Act.put, List.setIfInBounds_toArray, List.set_cons_zero, List.set_cons_succ]; refine wpQuiet_nil ?_) | (go_big_quiet_step (fail); refine wpQuiet_nil ?_))
    refine tq_fork rfl rfl ?_ ?_
    ·
     go_wp2_with fail
     have sg := ((Below.refl V14.heap.size V14)).size
     try simp at sg
     have N6 := ex_alloc (Below.refl V14.heap.size V14) (.cells #[.int .i64 0, .int .i64 0] 25)
     have bg : Blk (V14.alloc (.cells #[.int .i64 0, .int .i64 0] 25)) (V14.heap.size) 25 #[.int .i64 0, .int .i64 0] := Blk.new' _ _ _ (by first | rfl | (simp; done) | (simp; omega))
     obtain ⟨pg, hpg⟩ : ∃ p, V14.heap.size = p := ⟨_, rfl⟩
     rw [hpg] at bg
     try rw [hpg]
     have yg : V14.heap.size ≤ pg := by omega
     clear sg
     refine ⟨inEx (N6).drew, ?_⟩
     refine tq_loud rfl ?_
     go_wp2_with fail
     have txg := bg.lt
     try simp at txg
     have sx := (N6).size
     try simp at sx
     have N7 := ex_alloc N6 (.cells #[.int .i64 0, .int .i64 0, .int .i64 0, .int .i64 0, .int .i64 0, .int .i64 0, .int .i64 0, .int .i64 0, .int .i64 0, .bool false] 33)
     have bx : Blk ((V14.alloc (.cells #[.int .i64 0, .int .i64 0] 25)).alloc (.cells #[.int .i64 0, .int .i64 0, .int .i64 0, .int .i64 0, .int .i64 0, .int .i64 0, .int .i64 0, .int .i64 0, .int .i64 0, .bool false] 33)) (pg + 1) 33 #[.int .i64 0, .int .i64 0, .int .i64 0, .int .i64 0, .int .i64 0, .int .i64 0, .int .i64 0, .int .i64 0, .int .i64 0, .bool false] := Blk.new' _ _ _ (by first | rfl | (simp; done) | (simp; omega))
     replace bg := bg.alloc (.cells #[.int .i64 0, .int .i64 0, .int .i64 0, .int .i64 0, .int .i64 0, .int .i64 0, .int .i64 0, .int .i64 0, .int .i64 0, .bool false] 33)
     obtain ⟨px, hpx⟩ : ∃ p, pg + 1 = p := ⟨_, rfl⟩
     rw [hpx] at bx
     try rw [hpx]
     have nxg : px ≠ pg := by omega
     have ngx : pg ≠ px := by omega
     clear txg
     have yx : V14.heap.size ≤ px := by omega
     clear sx
     refine ⟨inEx (N7).drew, ?_⟩
     refine tq_loud rfl ?_
     replace bg := Blk.drew bg
     replace bx := Blk.drew bx
     have XA8 := (N7).drew
     generalize ((V14.alloc (.cells #[.int .i64 0, .int .i64 0] 25)).alloc (.cells #[.int .i64 0, .int .i64 0, .int .i64 0, .int .i64 0, .int .i64 0, .int .i64 0, .int .i64 0, .int .i64 0, .int .i64 0, .bool false] 33)).drew = V21 at *
     have sc0 : V21.cell? ⟨pg, 0, none⟩ = some (.int .i64 0) := bg.cell 0
     have sc1 : V21.cell? ⟨pg, 1, none⟩ = some (.int .i64 0) := bg.cell 1
     have sf := bg.frozen0
     have sl := bg.lt
     go_wp2_with fail
     replace bg := bg.set_ 0 (.int .i64 z.lo)
     replace bx := bx.far (p := ⟨pg, 0, none⟩) nxg (.int .i64 z.lo)
     replace XA8 := ex_set (p := ⟨pg, 0, none⟩) XA8 yg (.int .i64 z.lo)
     replace bg := bg.set_ 1 (.int .i64 z.hi)
     replace bx := bx.far (p := ⟨pg, 1, none⟩) nxg (.int .i64 z.hi)
     replace XA8 := ex_set (p := ⟨pg, 1, none⟩) XA8 yg (.int .i64 z.hi)
     simp only [List.setIfInBounds_toArray, List.set_cons_zero, List.set_cons_succ] at bg
     clear sf sl sc0 sc1
     generalize ((V21.setCell ⟨pg, 0, none⟩ (.int .i64 z.lo)).setCell ⟨pg, 1, none⟩ (.int .i64 z.hi)) = V22 at *
     refine ⟨inEx XA8, ?_⟩
     refine tq_done (r := [_]) rfl ?_
     have XA := XA8
     generalize V22 = V23 at *
     go_wp2_with (refine pause_store 33 rfl ?_)
     refine Paused.mk ?_
     refine wpList_store_row rfl 33 _ _ rfl _ #[.int .i64 r.day, .int .i64 r.shown, .int .i64 r.err, .int .i64 r.bare, .int .i64 r.air.lo, .int .i64 r.air.hi, .int .i64 r.rate.lo, .int .i64 r.rate.hi, .int .i64 r.deep, .bool r.broken] (by kernel_rfl) (by kernel_rfl) 33 _ bx (by kernel_rfl) (by kernel_rfl) (by kernel_rfl) ?_
     replace bx := bx.setRow #[.int .i64 r.day, .int .i64 r.shown, .int .i64 r.err, .int .i64 r.bare, .int .i64 r.air.lo, .int .i64 r.air.hi, .int .i64 r.rate.lo, .int .i64 r.rate.hi, .int .i64 r.deep, .bool r.broken]
     replace bg := bg.offRow ngx #[.int .i64 r.day, .int .i64 r.shown, .int .i64 r.err, .int .i64 r.bare, .int .i64 r.air.lo, .int .i64 r.air.hi, .int .i64 r.rate.lo, .int .i64 r.rate.hi, .int .i64 r.deep, .bool r.broken]
     replace XA := ex_row XA yx #[.int .i64 r.day, .int .i64 r.shown, .int .i64 r.err, .int .i64 r.bare, .int .i64 r.air.lo, .int .i64 r.air.hi, .int .i64 r.rate.lo, .int .i64 r.rate.hi, .int .i64 r.deep, .bool r.broken]
     go_wp2_with fail
     exact hrest _ pg px _ XA ngx yg bg yx bx (exFrame (by kernel_rfl))
    ·
     go_wp2_with fail
     have sx := ((Below.refl V14.heap.size V14)).size
     try simp at sx
     have N7 := ex_alloc (Below.refl V14.heap.size V14) (.cells #[.int .i64 0, .int .i64 0, .int .i64 0, .int .i64 0, .int .i64 0, .int .i64 0, .int .i64 0, .int .i64 0, .int .i64 0, .bool false] 33)
     have bx : Blk (V14.alloc (.cells #[.int .i64 0, .int .i64 0, .int .i64 0, .int .i64 0, .int .i64 0, .int .i64 0, .int .i64 0, .int .i64 0, .int .i64 0, .bool false] 33)) (V14.heap.size) 33 #[.int .i64 0, .int .i64 0, .int .i64 0, .int .i64 0, .int .i64 0, .int .i64 0, .int .i64 0, .int .i64 0, .int .i64 0, .bool false] := Blk.new' _ _ _ (by first | rfl | (simp; done) | (simp; omega))
     obtain ⟨px, hpx⟩ : ∃ p, V14.heap.size = p := ⟨_, rfl⟩
     rw [hpx] at bx
     try rw [hpx]
     have yx : V14.heap.size ≤ px := by omega
     clear sx
     refine ⟨inEx (N7).drew, ?_⟩
     refine tq_loud rfl ?_
     go_wp2_with fail
     have tgx := bx.lt
     try simp at tgx
     have sg := (N7).size
     try simp at sg
     have N6 := ex_alloc N7 (.cells #[.int .i64 0, .int .i64 0] 25)
     have bg : Blk ((V14.alloc (.cells #[.int .i64 0, .int .i64 0, .int .i64 0, .int .i64 0, .int .i64 0, .int .i64 0, .int .i64 0, .int .i64 0, .int .i64 0, .bool false] 33)).alloc (.cells #[.int .i64 0, .int .i64 0] 25)) (px + 1) 25 #[.int .i64 0, .int .i64 0] := Blk.new' _ _ _ (by first | rfl | (simp; done) | (simp; omega))
     replace bx := bx.alloc (.cells #[.int .i64 0, .int .i64 0] 25)
     obtain ⟨pg, hpg⟩ : ∃ p, px + 1 = p := ⟨_, rfl⟩
     rw [hpg] at bg
     try rw [hpg]
     have ngx : pg ≠ px := by omega
     have nxg : px ≠ pg := by omega
     clear tgx
     have yg : V14.heap.size ≤ pg := by omega
     clear sg
     refine ⟨inEx (N6).drew, ?_⟩
     refine tq_loud rfl ?_
     replace bx := Blk.drew bx
     replace bg := Blk.drew bg
     have XA8 := (N6).drew
     generalize ((V14.alloc (.cells #[.int .i64 0, .int .i64 0, .int .i64 0, .int .i64 0, .int .i64 0, .int .i64 0, .int .i64 0, .int .i64 0, .int .i64 0, .bool false] 33)).alloc (.cells #[.int .i64 0, .int .i64 0] 25)).drew = V24 at *
     have sc0 : V24.cell? ⟨pg, 0, none⟩ = some (.int .i64 0) := bg.cell 0
     have sc1 : V24.cell? ⟨pg, 1, none⟩ = some (.int .i64 0) := bg.cell 1
     have sf := bg.frozen0
     have sl := bg.lt
     go_wp2_with fail
     replace bg := bg.set_ 0 (.int .i64 z.lo)
     replace bx := bx.far (p := ⟨pg, 0, none⟩) nxg (.int .i64 z.lo)
     replace XA8 := ex_set (p := ⟨pg, 0, none⟩) XA8 yg (.int .i64 z.lo)
     replace bg := bg.set_ 1 (.int .i64 z.hi)
     replace bx := bx.far (p := ⟨pg, 1, none⟩) nxg (.int .i64 z.hi)
     replace XA8 := ex_set (p := ⟨pg, 1, none⟩) XA8 yg (.int .i64 z.hi)
     simp only [List.setIfInBounds_toArray, List.set_cons_zero, List.set_cons_succ] at bg
     clear sf sl sc0 sc1
     generalize ((V24.setCell ⟨pg, 0, none⟩ (.int .i64 z.lo)).setCell ⟨pg, 1, none⟩ (.int .i64 z.hi)) = V25 at *
     refine ⟨inEx XA8, ?_⟩
     refine tq_done (r := [_]) rfl ?_
     have XA := XA8
     generalize V25 = V26 at *
     go_wp2_with (refine pause_store 33 rfl ?_)
     refine Paused.mk ?_
     refine wpList_store_row rfl 33 _ _ rfl _ #[.int .i64 r.day, .int .i64 r.shown, .int .i64 r.err, .int .i64 r.bare, .int .i64 r.air.lo, .int .i64 r.air.hi, .int .i64 r.rate.lo, .int .i64 r.rate.hi, .int .i64 r.deep, .bool r.broken] (by kernel_rfl) (by kernel_rfl) 33 _ bx (by kernel_rfl) (by kernel_rfl) (by kernel_rfl) ?_
     replace bx := bx.setRow #[.int .i64 r.day, .int .i64 r.shown, .int .i64 r.err, .int .i64 r.bare, .int .i64 r.air.lo, .int .i64 r.air.hi, .int .i64 r.rate.lo, .int .i64 r.rate.hi, .int .i64 r.deep, .bool r.broken]
     replace bg := bg.offRow ngx #[.int .i64 r.day, .int .i64 r.shown, .int .i64 r.err, .int .i64 r.bare, .int .i64 r.air.lo, .int .i64 r.air.hi, .int .i64 r.rate.lo, .int .i64 r.rate.hi, .int .i64 r.deep, .bool r.broken]
     replace XA := ex_row XA yx #[.int .i64 r.day, .int .i64 r.shown, .int .i64 r.err, .int .i64 r.bare, .int .i64 r.air.lo, .int .i64 r.air.hi, .int .i64 r.rate.lo, .int .i64 r.rate.hi, .int .i64 r.deep, .bool r.broken]
     go_wp2_with fail
     exact hrest _ pg px _ XA ngx yg bg yx bx (exFrame (by kernel_rfl))
  refine wp_region_ext_tq 14 (.quiet 0 (.quiet 2 (.quiet 4 (.quiet 6 (.quiet 8 (.loud 1 (.loud 3 (.loud 5 (.loud 7 (.loud 9 (.quiet 10 (.quiet 11 (.quiet 12 (.quiet 13 .done)))))))))))))) (by kernel_rfl) (by kernel_rfl) (by intro d _ _ _ _ h; cases d <;> exact h) ?_
  have D0 := (Below.refl V3.heap.size V3).drew
  repeat (refine tq_quiet rfl ?_; first | (refine wpQuiet_load_row rfl 29 _ rfl _ rfl 29 _ (0, 0) _ q1.ex Tryz.underlying29 rfl (by kernel_rfl) ?_; simp only [Act.put, List.setIfInBounds_toArray, List.set_cons_zero, List.set_cons_succ]; refine wpQuiet_nil ?_) | (refine wpQuiet_load_row rfl 33 _ rfl _ rfl 33 _ (0, 0) _ q2.ex Tryz.underlying33 rfl (by kernel_rfl) ?_; simp only [Act.put, List.setIfInBounds_toArray, List.set_cons_zero, List.set_cons_succ]; refine wpQuiet_nil ?_) | (go_big_quiet_step (fail); refine wpQuiet_nil ?_))
  refine tq_loud rfl ?_
  go_wp2_with fail
  refine (sr_Tube t Ab Ad cb cd _ (hg.go (((Below.refl V3.heap.size V3)).drew)) (by omega) (by omega)).mono ?_
  rintro e V27 ⟨⟨Ab1, Ad1, cb1, cd1, rfl, hg1⟩, hV27⟩
  have N1 := ex_trans ((Below.refl V3.heap.size V3)).drew hV27
  go_wp2_with fail
  refine ⟨inEx N1, ?_⟩
  repeat (refine tq_quiet rfl ?_; go_big_quiet_step (fail); refine wpQuiet_nil ?_)
  refine tq_loud rfl ?_
  go_wp2_with fail
  refine (History_any _ _ h _ (by omega) (hh.go (N1))).mono ?_
  rintro e V28 ⟨⟨Ah1, ch1, rfl, -, -, hh1⟩, hV28⟩
  have N3 := ex_trans N1 hV28
  go_wp2_with fail
  replace hg1 := hg1.go hV28
  refine ⟨inEx N3, ?_⟩
  repeat (refine tq_quiet rfl ?_; go_big_quiet_step (fail); refine wpQuiet_nil ?_)
  refine tq_loud rfl ?_
  go_wp2_with fail
  refine (Ices_any _ _ l _ (by omega) (hi.go (N3))).mono ?_
  rintro e V29 ⟨⟨Ai1, ci1, rfl, -, -, hi1⟩, hV29⟩
  have N5 := ex_trans N3 hV29
  go_wp2_with fail
  replace hg1 := hg1.go hV29
  replace hh1 := hh1.go hV29
  refine ⟨inEx N5, ?_⟩
  repeat (refine tq_quiet rfl ?_; go_big_quiet_step (fail); refine wpQuiet_nil ?_)
  refine tq_loud rfl ?_
  go_wp2_with fail
  refine (sr_Reading r _).mono ?_
  rintro e V30 ⟨rfl, hV30⟩
  have N7 := ex_trans N5 hV30
  go_wp2_with fail
  replace hg1 := hg1.go hV30
  replace hh1 := hh1.go hV30
  replace hi1 := hi1.go hV30
  refine ⟨inEx N7, ?_⟩
  repeat (refine tq_quiet rfl ?_; go_big_quiet_step (fail); refine wpQuiet_nil ?_)
  refine tq_loud rfl ?_
  go_wp2_with fail
  refine (Bare_v t Ab1 Ad1 cb1 cd1 Ah1 Ai1 ch1 ci1 h l r most _ hg1 hh1 hi1 (by omega)).mono ?_
  rintro e V31 ⟨⟨v, ev, rfl, hc⟩, hV31⟩
  have N9 := ex_trans N7 hV31
  go_wp2_with fail
  refine ⟨inEx N9, ?_⟩
  repeat (refine tq_quiet rfl ?_; go_big_quiet_step (fail); refine wpQuiet_nil ?_)
  refine tq_done (r := [_]) rfl ?_
  go_wp2_with fail
  exact hrest V31 v ev _ (N9) hc (exFrame (by kernel_rfl))


end Go.Proofs.YtkaogjhnogkcdaaGreat
end

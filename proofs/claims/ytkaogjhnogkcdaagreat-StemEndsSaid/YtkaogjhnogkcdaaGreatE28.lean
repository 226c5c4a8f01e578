/- Stem's law: ends (walk). · The law StemEnds (walk). -/
import Derived.Test.YtkaogjhnogkcdaaGreatE21
import Derived.Test.YtkaogjhnogkcdaaGreatE10
import Derived.Test.YtkaogjhnogkcdaaGreatE25
set_option linter.unusedVariables false
set_option linter.unusedSimpArgs false
set_option linter.unusedSectionVars false
section
namespace Go.Proofs.YtkaogjhnogkcdaaGreat
open Go.RowKit
attribute [local go_sem] Ex.cell? Ex.frozen?

theorem endOf_yes {r : Rg} {n : Nat} (h : n % 2 = 1) : endOf r n = r.hi := by unfold endOf; rw [if_neg (by omega)]
theorem endOf_no {r : Rg} {n : Nat} (h : ¬ n % 2 = 1) : endOf r n = r.lo := by unfold endOf; rw [if_pos (by omega)]
set_option maxRecDepth 100000 in
set_option maxHeartbeats 6400000 in
theorem sl_ends (t : Tb) (Ab Ad : Option Addr) (cb cd : Nat) (r : Rd) (w : World) (ht : TbBd t) (hr : RdBd r) :
  Calls Tryz.prog 25 #[.agg #[.int .i64 t.g.base, .slice Ab t.g.bands.length cb, .slice Ad t.g.depths.length cd, .int .i64 t.g.blo, .int .i64 t.g.bhi, .int .i64 t.k.lo, .int .i64 t.k.hi, .int .i64 t.lag.lo, .int .i64 t.lag.hi, .int .i64 t.sq.lo, .int .i64 t.sq.hi, .int .i64 t.term], .agg #[.int .i64 r.day, .int .i64 r.shown, .int .i64 r.err, .int .i64 r.bare, .int .i64 r.air.lo, .int .i64 r.air.hi, .int .i64 r.rate.lo, .int .i64 r.rate.hi, .int .i64 r.deep, .bool r.broken]] w fun e w' => e = .returned (.agg #[.int .i64 (bndP t r).lo, .int .i64 (bndP t r).hi]) ∧ Below w.heap.size w w' := by
 go_enter Tryz.func25, Tryz.ntmps25
 go_upto_region 1 with fail
 show Code.wp _ _ _ _ _
 refine box3 (K := fun V => Code.wp _ _ _ _ V) ?_
 intro V hb1 q1 q2 q3
 obtain ⟨pq1, hpq1⟩ : ∃ p, w.heap.size = p := ⟨_, rfl⟩
 obtain ⟨pq2, hpq2⟩ : ∃ p, w.heap.size + 1 = p := ⟨_, rfl⟩
 obtain ⟨pq3, hpq3⟩ : ∃ p, w.heap.size + 1 + 1 = p := ⟨_, rfl⟩
 rw [hpq3] at q3 ⊢
 rw [hpq2] at q2 ⊢
 rw [hpq1] at q1 ⊢
 have hp1 : w.heap.size ≤ pq1 := by omega
 have hp2 : w.heap.size ≤ pq2 := by omega
 have hp3 : w.heap.size ≤ pq3 := by omega
 clear hpq1 hpq2 hpq3
 have NG := ex_alloc (Below.refl V.heap.size V) (.cells #[.int .i64 1073741824, .int .i64 (-1073741824)] 25)
 have q5 : Blk (V.alloc (.cells #[.int .i64 1073741824, .int .i64 (-1073741824)] 25)) V.heap.size 25 #[.int .i64 1073741824, .int .i64 (-1073741824)] := Blk.new _ _ _
 have lt_q1 := q1.lt
 have lt_q2 := q2.lt
 have lt_q3 := q3.lt
 go_upto_region 3 with fail
 obtain ⟨p5, hp5'⟩ : ∃ p, V.heap.size = p := ⟨_, rfl⟩
 rw [hp5'] at q5 lt_q1 lt_q2 lt_q3 ⊢
 have zp5 : w.heap.size ≤ p5 := by have := hb1.size; omega
 clear hp5'
 have nq1_p5 : pq1 ≠ p5 := by omega
 clear lt_q1
 have nq2_p5 : pq2 ≠ p5 := by omega
 clear lt_q2
 have nq3_p5 : pq3 ≠ p5 := by omega
 clear lt_q3
 replace q1 := q1.below NG q1.lt
 replace q2 := q2.below NG q2.lt
 replace q3 := q3.below NG q3.lt
 have B_V1 := ex_trans hb1 NG
 clear NG
 generalize V.alloc (.cells #[.int .i64 1073741824, .int .i64 (-1073741824)] 25) = V1 at *
 refine wp_loop (fun a wr => ∃ b : Nat, b ≤ 32 ∧ Below w.heap.size w wr ∧ Blk wr pq1 29 #[.int .i64 t.g.base, .slice Ab t.g.bands.length cb, .slice Ad t.g.depths.length cd, .int .i64 t.g.blo, .int .i64 t.g.bhi, .int .i64 t.k.lo, .int .i64 t.k.hi, .int .i64 t.lag.lo, .int .i64 t.lag.hi, .int .i64 t.sq.lo, .int .i64 t.sq.hi, .int .i64 t.term] ∧ Blk wr pq2 33 #[.int .i64 r.day, .int .i64 r.shown, .int .i64 r.err, .int .i64 r.bare, .int .i64 r.air.lo, .int .i64 r.air.hi, .int .i64 r.rate.lo, .int .i64 r.rate.hi, .int .i64 r.deep, .bool r.broken] ∧ Blk wr pq3 25 #[.int .i64 0, .int .i64 0] ∧ Blk wr p5 25 #[.int .i64 (corTo t r b).lo, .int .i64 (corTo t r b).hi] ∧ ∃ u : Nat → Value, a = ⟨List.toArray (u 0 :: u 1 :: .pointer (some ⟨pq1, 0, none⟩) :: .pointer (some ⟨pq2, 0, none⟩) :: .pointer (some ⟨pq3, 0, none⟩) :: .pointer (some ⟨p5, 0, none⟩) :: .int .i64 (b : Int) :: u 7 :: u 8 :: u 9 :: u 10 :: u 11 :: u 12 :: u 13 :: u 14 :: u 15 :: u 16 :: u 17 :: u 18 :: u 19 :: u 20 :: u 21 :: u 22 :: u 23 :: u 24 :: u 25 :: u 26 :: u 27 :: u 28 :: u 29 :: u 30 :: u 31 :: u 32 :: u 33 :: u 34 :: u 35 :: u 36 :: u 37 :: u 38 :: u 39 :: u 40 :: u 41 :: u 42 :: u 43 :: u 44 :: u 45 :: u 46 :: u 47 :: u 48 :: u 49 :: u 50 :: u 51 :: u 52 :: u 53 :: u 54 :: u 55 :: u 56 :: u 57 :: u 58 :: u 59 :: u 60 :: u 61 :: u 62 :: u 63 :: u 64 :: u 65 :: u 66 :: u 67 :: u 68 :: u 69 :: u 70 :: u 71 :: u 72 :: u 73 :: u 74 :: u 75 :: u 76 :: u 77 :: u 78 :: u 79 :: u 80 :: u 81 :: u 82 :: u 83 :: u 84 :: u 85 :: u 86 :: u 87 :: []), []⟩) (fun a _ => 32 - (intOf (a.tmps.getD 6 undef)).toNat) ⟨0, by omega, B_V1, q1, q2, q3, q5, exFrame (by kernel_rfl)⟩ ?_
 rintro a wr ⟨b, hb, hbl, r1, r2, r3, r5, u, rfl⟩
 clear q1 q2 q3 q5 B_V1
 have q1 := r1
 have q2 := r2
 have q3 := r3
 have q5 := r5
 clear r1 r2 r3 r5
 by_cases hlt : b < 32
 ·
  have a5 := q1.cell 5
  have a7 := q1.cell 7
  have a9 := q1.cell 9
  have la := q1.lt
  simp at a5 a7 a9
  have b4 := q2.cell 4
  have b6 := q2.cell 6
  have lb := q2.lt
  simp at b4 b6
  have NG := ex_alloc (Below.refl wr.heap.size wr) (.cells #[.int .i64 0, .int .i64 t.k.lo, .int .i64 t.lag.lo, .int .i64 t.sq.lo, .int .i64 r.air.lo, .int .i64 r.rate.lo, .int .i64 0] 82)
  have q7 : Blk (wr.alloc (.cells #[.int .i64 0, .int .i64 t.k.lo, .int .i64 t.lag.lo, .int .i64 t.sq.lo, .int .i64 r.air.lo, .int .i64 r.rate.lo, .int .i64 0] 82)) wr.heap.size 82 #[.int .i64 0, .int .i64 t.k.lo, .int .i64 t.lag.lo, .int .i64 t.sq.lo, .int .i64 r.air.lo, .int .i64 r.rate.lo, .int .i64 0] := Blk.new _ _ _
  have lt_q1 := q1.lt
  have lt_q2 := q2.lt
  have lt_q3 := q3.lt
  have lt_q5 := q5.lt
  go_upto_region 6 with fail
  clear a5 a7 a9 la b4 b6 lb
  obtain ⟨p7, hp7'⟩ : ∃ p, wr.heap.size = p := ⟨_, rfl⟩
  rw [hp7'] at q7 lt_q1 lt_q2 lt_q3 lt_q5 ⊢
  have zp7 : w.heap.size ≤ p7 := by have := hbl.size; omega
  clear hp7'
  have nq1_p7 : pq1 ≠ p7 := by omega
  clear lt_q1
  have nq2_p7 : pq2 ≠ p7 := by omega
  clear lt_q2
  have nq3_p7 : pq3 ≠ p7 := by omega
  clear lt_q3
  have nq5_p7 : p5 ≠ p7 := by omega
  clear lt_q5
  replace q1 := q1.below NG q1.lt
  replace q2 := q2.below NG q2.lt
  replace q3 := q3.below NG q3.lt
  replace q5 := q5.below NG q5.lt
  have B_V2 := ex_trans hbl NG
  clear NG
  generalize wr.alloc (.cells #[.int .i64 0, .int .i64 t.k.lo, .int .i64 t.lag.lo, .int .i64 t.sq.lo, .int .i64 r.air.lo, .int .i64 r.rate.lo, .int .i64 0] 82) = V2 at *
  have hb32 := hlt
  clear hlt
  rename_i K1 hK1 K2 hK2
  have hrest6 : ∀ (V3 : World) (a : Act), Below w.heap.size w V3 → Blk V3 pq1 29 #[.int .i64 t.g.base, .slice Ab t.g.bands.length cb, .slice Ad t.g.depths.length cd, .int .i64 t.g.blo, .int .i64 t.g.bhi, .int .i64 t.k.lo, .int .i64 t.k.hi, .int .i64 t.lag.lo, .int .i64 t.lag.hi, .int .i64 t.sq.lo, .int .i64 t.sq.hi, .int .i64 t.term] → Blk V3 pq2 33 #[.int .i64 r.day, .int .i64 r.shown, .int .i64 r.err, .int .i64 r.bare, .int .i64 r.air.lo, .int .i64 r.air.hi, .int .i64 r.rate.lo, .int .i64 r.rate.hi, .int .i64 r.deep, .bool r.broken] → Blk V3 pq3 25 #[.int .i64 0, .int .i64 0] → Blk V3 p5 25 #[.int .i64 (corTo t r b).lo, .int .i64 (corTo t r b).hi] → Blk V3 p7 82 #[.int .i64 0, .int .i64 (endOf t.k b), .int .i64 t.lag.lo, .int .i64 t.sq.lo, .int .i64 r.air.lo, .int .i64 r.rate.lo, .int .i64 0] → (∃ u : Nat → Value, a = ⟨List.toArray (u 0 :: u 1 :: .pointer (some ⟨pq1, 0, none⟩) :: .pointer (some ⟨pq2, 0, none⟩) :: .pointer (some ⟨pq3, 0, none⟩) :: .pointer (some ⟨p5, 0, none⟩) :: .int .i64 (b : Int) :: .pointer (some ⟨p7, 0, none⟩) :: u 8 :: u 9 :: u 10 :: u 11 :: u 12 :: u 13 :: u 14 :: u 15 :: u 16 :: u 17 :: u 18 :: u 19 :: u 20 :: u 21 :: u 22 :: u 23 :: u 24 :: u 25 :: u 26 :: u 27 :: u 28 :: u 29 :: u 30 :: u 31 :: u 32 :: u 33 :: u 34 :: u 35 :: u 36 :: u 37 :: u 38 :: u 39 :: u 40 :: u 41 :: u 42 :: u 43 :: u 44 :: u 45 :: u 46 :: u 47 :: u 48 :: u 49 :: u 50 :: u 51 :: u 52 :: u 53 :: u 54 :: u 55 :: u 56 :: u 57 :: u 58 :: u 59 :: u 60 :: u 61 :: u 62 :: u 63 :: u 64 :: u 65 :: u 66 :: u 67 :: u 68 :: u 69 :: u 70 :: u 71 :: u 72 :: u 73 :: u 74 :: u 75 :: u 76 :: u 77 :: u 78 :: u 79 :: u 80 :: u 81 :: u 82 :: u 83 :: u 84 :: u 85 :: u 86 :: u 87 :: []), []⟩) → K1 a V3 := by
   clear q1 q2 q3 q5 q7 B_V2
   rintro V3 a hbl q1 q2 q3 q5 q7 ⟨u, rfl⟩
   refine hK1 _ _ ?_
   clear hK1 hK2 K1 K2
   go_upto_region 8 with fail
   rename_i K1 hK1 K2 hK2
   have hrest8 : ∀ (V4 : World) (a : Act), Below w.heap.size w V4 → Blk V4 pq1 29 #[.int .i64 t.g.base, .slice Ab t.g.bands.length cb, .slice Ad t.g.depths.length cd, .int .i64 t.g.blo, .int .i64 t.g.bhi, .int .i64 t.k.lo, .int .i64 t.k.hi, .int .i64 t.lag.lo, .int .i64 t.lag.hi, .int .i64 t.sq.lo, .int .i64 t.sq.hi, .int .i64 t.term] → Blk V4 pq2 33 #[.int .i64 r.day, .int .i64 r.shown, .int .i64 r.err, .int .i64 r.bare, .int .i64 r.air.lo, .int .i64 r.air.hi, .int .i64 r.rate.lo, .int .i64 r.rate.hi, .int .i64 r.deep, .bool r.broken] → Blk V4 pq3 25 #[.int .i64 0, .int .i64 0] → Blk V4 p5 25 #[.int .i64 (corTo t r b).lo, .int .i64 (corTo t r b).hi] → Blk V4 p7 82 #[.int .i64 0, .int .i64 (endOf t.k b), .int .i64 (endOf t.lag (b / 2)), .int .i64 t.sq.lo, .int .i64 r.air.lo, .int .i64 r.rate.lo, .int .i64 0] → (∃ u : Nat → Value, a = ⟨List.toArray (u 0 :: u 1 :: .pointer (some ⟨pq1, 0, none⟩) :: .pointer (some ⟨pq2, 0, none⟩) :: .pointer (some ⟨pq3, 0, none⟩) :: .pointer (some ⟨p5, 0, none⟩) :: .int .i64 (b : Int) :: .pointer (some ⟨p7, 0, none⟩) :: u 8 :: u 9 :: u 10 :: u 11 :: u 12 :: u 13 :: u 14 :: u 15 :: u 16 :: u 17 :: u 18 :: u 19 :: u 20 :: u 21 :: u 22 :: u 23 :: u 24 :: u 25 :: u 26 :: u 27 :: u 28 :: u 29 :: u 30 :: u 31 :: u 32 :: u 33 :: u 34 :: u 35 :: u 36 :: u 37 :: u 38 :: u 39 :: u 40 :: u 41 :: u 42 :: u 43 :: u 44 :: u 45 :: u 46 :: u 47 :: u 48 :: u 49 :: u 50 :: u 51 :: u 52 :: u 53 :: u 54 :: u 55 :: u 56 :: u 57 :: u 58 :: u 59 :: u 60 :: u 61 :: u 62 :: u 63 :: u 64 :: u 65 :: u 66 :: u 67 :: u 68 :: u 69 :: u 70 :: u 71 :: u 72 :: u 73 :: u 74 :: u 75 :: u 76 :: u 77 :: u 78 :: u 79 :: u 80 :: u 81 :: u 82 :: u 83 :: u 84 :: u 85 :: u 86 :: u 87 :: []), []⟩) → K1 a V4 := by
    clear q1 q2 q3 q5 q7 hbl
    rintro V4 a hbl q1 q2 q3 q5 q7 ⟨u, rfl⟩
    refine hK1 _ _ ?_
    clear hK1 hK2 K1 K2
    go_upto_region 10 with fail
    rename_i K1 hK1 K2 hK2
    have hrest10 : ∀ (V5 : World) (a : Act), Below w.heap.size w V5 → Blk V5 pq1 29 #[.int .i64 t.g.base, .slice Ab t.g.bands.length cb, .slice Ad t.g.depths.length cd, .int .i64 t.g.blo, .int .i64 t.g.bhi, .int .i64 t.k.lo, .int .i64 t.k.hi, .int .i64 t.lag.lo, .int .i64 t.lag.hi, .int .i64 t.sq.lo, .int .i64 t.sq.hi, .int .i64 t.term] → Blk V5 pq2 33 #[.int .i64 r.day, .int .i64 r.shown, .int .i64 r.err, .int .i64 r.bare, .int .i64 r.air.lo, .int .i64 r.air.hi, .int .i64 r.rate.lo, .int .i64 r.rate.hi, .int .i64 r.deep, .bool r.broken] → Blk V5 pq3 25 #[.int .i64 0, .int .i64 0] → Blk V5 p5 25 #[.int .i64 (corTo t r b).lo, .int .i64 (corTo t r b).hi] → Blk V5 p7 82 #[.int .i64 0, .int .i64 (endOf t.k b), .int .i64 (endOf t.lag (b / 2)), .int .i64 (endOf t.sq (b / 4)), .int .i64 r.air.lo, .int .i64 r.rate.lo, .int .i64 0] → (∃ u : Nat → Value, a = ⟨List.toArray (u 0 :: u 1 :: .pointer (some ⟨pq1, 0, none⟩) :: .pointer (some ⟨pq2, 0, none⟩) :: .pointer (some ⟨pq3, 0, none⟩) :: .pointer (some ⟨p5, 0, none⟩) :: .int .i64 (b : Int) :: .pointer (some ⟨p7, 0, none⟩) :: u 8 :: u 9 :: u 10 :: u 11 :: u 12 :: u 13 :: u 14 :: u 15 :: u 16 :: u 17 :: u 18 :: u 19 :: u 20 :: u 21 :: u 22 :: u 23 :: u 24 :: u 25 :: u 26 :: u 27 :: u 28 :: u 29 :: u 30 :: u 31 :: u 32 :: u 33 :: u 34 :: u 35 :: u 36 :: u 37 :: u 38 :: u 39 :: u 40 :: u 41 :: u 42 :: u 43 :: u 44 :: u 45 :: u 46 :: u 47 :: u 48 :: u 49 :: u 50 :: u 51 :: u 52 :: u 53 :: u 54 :: u 55 :: u 56 :: u 57 :: u 58 :: u 59 :: u 60 :: u 61 :: u 62 :: u 63 :: u 64 :: u 65 :: u 66 :: u 67 :: u 68 :: u 69 :: u 70 :: u 71 :: u 72 :: u 73 :: u 74 :: u 75 :: u 76 :: u 77 :: u 78 :: u 79 :: u 80 :: u 81 :: u 82 :: u 83 :: u 84 :: u 85 :: u 86 :: u 87 :: []), []⟩) → K1 a V5 := by
     clear q1 q2 q3 q5 q7 hbl
     rintro V5 a hbl q1 q2 q3 q5 q7 ⟨u, rfl⟩
     refine hK1 _ _ ?_
     clear hK1 hK2 K1 K2
     go_upto_region 12 with fail
     rename_i K1 hK1 K2 hK2
     have hrest12 : ∀ (V6 : World) (a : Act), Below w.heap.size w V6 → Blk V6 pq1 29 #[.int .i64 t.g.base, .slice Ab t.g.bands.length cb, .slice Ad t.g.depths.length cd, .int .i64 t.g.blo, .int .i64 t.g.bhi, .int .i64 t.k.lo, .int .i64 t.k.hi, .int .i64 t.lag.lo, .int .i64 t.lag.hi, .int .i64 t.sq.lo, .int .i64 t.sq.hi, .int .i64 t.term] → Blk V6 pq2 33 #[.int .i64 r.day, .int .i64 r.shown, .int .i64 r.err, .int .i64 r.bare, .int .i64 r.air.lo, .int .i64 r.air.hi, .int .i64 r.rate.lo, .int .i64 r.rate.hi, .int .i64 r.deep, .bool r.broken] → Blk V6 pq3 25 #[.int .i64 0, .int .i64 0] → Blk V6 p5 25 #[.int .i64 (corTo t r b).lo, .int .i64 (corTo t r b).hi] → Blk V6 p7 82 #[.int .i64 0, .int .i64 (endOf t.k b), .int .i64 (endOf t.lag (b / 2)), .int .i64 (endOf t.sq (b / 4)), .int .i64 (endOf r.air (b / 8)), .int .i64 r.rate.lo, .int .i64 0] → (∃ u : Nat → Value, a = ⟨List.toArray (u 0 :: u 1 :: .pointer (some ⟨pq1, 0, none⟩) :: .pointer (some ⟨pq2, 0, none⟩) :: .pointer (some ⟨pq3, 0, none⟩) :: .pointer (some ⟨p5, 0, none⟩) :: .int .i64 (b : Int) :: .pointer (some ⟨p7, 0, none⟩) :: u 8 :: u 9 :: u 10 :: u 11 :: u 12 :: u 13 :: u 14 :: u 15 :: u 16 :: u 17 :: u 18 :: u 19 :: u 20 :: u 21 :: u 22 :: u 23 :: u 24 :: u 25 :: u 26 :: u 27 :: u 28 :: u 29 :: u 30 :: u 31 :: u 32 :: u 33 :: u 34 :: u 35 :: u 36 :: u 37 :: u 38 :: u 39 :: u 40 :: u 41 :: u 42 :: u 43 :: u 44 :: u 45 :: u 46 :: u 47 :: u 48 :: u 49 :: u 50 :: u 51 :: u 52 :: u 53 :: u 54 :: u 55 :: u 56 :: u 57 :: u 58 :: u 59 :: u 60 :: u 61 :: u 62 :: u 63 :: u 64 :: u 65 :: u 66 :: u 67 :: u 68 :: u 69 :: u 70 :: u 71 :: u 72 :: u 73 :: u 74 :: u 75 :: u 76 :: u 77 :: u 78 :: u 79 :: u 80 :: u 81 :: u 82 :: u 83 :: u 84 :: u 85 :: u 86 :: u 87 :: []), []⟩) → K1 a V6 := by
      clear q1 q2 q3 q5 q7 hbl
      rintro V6 a hbl q1 q2 q3 q5 q7 ⟨u, rfl⟩
      refine hK1 _ _ ?_
      clear hK1 hK2 K1 K2
      go_upto_region 14 with fail
      rename_i K1 hK1 K2 hK2
      have hrest14 : ∀ (V7 : World) (a : Act), Below w.heap.size w V7 → Blk V7 pq1 29 #[.int .i64 t.g.base, .slice Ab t.g.bands.length cb, .slice Ad t.g.depths.length cd, .int .i64 t.g.blo, .int .i64 t.g.bhi, .int .i64 t.k.lo, .int .i64 t.k.hi, .int .i64 t.lag.lo, .int .i64 t.lag.hi, .int .i64 t.sq.lo, .int .i64 t.sq.hi, .int .i64 t.term] → Blk V7 pq2 33 #[.int .i64 r.day, .int .i64 r.shown, .int .i64 r.err, .int .i64 r.bare, .int .i64 r.air.lo, .int .i64 r.air.hi, .int .i64 r.rate.lo, .int .i64 r.rate.hi, .int .i64 r.deep, .bool r.broken] → Blk V7 pq3 25 #[.int .i64 0, .int .i64 0] → Blk V7 p5 25 #[.int .i64 (corTo t r b).lo, .int .i64 (corTo t r b).hi] → Blk V7 p7 82 #[.int .i64 0, .int .i64 (endOf t.k b), .int .i64 (endOf t.lag (b / 2)), .int .i64 (endOf t.sq (b / 4)), .int .i64 (endOf r.air (b / 8)), .int .i64 (endOf r.rate (b / 16)), .int .i64 0] → (∃ u : Nat → Value, a = ⟨List.toArray (u 0 :: u 1 :: .pointer (some ⟨pq1, 0, none⟩) :: .pointer (some ⟨pq2, 0, none⟩) :: .pointer (some ⟨pq3, 0, none⟩) :: .pointer (some ⟨p5, 0, none⟩) :: .int .i64 (b : Int) :: .pointer (some ⟨p7, 0, none⟩) :: u 8 :: u 9 :: u 10 :: u 11 :: u 12 :: u 13 :: u 14 :: u 15 :: u 16 :: u 17 :: u 18 :: u 19 :: u 20 :: u 21 :: u 22 :: u 23 :: u 24 :: u 25 :: u 26 :: u 27 :: u 28 :: u 29 :: u 30 :: u 31 :: u 32 :: u 33 :: u 34 :: u 35 :: u 36 :: u 37 :: u 38 :: u 39 :: u 40 :: u 41 :: u 42 :: u 43 :: u 44 :: u 45 :: u 46 :: u 47 :: u 48 :: u 49 :: u 50 :: u 51 :: u 52 :: u 53 :: u 54 :: u 55 :: u 56 :: u 57 :: u 58 :: u 59 :: u 60 :: u 61 :: u 62 :: u 63 :: u 64 :: u 65 :: u 66 :: u 67 :: u 68 :: u 69 :: u 70 :: u 71 :: u 72 :: u 73 :: u 74 :: u 75 :: u 76 :: u 77 :: u 78 :: u 79 :: u 80 :: u 81 :: u 82 :: u 83 :: u 84 :: u 85 :: u 86 :: u 87 :: []), []⟩) → K1 a V7 := by
       clear q1 q2 q3 q5 q7 hbl
       rintro V7 a hbl q1 q2 q3 q5 q7 ⟨u, rfl⟩
       refine hK1 _ _ ?_
       clear hK1 hK2 K1 K2
       have hq : KiBd (Tx.ki (⟨0, endOf t.k b, endOf t.lag (b / 2), endOf t.sq (b / 4), endOf r.air (b / 8), endOf r.rate (b / 16), 0⟩ : Tx)) := (corK_in ht b).bd ht
       have hpb := corP_bd ht hr b
       have HE : Hid (playW r (⟨0, endOf t.k b, endOf t.lag (b / 2), endOf t.sq (b / 4), endOf r.air (b / 8), endOf r.rate (b / 16), 0⟩ : Tx) = corP t r b) := Lib.hid (by unfold playW corP corK Tx.ki; simp only [Int.sub_zero])
       have HC : Hid (corTo t r (b + 1) = ⟨min (corTo t r b).lo (corP t r b - r.err), max (corTo t r b).hi (corP t r b + r.err)⟩) := Lib.hid rfl
       have hcb := corTo_bd ht hr b
       have her := hr.err
       have ha := hr.air
       have hra := hr.rate
       go_wp2_with (refine pause_at 69 rfl ?_)
       refine Paused.mk ?_
       refine wpList_load_row rfl 33 _ rfl _ rfl 33 _ (0, 0) _ (q2) Tryz.underlying33 rfl (by kernel_rfl) ?_
       go_wp2_with (refine pause_at 70 rfl ?_)
       refine Paused.mk ?_
       refine wpList_load_row rfl 82 _ rfl _ rfl 82 _ (0, 0) _ (q7) Tryz.underlying82 rfl (by kernel_rfl) ?_
       go_wp2_with fail
       refine (sr_play r (⟨0, endOf t.k b, endOf t.lag (b / 2), endOf t.sq (b / 4), endOf r.air (b / 8), endOf r.rate (b / 16), 0⟩ : Tx) _ hr hq (by rcases endOf_or r.air (b / 8) with h | h <;> simp only [h] <;> omega) (by rcases endOf_or r.rate (b / 16) with h | h <;> simp only [h] <;> omega) (by simp only; omega) (by simp only; omega)).mono ?_
       rintro e V8 ⟨rfl, hV8⟩
       replace q1 := q1.below hV8 q1.lt
       replace q2 := q2.below hV8 q2.lt
       replace q3 := q3.below hV8 q3.lt
       replace q5 := q5.below hV8 q5.lt
       replace q7 := q7.below hV8 q7.lt
       have B_V8 := ex_trans hbl hV8
       rw [HE.out]
       generalize corP t r b = n at *
       generalize corTo t r b = o at *
       clear hq ha hra q7
       have b2 : V8.cell? ⟨pq2, 2, none⟩ = some (.int .i64 r.err) := q2.cell 2
       have lb := q2.lt
       have u0 := q5.cell 0
       have u1 := q5.cell 1
       have fu := q5.frozen0
       have lu := q5.lt
       simp at u0 u1
       have m5 := (q5.set_ 0 (.int .i64 (min o.lo (n - r.err)))).set_ 1 (.int .i64 (max o.hi (n + r.err)))
       simp only [List.setIfInBounds_toArray, List.set_cons_zero, List.set_cons_succ] at m5
       have mq1 := (q1.far (p := ⟨p5, 0, none⟩) nq1_p5 (.int .i64 (min o.lo (n - r.err)))).far (p := ⟨p5, 1, none⟩) nq1_p5 (.int .i64 (max o.hi (n + r.err)))
       have mq2 := (q2.far (p := ⟨p5, 0, none⟩) nq2_p5 (.int .i64 (min o.lo (n - r.err)))).far (p := ⟨p5, 1, none⟩) nq2_p5 (.int .i64 (max o.hi (n + r.err)))
       have mq3 := (q3.far (p := ⟨p5, 0, none⟩) nq3_p5 (.int .i64 (min o.lo (n - r.err)))).far (p := ⟨p5, 1, none⟩) nq3_p5 (.int .i64 (max o.hi (n + r.err)))
       have mB := ex_set (p := ⟨p5, 1, none⟩) (ex_set (p := ⟨p5, 0, none⟩) B_V8 zp5 (.int .i64 (min o.lo (n - r.err)))) zp5 (.int .i64 (max o.hi (n + r.err)))
       go_wp2
       refine ⟨⟨b + 1, by omega, mB, mq1, mq2, mq3, by rw [HC.out]; exact m5, exFrame (by kernel_rfl)⟩, ?_⟩
       show 32 - (intOf (.int .i64 ((b : Int) + 1))).toNat < 32 - (intOf (.int .i64 (b : Int))).toNat
       simp [intOf]
       omega
      clear hK1
      by_cases hbit : (b / 16) % 2 = 1
      ·
       have e1 : ((b : Int) / 16 % 2 == 1) = true := by rw [beq_iff_eq]; omega
       rw [endOf_yes hbit] at hrest14
       have c1 := q2.cell 7
       have lc := q2.lt
       have d1 := q7.cell 5
       have f7 := q7.frozen0
       have l7 := q7.lt
       simp at c1 d1
       go_wp2_with fail
       refine hrest14 _ _ (ex_set (p := ⟨p7, 5, none⟩) hbl zp7 (.int .i64 r.rate.hi)) (q1.far (p := ⟨p7, 5, none⟩) nq1_p7 (.int .i64 r.rate.hi)) (q2.far (p := ⟨p7, 5, none⟩) nq2_p7 (.int .i64 r.rate.hi)) (q3.far (p := ⟨p7, 5, none⟩) nq3_p7 (.int .i64 r.rate.hi)) (q5.far (p := ⟨p7, 5, none⟩) nq5_p7 (.int .i64 r.rate.hi)) ?_ (exFrame (by kernel_rfl))
       have m7 := q7.set_ 5 (.int .i64 r.rate.hi)
       simp only [List.setIfInBounds_toArray, List.set_cons_zero, List.set_cons_succ] at m7
       exact m7
      ·
       have e1 : ((b : Int) / 16 % 2 == 1) = false := by rw [beq_eq_false_iff_ne]; omega
       rw [endOf_no hbit] at hrest14
       go_wp2_with fail
       exact hrest14 _ _ hbl q1 q2 q3 q5 q7 (exFrame (by kernel_rfl))
     clear hK1
     by_cases hbit : (b / 8) % 2 = 1
     ·
      have e1 : ((b : Int) / 8 % 2 == 1) = true := by rw [beq_iff_eq]; omega
      rw [endOf_yes hbit] at hrest12
      have c1 := q2.cell 5
      have lc := q2.lt
      have d1 := q7.cell 4
      have f7 := q7.frozen0
      have l7 := q7.lt
      simp at c1 d1
      go_wp2_with fail
      refine hrest12 _ _ (ex_set (p := ⟨p7, 4, none⟩) hbl zp7 (.int .i64 r.air.hi)) (q1.far (p := ⟨p7, 4, none⟩) nq1_p7 (.int .i64 r.air.hi)) (q2.far (p := ⟨p7, 4, none⟩) nq2_p7 (.int .i64 r.air.hi)) (q3.far (p := ⟨p7, 4, none⟩) nq3_p7 (.int .i64 r.air.hi)) (q5.far (p := ⟨p7, 4, none⟩) nq5_p7 (.int .i64 r.air.hi)) ?_ (exFrame (by kernel_rfl))
      have m7 := q7.set_ 4 (.int .i64 r.air.hi)
      simp only [List.setIfInBounds_toArray, List.set_cons_zero, List.set_cons_succ] at m7
      exact m7
     ·
      have e1 : ((b : Int) / 8 % 2 == 1) = false := by rw [beq_eq_false_iff_ne]; omega
      rw [endOf_no hbit] at hrest12
      go_wp2_with fail
      exact hrest12 _ _ hbl q1 q2 q3 q5 q7 (exFrame (by kernel_rfl))
    clear hK1
    by_cases hbit : (b / 4) % 2 = 1
    ·
     have e1 : ((b : Int) / 4 % 2 == 1) = true := by rw [beq_iff_eq]; omega
     rw [endOf_yes hbit] at hrest10
     have c1 := q1.cell 10
     have lc := q1.lt
     have d1 := q7.cell 3
     have f7 := q7.frozen0
     have l7 := q7.lt
     simp at c1 d1
     go_wp2_with fail
     refine hrest10 _ _ (ex_set (p := ⟨p7, 3, none⟩) hbl zp7 (.int .i64 t.sq.hi)) (q1.far (p := ⟨p7, 3, none⟩) nq1_p7 (.int .i64 t.sq.hi)) (q2.far (p := ⟨p7, 3, none⟩) nq2_p7 (.int .i64 t.sq.hi)) (q3.far (p := ⟨p7, 3, none⟩) nq3_p7 (.int .i64 t.sq.hi)) (q5.far (p := ⟨p7, 3, none⟩) nq5_p7 (.int .i64 t.sq.hi)) ?_ (exFrame (by kernel_rfl))
     have m7 := q7.set_ 3 (.int .i64 t.sq.hi)
     simp only [List.setIfInBounds_toArray, List.set_cons_zero, List.set_cons_succ] at m7
     exact m7
    ·
     have e1 : ((b : Int) / 4 % 2 == 1) = false := by rw [beq_eq_false_iff_ne]; omega
     rw [endOf_no hbit] at hrest10
     go_wp2_with fail
     exact hrest10 _ _ hbl q1 q2 q3 q5 q7 (exFrame (by kernel_rfl))
   clear hK1
   by_cases hbit : (b / 2) % 2 = 1
   ·
    have e1 : ((b : Int) / 2 % 2 == 1) = true := by rw [beq_iff_eq]; omega
    rw [endOf_yes hbit] at hrest8
    have c1 := q1.cell 8
    have lc := q1.lt
    have d1 := q7.cell 2
    have f7 := q7.frozen0
    have l7 := q7.lt
    simp at c1 d1
    go_wp2_with fail
    refine hrest8 _ _ (ex_set (p := ⟨p7, 2, none⟩) hbl zp7 (.int .i64 t.lag.hi)) (q1.far (p := ⟨p7, 2, none⟩) nq1_p7 (.int .i64 t.lag.hi)) (q2.far (p := ⟨p7, 2, none⟩) nq2_p7 (.int .i64 t.lag.hi)) (q3.far (p := ⟨p7, 2, none⟩) nq3_p7 (.int .i64 t.lag.hi)) (q5.far (p := ⟨p7, 2, none⟩) nq5_p7 (.int .i64 t.lag.hi)) ?_ (exFrame (by kernel_rfl))
    have m7 := q7.set_ 2 (.int .i64 t.lag.hi)
    simp only [List.setIfInBounds_toArray, List.set_cons_zero, List.set_cons_succ] at m7
    exact m7
   ·
    have e1 : ((b : Int) / 2 % 2 == 1) = false := by rw [beq_eq_false_iff_ne]; omega
    rw [endOf_no hbit] at hrest8
    go_wp2_with fail
    exact hrest8 _ _ hbl q1 q2 q3 q5 q7 (exFrame (by kernel_rfl))
  clear hK1
  by_cases hbit : b % 2 = 1
  ·
   have e1 : ((b : Int) % 2 == 1) = true := by rw [beq_iff_eq]; omega
   rw [endOf_yes hbit] at hrest6
   have c1 := q1.cell 6
   have lc := q1.lt
   have d1 := q7.cell 1
   have f7 := q7.frozen0
   have l7 := q7.lt
   simp at c1 d1
   go_wp2_with fail
   refine hrest6 _ _ (ex_set (p := ⟨p7, 1, none⟩) B_V2 zp7 (.int .i64 t.k.hi)) (q1.far (p := ⟨p7, 1, none⟩) nq1_p7 (.int .i64 t.k.hi)) (q2.far (p := ⟨p7, 1, none⟩) nq2_p7 (.int .i64 t.k.hi)) (q3.far (p := ⟨p7, 1, none⟩) nq3_p7 (.int .i64 t.k.hi)) (q5.far (p := ⟨p7, 1, none⟩) nq5_p7 (.int .i64 t.k.hi)) ?_ (exFrame (by kernel_rfl))
   have m7 := q7.set_ 1 (.int .i64 t.k.hi)
   simp only [List.setIfInBounds_toArray, List.set_cons_zero, List.set_cons_succ] at m7
   exact m7
  ·
   have e1 : ((b : Int) % 2 == 1) = false := by rw [beq_eq_false_iff_ne]; omega
   rw [endOf_no hbit] at hrest6
   go_wp2_with fail
   exact hrest6 _ _ B_V2 q1 q2 q3 q5 q7 (exFrame (by kernel_rfl))
 ·
  obtain rfl : b = 32 := by omega
  have HO := Lib.hid (ends_eq ht hr)
  have u0 := q5.cell 0
  have u1 := q5.cell 1
  have lu := q5.lt
  simp at u0 u1
  rw [HO.out] at u0 u1
  clear hlt q5
  generalize hbn : bndP t r = n at *
  have HBN := Lib.hid hbn
  clear hbn
  have r0 := q3.cell 0
  have r1 := q3.cell 1
  have fr := q3.frozen0
  have lr := q3.lt
  simp at r0 r1
  have m3 := (q3.set_ 0 (.int .i64 n.lo)).set_ 1 (.int .i64 n.hi)
  simp only [List.setIfInBounds_toArray, List.set_cons_zero, List.set_cons_succ] at m3
  go_wp2
  refine bodyPost_ret (results_cell_row rfl _ _ _ 25 #[.int .i64 n.lo, .int .i64 n.hi] (0, 0) _ rfl m3 rfl rfl rfl) rfl ?_
  exact ⟨by rw [HBN.out], ex_set (p := ⟨pq3, 1, none⟩) (ex_set (p := ⟨pq3, 0, none⟩) hbl hp3 _) hp3 _⟩


end Go.Proofs.YtkaogjhnogkcdaaGreat
end

section
namespace Go.Proofs.YtkaogjhnogkcdaaGreat
open Go.RowKit
attribute [local go_sem] Ex.cell? Ex.frozen?

set_option maxRecDepth 100000 in
set_option maxHeartbeats 12800000 in
theorem sl_endsL (t : Tb) (Ab Ad : Option Addr) (cb cd : Nat) (Ah Aw : Option Addr) (ch cw : Nat) (h : List Rg) (ws : List Int) (m : Int) (r : Rd) (w : World) (hg : GlIn w w.heap.size t.g Ab Ad) (hh : SlAt w w.heap.size 2 Ah h.length (fR h)) (hw : SlAt w w.heap.size 1 Aw ws.length (fU ws)) (hwb : ∀ k, k < ws.length → 0 ≤ gI ws k ∧ gI ws k ≤ 65535) (hwl : ws.length ≤ maxLen) (hm : 0 ≤ m ∧ m ≤ 255) :
  Calls Tryz.prog 6 #[.agg #[.int .i64 t.g.base, .slice Ab t.g.bands.length cb, .slice Ad t.g.depths.length cd, .int .i64 t.g.blo, .int .i64 t.g.bhi, .int .i64 t.k.lo, .int .i64 t.k.hi, .int .i64 t.lag.lo, .int .i64 t.lag.hi, .int .i64 t.sq.lo, .int .i64 t.sq.hi, .int .i64 t.term], .slice Ah h.length ch, .slice Aw ws.length cw, .int .u8 m, .agg #[.int .i64 r.day, .int .i64 r.shown, .int .i64 r.err, .int .i64 r.bare, .int .i64 r.air.lo, .int .i64 r.air.hi, .int .i64 r.rate.lo, .int .i64 r.rate.hi, .int .i64 r.deep, .bool r.broken]] w fun e w' => e = .returned (.bool true) ∧ Below w.heap.size w w' := by
 have HWB := Lib.hid hwb
 clear hwb
 go_enter Tryz.func6, Tryz.ntmps6
 go_upto_region 1 with fail
 show Code.wp _ _ _ _ _
 refine box2 (K := fun V => Code.wp _ _ _ _ V) ?_
 intro V hb1 q1 q2
 replace hg := hg.go hb1
 replace hh := (hh.below hb1).up hb1.size
 replace hw := (hw.below hb1).up hb1.size
 obtain ⟨pq1, hpq1⟩ : ∃ p, w.heap.size = p := ⟨_, rfl⟩
 obtain ⟨pq2, hpq2⟩ : ∃ p, w.heap.size + 1 = p := ⟨_, rfl⟩
 rw [hpq2] at q2 ⊢
 rw [hpq1] at q1 ⊢
 have hp1 : w.heap.size ≤ pq1 := by omega
 have hp2 : w.heap.size ≤ pq2 := by omega
 clear hpq1 hpq2
 go_wp2_with (refine pause_at 20 rfl ?_)
 refine Paused.mk ?_
 refine wpList_load_row rfl 29 _ rfl _ rfl 29 _ (0, 0) _ (q1) Tryz.underlying29 rfl (by kernel_rfl) ?_
 go_wp2_with fail
 refine (sl_lives t Ab Ad cb cd Ah Aw ch cw h ws m _ hg hh hw HWB.out hwl hm).mono ?_
 rintro e V1 ⟨hlv, hV1⟩
 replace q1 := q1.below hV1 q1.lt
 replace q2 := q2.below hV1 q2.lt
 replace hg := hg.go hV1
 replace hh := (hh.below hV1).up hV1.size
 replace hw := (hw.below hV1).up hV1.size
 have B_V1 := ex_trans hb1 hV1
 obtain ⟨hlv⟩ := hlv
 rcases hlv with ⟨A0, n0, c0, A0', n0', c0', rfl⟩ | ⟨Ai, ci, l, Az, cz, zs, rfl, hl, hci1, hci2, hi, hz⟩
 ·
  go_wp2_with fail
  refine (sl_awake _).mono ?_
  rintro e V2 ⟨rfl, hV2⟩
  replace q1 := q1.below hV2 q1.lt
  replace q2 := q2.below hV2 q2.lt
  replace hg := hg.go hV2
  replace hh := (hh.below hV2).up hV2.size
  replace hw := (hw.below hV2).up hV2.size
  have B_V2 := ex_trans B_V1 hV2
  go_wp2
  go_ret
  exact ⟨rfl, B_V2⟩
 ·
  have HL := Lib.hid hl
  have hnb := hl.nb
  have hnd := hl.nd
  have hnh := hl.nh
  have hl4 := hl.l4
  clear hl
  clear hw HWB
  go_wp2_with (refine pause_at 31 rfl ?_)
  refine Paused.mk ?_
  refine wpList_load_rowG (by kernel_rfl) 33 _ rfl _ (by kernel_rfl) 33 _ (0, 0) _ (q2) Tryz.underlying33 rfl (by kernel_rfl) ?_
  go_wp2_with fail
  refine (sr_isreading h.length r _ (by omega)).mono ?_
  rintro e V3 ⟨rfl, hV3⟩
  replace q1 := q1.below hV3 q1.lt
  replace q2 := q2.below hV3 q2.lt
  replace hg := hg.go hV3
  replace hh := (hh.below hV3).up hV3.size
  replace hi := (hi.below hV3).up hV3.size
  replace hz := (hz.below hV3).up hV3.size
  have B_V3 := ex_trans B_V1 hV3
  rcases Bool.eq_false_or_eq_true (rdOk h.length r) with hd | hd
  rotate_left
  ·
   rw [hd]
   clear hd
   go_wp2_with fail
   refine (sl_awake _).mono ?_
   rintro e V4 ⟨rfl, hV4⟩
   replace q1 := q1.below hV4 q1.lt
   replace q2 := q2.below hV4 q2.lt
   replace hg := hg.go hV4
   replace hh := (hh.below hV4).up hV4.size
   replace hi := (hi.below hV4).up hV4.size
   replace hz := (hz.below hV4).up hV4.size
   have B_V4 := ex_trans B_V3 hV4
   go_wp2
   go_ret
   exact ⟨rfl, B_V4⟩
  ·
   rw [hd]
   have HA := Lib.hid (ask_of HL.out.use0 hd)
   have HO := Lib.hid (ask_bd HA.out)
   obtain ⟨k, hk, hkl⟩ := HO.out.day
   have hday : 0 ≤ r.day ∧ r.day ≤ 1000000 := by omega
   have HK := Lib.hid hk
   have HKT : Hid (r.day.toNat = k) := Lib.hid (by omega)
   clear hk hd
   rcases Bool.eq_false_or_eq_true r.broken with hb | hb
   ·
    have b9 : V3.cell? ⟨pq2, 9, none⟩ = some (.bool r.broken) := q2.cell 9
    rw [hb] at b9
    have lb := q2.lt
    clear hb
    go_wp2_with fail
    refine (sl_awake _).mono ?_
    rintro e V5 ⟨rfl, hV5⟩
    replace q1 := q1.below hV5 q1.lt
    replace q2 := q2.below hV5 q2.lt
    replace hg := hg.go hV5
    replace hh := (hh.below hV5).up hV5.size
    replace hi := (hi.below hV5).up hV5.size
    replace hz := (hz.below hV5).up hV5.size
    have B_V5 := ex_trans B_V3 hV5
    go_wp2
    go_ret
    exact ⟨rfl, B_V5⟩
   ·
    have b9 : V3.cell? ⟨pq2, 9, none⟩ = some (.bool r.broken) := q2.cell 9
    rw [hb] at b9
    have lb := q2.lt
    have HB := Lib.hid hb
    clear hb
    go_wp2_with (refine pause_at 42 rfl ?_)
    refine Paused.mk ?_
    refine wpList_load_rowG (by kernel_rfl) 29 _ rfl _ (by kernel_rfl) 29 _ (0, 0) _ (q1) Tryz.underlying29 rfl (by kernel_rfl) ?_
    go_wp2_with (refine pause_at 44 rfl ?_)
    refine Paused.mk ?_
    refine wpList_load_rowG (by kernel_rfl) 33 _ rfl _ (by kernel_rfl) 33 _ (0, 0) _ (q2) Tryz.underlying33 rfl (by kernel_rfl) ?_
    clear b9 lb
    go_wp2_with fail
    refine (sr_stale t Ab Ad cb cd _ _ l r _ hi (by omega) hday).mono ?_
    rintro e V6 ⟨rfl, hV6⟩
    replace q1 := q1.below hV6 q1.lt
    replace q2 := q2.below hV6 q2.lt
    replace hg := hg.go hV6
    replace hh := (hh.below hV6).up hV6.size
    replace hi := (hi.below hV6).up hV6.size
    replace hz := (hz.below hV6).up hV6.size
    have B_V6 := ex_trans B_V3 hV6
    rcases Bool.eq_false_or_eq_true (staleB t l r.day) with hs | hs
    ·
     rw [hs]
     clear hs
     go_wp2_with fail
     refine (sl_awake _).mono ?_
     rintro e V7 ⟨rfl, hV7⟩
     replace q1 := q1.below hV7 q1.lt
     replace q2 := q2.below hV7 q2.lt
     replace hg := hg.go hV7
     replace hh := (hh.below hV7).up hV7.size
     replace hi := (hi.below hV7).up hV7.size
     replace hz := (hz.below hV7).up hV7.size
     have B_V7 := ex_trans B_V6 hV7
     go_wp2
     go_ret
     exact ⟨rfl, B_V7⟩
    ·
     rw [hs]
     have HS := Lib.hid hs
     clear hs
     have HR : Hid (refE t l r (agreeB t.g h l off0) = 0) := Lib.hid (by rw [HL.out.ag]; exact ref_of HB.out HS.out)
     clear hz
     go_upto_region 4 with fail
     rename_i K0 hK0
     have hrest : ∀ (V8 : World) (pi : Nat) (R1 : Rg) (ev1 : Int) (a : Act), Below V6.heap.size V6 V8 → V6.heap.size ≤ pi → Blk V8 pi 41 #[.int .i64 (R1 : Rg).lo, .int .i64 (R1 : Rg).hi] → Hid (CorV t h l r R1 ev1) → (∃ u : Nat → Value, a = ⟨List.toArray (u 0 :: .slice Ah h.length ch :: u 2 :: u 3 :: u 4 :: .pointer (some ⟨pq1, 0, none⟩) :: u 6 :: u 7 :: u 8 :: .pointer (some ⟨pq2, 0, none⟩) :: .bool false :: .slice Ai l.length ci :: u 12 :: u 13 :: .pointer (some ⟨pi, 0, none⟩) :: .int .i64 ev1 :: u 16 :: u 17 :: u 18 :: u 19 :: u 20 :: u 21 :: u 22 :: u 23 :: u 24 :: u 25 :: u 26 :: u 27 :: u 28 :: u 29 :: u 30 :: u 31 :: u 32 :: u 33 :: u 34 :: u 35 :: u 36 :: u 37 :: u 38 :: u 39 :: u 40 :: u 41 :: u 42 :: u 43 :: u 44 :: u 45 :: u 46 :: u 47 :: u 48 :: u 49 :: u 50 :: u 51 :: u 52 :: u 53 :: u 54 :: u 55 :: u 56 :: u 57 :: u 58 :: u 59 :: u 60 :: u 61 :: u 62 :: u 63 :: u 64 :: u 65 :: u 66 :: u 67 :: u 68 :: u 69 :: u 70 :: u 71 :: u 72 :: u 73 :: u 74 :: u 75 :: u 76 :: u 77 :: u 78 :: u 79 :: u 80 :: u 81 :: u 82 :: u 83 :: u 84 :: u 85 :: u 86 :: u 87 :: u 88 :: u 89 :: u 90 :: u 91 :: u 92 :: u 93 :: u 94 :: u 95 :: u 96 :: u 97 :: u 98 :: u 99 :: u 100 :: u 101 :: u 102 :: u 103 :: u 104 :: u 105 :: u 106 :: u 107 :: u 108 :: u 109 :: u 110 :: u 111 :: u 112 :: u 113 :: u 114 :: u 115 :: []), []⟩) → K0 a V8 := by
      rintro V8 pi R1 ev1 a hX9 yi bi hc1 ⟨u, rfl⟩
      refine hK0 _ _ ?_
      clear hK0 K0
      replace q1 := q1.below hX9 q1.lt
      replace q2 := q2.below hX9 q2.lt
      replace hg := hg.go hX9
      replace hh := (hh.below hX9).up hX9.size
      replace hi := (hi.below hX9).up hX9.size
      have B_V8 := ex_trans B_V6 hX9
      have zi : w.heap.size ≤ pi := by have := B_V6.size; omega
      have a0 : V8.cell? ⟨pq1, 0, none⟩ = some (.int .i64 t.g.base) := q1.cell 0
      have a1 : V8.cell? ⟨pq1, 1, none⟩ = some (.slice Ab t.g.bands.length cb) := q1.cell 1
      have a2 : V8.cell? ⟨pq1, 2, none⟩ = some (.slice Ad t.g.depths.length cd) := q1.cell 2
      have a3 : V8.cell? ⟨pq1, 3, none⟩ = some (.int .i64 t.g.blo) := q1.cell 3
      have a4 : V8.cell? ⟨pq1, 4, none⟩ = some (.int .i64 t.g.bhi) := q1.cell 4
      have la := q1.lt
      go_wp2_with fail
      refine (Glass_any t.g _ _ _ _ _ hg (by omega) (by omega)).mono ?_
      rintro e V9 ⟨⟨Ab2, Ad2, cb2, cd2, rfl, hg2⟩, hV9⟩
      replace q1 := q1.below hV9 q1.lt
      replace q2 := q2.below hV9 q2.lt
      replace hg := hg.go hV9
      replace hh := (hh.below hV9).up hV9.size
      replace hi := (hi.below hV9).up hV9.size
      replace bi := bi.below hV9 bi.lt
      have B_V9 := ex_trans B_V8 hV9
      clear a0 a1 a2 a3 a4 la
      go_wp2_with fail
      refine (History_any _ _ h _ (by omega) hh).mono ?_
      rintro e V10 ⟨⟨Ah2, ch2, rfl, -, -, hh2⟩, hV10⟩
      replace q1 := q1.below hV10 q1.lt
      replace q2 := q2.below hV10 q2.lt
      replace hg := hg.go hV10
      replace hh := (hh.below hV10).up hV10.size
      replace hi := (hi.below hV10).up hV10.size
      replace bi := bi.below hV10 bi.lt
      replace hg2 := hg2.go hV10
      have B_V10 := ex_trans B_V9 hV10
      go_wp2_with fail
      refine (Ices_any _ _ l _ (by omega) hi).mono ?_
      rintro e V11 ⟨⟨Ai2, ci2, rfl, -, -, hi2⟩, hV11⟩
      replace q1 := q1.below hV11 q1.lt
      replace q2 := q2.below hV11 q2.lt
      replace hg := hg.go hV11
      replace hh := (hh.below hV11).up hV11.size
      replace hi := (hi.below hV11).up hV11.size
      replace bi := bi.below hV11 bi.lt
      replace hg2 := hg2.go hV11
      replace hh2 := (hh2.below hV11).up hV11.size
      have B_V11 := ex_trans B_V10 hV11
      go_wp2_with fail
      refine (Zeros_v t.g _ _ _ _ _ _ _ _ h l _ hg2 hh2 hi2 (useE_0 HL.out.use0).2).mono ?_
      rintro e V12 ⟨⟨A9, n9, ev9, zs, rfl, hzv, hsz⟩, hV12⟩
      replace q1 := q1.below hV12 q1.lt
      replace q2 := q2.below hV12 q2.lt
      replace hg := hg.go hV12
      replace hh := (hh.below hV12).up hV12.size
      replace hi := (hi.below hV12).up hV12.size
      replace bi := bi.below hV12 bi.lt
      replace hg2 := hg2.go hV12
      replace hh2 := (hh2.below hV12).up hV12.size
      replace hi2 := (hi2.below hV12).up hV12.size
      have B_V12 := ex_trans B_V11 hV12
      clear hg2 hh2 hi2
      obtain ⟨rfl, rfl, hZ⟩ := zeros_ok2 HL.out.ag hzv.out
      have HZ := Lib.hid hZ
      clear hZ hzv
      obtain ⟨rfl, hE1⟩ := cor_ends HA.out HR.out HZ.out HKT.out hc1.out
      have HE1 := Lib.hid hE1
      clear hE1 hc1
      have hzb := zs_bd HO.out.ok HZ.out k hkl
      have hbb := bnd_bd HO.out.tb HO.out.rd
      go_wp2_with (refine pause_at 84 rfl ?_)
      refine Paused.mk ?_
      refine wpList_load_row rfl 29 _ rfl _ rfl 29 _ (0, 0) _ (q1) Tryz.underlying29 rfl (by kernel_rfl) ?_
      go_wp2_with (refine pause_at 85 rfl ?_)
      refine Paused.mk ?_
      refine wpList_load_row rfl 33 _ rfl _ rfl 33 _ (0, 0) _ (q2) Tryz.underlying33 rfl (by kernel_rfl) ?_
      go_wp2_with fail
      refine (sl_ends t Ab Ad cb cd r _ HO.out.tb HO.out.rd).mono ?_
      rintro e V13 ⟨rfl, hV13⟩
      replace q1 := q1.below hV13 q1.lt
      replace q2 := q2.below hV13 q2.lt
      replace hg := hg.go hV13
      replace hh := (hh.below hV13).up hV13.size
      replace hi := (hi.below hV13).up hV13.size
      replace bi := bi.below hV13 bi.lt
      replace hsz := (hsz.below hV13).up hV13.size
      have B_V13 := ex_trans B_V12 hV13
      generalize hzk : gR zs k = z at *
      generalize hbn : bndP t r = b at *
      have HZK := Lib.hid hzk
      clear hzk hbn
      have NG := ex_alloc (Below.refl V13.heap.size V13) (.cells #[.int .i64 b.lo, .int .i64 b.hi] 25)
      have q8 : Blk (V13.alloc (.cells #[.int .i64 b.lo, .int .i64 b.hi] 25)) V13.heap.size 25 #[.int .i64 b.lo, .int .i64 b.hi] := Blk.new _ _ _
      have lt_q1 := q1.lt
      have lt_q2 := q2.lt
      have lt_bi := bi.lt
      go_upto_region 9 with fail
      obtain ⟨p8, hp8'⟩ : ∃ p, V13.heap.size = p := ⟨_, rfl⟩
      rw [hp8'] at q8 lt_q1 lt_q2 lt_bi ⊢
      have zp8 : w.heap.size ≤ p8 := by have := B_V13.size; omega
      clear hp8'
      have nq1_p8 : pq1 ≠ p8 := by omega
      clear lt_q1
      have nq2_p8 : pq2 ≠ p8 := by omega
      clear lt_q2
      have nbi_p8 : pi ≠ p8 := by omega
      clear lt_bi
      replace q1 := q1.below NG q1.lt
      replace q2 := q2.below NG q2.lt
      replace hg := hg.go NG
      replace hh := hh.go NG
      replace hi := hi.go NG
      replace bi := bi.below NG bi.lt
      replace hsz := hsz.go NG
      have B_V14 := ex_trans B_V13 NG
      clear NG
      generalize V13.alloc (.cells #[.int .i64 b.lo, .int .i64 b.hi] 25) = V14 at *
      have b0 : V14.cell? ⟨pq2, 0, none⟩ = some (.int .i64 r.day) := q2.cell 0
      rw [HK.out] at b0
      have lb := q2.lt
      obtain ⟨bz, oz, rfl, hbz, z0, z1⟩ := IsRgs.at_ hsz hkl
      rw [HZK.out] at z0 z1
      have i0 := bi.cell 0
      have i1 := bi.cell 1
      have li := bi.lt
      have y0 := q8.cell 0
      have y1 := q8.cell 1
      have ly := q8.lt
      simp at i0 i1 y0 y1
      rw [HE1.out.1] at i0
      rw [HE1.out.2] at i1
      refine wp_region_ext (by kernel_rfl) (by kernel_rfl) ?_
      repeat (go_big_quiet_step ((go_at_call 16; exact Calls.ext_of (sl_awake _))))
      refine wpQuiet_nil ?_; intro _ hw'; obtain ⟨X, rfl⟩ := hw'
      go_wp2
      go_ret
      exact ⟨rfl, ex_trans B_V14 X.h⟩
     refine wp_region_ext_tq 14 (.quiet 0 (.quiet 2 (.quiet 4 (.quiet 6 (.fork 1 (.fork 3 (.fork 5 (.fork 7 (.fork 8 (.quiet 9 (.quiet 10 (.quiet 11 (.loud 12 (.loud 13 .done))))) 12 (.loud 8 (.quiet 9 (.quiet 10 (.quiet 11 (.loud 13 .done)))))) 12 (.loud 7 (.loud 8 (.quiet 9 (.quiet 10 (.quiet 11 (.loud 13 .done))))))) 12 (.loud 5 (.loud 7 (.loud 8 (.quiet 9 (.quiet 10 (.quiet 11 (.loud 13 .done)))))))) 12 (.loud 3 (.loud 5 (.loud 7 (.loud 8 (.quiet 9 (.quiet 10 (.quiet 11 (.loud 13 .done))))))))) 12 (.loud 1 (.loud 3 (.loud 5 (.loud 7 (.loud 8 (.quiet 9 (.quiet 10 (.quiet 11 (.loud 13 .done)))))))))))))) (by kernel_rfl) (by kernel_rfl) (by intro d _ _ _ _ h; cases d <;> exact h) ?_
     have D0 := (Below.refl V6.heap.size V6).drew
     repeat (refine tq_quiet rfl ?_; first | (refine wpQuiet_load_row rfl 29 _ rfl _ rfl 29 _ (0, 0) _ q1.ex Tryz.underlying29 rfl (by kernel_rfl) ?_; simp only [Act.put, List.setIfInBounds_toArray, List.set_cons_zero, List.set_cons_succ]; refine wpQuiet_nil ?_) | (refine wpQuiet_load_row rfl 33 _ rfl _ rfl 33 _ (0, 0) _ q2.ex Tryz.underlying33 rfl (by kernel_rfl) ?_; simp only [Act.put, List.setIfInBounds_toArray, List.set_cons_zero, List.set_cons_succ]; refine wpQuiet_nil ?_) | (go_big_quiet_step (fail); refine wpQuiet_nil ?_))
     refine tq_fork rfl rfl ?_ ?_
     ·
      go_wp2_with fail
      refine (sr_Tube t Ab Ad cb cd _ (hg.go (((Below.refl V6.heap.size V6)).drew)) (by omega) (by omega)).mono ?_
      rintro e V15 ⟨⟨Ab1, Ad1, cb1, cd1, rfl, hg1⟩, hV15⟩
      have N1 := ex_trans ((Below.refl V6.heap.size V6)).drew hV15
      go_wp2_with fail
      refine ⟨inEx N1, ?_⟩
      repeat (refine tq_quiet rfl ?_; go_big_quiet_step (fail); refine wpQuiet_nil ?_)
      refine tq_fork rfl rfl ?_ ?_
      ·
       go_wp2_with fail
       refine (History_any _ _ h _ (by omega) (hh.go (N1))).mono ?_
       rintro e V16 ⟨⟨Ah1, ch1, rfl, -, -, hh1⟩, hV16⟩
       have N3 := ex_trans N1 hV16
       go_wp2_with fail
       replace hg1 := hg1.go hV16
       refine ⟨inEx N3, ?_⟩
       repeat (refine tq_quiet rfl ?_; go_big_quiet_step (fail); refine wpQuiet_nil ?_)
       refine tq_fork rfl rfl ?_ ?_
       ·
        go_wp2_with fail
        refine (Ices_any _ _ l _ (by omega) (hi.go (N3))).mono ?_
        rintro e V17 ⟨⟨Ai1, ci1, rfl, -, -, hi1⟩, hV17⟩
        have N5 := ex_trans N3 hV17
        go_wp2_with fail
        replace hg1 := hg1.go hV17
        replace hh1 := hh1.go hV17
        refine ⟨inEx N5, ?_⟩
        repeat (refine tq_quiet rfl ?_; go_big_quiet_step (fail); refine wpQuiet_nil ?_)
        refine tq_fork rfl rfl ?_ ?_
        ·
         go_wp2_with fail
         refine (sr_Reading r _).mono ?_
         rintro e V18 ⟨rfl, hV18⟩
         have N7 := ex_trans N5 hV18
         go_wp2_with fail
         replace hg1 := hg1.go hV18
         replace hh1 := hh1.go hV18
         replace hi1 := hi1.go hV18
         refine ⟨inEx N7, ?_⟩
         repeat (refine tq_quiet rfl ?_; go_big_quiet_step (fail); refine wpQuiet_nil ?_)
         refine tq_fork rfl rfl ?_ ?_
         ·
          go_wp2_with fail
          refine (Correct_v t Ab1 Ad1 cb1 cd1 Ah1 Ai1 ch1 ci1 h l r _ hg1 hh1 hi1 (by omega)).mono ?_
          rintro e V19 ⟨⟨R1, ev1, rfl, hc1⟩, hV19⟩
          have N8 := ex_trans N7 hV19
          go_wp2_with fail
          refine ⟨inEx N8, ?_⟩
          repeat (refine tq_quiet rfl ?_; go_big_quiet_step (fail); refine wpQuiet_nil ?_)
          refine tq_loud rfl ?_
          go_wp2_with fail
          have si := (N8).size
          try simp at si
          have N12 := ex_alloc N8 (.cells #[.int .i64 0, .int .i64 0] 41)
          have bi : Blk (V19.alloc (.cells #[.int .i64 0, .int .i64 0] 41)) (V19.heap.size) 41 #[.int .i64 0, .int .i64 0] := Blk.new' _ _ _ (by first | rfl | (simp; done) | (simp; omega))
          obtain ⟨pi, hpi⟩ : ∃ p, V19.heap.size = p := ⟨_, rfl⟩
          rw [hpi] at bi
          try rw [hpi]
          have yi : V6.heap.size ≤ pi := by omega
          clear si
          refine ⟨inEx N12, ?_⟩
          repeat (refine tq_quiet rfl ?_; go_big_quiet_step (fail); refine wpQuiet_nil ?_)
          refine tq_loud rfl ?_
          have XA13 := N12
          generalize (V19.alloc (.cells #[.int .i64 0, .int .i64 0] 41)) = V20 at *
          have sc0 : V20.cell? ⟨pi, 0, none⟩ = some (.int .i64 0) := bi.cell 0
          have sc1 : V20.cell? ⟨pi, 1, none⟩ = some (.int .i64 0) := bi.cell 1
          have sf := bi.frozen0
          have sl := bi.lt
          go_wp2_with fail
          replace bi := bi.set_ 0 (.int .i64 R1.lo)
          replace XA13 := ex_set (p := ⟨pi, 0, none⟩) XA13 yi (.int .i64 R1.lo)
          replace bi := bi.set_ 1 (.int .i64 R1.hi)
          replace XA13 := ex_set (p := ⟨pi, 1, none⟩) XA13 yi (.int .i64 R1.hi)
          simp only [List.setIfInBounds_toArray, List.set_cons_zero, List.set_cons_succ] at bi
          clear sf sl sc0 sc1
          generalize ((V20.setCell ⟨pi, 0, none⟩ (.int .i64 R1.lo)).setCell ⟨pi, 1, none⟩ (.int .i64 R1.hi)) = V21 at *
          refine ⟨inEx XA13, ?_⟩
          repeat (refine tq_quiet rfl ?_; go_big_quiet_step (fail); refine wpQuiet_nil ?_)
          refine tq_done (r := [_]) rfl ?_
          go_wp2_with fail
          exact hrest V21 pi R1 ev1 _ (XA13) yi bi hc1 (exFrame (by kernel_rfl))
         ·
          go_wp2_with fail
          have si := (N7).size
          try simp at si
          have N12 := ex_alloc N7 (.cells #[.int .i64 0, .int .i64 0] 41)
          have bi : Blk (V18.alloc (.cells #[.int .i64 0, .int .i64 0] 41)) (V18.heap.size) 41 #[.int .i64 0, .int .i64 0] := Blk.new' _ _ _ (by first | rfl | (simp; done) | (simp; omega))
          replace hg1 := hg1.go (ex_alloc (Below.refl V18.heap.size V18) (.cells #[.int .i64 0, .int .i64 0] 41))
          replace hh1 := hh1.go (ex_alloc (Below.refl V18.heap.size V18) (.cells #[.int .i64 0, .int .i64 0] 41))
          replace hi1 := hi1.go (ex_alloc (Below.refl V18.heap.size V18) (.cells #[.int .i64 0, .int .i64 0] 41))
          obtain ⟨pi, hpi⟩ : ∃ p, V18.heap.size = p := ⟨_, rfl⟩
          rw [hpi] at bi
          try rw [hpi]
          have yi : V6.heap.size ≤ pi := by omega
          clear si
          refine ⟨inEx N12, ?_⟩
          repeat (refine tq_quiet rfl ?_; go_big_quiet_step (fail); refine wpQuiet_nil ?_)
          refine tq_loud rfl ?_
          go_wp2_with fail
          refine (Correct_v t Ab1 Ad1 cb1 cd1 Ah1 Ai1 ch1 ci1 h l r _ hg1 hh1 hi1 (by omega)).mono ?_
          rintro e V22 ⟨⟨R1, ev1, rfl, hc1⟩, hV22⟩
          replace bi := Blk.below bi hV22 bi.lt
          have N8 := ex_trans N12 hV22
          go_wp2_with fail
          refine ⟨inEx N8, ?_⟩
          repeat (refine tq_quiet rfl ?_; go_big_quiet_step (fail); refine wpQuiet_nil ?_)
          refine tq_loud rfl ?_
          have XA13 := N8
          generalize V22 = V23 at *
          have sc0 : V23.cell? ⟨pi, 0, none⟩ = some (.int .i64 0) := bi.cell 0
          have sc1 : V23.cell? ⟨pi, 1, none⟩ = some (.int .i64 0) := bi.cell 1
          have sf := bi.frozen0
          have sl := bi.lt
          go_wp2_with fail
          replace bi := bi.set_ 0 (.int .i64 R1.lo)
          replace XA13 := ex_set (p := ⟨pi, 0, none⟩) XA13 yi (.int .i64 R1.lo)
          replace bi := bi.set_ 1 (.int .i64 R1.hi)
          replace XA13 := ex_set (p := ⟨pi, 1, none⟩) XA13 yi (.int .i64 R1.hi)
          simp only [List.setIfInBounds_toArray, List.set_cons_zero, List.set_cons_succ] at bi
          clear sf sl sc0 sc1
          generalize ((V23.setCell ⟨pi, 0, none⟩ (.int .i64 R1.lo)).setCell ⟨pi, 1, none⟩ (.int .i64 R1.hi)) = V24 at *
          refine ⟨inEx XA13, ?_⟩
          repeat (refine tq_quiet rfl ?_; go_big_quiet_step (fail); refine wpQuiet_nil ?_)
          refine tq_done (r := [_]) rfl ?_
          go_wp2_with fail
          exact hrest V24 pi R1 ev1 _ (XA13) yi bi hc1 (exFrame (by kernel_rfl))
        ·
         go_wp2_with fail
         have si := (N5).size
         try simp at si
         have N12 := ex_alloc N5 (.cells #[.int .i64 0, .int .i64 0] 41)
         have bi : Blk (V17.alloc (.cells #[.int .i64 0, .int .i64 0] 41)) (V17.heap.size) 41 #[.int .i64 0, .int .i64 0] := Blk.new' _ _ _ (by first | rfl | (simp; done) | (simp; omega))
         replace hg1 := hg1.go (ex_alloc (Below.refl V17.heap.size V17) (.cells #[.int .i64 0, .int .i64 0] 41))
         replace hh1 := hh1.go (ex_alloc (Below.refl V17.heap.size V17) (.cells #[.int .i64 0, .int .i64 0] 41))
         replace hi1 := hi1.go (ex_alloc (Below.refl V17.heap.size V17) (.cells #[.int .i64 0, .int .i64 0] 41))
         obtain ⟨pi, hpi⟩ : ∃ p, V17.heap.size = p := ⟨_, rfl⟩
         rw [hpi] at bi
         try rw [hpi]
         have yi : V6.heap.size ≤ pi := by omega
         clear si
         refine ⟨inEx N12, ?_⟩
         repeat (refine tq_quiet rfl ?_; go_big_quiet_step (fail); refine wpQuiet_nil ?_)
         refine tq_loud rfl ?_
         go_wp2_with fail
         refine (sr_Reading r _).mono ?_
         rintro e V25 ⟨rfl, hV25⟩
         replace bi := Blk.below bi hV25 bi.lt
         have N7 := ex_trans N12 hV25
         go_wp2_with fail
         replace hg1 := hg1.go hV25
         replace hh1 := hh1.go hV25
         replace hi1 := hi1.go hV25
         refine ⟨inEx N7, ?_⟩
         repeat (refine tq_quiet rfl ?_; go_big_quiet_step (fail); refine wpQuiet_nil ?_)
         refine tq_loud rfl ?_
         go_wp2_with fail
         refine (Correct_v t Ab1 Ad1 cb1 cd1 Ah1 Ai1 ch1 ci1 h l r _ hg1 hh1 hi1 (by omega)).mono ?_
         rintro e V26 ⟨⟨R1, ev1, rfl, hc1⟩, hV26⟩
         replace bi := Blk.below bi hV26 bi.lt
         have N8 := ex_trans N7 hV26
         go_wp2_with fail
         refine ⟨inEx N8, ?_⟩
         repeat (refine tq_quiet rfl ?_; go_big_quiet_step (fail); refine wpQuiet_nil ?_)
         refine tq_loud rfl ?_
         have XA13 := N8
         generalize V26 = V27 at *
         have sc0 : V27.cell? ⟨pi, 0, none⟩ = some (.int .i64 0) := bi.cell 0
         have sc1 : V27.cell? ⟨pi, 1, none⟩ = some (.int .i64 0) := bi.cell 1
         have sf := bi.frozen0
         have sl := bi.lt
         go_wp2_with fail
         replace bi := bi.set_ 0 (.int .i64 R1.lo)
         replace XA13 := ex_set (p := ⟨pi, 0, none⟩) XA13 yi (.int .i64 R1.lo)
         replace bi := bi.set_ 1 (.int .i64 R1.hi)
         replace XA13 := ex_set (p := ⟨pi, 1, none⟩) XA13 yi (.int .i64 R1.hi)
         simp only [List.setIfInBounds_toArray, List.set_cons_zero, List.set_cons_succ] at bi
         clear sf sl sc0 sc1
         generalize ((V27.setCell ⟨pi, 0, none⟩ (.int .i64 R1.lo)).setCell ⟨pi, 1, none⟩ (.int .i64 R1.hi)) = V28 at *
         refine ⟨inEx XA13, ?_⟩
         repeat (refine tq_quiet rfl ?_; go_big_quiet_step (fail); refine wpQuiet_nil ?_)
         refine tq_done (r := [_]) rfl ?_
         go_wp2_with fail
         exact hrest V28 pi R1 ev1 _ (XA13) yi bi hc1 (exFrame (by kernel_rfl))
       ·
        go_wp2_with fail
        have si := (N3).size
        try simp at si
        have N12 := ex_alloc N3 (.cells #[.int .i64 0, .int .i64 0] 41)
        have bi : Blk (V16.alloc (.cells #[.int .i64 0, .int .i64 0] 41)) (V16.heap.size) 41 #[.int .i64 0, .int .i64 0] := Blk.new' _ _ _ (by first | rfl | (simp; done) | (simp; omega))
        replace hg1 := hg1.go (ex_alloc (Below.refl V16.heap.size V16) (.cells #[.int .i64 0, .int .i64 0] 41))
        replace hh1 := hh1.go (ex_alloc (Below.refl V16.heap.size V16) (.cells #[.int .i64 0, .int .i64 0] 41))
        obtain ⟨pi, hpi⟩ : ∃ p, V16.heap.size = p := ⟨_, rfl⟩
        rw [hpi] at bi
        try rw [hpi]
        have yi : V6.heap.size ≤ pi := by omega
        clear si
        refine ⟨inEx N12, ?_⟩
        repeat (refine tq_quiet rfl ?_; go_big_quiet_step (fail); refine wpQuiet_nil ?_)
        refine tq_loud rfl ?_
        go_wp2_with fail
        refine (Ices_any _ _ l _ (by omega) (hi.go (N12))).mono ?_
        rintro e V29 ⟨⟨Ai1, ci1, rfl, -, -, hi1⟩, hV29⟩
        replace bi := Blk.below bi hV29 bi.lt
        have N5 := ex_trans N12 hV29
        go_wp2_with fail
        replace hg1 := hg1.go hV29
        replace hh1 := hh1.go hV29
        refine ⟨inEx N5, ?_⟩
        repeat (refine tq_quiet rfl ?_; go_big_quiet_step (fail); refine wpQuiet_nil ?_)
        refine tq_loud rfl ?_
        go_wp2_with fail
        refine (sr_Reading r _).mono ?_
        rintro e V30 ⟨rfl, hV30⟩
        replace bi := Blk.below bi hV30 bi.lt
        have N7 := ex_trans N5 hV30
        go_wp2_with fail
        replace hg1 := hg1.go hV30
        replace hh1 := hh1.go hV30
        replace hi1 := hi1.go hV30
        refine ⟨inEx N7, ?_⟩
        repeat (refine tq_quiet rfl ?_; go_big_quiet_step (fail); refine wpQuiet_nil ?_)
        refine tq_loud rfl ?_
        go_wp2_with fail
        refine (Correct_v t Ab1 Ad1 cb1 cd1 Ah1 Ai1 ch1 ci1 h l r _ hg1 hh1 hi1 (by omega)).mono ?_
        rintro e V31 ⟨⟨R1, ev1, rfl, hc1⟩, hV31⟩
        replace bi := Blk.below bi hV31 bi.lt
        have N8 := ex_trans N7 hV31
        go_wp2_with fail
        refine ⟨inEx N8, ?_⟩
        repeat (refine tq_quiet rfl ?_; go_big_quiet_step (fail); refine wpQuiet_nil ?_)
        refine tq_loud rfl ?_
        have XA13 := N8
        generalize V31 = V32 at *
        have sc0 : V32.cell? ⟨pi, 0, none⟩ = some (.int .i64 0) := bi.cell 0
        have sc1 : V32.cell? ⟨pi, 1, none⟩ = some (.int .i64 0) := bi.cell 1
        have sf := bi.frozen0
        have sl := bi.lt
        go_wp2_with fail
        replace bi := bi.set_ 0 (.int .i64 R1.lo)
        replace XA13 := ex_set (p := ⟨pi, 0, none⟩) XA13 yi (.int .i64 R1.lo)
        replace bi := bi.set_ 1 (.int .i64 R1.hi)
        replace XA13 := ex_set (p := ⟨pi, 1, none⟩) XA13 yi (.int .i64 R1.hi)
        simp only [List.setIfInBounds_toArray, List.set_cons_zero, List.set_cons_succ] at bi
        clear sf sl sc0 sc1
        generalize ((V32.setCell ⟨pi, 0, none⟩ (.int .i64 R1.lo)).setCell ⟨pi, 1, none⟩ (.int .i64 R1.hi)) = V33 at *
        refine ⟨inEx XA13, ?_⟩
        repeat (refine tq_quiet rfl ?_; go_big_quiet_step (fail); refine wpQuiet_nil ?_)
        refine tq_done (r := [_]) rfl ?_
        go_wp2_with fail
        exact hrest V33 pi R1 ev1 _ (XA13) yi bi hc1 (exFrame (by kernel_rfl))
      ·
       go_wp2_with fail
       have si := (N1).size
       try simp at si
       have N12 := ex_alloc N1 (.cells #[.int .i64 0, .int .i64 0] 41)
       have bi : Blk (V15.alloc (.cells #[.int .i64 0, .int .i64 0] 41)) (V15.heap.size) 41 #[.int .i64 0, .int .i64 0] := Blk.new' _ _ _ (by first | rfl | (simp; done) | (simp; omega))
       replace hg1 := hg1.go (ex_alloc (Below.refl V15.heap.size V15) (.cells #[.int .i64 0, .int .i64 0] 41))
       obtain ⟨pi, hpi⟩ : ∃ p, V15.heap.size = p := ⟨_, rfl⟩
       rw [hpi] at bi
       try rw [hpi]
       have yi : V6.heap.size ≤ pi := by omega
       clear si
       refine ⟨inEx N12, ?_⟩
       repeat (refine tq_quiet rfl ?_; go_big_quiet_step (fail); refine wpQuiet_nil ?_)
       refine tq_loud rfl ?_
       go_wp2_with fail
       refine (History_any _ _ h _ (by omega) (hh.go (N12))).mono ?_
       rintro e V34 ⟨⟨Ah1, ch1, rfl, -, -, hh1⟩, hV34⟩
       replace bi := Blk.below bi hV34 bi.lt
       have N3 := ex_trans N12 hV34
       go_wp2_with fail
       replace hg1 := hg1.go hV34
       refine ⟨inEx N3, ?_⟩
       repeat (refine tq_quiet rfl ?_; go_big_quiet_step (fail); refine wpQuiet_nil ?_)
       refine tq_loud rfl ?_
       go_wp2_with fail
       refine (Ices_any _ _ l _ (by omega) (hi.go (N3))).mono ?_
       rintro e V35 ⟨⟨Ai1, ci1, rfl, -, -, hi1⟩, hV35⟩
       replace bi := Blk.below bi hV35 bi.lt
       have N5 := ex_trans N3 hV35
       go_wp2_with fail
       replace hg1 := hg1.go hV35
       replace hh1 := hh1.go hV35
       refine ⟨inEx N5, ?_⟩
       repeat (refine tq_quiet rfl ?_; go_big_quiet_step (fail); refine wpQuiet_nil ?_)
       refine tq_loud rfl ?_
       go_wp2_with fail
       refine (sr_Reading r _).mono ?_
       rintro e V36 ⟨rfl, hV36⟩
       replace bi := Blk.below bi hV36 bi.lt
       have N7 := ex_trans N5 hV36
       go_wp2_with fail
       replace hg1 := hg1.go hV36
       replace hh1 := hh1.go hV36
       replace hi1 := hi1.go hV36
       refine ⟨inEx N7, ?_⟩
       repeat (refine tq_quiet rfl ?_; go_big_quiet_step (fail); refine wpQuiet_nil ?_)
       refine tq_loud rfl ?_
       go_wp2_with fail
       refine (Correct_v t Ab1 Ad1 cb1 cd1 Ah1 Ai1 ch1 ci1 h l r _ hg1 hh1 hi1 (by omega)).mono ?_
       rintro e V37 ⟨⟨R1, ev1, rfl, hc1⟩, hV37⟩
       replace bi := Blk.below bi hV37 bi.lt
       have N8 := ex_trans N7 hV37
       go_wp2_with fail
       refine ⟨inEx N8, ?_⟩
       repeat (refine tq_quiet rfl ?_; go_big_quiet_step (fail); refine wpQuiet_nil ?_)
       refine tq_loud rfl ?_
       have XA13 := N8
       generalize V37 = V38 at *
       have sc0 : V38.cell? ⟨pi, 0, none⟩ = some (.int .i64 0) := bi.cell 0
       have sc1 : V38.cell? ⟨pi, 1, none⟩ = some (.int .i64 0) := bi.cell 1
       have sf := bi.frozen0
       have sl := bi.lt
       go_wp2_with fail
       replace bi := bi.set_ 0 (.int .i64 R1.lo)
       replace XA13 := ex_set (p := ⟨pi, 0, none⟩) XA13 yi (.int .i64 R1.lo)
       replace bi := bi.set_ 1 (.int .i64 R1.hi)
       replace XA13 := ex_set (p := ⟨pi, 1, none⟩) XA13 yi (.int .i64 R1.hi)
       simp only [List.setIfInBounds_toArray, List.set_cons_zero, List.set_cons_succ] at bi
       clear sf sl sc0 sc1
       generalize ((V38.setCell ⟨pi, 0, none⟩ (.int .i64 R1.lo)).setCell ⟨pi, 1, none⟩ (.int .i64 R1.hi)) = V39 at *
       refine ⟨inEx XA13, ?_⟩
       repeat (refine tq_quiet rfl ?_; go_big_quiet_step (fail); refine wpQuiet_nil ?_)
       refine tq_done (r := [_]) rfl ?_
       go_wp2_with fail
       exact hrest V39 pi R1 ev1 _ (XA13) yi bi hc1 (exFrame (by kernel_rfl))
     ·
      go_wp2_with fail
      have si := ((Below.refl V6.heap.size V6)).size
      try simp at si
      have N12 := ex_alloc (Below.refl V6.heap.size V6) (.cells #[.int .i64 0, .int .i64 0] 41)
      have bi : Blk (V6.alloc (.cells #[.int .i64 0, .int .i64 0] 41)) (V6.heap.size) 41 #[.int .i64 0, .int .i64 0] := Blk.new' _ _ _ (by first | rfl | (simp; done) | (simp; omega))
      obtain ⟨pi, hpi⟩ : ∃ p, V6.heap.size = p := ⟨_, rfl⟩
      rw [hpi] at bi
      try rw [hpi]
      have yi : V6.heap.size ≤ pi := by omega
      clear si
      refine ⟨inEx (N12).drew, ?_⟩
      repeat (refine tq_quiet rfl ?_; go_big_quiet_step (fail); refine wpQuiet_nil ?_)
      refine tq_loud rfl ?_
      go_wp2_with fail
      refine (sr_Tube t Ab Ad cb cd _ (hg.go ((N12).drew)) (by omega) (by omega)).mono ?_
      rintro e V40 ⟨⟨Ab1, Ad1, cb1, cd1, rfl, hg1⟩, hV40⟩
      replace bi := Blk.below (Blk.drew bi) hV40 bi.lt
      have N1 := ex_trans (N12).drew hV40
      go_wp2_with fail
      refine ⟨inEx N1, ?_⟩
      repeat (refine tq_quiet rfl ?_; go_big_quiet_step (fail); refine wpQuiet_nil ?_)
      refine tq_loud rfl ?_
      go_wp2_with fail
      refine (History_any _ _ h _ (by omega) (hh.go (N1))).mono ?_
      rintro e V41 ⟨⟨Ah1, ch1, rfl, -, -, hh1⟩, hV41⟩
      replace bi := Blk.below bi hV41 bi.lt
      have N3 := ex_trans N1 hV41
      go_wp2_with fail
      replace hg1 := hg1.go hV41
      refine ⟨inEx N3, ?_⟩
      repeat (refine tq_quiet rfl ?_; go_big_quiet_step (fail); refine wpQuiet_nil ?_)
      refine tq_loud rfl ?_
      go_wp2_with fail
      refine (Ices_any _ _ l _ (by omega) (hi.go (N3))).mono ?_
      rintro e V42 ⟨⟨Ai1, ci1, rfl, -, -, hi1⟩, hV42⟩
      replace bi := Blk.below bi hV42 bi.lt
      have N5 := ex_trans N3 hV42
      go_wp2_with fail
      replace hg1 := hg1.go hV42
      replace hh1 := hh1.go hV42
      refine ⟨inEx N5, ?_⟩
      repeat (refine tq_quiet rfl ?_; go_big_quiet_step (fail); refine wpQuiet_nil ?_)
      refine tq_loud rfl ?_
      go_wp2_with fail
      refine (sr_Reading r _).mono ?_
      rintro e V43 ⟨rfl, hV43⟩
      replace bi := Blk.below bi hV43 bi.lt
      have N7 := ex_trans N5 hV43
      go_wp2_with fail
      replace hg1 := hg1.go hV43
      replace hh1 := hh1.go hV43
      replace hi1 := hi1.go hV43
      refine ⟨inEx N7, ?_⟩
      repeat (refine tq_quiet rfl ?_; go_big_quiet_step (fail); refine wpQuiet_nil ?_)
      refine tq_loud rfl ?_
      go_wp2_with fail
      refine (Correct_v t Ab1 Ad1 cb1 cd1 Ah1 Ai1 ch1 ci1 h l r _ hg1 hh1 hi1 (by omega)).mono ?_
      rintro e V44 ⟨⟨R1, ev1, rfl, hc1⟩, hV44⟩
      replace bi := Blk.below bi hV44 bi.lt
      have N8 := ex_trans N7 hV44
      go_wp2_with fail
      refine ⟨inEx N8, ?_⟩
      repeat (refine tq_quiet rfl ?_; go_big_quiet_step (fail); refine wpQuiet_nil ?_)
      refine tq_loud rfl ?_
      have XA13 := N8
      generalize V44 = V45 at *
      have sc0 : V45.cell? ⟨pi, 0, none⟩ = some (.int .i64 0) := bi.cell 0
      have sc1 : V45.cell? ⟨pi, 1, none⟩ = some (.int .i64 0) := bi.cell 1
      have sf := bi.frozen0
      have sl := bi.lt
      go_wp2_with fail
      replace bi := bi.set_ 0 (.int .i64 R1.lo)
      replace XA13 := ex_set (p := ⟨pi, 0, none⟩) XA13 yi (.int .i64 R1.lo)
      replace bi := bi.set_ 1 (.int .i64 R1.hi)
      replace XA13 := ex_set (p := ⟨pi, 1, none⟩) XA13 yi (.int .i64 R1.hi)
      simp only [List.setIfInBounds_toArray, List.set_cons_zero, List.set_cons_succ] at bi
      clear sf sl sc0 sc1
      generalize ((V45.setCell ⟨pi, 0, none⟩ (.int .i64 R1.lo)).setCell ⟨pi, 1, none⟩ (.int .i64 R1.hi)) = V46 at *
      refine ⟨inEx XA13, ?_⟩
      repeat (refine tq_quiet rfl ?_; go_big_quiet_step (fail); refine wpQuiet_nil ?_)
      refine tq_done (r := [_]) rfl ?_
      go_wp2_with fail
      exact hrest V46 pi R1 ev1 _ (XA13) yi bi hc1 (exFrame (by kernel_rfl))


end Go.Proofs.YtkaogjhnogkcdaaGreat
end

/- Stem's law: tubes; the example's tube, history and reading (walks). · Stem: says, bath (walks). · Stem: bath (walk). · Stem: kinds (walks): the iterator. · Stem: what is left, kind by kind: keys, and the right-function (walk). · Stem: what is left, kind by kind (walk). -/
import Derived.Test.YtkaogjhnogkcdaaK18
import Derived.Test.YtkaogjhnogkcdaaK10
import Derived.Test.YtkaogjhnogkcdaaK20
set_option linter.unusedVariables false
set_option linter.unusedSimpArgs false
set_option linter.unusedSectionVars false
section
namespace Go.Proofs.Ytkaogjhnogkcdaa
open Go.RowKit
attribute [local go_sem] Ex.cell? Ex.frozen?

set_option maxRecDepth 100000 in
set_option maxHeartbeats 1600000 in
theorem sr_spring (w : World) : Calls Try.prog 6 #[] w fun e w' => (∃ A, e = .returned (.slice A 4 4) ∧ SlAt w' w'.heap.size 2 A springH.length (fR springH)) ∧ Below w.heap.size w w' := by
 go_enter Try.func6, Try.ntmps6
 go_wp2_with fail
 refine (sr_between _ _ _).mono ?_
 rintro e w1 ⟨rfl, hb1⟩
 go_wp2_with fail
 refine (sr_between _ _ _).mono ?_
 rintro e w2 ⟨rfl, hb2⟩
 go_wp2_with fail
 refine (sr_between _ _ _).mono ?_
 rintro e w3 ⟨rfl, hb3⟩
 go_wp2_with fail
 refine (sr_between _ _ _).mono ?_
 rintro e w4 ⟨rfl, hb4⟩
 go_wp2
 go_ret
 refine ⟨⟨_, rfl, fun _ => ⟨w4.heap.size, 0, rfl, by simp, fun k j hk hj => ?_⟩⟩, ex_alloc (ex_trans (ex_trans (ex_trans hb1 hb2) hb3) hb4) _⟩
 rw [cell_of_row _ _ _ _ _ _ (heap_alloc_new w4 _)]
 have hk' : k < 4 := hk
 match k, hk', j, hj with
 | 0, _, 0, _ => rfl
 | 0, _, 1, _ => rfl
 | 1, _, 0, _ => rfl
 | 1, _, 1, _ => rfl
 | 2, _, 0, _ => rfl
 | 2, _, 1, _ => rfl
 | 3, _, 0, _ => rfl
 | 3, _, 1, _ => rfl
def rodT : Tb := ⟨tubeG, ⟨15, 17⟩, ⟨1, 2⟩, ⟨0, 1⟩, 2⟩
def shownR : Rd := ⟨2, 2000, 2, 100, ⟨20, 30⟩, ⟨0, 3⟩, 2, false⟩
set_option maxRecDepth 100000 in
set_option maxHeartbeats 1600000 in
theorem sr_shown (w : World) : Calls Try.prog 7 #[] w fun e w' => e = .returned (.agg #[.int .i64 2, .int .i64 2000, .int .i64 2, .int .i64 100, .int .i64 20, .int .i64 30, .int .i64 0, .int .i64 3, .int .i64 2, .bool false]) ∧ Below w.heap.size w w' := by
 go_enter Try.func7, Try.ntmps7
 go_upto_region 1 with fail
 show Code.wp _ _ _ _ _
 refine box1 (K := fun V => Code.wp _ _ _ _ V) ?_
 intro V hb1 q3
 obtain ⟨pq3, hpq3⟩ : ∃ p, w.heap.size = p := ⟨_, rfl⟩
 rw [hpq3] at q3 ⊢
 have hp3 : w.heap.size ≤ pq3 := by omega
 clear hpq3
 go_wp2_with fail
 refine (sr_between _ _ _).mono ?_
 rintro e V1 ⟨rfl, hV1⟩
 replace q3 := q3.below hV1 q3.lt
 have B_V1 := ex_trans hb1 hV1
 go_wp2_with fail
 refine (sr_between _ _ _).mono ?_
 rintro e V2 ⟨rfl, hV2⟩
 replace q3 := q3.below hV2 q3.lt
 have B_V2 := ex_trans B_V1 hV2
 go_wp2_with (refine pause_store 37 rfl ?_)
 refine Paused.mk ?_
 refine wpList_store_row rfl 37 _ _ rfl _ #[.int .i64 2, .int .i64 2000, .int .i64 2, .int .i64 100, .int .i64 20, .int .i64 30, .int .i64 0, .int .i64 3, .int .i64 2, .bool false] (by kernel_rfl) (by kernel_rfl) 37 _ q3 (by kernel_rfl) (by kernel_rfl) (by kernel_rfl) ?_
 have m3 := q3.setRow #[.int .i64 2, .int .i64 2000, .int .i64 2, .int .i64 100, .int .i64 20, .int .i64 30, .int .i64 0, .int .i64 3, .int .i64 2, .bool false]
 have XZ := ex_row B_V2 hp3 #[.int .i64 2, .int .i64 2000, .int .i64 2, .int .i64 100, .int .i64 20, .int .i64 30, .int .i64 0, .int .i64 3, .int .i64 2, .bool false]
 go_wp2
 refine bodyPost_ret (results_cell_row rfl _ _ _ 37 #[.int .i64 2, .int .i64 2000, .int .i64 2, .int .i64 100, .int .i64 20, .int .i64 30, .int .i64 0, .int .i64 3, .int .i64 2, .bool false] (0, 0) _ rfl m3 rfl rfl rfl) rfl ?_
 exact ⟨rfl, XZ⟩

set_option maxRecDepth 100000 in
set_option maxHeartbeats 3200000 in
theorem sr_rod (w : World) : Calls Try.prog 5 #[] w fun e w' => (∃ Ab Ad, e = .returned (.agg #[.int .i64 0, .slice Ab 2 2, .slice Ad 2 2, .int .i64 2, .int .i64 4, .int .i64 15, .int .i64 17, .int .i64 1, .int .i64 2, .int .i64 0, .int .i64 1, .int .i64 2]) ∧ GlIn w' w'.heap.size tubeG Ab Ad) ∧ Below w.heap.size w w' := by
 go_enter Try.func5, Try.ntmps5
 go_upto_region 1 with fail
 show Code.wp _ _ _ _ _
 refine box1 (K := fun V => Code.wp _ _ _ _ V) ?_
 intro V hb1 q3
 obtain ⟨pq3, hpq3⟩ : ∃ p, w.heap.size = p := ⟨_, rfl⟩
 rw [hpq3] at q3 ⊢
 have hp3 : w.heap.size ≤ pq3 := by omega
 clear hpq3
 go_wp2_with fail
 refine (sr_between _ _ _).mono ?_
 rintro e V1 ⟨rfl, hV1⟩
 replace q3 := q3.below hV1 q3.lt
 have B_V1 := ex_trans hb1 hV1
 go_wp2_with fail
 refine (sr_between _ _ _).mono ?_
 rintro e V2 ⟨rfl, hV2⟩
 replace q3 := q3.below hV2 q3.lt
 have B_V2 := ex_trans B_V1 hV2
 have NB := ex_alloc (ex_alloc (Below.refl V2.heap.size V2) (.cells #[.int .i64 0, .int .i64 1, .int .i64 2, .int .i64 3, .int .i64 0, .int .i64 1] 63)) (.cells #[.int .i64 100, .int .i64 10, .int .i64 300, .int .i64 25] 65)
 have qb : Blk ((V2.alloc (.cells #[.int .i64 0, .int .i64 1, .int .i64 2, .int .i64 3, .int .i64 0, .int .i64 1] 63)).alloc (.cells #[.int .i64 100, .int .i64 10, .int .i64 300, .int .i64 25] 65)) V2.heap.size 63 #[.int .i64 0, .int .i64 1, .int .i64 2, .int .i64 3, .int .i64 0, .int .i64 1] := (Blk.new _ _ _).alloc _
 have qd : Blk ((V2.alloc (.cells #[.int .i64 0, .int .i64 1, .int .i64 2, .int .i64 3, .int .i64 0, .int .i64 1] 63)).alloc (.cells #[.int .i64 100, .int .i64 10, .int .i64 300, .int .i64 25] 65)) (V2.heap.size + 1) 65 #[.int .i64 100, .int .i64 10, .int .i64 300, .int .i64 25] := Blk.new' _ _ _ (by simp)
 have n3b : V2.heap.size ≠ pq3 := by have := q3.lt; omega
 have n3d : V2.heap.size + 1 ≠ pq3 := by have := q3.lt; omega
 go_wp2_with fail
 obtain ⟨pb, hpb⟩ : ∃ p, V2.heap.size = p := ⟨_, rfl⟩
 rw [hpb] at qb qd NB n3b n3d ⊢
 obtain ⟨pd, hpd⟩ : ∃ p, pb + 1 = p := ⟨_, rfl⟩
 rw [hpd] at qd n3d ⊢
 replace q3 := q3.below (hpb ▸ NB) q3.lt
 have hb5 := ex_trans B_V2 (hpb ▸ NB)
 clear NB hpb hpd
 generalize ((V2.alloc (.cells #[.int .i64 0, .int .i64 1, .int .i64 2, .int .i64 3, .int .i64 0, .int .i64 1] 63)).alloc (.cells #[.int .i64 100, .int .i64 10, .int .i64 300, .int .i64 25] 65)) = W2 at *
 refine (sr_between _ _ _).mono ?_
 rintro e V3 ⟨rfl, hV3⟩
 replace q3 := q3.below hV3 q3.lt
 replace qb := qb.below hV3 qb.lt
 replace qd := qd.below hV3 qd.lt
 have B_V3 := ex_trans hb5 hV3
 have NG := ex_alloc (Below.refl V3.heap.size V3) (.cells #[.int .i64 0, .slice (some ⟨pb, 0, none⟩) 2 2, .slice (some ⟨pd, 0, none⟩) 2 2, .int .i64 2, .int .i64 4] 30)
 have qg : Blk (V3.alloc (.cells #[.int .i64 0, .slice (some ⟨pb, 0, none⟩) 2 2, .slice (some ⟨pd, 0, none⟩) 2 2, .int .i64 2, .int .i64 4] 30)) V3.heap.size 30 #[.int .i64 0, .slice (some ⟨pb, 0, none⟩) 2 2, .slice (some ⟨pd, 0, none⟩) 2 2, .int .i64 2, .int .i64 4] := Blk.new _ _ _
 go_wp2_with fail
 obtain ⟨pg, hpg⟩ : ∃ p, V3.heap.size = p := ⟨_, rfl⟩
 rw [hpg] at qg ⊢
 clear hpg
 replace q3 := q3.below NG q3.lt
 replace qb := qb.below NG qb.lt
 replace qd := qd.below NG qd.lt
 have hb6 := ex_trans B_V3 NG
 clear NG
 generalize V3.alloc (.cells #[.int .i64 0, .slice (some ⟨pb, 0, none⟩) 2 2, .slice (some ⟨pd, 0, none⟩) 2 2, .int .i64 2, .int .i64 4] 30) = W3 at *
 have g0 := qg.cell 0
 have g1 := qg.cell 1
 have g2 := qg.cell 2
 have g3 := qg.cell 3
 have g4 := qg.cell 4
 have lg := qg.lt
 simp at g0 g1 g2 g3 g4
 refine wp_region_ext_tq 5 (.quiet 0 (.loud 1 (.loud 2 (.loud 3 (.quiet 4 .done))))) (by kernel_rfl) (by kernel_rfl) (by intro d _ _ _ _ h; cases d <;> exact h) ?_
 have D0 := (Below.refl W3.heap.size W3).drew
 repeat (refine tq_quiet rfl ?_; go_big_quiet_step (fail); refine wpQuiet_nil ?_)
 refine tq_loud rfl ?_
 go_wp2_with fail
 refine (sr_between _ _ _).mono ?_
 rintro e V4 ⟨rfl, hV4⟩
 have N1 := ex_trans ((Below.refl W3.heap.size W3)).drew hV4
 go_wp2_with fail
 refine ⟨inEx N1, ?_⟩
 repeat (refine tq_quiet rfl ?_; go_big_quiet_step (fail); refine wpQuiet_nil ?_)
 refine tq_loud rfl ?_
 go_wp2_with fail
 refine (sr_between _ _ _).mono ?_
 rintro e V5 ⟨rfl, hV5⟩
 have N2 := ex_trans N1 hV5
 go_wp2_with fail
 refine ⟨inEx N2, ?_⟩
 repeat (refine tq_quiet rfl ?_; go_big_quiet_step (fail); refine wpQuiet_nil ?_)
 refine tq_loud rfl ?_
 go_wp2_with fail
 refine (sr_between _ _ _).mono ?_
 rintro e V6 ⟨rfl, hV6⟩
 have N3 := ex_trans N2 hV6
 go_wp2_with fail
 refine ⟨inEx N3, ?_⟩
 repeat (refine tq_quiet rfl ?_; go_big_quiet_step (fail); refine wpQuiet_nil ?_)
 refine tq_done (r := [_]) rfl ?_
 have XX := N3
 have XS := XX.size
 replace q3 := q3.below XX q3.lt
 replace qb := qb.below XX qb.lt
 replace qd := qd.below XX qd.lt
 replace qg := qg.below XX qg.lt
 have B_V7 := ex_trans hb6 XX
 clear D0 XX XS hV6 N3 hV5 N2 hV4 N1 
 generalize V6 = V7 at *
 go_wp2_with (refine pause_store 32 rfl ?_)
 refine Paused.mk ?_
 refine wpList_store_row rfl 32 _ _ rfl _ #[.int .i64 0, .slice (some ⟨pb, 0, none⟩) 2 2, .slice (some ⟨pd, 0, none⟩) 2 2, .int .i64 2, .int .i64 4, .int .i64 15, .int .i64 17, .int .i64 1, .int .i64 2, .int .i64 0, .int .i64 1, .int .i64 2] (by kernel_rfl) (by kernel_rfl) 32 _ q3 (by kernel_rfl) (by kernel_rfl) (by kernel_rfl) ?_
 have m3 := q3.setRow #[.int .i64 0, .slice (some ⟨pb, 0, none⟩) 2 2, .slice (some ⟨pd, 0, none⟩) 2 2, .int .i64 2, .int .i64 4, .int .i64 15, .int .i64 17, .int .i64 1, .int .i64 2, .int .i64 0, .int .i64 1, .int .i64 2]
 have XZ := ex_row B_V7 hp3 #[.int .i64 0, .slice (some ⟨pb, 0, none⟩) 2 2, .slice (some ⟨pd, 0, none⟩) 2 2, .int .i64 2, .int .i64 4, .int .i64 15, .int .i64 17, .int .i64 1, .int .i64 2, .int .i64 0, .int .i64 1, .int .i64 2]
 go_wp2
 refine bodyPost_ret (results_cell_row rfl _ _ _ 32 #[.int .i64 0, .slice (some ⟨pb, 0, none⟩) 2 2, .slice (some ⟨pd, 0, none⟩) 2 2, .int .i64 2, .int .i64 4, .int .i64 15, .int .i64 17, .int .i64 1, .int .i64 2, .int .i64 0, .int .i64 1, .int .i64 2] (0, 0) _ rfl m3 rfl rfl rfl) rfl ?_
 have sb := (qb.offRow n3b #[.int .i64 0, .slice (some ⟨pb, 0, none⟩) 2 2, .slice (some ⟨pd, 0, none⟩) 2 2, .int .i64 2, .int .i64 4, .int .i64 15, .int .i64 17, .int .i64 1, .int .i64 2, .int .i64 0, .int .i64 1, .int .i64 2])
 have sd := (qd.offRow n3d #[.int .i64 0, .slice (some ⟨pb, 0, none⟩) 2 2, .slice (some ⟨pd, 0, none⟩) 2 2, .int .i64 2, .int .i64 4, .int .i64 15, .int .i64 17, .int .i64 1, .int .i64 2, .int .i64 0, .int .i64 1, .int .i64 2])
 refine ⟨⟨_, _, rfl, ⟨fun _ => ⟨pb, 0, rfl, sb.lt, fun k j hk hj => ?_⟩, fun _ => ⟨pd, 0, rfl, sd.lt, fun k j hk hj => ?_⟩⟩⟩, XZ⟩
 ·
  rw [cell_of_row _ _ _ _ _ _ sb]
  have hk' : k < 2 := hk
  match k, hk', j, hj with
  | 0, _, 0, _ => rfl
  | 0, _, 1, _ => rfl
  | 0, _, 2, _ => rfl
  | 1, _, 0, _ => rfl
  | 1, _, 1, _ => rfl
  | 1, _, 2, _ => rfl
 ·
  rw [cell_of_row _ _ _ _ _ _ sd]
  have hk' : k < 2 := hk
  match k, hk', j, hj with
  | 0, _, 0, _ => rfl
  | 0, _, 1, _ => rfl
  | 1, _, 0, _ => rfl
  | 1, _, 1, _ => rfl


end Go.Proofs.Ytkaogjhnogkcdaa
end

section
namespace Go.Proofs.Ytkaogjhnogkcdaa
open Go.RowKit
attribute [local go_sem] Ex.cell? Ex.frozen?

set_option maxRecDepth 100000 in
set_option maxHeartbeats 3200000 in
theorem sm_says (t : Tb) (Ab Ad : Option Addr) (cb cd : Nat) (r : Rd) (q : Ki) (n : Int) (w : World) (hr : RdBd r) (hq : KiBd q) :
    Calls Try.prog 44 #[.agg #[.int .i64 t.g.base, .slice Ab t.g.bands.length cb, .slice Ad t.g.depths.length cd, .int .i64 t.g.blo, .int .i64 t.g.bhi, .int .i64 t.k.lo, .int .i64 t.k.hi, .int .i64 t.lag.lo, .int .i64 t.lag.hi, .int .i64 t.sq.lo, .int .i64 t.sq.hi, .int .i64 t.term, .int .i64 r.day, .int .i64 r.shown, .int .i64 r.err, .int .i64 r.bare, .int .i64 r.air.lo, .int .i64 r.air.hi, .int .i64 r.rate.lo, .int .i64 r.rate.hi, .int .i64 r.deep, .bool r.broken], .agg #[.int .i64 q.k, .int .i64 q.lag, .int .i64 q.sq], .int .i64 n] w fun e w' => e = .returned (.bool (saysB r q n)) ∧ Below w.heap.size w w' := by
  go_enter Try.func44, Try.ntmps44
  go_upto_region 1 with fail
  show Code.wp _ _ _ _ _
  refine box2 (K := fun V => Code.wp _ _ _ _ V) ?_
  intro V hb1 q1 q2
  obtain ⟨pq1, hpq1⟩ : ∃ p, w.heap.size = p := ⟨_, rfl⟩
  obtain ⟨pq2, hpq2⟩ : ∃ p, w.heap.size + 1 = p := ⟨_, rfl⟩
  rw [hpq2] at q2 ⊢
  rw [hpq1] at q1 ⊢
  have hp1 : w.heap.size ≤ pq1 := by omega
  have hp2 : w.heap.size ≤ pq2 := by omega
  clear hpq1 hpq2
  have hrt := hr.rate
  obtain ⟨N, hN⟩ : ∃ N, (r.rate.hi - r.rate.lo + 1).toNat = N := ⟨_, rfl⟩
  have HN := Lib.hid hN
  have hNN : (r.rate.hi - r.rate.lo + 1) = (N : Int) := by omega
  clear hN
  have a18 : V.cell? ⟨pq1, 18, none⟩ = some (.int .i64 r.rate.lo) := q1.cell 18
  have la := q1.lt
  go_wp2_with fail
  clear a18 la
  go_loopw [7] (fun i wr => ∃ k : Nat, k ≤ N ∧ i = .int .i64 (r.rate.lo + (k : Int)) ∧ Hid (∀ j, j < k → sayAt r q n (r.rate.lo + (j : Int)) = false) ∧ Below w.heap.size w wr ∧ Blk wr pq1 69 #[.int .i64 t.g.base, .slice Ab t.g.bands.length cb, .slice Ad t.g.depths.length cd, .int .i64 t.g.blo, .int .i64 t.g.bhi, .int .i64 t.k.lo, .int .i64 t.k.hi, .int .i64 t.lag.lo, .int .i64 t.lag.hi, .int .i64 t.sq.lo, .int .i64 t.sq.hi, .int .i64 t.term, .int .i64 r.day, .int .i64 r.shown, .int .i64 r.err, .int .i64 r.bare, .int .i64 r.air.lo, .int .i64 r.air.hi, .int .i64 r.rate.lo, .int .i64 r.rate.hi, .int .i64 r.deep, .bool r.broken] ∧ Blk wr pq2 80 #[.int .i64 q.k, .int .i64 q.lag, .int .i64 q.sq])
    (fun i _ => (r.rate.lo + (N : Int) - intOf i).toNat)
  case atStart => exact ⟨0, by omega, by simp, Lib.hid (fun j hj => by omega), hb1, q1, q2⟩
  case round =>
    clear q1 q2 hb1
    obtain ⟨k, hk, rfl, HF, hbl, q1, q2⟩ := hrel
    have a19 : wr.cell? ⟨pq1, 19, none⟩ = some (.int .i64 r.rate.hi) := q1.cell 19
    have la := q1.lt
    by_cases hlt : k < N
    · have b0 : wr.cell? ⟨pq2, 0, none⟩ = some (.int .i64 q.k) := q2.cell 0
      have b1 : wr.cell? ⟨pq2, 1, none⟩ = some (.int .i64 q.lag) := q2.cell 1
      have b2 : wr.cell? ⟨pq2, 2, none⟩ = some (.int .i64 q.sq) := q2.cell 2
      have lb := q2.lt
      have hle : r.rate.lo + (k : Int) ≤ r.rate.hi := by omega
      go_wp2_with (refine pause_at 20 rfl ?_)
      refine Paused.mk ?_
      refine wpList_load_row rfl 69 _ rfl _ rfl 69 _ (0, 0) _ (q1) Try.underlying69 rfl (by kernel_rfl) ?_
      go_wp2_with fail
      refine (sm_span t Ab Ad cb cd r q (r.rate.lo + (k : Int)) _ hr hq (by omega)).mono ?_
      rintro e V21 ⟨rfl, hV21⟩
      replace q1 := q1.below hV21 q1.lt
      replace q2 := q2.below hV21 q2.lt
      have B_V21 := ex_trans hbl hV21
      clear a19 la
      clear b0 b1 b2 lb
      go_wp2_with fail
      refine (sm_has _ _ _ _).mono ?_
      rintro e V22 ⟨rfl, hV22⟩
      replace q1 := q1.below hV22 q1.lt
      replace q2 := q2.below hV22 q2.lt
      have B_V22 := ex_trans B_V21 hV22
      have HS := Lib.hid (show sayAt r q n (r.rate.lo + (k : Int)) = inB n (spanP r q (r.rate.lo + (k : Int))).lo (spanP r q (r.rate.lo + (k : Int))).hi from rfl)
      rw [← HS.out]
      cases hs : sayAt r q n (r.rate.lo + (k : Int))
      · have HF2 : Hid (∀ j, j < k + 1 → sayAt r q n (r.rate.lo + (j : Int)) = false) := Lib.hid (fun j hj => by
          rcases Nat.lt_succ_iff_lt_or_eq.1 hj with h1 | h1
          · exact HF.out j h1
          · rw [h1]; exact hs)
        clear hs HS
        go_wp2
        go_roundw
        case rel => exact ⟨k + 1, by omega, by first | go_num | (congr 1; omega), HF2, B_V22, q1, q2⟩
        case measure => simp [intOf]; omega
      · have HR : Hid (saysB r q n = true) := Lib.hid (by unfold saysB; rw [HN.out]; exact someTo_iff.2 ⟨k, hlt, hs⟩)
        clear hs HS
        go_wp2
        go_ret
        exact ⟨ret_bool HR.out.symm, B_V22⟩
    · have HR : Hid (saysB r q n = false) := Lib.hid (by unfold saysB; rw [HN.out]; exact someTo_false.2 (fun j hj => HF.out j (by omega)))
      have hle : ¬ r.rate.lo + (k : Int) ≤ r.rate.hi := by omega
      go_wp2
      go_ret
      exact ⟨ret_bool HR.out.symm, hbl⟩
theorem sm_rd (d : Int) (r : Rd) {b : Bool} (w : World) (hd : -1000000 ≤ d ∧ d ≤ 1000000) (hb : rdOk d r = b) : Calls Try.prog 19 #[.int .i64 d, .agg #[.int .i64 r.day, .int .i64 r.shown, .int .i64 r.err, .int .i64 r.bare, .int .i64 r.air.lo, .int .i64 r.air.hi, .int .i64 r.rate.lo, .int .i64 r.rate.hi, .int .i64 r.deep, .bool r.broken]] w fun e w' => e = .returned (.bool b) ∧ Below w.heap.size w w' := hb ▸ reading_any d r w hd
def dayB (nh : Int) (d : Int) (r : Rd) : Bool := rdOk nh r && decide (r.day = d)
set_option maxRecDepth 100000 in
set_option maxHeartbeats 3200000 in
theorem sm_bath1 (t : Tb) (Ab Ad Ah Ai Az : Option Addr) (cb cd ch ci cz nz : Nat) (h : List Rg) (l : List Ic) (rs : List Rd) (r : Rd) (Ar : Option Addr) (cr pu pl : Nat) (w : World) (qu : Blk w pu 56 #[.int .i64 t.g.base, .slice Ab t.g.bands.length cb, .slice Ad t.g.depths.length cd, .int .i64 t.g.blo, .int .i64 t.g.bhi, .int .i64 t.k.lo, .int .i64 t.k.hi, .int .i64 t.lag.lo, .int .i64 t.lag.hi, .int .i64 t.sq.lo, .int .i64 t.sq.hi, .int .i64 t.term, .slice Ah h.length ch, .slice Ai l.length ci, .slice Az nz cz]) (ql : Blk w pl 49 #[.slice Ar rs.length cr]) (hs : SlAt w w.heap.size 10 Ar rs.length (fE rs)) (hrl : 0 < rs.length) (hhl : h.length ≤ 1000000) :
    Calls Try.prog 39 #[.agg #[.int .i64 r.day, .int .i64 r.shown, .int .i64 r.err, .int .i64 r.bare, .int .i64 r.air.lo, .int .i64 r.air.hi, .int .i64 r.rate.lo, .int .i64 r.rate.hi, .int .i64 r.deep, .bool r.broken], .pointer (some ⟨pu, 0, none⟩), .pointer (some ⟨pl, 0, none⟩)] w fun e w' => e = .returned (.bool (dayB h.length (gE rs 0).day r)) ∧ Below w.heap.size w w' := by
  have hb1 := ex_alloc (Below.refl w.heap.size w) (.cells #[.int .i64 r.day, .int .i64 r.shown, .int .i64 r.err, .int .i64 r.bare, .int .i64 r.air.lo, .int .i64 r.air.hi, .int .i64 r.rate.lo, .int .i64 r.rate.hi, .int .i64 r.deep, .bool r.broken] 37)
  have q1 : Blk (w.alloc (.cells #[.int .i64 r.day, .int .i64 r.shown, .int .i64 r.err, .int .i64 r.bare, .int .i64 r.air.lo, .int .i64 r.air.hi, .int .i64 r.rate.lo, .int .i64 r.rate.hi, .int .i64 r.deep, .bool r.broken] 37)) w.heap.size 37 #[.int .i64 r.day, .int .i64 r.shown, .int .i64 r.err, .int .i64 r.bare, .int .i64 r.air.lo, .int .i64 r.air.hi, .int .i64 r.rate.lo, .int .i64 r.rate.hi, .int .i64 r.deep, .bool r.broken] := Blk.new _ _ _
  replace qu := qu.below hb1 qu.lt
  replace ql := ql.below hb1 ql.lt
  replace hs := hs.go hb1
  obtain ⟨bi, oi, rfl, hbi, g0, g1, g2, g3, g4, g5, g6, g7, g8, g9⟩ := IsRds.at10 hs hrl
  clear g1 g2 g3 g4 g5 g6 g7 g8 g9
  rw [Nat.zero_mul, Nat.add_zero] at g0
  obtain ⟨d0, hd0⟩ : ∃ d, (gE rs 0).day = d := ⟨_, rfl⟩
  rw [hd0] at g0 ⊢
  clear hd0
  cases hrd : rdOk h.length r
  · have HR : Hid (dayB h.length d0 r = false) := Lib.hid (by unfold dayB; rw [hrd]; rfl)
    have HRD := Lib.hid hrd
    clear hrd
    go_enter Try.func39, Try.ntmps39
    go_upto_region 1 with fail
    obtain ⟨p1, hp1⟩ : ∃ p, w.heap.size = p := ⟨_, rfl⟩
    rw [hp1] at q1 ⊢
    clear hp1
    generalize w.alloc (.cells #[.int .i64 r.day, .int .i64 r.shown, .int .i64 r.err, .int .i64 r.bare, .int .i64 r.air.lo, .int .i64 r.air.hi, .int .i64 r.rate.lo, .int .i64 r.rate.hi, .int .i64 r.deep, .bool r.broken] 37) = V at *
    have a12 : V.cell? ⟨pu, 12, none⟩ = some (.slice Ah h.length ch) := qu.cell 12
    have la := qu.lt
    have b0 : V.cell? ⟨pl, 0, none⟩ = some (.slice (some ⟨bi, oi, none⟩) rs.length cr) := ql.cell 0
    have lb := ql.lt
    have c0 : V.cell? ⟨p1, 0, none⟩ = some (.int .i64 r.day) := q1.cell 0
    have lc := q1.lt
    have hrl' : (0 : Int) < (rs.length : Int) := by omega
    go_wp2_with fail
    refine wp_region_ext (by kernel_rfl) (by kernel_rfl) ?_
    repeat (go_big_quiet_step ((go_at_call 19; exact Calls.ext_of (sm_rd h.length r _ (by omega) HRD.out))))
    refine wpQuiet_load_row rfl 37 _ rfl _ rfl 37 _ (0, 0) _ q1.ex Try.underlying37 rfl (by kernel_rfl) ?_
    simp only [Act.put, List.setIfInBounds_toArray, List.set_cons_zero, List.set_cons_succ]
    repeat (go_big_quiet_step ((go_at_call 19; exact Calls.ext_of (sm_rd h.length r _ (by omega) HRD.out))))
    refine wpQuiet_nil ?_; intro _ hw'; obtain ⟨X, rfl⟩ := hw'
    go_wp2
    go_ret
    exact ⟨ret_bool HR.out.symm, ex_trans hb1 X.h⟩
  · have HR : Hid (dayB h.length d0 r = decide (r.day = d0)) := Lib.hid (by unfold dayB; rw [hrd]; rfl)
    have hdd : decide (r.day = d0) = (r.day == d0) := by rw [Bool.eq_iff_iff]; simp
    rw [hdd] at HR
    have HRD := Lib.hid hrd
    clear hrd
    go_enter Try.func39, Try.ntmps39
    go_upto_region 1 with fail
    obtain ⟨p1, hp1⟩ : ∃ p, w.heap.size = p := ⟨_, rfl⟩
    rw [hp1] at q1 ⊢
    clear hp1
    generalize w.alloc (.cells #[.int .i64 r.day, .int .i64 r.shown, .int .i64 r.err, .int .i64 r.bare, .int .i64 r.air.lo, .int .i64 r.air.hi, .int .i64 r.rate.lo, .int .i64 r.rate.hi, .int .i64 r.deep, .bool r.broken] 37) = V at *
    have a12 : V.cell? ⟨pu, 12, none⟩ = some (.slice Ah h.length ch) := qu.cell 12
    have la := qu.lt
    have b0 : V.cell? ⟨pl, 0, none⟩ = some (.slice (some ⟨bi, oi, none⟩) rs.length cr) := ql.cell 0
    have lb := ql.lt
    have c0 : V.cell? ⟨p1, 0, none⟩ = some (.int .i64 r.day) := q1.cell 0
    have lc := q1.lt
    have hrl' : (0 : Int) < (rs.length : Int) := by omega
    go_wp2_with fail
    refine wp_region_ext (by kernel_rfl) (by kernel_rfl) ?_
    repeat (go_big_quiet_step ((go_at_call 19; exact Calls.ext_of (sm_rd h.length r _ (by omega) HRD.out))))
    refine wpQuiet_load_row rfl 37 _ rfl _ rfl 37 _ (0, 0) _ q1.ex Try.underlying37 rfl (by kernel_rfl) ?_
    simp only [Act.put, List.setIfInBounds_toArray, List.set_cons_zero, List.set_cons_succ]
    repeat (go_big_quiet_step ((go_at_call 19; exact Calls.ext_of (sm_rd h.length r _ (by omega) HRD.out))))
    refine wpQuiet_nil ?_; intro _ hw'; obtain ⟨X, rfl⟩ := hw'
    go_wp2
    go_ret
    exact ⟨ret_bool HR.out.symm, ex_trans hb1 X.h⟩
set_option maxRecDepth 100000 in
set_option maxHeartbeats 800000 in
theorem sm_bath2 (r : Rd) (w : World) : Calls Try.prog 41 #[.agg #[.int .i64 r.day, .int .i64 r.shown, .int .i64 r.err, .int .i64 r.bare, .int .i64 r.air.lo, .int .i64 r.air.hi, .int .i64 r.rate.lo, .int .i64 r.rate.hi, .int .i64 r.deep, .bool r.broken]] w fun e w' => e = .returned (.bool (!r.broken)) ∧ Below w.heap.size w w' := by
  have hb1 := ex_alloc (Below.refl w.heap.size w) (.cells #[.int .i64 r.day, .int .i64 r.shown, .int .i64 r.err, .int .i64 r.bare, .int .i64 r.air.lo, .int .i64 r.air.hi, .int .i64 r.rate.lo, .int .i64 r.rate.hi, .int .i64 r.deep, .bool r.broken] 37)
  go_enter Try.func41, Try.ntmps41
  go_wp2
  go_ret
  exact ⟨rfl, hb1⟩

end Go.Proofs.Ytkaogjhnogkcdaa
end

section
namespace Go.Proofs.Ytkaogjhnogkcdaa
open Go.RowKit
attribute [local go_sem] Ex.cell? Ex.frozen?

def bathE (t : Tb) (l : List Ic) (nh : Int) (rs : List Rd) (ag : Bool) : Int := if 5 < rs.length then 3 else if rs.length = 0 ∨ allTo (fun k => dayB nh (gE rs 0).day (gE rs k)) rs.length = false then 2 else if allTo (fun k => !(gE rs k).broken) rs.length = false then 8 else refE t l (gE rs 0) ag
section
variable {t : Tb} {l : List Ic} {nh : Int} {rs : List Rd} {ag : Bool}
theorem bath_1 (h : 5 < rs.length) : bathE t l nh rs ag = 3 := if_pos h
theorem bath_2 (h : ¬ 5 < rs.length) (h2 : rs.length = 0 ∨ allTo (fun k => dayB nh (gE rs 0).day (gE rs k)) rs.length = false) : bathE t l nh rs ag = 2 := by unfold bathE; rw [if_neg h, if_pos h2]
theorem bath_3 (h : ¬ 5 < rs.length) (h0 : rs.length ≠ 0) (h2 : allTo (fun k => dayB nh (gE rs 0).day (gE rs k)) rs.length = true) (h3 : allTo (fun k => !(gE rs k).broken) rs.length = false) : bathE t l nh rs ag = 8 := by
 unfold bathE; rw [if_neg h, if_neg (by rintro (e | e); exact h0 e; rw [h2] at e; cases e), if_pos h3]
theorem bath_4 (h : ¬ 5 < rs.length) (h0 : rs.length ≠ 0) (h2 : allTo (fun k => dayB nh (gE rs 0).day (gE rs k)) rs.length = true) (h3 : allTo (fun k => !(gE rs k).broken) rs.length = true) : bathE t l nh rs ag = refE t l (gE rs 0) ag := by
 unfold bathE; rw [if_neg h, if_neg (by rintro (e | e); exact h0 e; rw [h2] at e; cases e), if_neg (by simp [h3])]
theorem dayB_iff {d : Int} {r : Rd} : dayB nh d r = true ↔ rdOk nh r = true ∧ r.day = d := by simp [dayB]
end
set_option maxRecDepth 100000 in
set_option maxHeartbeats 6400000 in
theorem sm_bath (t : Tb) (Ab Ad Ah Ai Az : Option Addr) (cb cd ch ci cz nz : Nat) (h : List Rg) (l : List Ic) (rs : List Rd) (Ar : Option Addr) (cr : Nat) (w : World) (hi : SlAt w w.heap.size 3 Ai l.length (fC l)) (hs : SlAt w w.heap.size 10 Ar rs.length (fE rs)) (hl : l.length ≤ 1000000) (hhl : h.length ≤ 1000000) (hz : nz ≤ 1000000) (hrl : rs.length ≤ 1000000) :
  Calls Try.prog 26 #[.agg #[.int .i64 t.g.base, .slice Ab t.g.bands.length cb, .slice Ad t.g.depths.length cd, .int .i64 t.g.blo, .int .i64 t.g.bhi, .int .i64 t.k.lo, .int .i64 t.k.hi, .int .i64 t.lag.lo, .int .i64 t.lag.hi, .int .i64 t.sq.lo, .int .i64 t.sq.hi, .int .i64 t.term, .slice Ah h.length ch, .slice Ai l.length ci, .slice Az nz cz], .slice Ar rs.length cr] w fun e w' => e = .returned (.int .i64 (bathE t l h.length rs (decide (0 < nz)))) ∧ Below w.heap.size w w' := by
 by_cases h5 : 5 < rs.length
 ·
  have HR := Lib.hid (bath_1 (t := t) (l := l) (nh := h.length) (ag := decide (0 < nz)) h5)
  have e1 : decide ((5 : Int) < (rs.length : Int)) = true := decide_eq_true (by omega)
  have e1' : decide (5 < rs.length) = true := decide_eq_true h5
  go_enter Try.func26, Try.ntmps26
  go_upto_region 1 with fail
  show Code.wp _ _ _ _ _
  refine box2 (K := fun V => Code.wp _ _ _ _ V) ?_
  intro V hb1 q1 q2
  replace hi := (hi.below hb1).up hb1.size
  replace hs := (hs.below hb1).up hb1.size
  obtain ⟨pq1, hpq1⟩ : ∃ p, w.heap.size = p := ⟨_, rfl⟩
  obtain ⟨pq2, hpq2⟩ : ∃ p, w.heap.size + 1 = p := ⟨_, rfl⟩
  rw [hpq2] at q2 ⊢
  rw [hpq1] at q1 ⊢
  have hp1 : w.heap.size ≤ pq1 := by omega
  have hp2 : w.heap.size ≤ pq2 := by omega
  clear hpq1 hpq2
  have b0 : V.cell? ⟨pq2, 0, none⟩ = some (.slice Ar rs.length cr) := q2.cell 0
  have lb := q2.lt
  go_wp2
  go_ret
  exact ⟨ret_int HR.out.symm, hb1⟩
 ·
  have e1 : decide ((5 : Int) < (rs.length : Int)) = false := decide_eq_false (by omega)
  have e1' : decide (5 < rs.length) = false := decide_eq_false h5
  by_cases h0 : rs.length = 0
  ·
   have HR := Lib.hid (bath_2 (t := t) (l := l) (nh := h.length) (ag := decide (0 < nz)) h5 (.inl h0))
   have e2 : ((rs.length : Int) == 0) = true := by simp [h0]
   have e2' : (rs.length == 0) = true := by simp [h0]
   have H0 := Lib.hid h0
   clear h0
   go_enter Try.func26, Try.ntmps26
   go_upto_region 1 with fail
   show Code.wp _ _ _ _ _
   refine box2 (K := fun V => Code.wp _ _ _ _ V) ?_
   intro V hb1 q1 q2
   replace hi := (hi.below hb1).up hb1.size
   replace hs := (hs.below hb1).up hb1.size
   obtain ⟨pq1, hpq1⟩ : ∃ p, w.heap.size = p := ⟨_, rfl⟩
   obtain ⟨pq2, hpq2⟩ : ∃ p, w.heap.size + 1 = p := ⟨_, rfl⟩
   rw [hpq2] at q2 ⊢
   rw [hpq1] at q1 ⊢
   have hp1 : w.heap.size ≤ pq1 := by omega
   have hp2 : w.heap.size ≤ pq2 := by omega
   clear hpq1 hpq2
   have b0 : V.cell? ⟨pq2, 0, none⟩ = some (.slice Ar rs.length cr) := q2.cell 0
   have lb := q2.lt
   go_wp2
   go_ret
   exact ⟨ret_int HR.out.symm, hb1⟩
  ·
   have e2 : ((rs.length : Int) == 0) = false := by rw [beq_eq_false_iff_ne]; omega
   have e2' : (rs.length == 0) = false := by rw [beq_eq_false_iff_ne]; exact h0
   cases t1 : allTo (fun k => dayB h.length (gE rs 0).day (gE rs k)) rs.length
   ·
    have HR := Lib.hid (bath_2 (t := t) (l := l) (nh := h.length) (ag := decide (0 < nz)) h5 (.inr t1))
    have HT1 := Lib.hid t1
    clear t1
    go_enter Try.func26, Try.ntmps26
    go_upto_region 1 with fail
    show Code.wp _ _ _ _ _
    refine box2 (K := fun V => Code.wp _ _ _ _ V) ?_
    intro V hb1 q1 q2
    replace hi := (hi.below hb1).up hb1.size
    replace hs := (hs.below hb1).up hb1.size
    obtain ⟨pq1, hpq1⟩ : ∃ p, w.heap.size = p := ⟨_, rfl⟩
    obtain ⟨pq2, hpq2⟩ : ∃ p, w.heap.size + 1 = p := ⟨_, rfl⟩
    rw [hpq2] at q2 ⊢
    rw [hpq1] at q1 ⊢
    have hp1 : w.heap.size ≤ pq1 := by omega
    have hp2 : w.heap.size ≤ pq2 := by omega
    clear hpq1 hpq2
    have b0 : V.cell? ⟨pq2, 0, none⟩ = some (.slice Ar rs.length cr) := q2.cell 0
    have lb := q2.lt
    go_wp2_with fail
    refine (all_day pq1 pq2 (fun k => dayB h.length (gE rs 0).day (gE rs k)) rs rs.length _ _ _ hs hrl (fun k W hk hW => sm_bath1 t Ab Ad Ah Ai Az cb cd ch ci cz nz h l rs (gE rs k) Ar cr pq1 pq2 W (q1.below hW q1.lt) (q2.below hW q2.lt) (hs.go hW) (by omega) hhl)).mono ?_
    rintro e V1 ⟨rfl, hV1⟩
    clear b0 lb
    replace q1 := q1.below hV1 q1.lt
    replace q2 := q2.below hV1 q2.lt
    replace hi := (hi.below hV1).up hV1.size
    replace hs := (hs.below hV1).up hV1.size
    have B_V1 := ex_trans hb1 hV1
    rw [HT1.out]
    have b0 : V1.cell? ⟨pq2, 0, none⟩ = some (.slice Ar rs.length cr) := q2.cell 0
    have lb := q2.lt
    go_wp2
    go_ret
    exact ⟨ret_int HR.out.symm, B_V1⟩
   ·
    cases t2 : allTo (fun k => !(gE rs k).broken) rs.length
    ·
     have HR := Lib.hid (bath_3 (t := t) (l := l) (ag := decide (0 < nz)) h5 h0 t1 t2)
     have HT1 := Lib.hid t1
     have HT2 := Lib.hid t2
     clear t1 t2
     go_enter Try.func26, Try.ntmps26
     go_upto_region 1 with fail
     show Code.wp _ _ _ _ _
     refine box2 (K := fun V => Code.wp _ _ _ _ V) ?_
     intro V hb1 q1 q2
     replace hi := (hi.below hb1).up hb1.size
     replace hs := (hs.below hb1).up hb1.size
     obtain ⟨pq1, hpq1⟩ : ∃ p, w.heap.size = p := ⟨_, rfl⟩
     obtain ⟨pq2, hpq2⟩ : ∃ p, w.heap.size + 1 = p := ⟨_, rfl⟩
     rw [hpq2] at q2 ⊢
     rw [hpq1] at q1 ⊢
     have hp1 : w.heap.size ≤ pq1 := by omega
     have hp2 : w.heap.size ≤ pq2 := by omega
     clear hpq1 hpq2
     have b0 : V.cell? ⟨pq2, 0, none⟩ = some (.slice Ar rs.length cr) := q2.cell 0
     have lb := q2.lt
     go_wp2_with fail
     refine (all_day pq1 pq2 (fun k => dayB h.length (gE rs 0).day (gE rs k)) rs rs.length _ _ _ hs hrl (fun k W hk hW => sm_bath1 t Ab Ad Ah Ai Az cb cd ch ci cz nz h l rs (gE rs k) Ar cr pq1 pq2 W (q1.below hW q1.lt) (q2.below hW q2.lt) (hs.go hW) (by omega) hhl)).mono ?_
     rintro e V2 ⟨rfl, hV2⟩
     clear b0 lb
     replace q1 := q1.below hV2 q1.lt
     replace q2 := q2.below hV2 q2.lt
     replace hi := (hi.below hV2).up hV2.size
     replace hs := (hs.below hV2).up hV2.size
     have B_V2 := ex_trans hb1 hV2
     rw [HT1.out]
     have b0 : V2.cell? ⟨pq2, 0, none⟩ = some (.slice Ar rs.length cr) := q2.cell 0
     have lb := q2.lt
     go_wp2_with fail
     refine (all_whole (fun k => !(gE rs k).broken) rs rs.length _ _ _ hs hrl (fun k W hk hW => sm_bath2 (gE rs k) W)).mono ?_
     rintro e V3 ⟨rfl, hV3⟩
     clear b0 lb
     replace q1 := q1.below hV3 q1.lt
     replace q2 := q2.below hV3 q2.lt
     replace hi := (hi.below hV3).up hV3.size
     replace hs := (hs.below hV3).up hV3.size
     have B_V3 := ex_trans B_V2 hV3
     rw [HT2.out]
     have b0 : V3.cell? ⟨pq2, 0, none⟩ = some (.slice Ar rs.length cr) := q2.cell 0
     have lb := q2.lt
     go_wp2
     go_ret
     exact ⟨ret_int HR.out.symm, B_V3⟩
    ·
     have HR := Lib.hid (bath_4 (t := t) (l := l) (ag := decide (0 < nz)) h5 h0 t1 t2)
     have HD := Lib.hid (rdOk_iff.1 (dayB_iff.1 (allTo_iff.1 t1 0 (by omega))).1).1
     have HT1 := Lib.hid t1
     have HT2 := Lib.hid t2
     clear t1 t2
     go_enter Try.func26, Try.ntmps26
     go_upto_region 1 with fail
     show Code.wp _ _ _ _ _
     refine box2 (K := fun V => Code.wp _ _ _ _ V) ?_
     intro V hb1 q1 q2
     replace hi := (hi.below hb1).up hb1.size
     replace hs := (hs.below hb1).up hb1.size
     obtain ⟨pq1, hpq1⟩ : ∃ p, w.heap.size = p := ⟨_, rfl⟩
     obtain ⟨pq2, hpq2⟩ : ∃ p, w.heap.size + 1 = p := ⟨_, rfl⟩
     rw [hpq2] at q2 ⊢
     rw [hpq1] at q1 ⊢
     have hp1 : w.heap.size ≤ pq1 := by omega
     have hp2 : w.heap.size ≤ pq2 := by omega
     clear hpq1 hpq2
     have b0 : V.cell? ⟨pq2, 0, none⟩ = some (.slice Ar rs.length cr) := q2.cell 0
     have lb := q2.lt
     go_wp2_with fail
     refine (all_day pq1 pq2 (fun k => dayB h.length (gE rs 0).day (gE rs k)) rs rs.length _ _ _ hs hrl (fun k W hk hW => sm_bath1 t Ab Ad Ah Ai Az cb cd ch ci cz nz h l rs (gE rs k) Ar cr pq1 pq2 W (q1.below hW q1.lt) (q2.below hW q2.lt) (hs.go hW) (by omega) hhl)).mono ?_
     rintro e V4 ⟨rfl, hV4⟩
     clear b0 lb
     replace q1 := q1.below hV4 q1.lt
     replace q2 := q2.below hV4 q2.lt
     replace hi := (hi.below hV4).up hV4.size
     replace hs := (hs.below hV4).up hV4.size
     have B_V4 := ex_trans hb1 hV4
     rw [HT1.out]
     have b0 : V4.cell? ⟨pq2, 0, none⟩ = some (.slice Ar rs.length cr) := q2.cell 0
     have lb := q2.lt
     go_wp2_with fail
     refine (all_whole (fun k => !(gE rs k).broken) rs rs.length _ _ _ hs hrl (fun k W hk hW => sm_bath2 (gE rs k) W)).mono ?_
     rintro e V5 ⟨rfl, hV5⟩
     clear b0 lb
     replace q1 := q1.below hV5 q1.lt
     replace q2 := q2.below hV5 q2.lt
     replace hi := (hi.below hV5).up hV5.size
     replace hs := (hs.below hV5).up hV5.size
     have B_V5 := ex_trans B_V4 hV5
     rw [HT2.out]
     have b0 : V5.cell? ⟨pq2, 0, none⟩ = some (.slice Ar rs.length cr) := q2.cell 0
     have lb := q2.lt
     have hd : 0 ≤ (gE rs 0).day ∧ (gE rs 0).day ≤ 1000000 := by have := HD.out; omega
     have hr0 : (0 : Int) < (rs.length : Int) := by omega
     go_wp2_with fail
     have hs2 := hs
     obtain ⟨bi, oi, rfl, hbi, g0, g1, g2, g3, g4, g5, g6, g7, g8, g9⟩ := IsRds.at10 hs2 (show 0 < rs.length by omega)
     rw [Nat.zero_mul, Nat.add_zero] at g0 g1 g2 g3 g4 g5 g6 g7 g8 g9
     refine wp_region_ext (by kernel_rfl) (by kernel_rfl) ?_
     refine wpQuiet_load_row rfl 56 _ rfl _ rfl 56 _ (0, 0) _ q1.ex Try.underlying56 rfl (by kernel_rfl) ?_
     simp only [Act.put, List.setIfInBounds_toArray, List.set_cons_zero, List.set_cons_succ]
     repeat (go_big_quiet_step ((go_at_call 24; exact Calls.ext_of (sm_refused t Ab Ad Ah Ai Az cb cd ch ci cz nz h l (gE rs 0) _ (hi.go (Ex.h _)) hl hd hz))))
     refine wpQuiet_nil ?_; intro _ hw'; obtain ⟨X, rfl⟩ := hw'
     go_wp2
     go_ret
     exact ⟨ret_int HR.out.symm, ex_trans B_V5 X.h⟩

end Go.Proofs.Ytkaogjhnogkcdaa
end

section
namespace Go.Proofs.Ytkaogjhnogkcdaa
open Go.RowKit Go.Shelf
attribute [local go_sem] Oper.semAt_some

theorem kinds_any (t : Tb) (Ab Ad : Option Addr) (cb cd : Nat) (w : World) :
    Calls Try.prog 42 #[.agg #[.int .i64 t.g.base, .slice Ab t.g.bands.length cb, .slice Ad t.g.depths.length cd, .int .i64 t.g.blo, .int .i64 t.g.bhi, .int .i64 t.k.lo, .int .i64 t.k.hi, .int .i64 t.lag.lo, .int .i64 t.lag.hi, .int .i64 t.sq.lo, .int .i64 t.sq.hi, .int .i64 t.term]] w fun e w' => e = .returned (.func (.func 54) #[] #[.pointer (some ⟨w.heap.size, 0, none⟩)]) ∧ w' = w.alloc (.cells #[.int .i64 t.g.base, .slice Ab t.g.bands.length cb, .slice Ad t.g.depths.length cd, .int .i64 t.g.blo, .int .i64 t.g.bhi, .int .i64 t.k.lo, .int .i64 t.k.hi, .int .i64 t.lag.lo, .int .i64 t.lag.hi, .int .i64 t.sq.lo, .int .i64 t.sq.hi, .int .i64 t.term] 32) := by
  go_enter Try.func42, Try.ntmps42
  go_wp2
  go_ret
  exact ⟨rfl, rfl⟩

abbrev KiX (t : Tb) := { q : Ki // KiIn t q }
def HasK (t : Tb) (xs : List (KiX t)) : Prop := ∀ q, KiIn t q → q ∈ xs.map (·.1)
structure KeepsBox (bl : Nat) (W W' : World) : Prop where
  size : W.heap.size ≤ W'.heap.size
  box : W'.heap[bl]? = W.heap[bl]?
theorem KeepsBox.trans {bl : Nat} {X Y Z : World} (h : KeepsBox bl X Y) (k : KeepsBox bl Y Z) : KeepsBox bl X Z := ⟨Nat.le_trans h.size k.size, k.box.trans h.box⟩
def encK {t : Tb} (q : KiX t) : Array Value := #[.agg #[.int .i64 q.1.k, .int .i64 q.1.lag, .int .i64 q.1.sq]]
structure KiPre (t : Tb) (J : List (KiX t) → World → Prop) (bl : Nat) (cs : Array Value) (K L S : Int) (m : Int) (W : World) : Prop where
  out : ∃ pre, J pre W ∧ (pre.length : Int) ≤ m ∧ ∀ q, KiBef t K L S q → q ∈ pre.map (·.1)
  q : Blk W bl 32 cs
theorem KiPre.congr {t : Tb} {J : List (KiX t) → World → Prop} {bl : Nat} {cs : Array Value} {K L S K' L' S' m m' : Int} {W : World} (h : KiPre t J bl cs K L S m W) (e : ∀ q, KiBef t K L S q ↔ KiBef t K' L' S' q) (hm : m ≤ m') : KiPre t J bl cs K' L' S' m' W := by
  obtain ⟨⟨pre, h1, h2, h3⟩, h4⟩ := h
  exact ⟨⟨pre, h1, by omega, fun q hq => h3 q ((e q).2 hq)⟩, h4⟩

set_option maxRecDepth 100000 in
set_option maxHeartbeats 4000000 in
theorem kinds1_in (n : Nat) (t : Tb) (Ab Ad : Option Addr) (cb cd : Nat) (ht : TbBd t) (l bl : Nat) (J Jx : List (KiX t) → World → Prop) (W : World) (q0 : Blk W bl 32 #[.int .i64 t.g.base, .slice Ab t.g.bands.length cb, .slice Ad t.g.depths.length cd, .int .i64 t.g.blo, .int .i64 t.g.bhi, .int .i64 t.k.lo, .int .i64 t.k.hi, .int .i64 t.lag.lo, .int .i64 t.lag.hi, .int .i64 t.sq.lo, .int .i64 t.sq.hi, .int .i64 t.term])
    (hY : ∀ pre x W1, J pre W1 → pre.length < 2200 → YieldAt Fence.wide (n - 1) Try.prog l (encK x) W1 fun e W' => (e = .returned (.bool true) ∧ J (pre ++ [x]) W' ∧ KeepsBox bl W1 W') ∨ (e = .returned (.bool false) ∧ Jx (pre ++ [x]) W'))
    (h0 : J [] W) :
    CallsIn Fence.wide n Try.prog 54 #[.func (.yield l) #[] #[], .pointer (some ⟨bl, 0, none⟩)] W fun e W' => (∃ v, e = .returned v) ∧ ((∃ xs : List (KiX t), HasK t xs ∧ J xs W') ∨ (∃ pre, Jx pre W')) := by
  have hk := ht.k
  have hl := ht.lag
  have hs := ht.sq
  have a5 : W.cell? ⟨bl, 5, none⟩ = some (.int .i64 t.k.lo) := q0.cell 5
  have lt1 := q0.lt
  have HP : KiPre t J bl #[.int .i64 t.g.base, .slice Ab t.g.bands.length cb, .slice Ad t.g.depths.length cd, .int .i64 t.g.blo, .int .i64 t.g.bhi, .int .i64 t.k.lo, .int .i64 t.k.hi, .int .i64 t.lag.lo, .int .i64 t.lag.hi, .int .i64 t.sq.lo, .int .i64 t.sq.hi, .int .i64 t.term] t.k.lo t.lag.lo t.sq.lo 0 W := ⟨⟨[], h0, by simp, fun q ⟨h1, h2⟩ => by
    have := h1.k; have := h1.lag; have := h1.sq
    omega⟩, q0⟩
  refine callsIn_of_wp Try.func54 rfl trivial ?_ rfl
  simp only [Try.ntmps54, List.size_toArray, List.length_cons, List.length_nil, Nat.reduceAdd, Nat.reduceSub, Array.replicate_succ, Array.replicate_zero, List.push_toArray, List.append_toArray, List.nil_append, List.cons_append]
  gi_wp2_with fail
  clear a5 lt1 q0 h0
  gi_loopw [3] (fun i wr => ∃ K : Int, t.k.lo ≤ K ∧ K ≤ t.k.hi + 1 ∧ i = .int .i64 K ∧ KiPre t J bl #[.int .i64 t.g.base, .slice Ab t.g.bands.length cb, .slice Ad t.g.depths.length cd, .int .i64 t.g.blo, .int .i64 t.g.bhi, .int .i64 t.k.lo, .int .i64 t.k.hi, .int .i64 t.lag.lo, .int .i64 t.lag.hi, .int .i64 t.sq.lo, .int .i64 t.sq.hi, .int .i64 t.term] K t.lag.lo t.sq.lo ((K - t.k.lo) * 100) wr)
    (fun i _ => (t.k.hi + 1 - intOf i).toNat)
  case atStart => exact ⟨_, Int.le_refl _, by omega, rfl, HP.congr (fun _ => Iff.rfl) (by omega)⟩
  case round =>
    clear HP
    obtain ⟨K, hK0, hK1, rfl, HP⟩ := hrel
    have a6 : wr.cell? ⟨bl, 6, none⟩ = some (.int .i64 t.k.hi) := HP.q.cell 6
    have a7 : wr.cell? ⟨bl, 7, none⟩ = some (.int .i64 t.lag.lo) := HP.q.cell 7
    have lt1 := HP.q.lt
    by_cases hK : K ≤ t.k.hi
    · gi_wp2_with fail
      clear a6 a7 lt1
      gi_loopw [4] (fun i wr => ∃ L : Int, t.lag.lo ≤ L ∧ L ≤ t.lag.hi + 1 ∧ i = .int .i64 L ∧ KiPre t J bl #[.int .i64 t.g.base, .slice Ab t.g.bands.length cb, .slice Ad t.g.depths.length cd, .int .i64 t.g.blo, .int .i64 t.g.bhi, .int .i64 t.k.lo, .int .i64 t.k.hi, .int .i64 t.lag.lo, .int .i64 t.lag.hi, .int .i64 t.sq.lo, .int .i64 t.sq.hi, .int .i64 t.term] K L t.sq.lo ((K - t.k.lo) * 100 + (L - t.lag.lo) * 10) wr)
        (fun i _ => (t.lag.hi + 1 - intOf i).toNat)
      case atStart => exact ⟨_, Int.le_refl _, by omega, rfl, HP.congr (fun _ => Iff.rfl) (by omega)⟩
      case round =>
        clear HP
        obtain ⟨L, hL0, hL1, rfl, HP⟩ := hrel
        have a8 : wr.cell? ⟨bl, 8, none⟩ = some (.int .i64 t.lag.hi) := HP.q.cell 8
        have a9 : wr.cell? ⟨bl, 9, none⟩ = some (.int .i64 t.sq.lo) := HP.q.cell 9
        have lt1 := HP.q.lt
        by_cases hL : L ≤ t.lag.hi
        · gi_wp2_with fail
          clear a8 a9 lt1
          gi_loopw [5] (fun i wr => ∃ S : Int, t.sq.lo ≤ S ∧ S ≤ t.sq.hi + 1 ∧ i = .int .i64 S ∧ KiPre t J bl #[.int .i64 t.g.base, .slice Ab t.g.bands.length cb, .slice Ad t.g.depths.length cd, .int .i64 t.g.blo, .int .i64 t.g.bhi, .int .i64 t.k.lo, .int .i64 t.k.hi, .int .i64 t.lag.lo, .int .i64 t.lag.hi, .int .i64 t.sq.lo, .int .i64 t.sq.hi, .int .i64 t.term] K L S ((K - t.k.lo) * 100 + (L - t.lag.lo) * 10 + (S - t.sq.lo)) wr)
            (fun i _ => (t.sq.hi + 1 - intOf i).toNat)
          case atStart => exact ⟨_, Int.le_refl _, by omega, rfl, HP.congr (fun _ => Iff.rfl) (by omega)⟩
          case round =>
            clear HP
            obtain ⟨S, hS0, hS1, rfl, HP⟩ := hrel
            have a10 : wr.cell? ⟨bl, 10, none⟩ = some (.int .i64 t.sq.hi) := HP.q.cell 10
            have lt1 := HP.q.lt
            by_cases hS : S ≤ t.sq.hi
            · obtain ⟨⟨pre, hJ, hlen, hall⟩, hq⟩ := HP
              have HALL := Lib.hid hall
              clear hall
              obtain ⟨fn, tmps, assign, body, hy, hR⟩ := hY pre ⟨⟨K, L, S⟩, ⟨⟨hK0, hK⟩, ⟨hL0, hL⟩, ⟨hS0, hS⟩⟩⟩ _ hJ (by omega)
              have hy' : (Instr.yield l #[.agg #[.int .i64 K, .int .i64 L, .int .i64 S]]).run Try.prog wr = .ok (.round l fn tmps assign body) wr := hy
              clear hy
              gi_wp2_with fail
              refine ⟨fun h => by simp [Fence.wide] at h, ?_⟩
              refine hR.mono ?_
              rintro e W' (⟨rfl, hJ', hk'⟩ | ⟨rfl, hJx'⟩)
              · have HP : KiPre t J bl #[.int .i64 t.g.base, .slice Ab t.g.bands.length cb, .slice Ad t.g.depths.length cd, .int .i64 t.g.blo, .int .i64 t.g.bhi, .int .i64 t.k.lo, .int .i64 t.k.hi, .int .i64 t.lag.lo, .int .i64 t.lag.hi, .int .i64 t.sq.lo, .int .i64 t.sq.hi, .int .i64 t.term] K L (S + 1) ((K - t.k.lo) * 100 + (L - t.lag.lo) * 10 + (S + 1 - t.sq.lo)) W' := ⟨⟨_, hJ', by rw [List.length_append, List.length_singleton]; omega, fun q hq => by
                  rw [List.map_append, List.mem_append]
                  rcases (bef_step ⟨hK0, hK⟩ ⟨hL0, hL⟩ ⟨hS0, hS⟩ q).1 hq with h | h
                  · exact .inl (HALL.out q h)
                  · exact .inr (by rw [h]; simp)⟩, hk'.box.trans hq⟩
                clear a10 lt1 hy' hq hJ hk' hJ' HALL hlen
                gi_wp2
                exact ⟨⟨S + 1, by omega, by omega, by simp, HP⟩, by simp [intOf]; omega⟩
              · gi_wp2
                refine bodyPost_ret (results_none rfl _ _ _) rfl ?_
                exact ⟨⟨_, rfl⟩, .inr ⟨_, hJx'⟩⟩
            · have HP2 := HP.congr (m' := (K - t.k.lo) * 100 + (L + 1 - t.lag.lo) * 10) (bef_row (t := t) (K := K) (L := L) (S := S) (by omega)) (by omega)
              clear HP
              gi_wp2
              exact ⟨⟨L + 1, by omega, by omega, by simp, HP2⟩, by simp [intOf]; omega⟩
        · have HP2 := HP.congr (m' := (K + 1 - t.k.lo) * 100) (bef_plane (t := t) (K := K) (L := L) (S := t.sq.lo) (by omega)) (by omega)
          clear HP
          gi_wp2
          exact ⟨⟨K + 1, by omega, by omega, by simp, HP2⟩, by simp [intOf]; omega⟩
    · obtain ⟨⟨pre, hJ, _, hall⟩, _⟩ := HP
      have HR : Hid (HasK t pre) := Lib.hid (fun q hq => hall q ((bef_all (by omega) q).2 hq))
      clear hall
      gi_wp2
      go_end0
      exact ⟨⟨_, rfl⟩, .inl ⟨pre, HR.out, hJ⟩⟩
end Go.Proofs.Ytkaogjhnogkcdaa
end

section
namespace Go.Proofs.Ytkaogjhnogkcdaa
open Go.RowKit
attribute [local go_sem] Ex.cell? Ex.frozen?

def keyK (q : Ki) : Value := .agg #[.int .i64 q.k, .int .i64 q.lag, .int .i64 q.sq]
theorem ki_eq (s u : Ki) (w : World) : (Op.equal 80 (keyK s) (keyK u)).run Try.prog w = .ok (decide (s = u)) w := by
 obtain ⟨a, b, c⟩ := s
 obtain ⟨d, e, f⟩ := u
 unfold keyK
 simp [Op.equal, Op.maxDepth, go_sem]
 by_cases h1 : a = d <;> by_cases h2 : b = e <;> by_cases h3 : c = f <;> simp [h1, h2, h3]
theorem keyK_ok : KeyOk 80 keyK where
 eq := ki_eq
 check := fun em s w => by
  have hc : ∀ (n : Nat) (x : Int) (w : World), (Instr.checkKey em (n + 1) 3 (.int .i64 x)).run Try.prog w = .ok () w := fun n x w => by
   rw [Instr.checkKey]
   simp [go_sem, run_underlying Try.underlying3]
  show (Instr.checkKey em (9999 + 1) 80 (keyK s)).run Try.prog w = _
  rw [Instr.checkKey]
  unfold keyK
  simp only [Sem.run_bind, run_underlying Try.underlying80, Result.andThen_ok]
  have hc' := fun x w => hc 9998 x w
  simp [go_sem, List.forIn_cons, hc']
 und := ⟨_, Try.underlying80, fun s e es i => by simp [Instr.findNow, Instr.sameNow, keyK]⟩
theorem keyK_fd : KeyFd 80 keyK := KeyFd.of keyK_ok (fun s w => by simp [Instr.keyThatStays, Instr.sameBits, keyK])
def cRg (r : Rg) : Value := .agg #[.int .i64 r.lo, .int .i64 r.hi]
def Mid (rs : List Rd) (q : Ki) (lo hi N : Int) (o : Option Rg) : Prop := LeftIs rs q lo N o ∨ ((∀ n, lo ≤ n → n < N → sayAll rs q n = false) ∧ ∃ R, o = some R ∧ EndsOf (fun n => (lo ≤ n ∧ n < hi + 1) ∧ sayAll rs q n = true) R.lo R.hi)
def nextR (o : Option Rg) (N : Int) : Rg := match o with | none => ⟨N, N⟩ | some R => ⟨R.lo, N⟩
theorem mid_no {rs : List Rd} {q : Ki} {lo hi N : Int} {o : Option Rg} (h : Mid rs q lo hi N o) (hn : sayAll rs q N = false) : Mid rs q lo hi (N + 1) o := by
 rcases h with h | ⟨h, hR⟩
 ·
  exact .inl (left_no h hn)
 ·
  refine .inr ⟨fun n h1 h2 => ?_, hR⟩
  by_cases e : n = N
  ·
   rw [e]; exact hn
  ·
   exact h n h1 (by omega)
theorem mid_yes {rs : List Rd} {q : Ki} {lo hi N : Int} {o : Option Rg} (h : Mid rs q lo hi N o) (h0 : lo ≤ N) (h1 : N ≤ hi) (hn : sayAll rs q N = true) : Mid rs q lo hi (N + 1) (some (nextR o N)) := by
 rcases h with h | ⟨h, R, rfl, hR⟩
 ·
  have := left_yes h h0 hn
  cases o <;> exact .inl this
 ·
  have e1 := hR.2.2 N ⟨⟨h0, by omega⟩, hn⟩
  have e2 : R.lo = N := Classical.byContradiction fun hc => by
   have := h R.lo hR.1.1.1 (by omega)
   have hx : sayAll rs q R.lo = true := hR.1.2
   rw [hx] at this; cases this
  refine .inl ?_
  show EndsOf (fun n => (lo ≤ n ∧ n < N + 1) ∧ sayAll rs q n = true) R.lo N
  rw [e2]
  refine ⟨⟨⟨h0, by omega⟩, hn⟩, ⟨⟨h0, by omega⟩, hn⟩, fun z ⟨⟨z0, z1⟩, z2⟩ => ?_⟩
  have : z = N := Classical.byContradiction fun hc => by
   have := h z z0 (by omega)
   rw [this] at z2; cases z2
  omega
theorem mid_end {rs : List Rd} {q : Ki} {lo hi : Int} {o : Option Rg} (h : Mid rs q lo hi (hi + 1) o) : LeftIs rs q lo (hi + 1) o := by
 rcases h with h | ⟨h, R, rfl, hR⟩
 ·
  exact h
 ·
  have := h R.lo hR.1.1.1 hR.1.1.2
  have hx : sayAll rs q R.lo = true := hR.1.2
  rw [hx] at this; cases this
theorem mid_start {rs : List Rd} {q : Ki} {lo hi : Int} {o : Option Rg} (h : o = none ∨ LeftIs rs q lo (hi + 1) o) : Mid rs q lo hi lo o := by
 rcases h with rfl | h
 ·
  exact .inl left_none
 ·
  cases o with
  | none => exact .inl left_none
  | some R => exact .inr ⟨fun n h1 h2 => by omega, R, rfl, h⟩
set_option maxRecDepth 100000 in
set_option maxHeartbeats 3200000 in
theorem sm_left1 (t : Tb) (Ab Ad Ah Ai Az : Option Addr) (cb cd ch ci cz nz : Nat) (h : List Rg) (l : List Ic) (r : Rd) (q : Ki) (n : Int) (pu pk pn : Nat) (w : World) (qu : Blk w pu 56 #[.int .i64 t.g.base, .slice Ab t.g.bands.length cb, .slice Ad t.g.depths.length cd, .int .i64 t.g.blo, .int .i64 t.g.bhi, .int .i64 t.k.lo, .int .i64 t.k.hi, .int .i64 t.lag.lo, .int .i64 t.lag.hi, .int .i64 t.sq.lo, .int .i64 t.sq.hi, .int .i64 t.term, .slice Ah h.length ch, .slice Ai l.length ci, .slice Az nz cz]) (qk : Blk w pk 80 #[.int .i64 q.k, .int .i64 q.lag, .int .i64 q.sq]) (qn : Blk w pn 3 #[.int .i64 n]) (hr : RdBd r) (hq : KiBd q) :
  Calls Try.prog 43 #[.agg #[.int .i64 r.day, .int .i64 r.shown, .int .i64 r.err, .int .i64 r.bare, .int .i64 r.air.lo, .int .i64 r.air.hi, .int .i64 r.rate.lo, .int .i64 r.rate.hi, .int .i64 r.deep, .bool r.broken], .pointer (some ⟨pu, 0, none⟩), .pointer (some ⟨pk, 0, none⟩), .pointer (some ⟨pn, 0, none⟩)] w fun e w' => e = .returned (.bool (saysB r q n)) ∧ Below w.heap.size w w' := by
 have hb1 := ex_alloc (Below.refl w.heap.size w) (.cells #[.int .i64 r.day, .int .i64 r.shown, .int .i64 r.err, .int .i64 r.bare, .int .i64 r.air.lo, .int .i64 r.air.hi, .int .i64 r.rate.lo, .int .i64 r.rate.hi, .int .i64 r.deep, .bool r.broken] 37)
 have q1 : Blk (w.alloc (.cells #[.int .i64 r.day, .int .i64 r.shown, .int .i64 r.err, .int .i64 r.bare, .int .i64 r.air.lo, .int .i64 r.air.hi, .int .i64 r.rate.lo, .int .i64 r.rate.hi, .int .i64 r.deep, .bool r.broken] 37)) w.heap.size 37 #[.int .i64 r.day, .int .i64 r.shown, .int .i64 r.err, .int .i64 r.bare, .int .i64 r.air.lo, .int .i64 r.air.hi, .int .i64 r.rate.lo, .int .i64 r.rate.hi, .int .i64 r.deep, .bool r.broken] := Blk.new _ _ _
 replace qu := qu.below hb1 qu.lt
 replace qk := qk.below hb1 qk.lt
 replace qn := qn.below hb1 qn.lt
 go_enter Try.func43, Try.ntmps43
 go_upto_region 1 with fail
 obtain ⟨p1, hp1⟩ : ∃ p, w.heap.size = p := ⟨_, rfl⟩
 rw [hp1] at q1 ⊢
 clear hp1
 generalize w.alloc (.cells #[.int .i64 r.day, .int .i64 r.shown, .int .i64 r.err, .int .i64 r.bare, .int .i64 r.air.lo, .int .i64 r.air.hi, .int .i64 r.rate.lo, .int .i64 r.rate.hi, .int .i64 r.deep, .bool r.broken] 37) = V at *
 have a0 : V.cell? ⟨pu, 0, none⟩ = some (.int .i64 t.g.base) := qu.cell 0
 have a1 : V.cell? ⟨pu, 1, none⟩ = some (.slice Ab t.g.bands.length cb) := qu.cell 1
 have a2 : V.cell? ⟨pu, 2, none⟩ = some (.slice Ad t.g.depths.length cd) := qu.cell 2
 have a3 : V.cell? ⟨pu, 3, none⟩ = some (.int .i64 t.g.blo) := qu.cell 3
 have a4 : V.cell? ⟨pu, 4, none⟩ = some (.int .i64 t.g.bhi) := qu.cell 4
 have a5 : V.cell? ⟨pu, 5, none⟩ = some (.int .i64 t.k.lo) := qu.cell 5
 have a6 : V.cell? ⟨pu, 6, none⟩ = some (.int .i64 t.k.hi) := qu.cell 6
 have a7 : V.cell? ⟨pu, 7, none⟩ = some (.int .i64 t.lag.lo) := qu.cell 7
 have a8 : V.cell? ⟨pu, 8, none⟩ = some (.int .i64 t.lag.hi) := qu.cell 8
 have a9 : V.cell? ⟨pu, 9, none⟩ = some (.int .i64 t.sq.lo) := qu.cell 9
 have a10 : V.cell? ⟨pu, 10, none⟩ = some (.int .i64 t.sq.hi) := qu.cell 10
 have a11 : V.cell? ⟨pu, 11, none⟩ = some (.int .i64 t.term) := qu.cell 11
 have la := qu.lt
 have k0 : V.cell? ⟨pk, 0, none⟩ = some (.int .i64 q.k) := qk.cell 0
 have k1 : V.cell? ⟨pk, 1, none⟩ = some (.int .i64 q.lag) := qk.cell 1
 have k2 : V.cell? ⟨pk, 2, none⟩ = some (.int .i64 q.sq) := qk.cell 2
 have lk := qk.lt
 have n0 : V.cell? ⟨pn, 0, none⟩ = some (.int .i64 n) := qn.cell 0
 have ln := qn.lt
 go_wp2_with (refine pause_at 8 rfl ?_)
 refine Paused.mk ?_
 refine wpList_load_row rfl 37 _ rfl _ rfl 37 _ (0, 0) _ (q1) Try.underlying37 rfl (by kernel_rfl) ?_
 go_wp2_with fail
 refine (sm_says t Ab Ad cb cd r q n _ hr hq).mono ?_
 rintro e V1 ⟨rfl, hV1⟩
 have B_V1 := ex_trans hb1 hV1
 clear a0 a1 a2 a3 a4 a5 a6 a7 a8 a9 a10 a11 la
 clear k0 k1 k2 lk
 clear n0 ln
 go_wp2
 go_ret
 exact ⟨rfl, B_V1⟩

end Go.Proofs.Ytkaogjhnogkcdaa
end

section
namespace Go.Proofs.Ytkaogjhnogkcdaa
open Go.RowKit Go.Shelf
attribute [local go_sem] Oper.semAt_some Ex.cell? Ex.frozen? Gx.cell?
def LeftF (t : Tb) (rs : List Rd) (F : Ki → Option Rg) : Prop := ∀ q, (KiIn t q → LeftIs rs q (bndP t (gE rs 0)).lo ((bndP t (gE rs 0)).hi + 1) (F q)) ∧ (¬ KiIn t q → F q = none)
def LeftP (t : Tb) (rs : List Rd) (pre : List (KiX t)) (F : Ki → Option Rg) : Prop := ∀ q, (q ∈ pre.map (·.1) → LeftIs rs q (bndP t (gE rs 0)).lo ((bndP t (gE rs 0)).hi + 1) (F q)) ∧ (q ∉ pre.map (·.1) → F q = none)
theorem leftP_all {t : Tb} {rs : List Rd} {xs : List (KiX t)} {F : Ki → Option Rg} (h : LeftP t rs xs F) (hx : HasK t xs) : LeftF t rs F := fun q => ⟨fun hq => (h q).1 (hx q hq), fun hq => (h q).2 (fun hm => by
  obtain ⟨y, _, e⟩ := List.mem_map.1 hm
  exact hq (e ▸ y.2))⟩
structure LfW (us : Array Value) (sl : Array Value) (tb : Array Value) (w W5 : World) (pu pl m po pt : Nat) (W : World) : Prop where
  sz : W5.heap.size ≤ W.heap.size
  b : Below w.heap.size w W
  qu : Blk W pu 56 us
  ql : Blk W pl 49 sl
  qo : Blk W po 77 #[.map (some m)]
  qt : Blk W pt 32 tb
  hm : w.heap.size ≤ m ∧ m < W5.heap.size
  hu : pu < W5.heap.size ∧ pl < W5.heap.size ∧ po < W5.heap.size ∧ pt < W5.heap.size
  ne : pu ≠ m ∧ pl ≠ m ∧ po ≠ m ∧ pt ≠ m
section
variable {us sl tb : Array Value} {w W5 : World} {pu pl m po pt : Nat} {W W' : World}
theorem LfW.go (h : LfW us sl tb w W5 pu pl m po pt W) (hb : Below W.heap.size W W') : LfW us sl tb w W5 pu pl m po pt W' := ⟨Nat.le_trans h.sz hb.size, ex_trans h.b hb, h.qu.below hb h.qu.lt, h.ql.below hb h.ql.lt, h.qo.below hb h.qo.lt, h.qt.below hb h.qt.lt, h.hm, h.hu, h.ne⟩
theorem LfW.grown (h : LfW us sl tb w W5 pu pl m po pt W) {row : Option Nat} (hg : W.grownBy W' row) (hr : ∀ r, row = some r → W5.heap.size ≤ r) : LfW us sl tb w W5 pu pl m po pt W' := by
  have hne : ∀ k, k < W5.heap.size → some k ≠ row := fun k hk e => by have := hr k e.symm; omega
  have hu := h.hu
  exact ⟨Nat.le_trans h.sz hg.size, h.b.grown hg h.b.size (fun j hj => by have := hr j hj; have := h.hm; omega), h.qu.grown hg (hne _ hu.1), h.ql.grown hg (hne _ hu.2.1), h.qo.grown hg (hne _ hu.2.2.1), h.qt.grown hg (hne _ hu.2.2.2), h.hm, h.hu, h.ne⟩
theorem LfW.fr (h : LfW us sl tb w W5 pu pl m po pt W) (hf : Fr (fun k => k = m) W W') : LfW us sl tb w W5 pu pl m po pt W' := 
  ⟨Nat.le_trans h.sz hf.size, hf.toBelow h.b h.b.size (fun x hx => by rw [hx]; exact h.hm.1), h.qu.fr hf h.ne.1, h.ql.fr hf h.ne.2.1, h.qo.fr hf h.ne.2.2.1, h.qt.fr hf h.ne.2.2.2, h.hm, h.hu, h.ne⟩
end
theorem MpN.go {α β : Type} [DecidableEq α] {kV : α → Value} {vV : β → Value} {W W' : World} {b : Nat} {L : List (α × β)} {F : α → Option β} (h : MpN kV vV W b L F) (hb : Below W.heap.size W W') : MpN kV vV W' b L F := h.of_block (hb.block b h.1.lt)
theorem SlAt.map10 {α β : Type} [DecidableEq α] {kV : α → Value} {vV : β → Value} {W W' : World} {m B n : Nat} {L : List (α × β)} {A : Option Addr} {f : Nat → Nat → Value} (h : SlAt W B 10 A n f) (hB : B ≤ W.heap.size) (hm : IsMp kV vV W m L) (hf : Fr (fun k => k = m) W W') : SlAt W' B 10 A n f := fun hn => by
  obtain ⟨b, off, e, hb, hc⟩ := h hn
  have hne : b ≠ m := by
    rintro rfl
    have h1 := hc 0 0 hn (by omega)
    have h2 : W.heap[b]? = some (.map (mkE kV vV L) L.length) := hm
    simp [World.cell?, h2] at h1
  exact ⟨b, off, e, hb, fun k j hk hj => (World.cell?_of_block (hf.block b (Nat.lt_of_lt_of_le hb hB) hne)).trans (hc k j hk hj)⟩
theorem gr_info : (Try.prog.info? 23).map (fun i => (i.zero, i.size, i.bytes)) = some (some (.agg #[.int .i64 0, .int .i64 0]), 2, 16) := by kernel_rfl
def lfM (hi : Int) (a : Act) (V : World) : Nat := (hi + 1 - intOf ((match a.tmps.getD 8 undef with | .pointer (some p) => V.cell? p | _ => none).getD undef)).toNat
theorem lfM_eq {hi N : Int} {a : Act} {V : World} {pn : Nat} (h : a.tmps.getD 8 undef = .pointer (some ⟨pn, 0, none⟩)) (hb : Blk V pn 3 #[.int .i64 N]) : lfM hi a V = (hi + 1 - N).toNat := by
  have e : V.cell? ⟨pn, 0, none⟩ = some (.int .i64 N) := hb.cell 0
  unfold lfM
  rw [h]
  simp only [e]
  simp [intOf]
theorem lk_some {V : World} {m : Nat} {F : Ki → Option Rg} (h : MpIs keyK cRg V m F) (q : Ki) {R : Rg} (hR : F q = some R) : (Instr.lookup 77 (.map (some m)) (.agg #[.int .i64 q.k, .int .i64 q.lag, .int .i64 q.sq]) true).run Try.prog V = .ok (.tuple #[.agg #[.int .i64 R.lo, .int .i64 R.hi], .bool true]) V := by
  obtain ⟨i0, hi0, hz0, _, _⟩ := info_parts gr_info
  have := MpIs.at2 (et := 23) Try.underlying77 hi0 hz0 keyK_fd h q
  rw [hR] at this
  exact this
theorem lk_none {V : World} {m : Nat} {F : Ki → Option Rg} (h : MpIs keyK cRg V m F) (q : Ki) (hR : F q = none) : (Instr.lookup 77 (.map (some m)) (.agg #[.int .i64 q.k, .int .i64 q.lag, .int .i64 q.sq]) true).run Try.prog V = .ok (.tuple #[.agg #[.int .i64 0, .int .i64 0], .bool false]) V := by
  obtain ⟨i0, hi0, hz0, _, _⟩ := info_parts gr_info
  have := MpIs.at2 (et := 23) Try.underlying77 hi0 hz0 keyK_fd h q
  rw [hR] at this
  exact this
theorem leftP_snoc {t : Tb} {rs : List Rd} {pre : List (KiX t)} {F F' : Ki → Option Rg} {x : KiX t} {q : Ki} (h : LeftP t rs pre F) (hx : x.1 = q) (hq : LeftIs rs q (bndP t (gE rs 0)).lo ((bndP t (gE rs 0)).hi + 1) (F' q)) (hF : ∀ q', q' ≠ q → F' q' = F q') : LeftP t rs (pre ++ [x]) F' := fun q' => by
  rw [List.map_append, List.mem_append]
  simp only [List.map_cons, List.map_nil, List.mem_singleton]
  rw [hx]
  by_cases e : q' = q
  · subst e
    exact ⟨fun _ => hq, fun hn => absurd (.inr rfl) hn⟩
  · rw [hF q' e]
    exact ⟨fun hm => (h q').1 (hm.resolve_right e), fun hn => (h q').2 (fun hm => hn (.inl hm))⟩
set_option maxRecDepth 100000 in
set_option maxHeartbeats 6400000 in
theorem sm_left (t : Tb) (Ab Ad Ah Ai Az : Option Addr) (cb cd ch ci cz nz : Nat) (h : List Rg) (l : List Ic) (rs : List Rd) (Ar : Option Addr) (cr : Nat) (w : World) (hs : SlAt w w.heap.size 10 Ar rs.length (fE rs)) (ht : TbBd t) (hR : RdsBd rs) (h0 : 0 < rs.length) (hrl : rs.length ≤ 1000000) :
    Calls Try.prog 27 #[.agg #[.int .i64 t.g.base, .slice Ab t.g.bands.length cb, .slice Ad t.g.depths.length cd, .int .i64 t.g.blo, .int .i64 t.g.bhi, .int .i64 t.k.lo, .int .i64 t.k.hi, .int .i64 t.lag.lo, .int .i64 t.lag.hi, .int .i64 t.sq.lo, .int .i64 t.sq.hi, .int .i64 t.term, .slice Ah h.length ch, .slice Ai l.length ci, .slice Az nz cz], .slice Ar rs.length cr] w fun e w' => (∃ m L F, e = .returned (.map (some m)) ∧ MpN keyK cRg w' m L F ∧ Hid (LeftF t rs F)) ∧ Below w.heap.size w w' := by
  refine calls_of_marks (n := 5) Try.func27 rfl ?_
  simp only [Try.ntmps27, List.size_toArray, List.length_cons, List.length_nil, Nat.reduceAdd, Nat.reduceSub, Array.replicate_succ, Array.replicate_zero, List.push_toArray, List.append_toArray, List.nil_append, List.cons_append]
  have hmk := @run_makeMap Try.prog
  have hb4 := ex_alloc (ex_alloc (ex_alloc (ex_alloc (Below.refl w.heap.size w) (.cells #[.int .i64 t.g.base, .slice Ab t.g.bands.length cb, .slice Ad t.g.depths.length cd, .int .i64 t.g.blo, .int .i64 t.g.bhi, .int .i64 t.k.lo, .int .i64 t.k.hi, .int .i64 t.lag.lo, .int .i64 t.lag.hi, .int .i64 t.sq.lo, .int .i64 t.sq.hi, .int .i64 t.term, .slice Ah h.length ch, .slice Ai l.length ci, .slice Az nz cz] 56)) (.cells #[.slice Ar rs.length cr] 49)) (.map #[] 0)) (.cells #[.map (some (w.heap.size + 1 + 1))] 77)
  have qu : Blk ((((w.alloc (.cells #[.int .i64 t.g.base, .slice Ab t.g.bands.length cb, .slice Ad t.g.depths.length cd, .int .i64 t.g.blo, .int .i64 t.g.bhi, .int .i64 t.k.lo, .int .i64 t.k.hi, .int .i64 t.lag.lo, .int .i64 t.lag.hi, .int .i64 t.sq.lo, .int .i64 t.sq.hi, .int .i64 t.term, .slice Ah h.length ch, .slice Ai l.length ci, .slice Az nz cz] 56)).alloc (.cells #[.slice Ar rs.length cr] 49)).alloc (.map #[] 0)).alloc (.cells #[.map (some (w.heap.size + 1 + 1))] 77)) w.heap.size 56 #[.int .i64 t.g.base, .slice Ab t.g.bands.length cb, .slice Ad t.g.depths.length cd, .int .i64 t.g.blo, .int .i64 t.g.bhi, .int .i64 t.k.lo, .int .i64 t.k.hi, .int .i64 t.lag.lo, .int .i64 t.lag.hi, .int .i64 t.sq.lo, .int .i64 t.sq.hi, .int .i64 t.term, .slice Ah h.length ch, .slice Ai l.length ci, .slice Az nz cz] := (((Blk.new _ _ _).alloc _).alloc _).alloc _
  have ql : Blk ((((w.alloc (.cells #[.int .i64 t.g.base, .slice Ab t.g.bands.length cb, .slice Ad t.g.depths.length cd, .int .i64 t.g.blo, .int .i64 t.g.bhi, .int .i64 t.k.lo, .int .i64 t.k.hi, .int .i64 t.lag.lo, .int .i64 t.lag.hi, .int .i64 t.sq.lo, .int .i64 t.sq.hi, .int .i64 t.term, .slice Ah h.length ch, .slice Ai l.length ci, .slice Az nz cz] 56)).alloc (.cells #[.slice Ar rs.length cr] 49)).alloc (.map #[] 0)).alloc (.cells #[.map (some (w.heap.size + 1 + 1))] 77)) (w.heap.size + 1) 49 #[.slice Ar rs.length cr] := ((Blk.new' _ _ _ (by simp)).alloc _).alloc _
  have qo : Blk ((((w.alloc (.cells #[.int .i64 t.g.base, .slice Ab t.g.bands.length cb, .slice Ad t.g.depths.length cd, .int .i64 t.g.blo, .int .i64 t.g.bhi, .int .i64 t.k.lo, .int .i64 t.k.hi, .int .i64 t.lag.lo, .int .i64 t.lag.hi, .int .i64 t.sq.lo, .int .i64 t.sq.hi, .int .i64 t.term, .slice Ah h.length ch, .slice Ai l.length ci, .slice Az nz cz] 56)).alloc (.cells #[.slice Ar rs.length cr] 49)).alloc (.map #[] 0)).alloc (.cells #[.map (some (w.heap.size + 1 + 1))] 77)) (w.heap.size + 1 + 1 + 1) 77 #[.map (some (w.heap.size + 1 + 1))] := Blk.new' _ _ _ (by simp)
  have mp : MpN keyK cRg ((((w.alloc (.cells #[.int .i64 t.g.base, .slice Ab t.g.bands.length cb, .slice Ad t.g.depths.length cd, .int .i64 t.g.blo, .int .i64 t.g.bhi, .int .i64 t.k.lo, .int .i64 t.k.hi, .int .i64 t.lag.lo, .int .i64 t.lag.hi, .int .i64 t.sq.lo, .int .i64 t.sq.hi, .int .i64 t.term, .slice Ah h.length ch, .slice Ai l.length ci, .slice Az nz cz] 56)).alloc (.cells #[.slice Ar rs.length cr] 49)).alloc (.map #[] 0)).alloc (.cells #[.map (some (w.heap.size + 1 + 1))] 77)) (w.heap.size + 1 + 1) [] (fun _ => none) := (MpN.new ((w.alloc (.cells #[.int .i64 t.g.base, .slice Ab t.g.bands.length cb, .slice Ad t.g.depths.length cd, .int .i64 t.g.blo, .int .i64 t.g.bhi, .int .i64 t.k.lo, .int .i64 t.k.hi, .int .i64 t.lag.lo, .int .i64 t.lag.hi, .int .i64 t.sq.lo, .int .i64 t.sq.hi, .int .i64 t.term, .slice Ah h.length ch, .slice Ai l.length ci, .slice Az nz cz] 56)).alloc (.cells #[.slice Ar rs.length cr] 49)) (by simp)).of_block (Below.heap_alloc _ _ _ (by simp))
  go_upto_region 2 with fail
  show Code.wp _ _ _ _ ((((w.alloc (.cells #[.int .i64 t.g.base, .slice Ab t.g.bands.length cb, .slice Ad t.g.depths.length cd, .int .i64 t.g.blo, .int .i64 t.g.bhi, .int .i64 t.k.lo, .int .i64 t.k.hi, .int .i64 t.lag.lo, .int .i64 t.lag.hi, .int .i64 t.sq.lo, .int .i64 t.sq.hi, .int .i64 t.term, .slice Ah h.length ch, .slice Ai l.length ci, .slice Az nz cz] 56)).alloc (.cells #[.slice Ar rs.length cr] 49)).alloc (.map #[] 0)).alloc (.cells #[.map (some (w.heap.size + 1 + 1))] 77))
  have hs4 := hs.go hb4
  have hszV : (((((w.alloc (.cells #[.int .i64 t.g.base, .slice Ab t.g.bands.length cb, .slice Ad t.g.depths.length cd, .int .i64 t.g.blo, .int .i64 t.g.bhi, .int .i64 t.k.lo, .int .i64 t.k.hi, .int .i64 t.lag.lo, .int .i64 t.lag.hi, .int .i64 t.sq.lo, .int .i64 t.sq.hi, .int .i64 t.term, .slice Ah h.length ch, .slice Ai l.length ci, .slice Az nz cz] 56)).alloc (.cells #[.slice Ar rs.length cr] 49)).alloc (.map #[] 0)).alloc (.cells #[.map (some (w.heap.size + 1 + 1))] 77))).heap.size = w.heap.size + 1 + 1 + 1 + 1 := by simp
  obtain ⟨m, hm⟩ : ∃ p, w.heap.size + 1 + 1 = p := ⟨_, rfl⟩
  rw [hm] at hb4 hs4 hszV qu ql qo mp ⊢
  obtain ⟨po, hpo⟩ : ∃ p, m + 1 = p := ⟨_, rfl⟩
  rw [hpo] at qo ⊢
  obtain ⟨pl, hpl⟩ : ∃ p, w.heap.size + 1 = p := ⟨_, rfl⟩
  rw [hpl] at ql ⊢
  obtain ⟨pu, hpu⟩ : ∃ p, w.heap.size = p := ⟨_, rfl⟩
  rw [hpu] at qu ⊢
  have hord : w.heap.size ≤ m ∧ (pu < m ∧ pl < m ∧ m < po) := by omega
  generalize hV : ((((w.alloc (.cells #[.int .i64 t.g.base, .slice Ab t.g.bands.length cb, .slice Ad t.g.depths.length cd, .int .i64 t.g.blo, .int .i64 t.g.bhi, .int .i64 t.k.lo, .int .i64 t.k.hi, .int .i64 t.lag.lo, .int .i64 t.lag.hi, .int .i64 t.sq.lo, .int .i64 t.sq.hi, .int .i64 t.term, .slice Ah h.length ch, .slice Ai l.length ci, .slice Az nz cz] 56)).alloc (.cells #[.slice Ar rs.length cr] 49)).alloc (.map #[] 0)).alloc (.cells #[.map (some m)] 77)) = V at *
  clear hV
  have hpoV : po < V.heap.size := by omega
  clear hszV hpu hpl hm hpo hs
  have a0 : V.cell? ⟨pu, 0, none⟩ = some (.int .i64 t.g.base) := qu.cell 0
  have a1 : V.cell? ⟨pu, 1, none⟩ = some (.slice Ab t.g.bands.length cb) := qu.cell 1
  have a2 : V.cell? ⟨pu, 2, none⟩ = some (.slice Ad t.g.depths.length cd) := qu.cell 2
  have a3 : V.cell? ⟨pu, 3, none⟩ = some (.int .i64 t.g.blo) := qu.cell 3
  have a4 : V.cell? ⟨pu, 4, none⟩ = some (.int .i64 t.g.bhi) := qu.cell 4
  have a5 : V.cell? ⟨pu, 5, none⟩ = some (.int .i64 t.k.lo) := qu.cell 5
  have a6 : V.cell? ⟨pu, 6, none⟩ = some (.int .i64 t.k.hi) := qu.cell 6
  have a7 : V.cell? ⟨pu, 7, none⟩ = some (.int .i64 t.lag.lo) := qu.cell 7
  have a8 : V.cell? ⟨pu, 8, none⟩ = some (.int .i64 t.lag.hi) := qu.cell 8
  have a9 : V.cell? ⟨pu, 9, none⟩ = some (.int .i64 t.sq.lo) := qu.cell 9
  have a10 : V.cell? ⟨pu, 10, none⟩ = some (.int .i64 t.sq.hi) := qu.cell 10
  have a11 : V.cell? ⟨pu, 11, none⟩ = some (.int .i64 t.term) := qu.cell 11
  have la := qu.lt
  go_wp2_with fail
  refine (kinds_any t Ab Ad cb cd V).mono ?_
  rintro e W5 ⟨rfl, hW5⟩
  clear a0 a1 a2 a3 a4 a5 a6 a7 a8 a9 a10 a11 la
  have hb5 : Below V.heap.size V W5 := by rw [hW5]; exact ex_alloc (Below.refl _ _) _
  have qt : Blk W5 V.heap.size 32 #[.int .i64 t.g.base, .slice Ab t.g.bands.length cb, .slice Ad t.g.depths.length cd, .int .i64 t.g.blo, .int .i64 t.g.bhi, .int .i64 t.k.lo, .int .i64 t.k.hi, .int .i64 t.lag.lo, .int .i64 t.lag.hi, .int .i64 t.sq.lo, .int .i64 t.sq.hi, .int .i64 t.term] := by rw [hW5]; exact Blk.new _ _ _
  have hsz5 : W5.heap.size = V.heap.size + 1 := by rw [hW5]; simp
  obtain ⟨pt, hpt⟩ : ∃ p, V.heap.size = p := ⟨_, rfl⟩
  rw [hpt] at qt ⊢
  have mp5 := mp.of_block (W' := W5) (hb5.block m mp.1.lt)
  have hB5 := ex_trans hb4 hb5
  have hs5 := hs4.go hb5
  have hLW : LfW #[.int .i64 t.g.base, .slice Ab t.g.bands.length cb, .slice Ad t.g.depths.length cd, .int .i64 t.g.blo, .int .i64 t.g.bhi, .int .i64 t.k.lo, .int .i64 t.k.hi, .int .i64 t.lag.lo, .int .i64 t.lag.hi, .int .i64 t.sq.lo, .int .i64 t.sq.hi, .int .i64 t.term, .slice Ah h.length ch, .slice Ai l.length ci, .slice Az nz cz] #[.slice Ar rs.length cr] #[.int .i64 t.g.base, .slice Ab t.g.bands.length cb, .slice Ad t.g.depths.length cd, .int .i64 t.g.blo, .int .i64 t.g.bhi, .int .i64 t.k.lo, .int .i64 t.k.hi, .int .i64 t.lag.lo, .int .i64 t.lag.hi, .int .i64 t.sq.lo, .int .i64 t.sq.hi, .int .i64 t.term] w W5 pu pl m po pt W5 := ⟨Nat.le_refl _, hB5, qu.below hb5 qu.lt, ql.below hb5 ql.lt, qo.below hb5 qo.lt, qt, ⟨hord.1, by omega⟩, ⟨by omega, by omega, by omega, by omega⟩, ⟨by omega, by omega, by omega, by omega⟩⟩
  clear hW5 hs4 mp qu ql qo hsz5 hpt hpoV
  go_wp2_with fail
  have hIown : OwnFrom W5.heap.size (fun (pre : List (KiX t)) W => LfW #[.int .i64 t.g.base, .slice Ab t.g.bands.length cb, .slice Ad t.g.depths.length cd, .int .i64 t.g.blo, .int .i64 t.g.bhi, .int .i64 t.k.lo, .int .i64 t.k.hi, .int .i64 t.lag.lo, .int .i64 t.lag.hi, .int .i64 t.sq.lo, .int .i64 t.sq.hi, .int .i64 t.term, .slice Ah h.length ch, .slice Ai l.length ci, .slice Az nz cz] #[.slice Ar rs.length cr] #[.int .i64 t.g.base, .slice Ab t.g.bands.length cb, .slice Ad t.g.depths.length cd, .int .i64 t.g.blo, .int .i64 t.g.bhi, .int .i64 t.k.lo, .int .i64 t.k.hi, .int .i64 t.lag.lo, .int .i64 t.lag.hi, .int .i64 t.sq.lo, .int .i64 t.sq.hi, .int .i64 t.term] w W5 pu pl m po pt W ∧ SlAt W W5.heap.size 10 Ar rs.length (fE rs) ∧ ∃ L F, MpN keyK cRg W m L F ∧ Hid (LeftP t rs pre F)) := by
    rintro pre A C row ⟨h1, h2, L, F, h3, h4⟩ hgr hr
    have hlt : ∀ k, k < W5.heap.size → some k ≠ row := fun k hk e => by have := (hr k e.symm).1; omega
    exact ⟨h1.grown hgr (fun r e => (hr r e).1), h2.keep (Nat.le_refl _) (fun p hp => World.cell?_of_block (hgr.block _ (Nat.lt_of_lt_of_le hp h1.sz) (hlt _ hp))), L, F, h3.of_block (hgr.block m h3.1.lt (hlt _ h1.hm.2)), h4⟩
  refine (wpIn_wide (n := 5)).1 (wpIn_rangeFunc_ownH (F := Fence.wide) (n := 5) rfl (by omega) (gf := 54) (lb := #[.pointer (some ⟨pt, 0, none⟩)]) rfl trivial (enters_of Try.func54 (by kernel_rfl) rfl)
    (encs := fun x : KiX t => encK x) (Kp := KeepsBox pt) (S := fun xs => HasK t xs) (Sp := fun _ => True) (N := 2200) (w0 := W5)
    (fun l J Jx W hW hJ hJx hY h0 => (kinds1_in 4 t Ab Ad cb cd ht l pt J Jx W (qt.below hW qt.lt) hY h0).mono
      (fun e W' hp => ⟨hp.1, hp.2.imp id (fun ⟨pre, hpre⟩ => ⟨pre, trivial, hpre⟩)⟩))
    (fun h k => h.trans k) (fun W l o o' hl ho _ _ => ⟨by simp, World.putObj_heap_other (by have := hLW.hu.2.2.2; omega)⟩) (Below.refl _ _) (fun _ => rfl)
    (fun (pre : List (KiX t)) W => LfW #[.int .i64 t.g.base, .slice Ab t.g.bands.length cb, .slice Ad t.g.depths.length cd, .int .i64 t.g.blo, .int .i64 t.g.bhi, .int .i64 t.k.lo, .int .i64 t.k.hi, .int .i64 t.lag.lo, .int .i64 t.lag.hi, .int .i64 t.sq.lo, .int .i64 t.sq.hi, .int .i64 t.term, .slice Ah h.length ch, .slice Ai l.length ci, .slice Az nz cz] #[.slice Ar rs.length cr] #[.int .i64 t.g.base, .slice Ab t.g.bands.length cb, .slice Ad t.g.depths.length cd, .int .i64 t.g.blo, .int .i64 t.g.bhi, .int .i64 t.k.lo, .int .i64 t.k.hi, .int .i64 t.lag.lo, .int .i64 t.lag.hi, .int .i64 t.sq.lo, .int .i64 t.sq.hi, .int .i64 t.term] w W5 pu pl m po pt W ∧ SlAt W W5.heap.size 10 Ar rs.length (fE rs) ∧ ∃ L F, MpN keyK cRg W m L F ∧ Hid (LeftP t rs pre F))
    (fun _ _ _ => False) hIown (fun _ _ _ _ _ hs _ _ => hs) ⟨hLW, hs5, [], _, mp5, Lib.hid (fun q => ⟨fun hq => by simp at hq, fun _ => rfl⟩)⟩
    (fun (x : KiX t) a' W => ∃ pk, W5.heap.size ≤ pk ∧ Blk W pk 80 #[.int .i64 x.1.k, .int .i64 x.1.lag, .int .i64 x.1.sq] ∧ a' = ⟨#[.agg #[.int .i64 t.g.base, .slice Ab t.g.bands.length cb, .slice Ad t.g.depths.length cd, .int .i64 t.g.blo, .int .i64 t.g.bhi, .int .i64 t.k.lo, .int .i64 t.k.hi, .int .i64 t.lag.lo, .int .i64 t.lag.hi, .int .i64 t.sq.lo, .int .i64 t.sq.hi, .int .i64 t.term, .slice Ah h.length ch, .slice Ai l.length ci, .slice Az nz cz], .slice Ar rs.length cr, .pointer (some ⟨pu, 0, none⟩), .pointer (some ⟨pl, 0, none⟩), .map none, .pointer (some ⟨po, 0, none⟩), .pointer (some ⟨pk, 0, none⟩), undef, undef, undef, undef, .map (some m), .pointer (some ⟨pu, 0, none⟩), .agg #[.int .i64 t.g.base, .slice Ab t.g.bands.length cb, .slice Ad t.g.depths.length cd, .int .i64 t.g.blo, .int .i64 t.g.bhi, .int .i64 t.k.lo, .int .i64 t.k.hi, .int .i64 t.lag.lo, .int .i64 t.lag.hi, .int .i64 t.sq.lo, .int .i64 t.sq.hi, .int .i64 t.term], .func (.func 54) #[] #[.pointer (some ⟨pt, 0, none⟩)], .agg #[.int .i64 x.1.k, .int .i64 x.1.lag, .int .i64 x.1.sq], undef, undef, undef, undef, undef, undef, undef, undef, undef, undef, undef, undef, undef, undef, undef, undef, undef, undef, undef, undef, undef, undef, undef, undef, undef, undef, undef, undef, undef, undef, undef, undef, undef, undef, undef, undef, undef, undef], []⟩)
    ?hAx ?assign ?body ?done ?stop)
  case hAx =>
    rintro x a' _ A C row ⟨pk, h1, h2, h3⟩ hgr hr
    exact ⟨pk, h1, h2.grown hgr (fun e => by obtain ⟨_, o, ho, hc⟩ := hr _ e.symm; rw [h2] at ho; cases ho; cases hc), h3⟩
  case stop => rintro D c pre W _ _ hf _; exact hf.elim
  case assign =>
    rintro l pre x W K hi hK
    unfold encK
    gi_wp2
    exact hK _ _ ((KeepsOthers.alloc W _).from _) ⟨by simp, Below.heap_alloc W _ pt hi.1.qt.lt⟩ (hIown.alloc _ hi) ⟨W.heap.size, hi.1.sz, Blk.new W _ _, rfl⟩
  case done =>
    rintro D xs W hD hxs ⟨h1, h2, L, F, h3, h4⟩ hDd
    have c1 : W.cell? ⟨po, 0, none⟩ = some (.map (some m)) := h1.qo.cell 0
    have lc := h1.qo.lt
    go_wp2
    show LeavesInM _ _ _ _ _ _ _ _ _
    refine leaves_marks w.heap.size _ W ⟨D, rfl, hDd, by simp, trivial⟩ (fun d hd D' hD' => ?_) (fun W' hW' => ⟨_, results_tmp rfl _ _ _, ⟨m, L, F, rfl, h3.of_block ((hW'.same _ _ h3.1 (fun x e => by cases e)).trans h3.1.symm), Lib.hid (leftP_all h4.out hxs)⟩, hW'.below h1.b⟩)
    rcases List.mem_singleton.1 hd with rfl
    injection hD' with hD'
    have := hB5.size
    omega
  case body =>
    rintro l' pre x a' W hl' ⟨r', hr'⟩ ⟨h1, h2, L, F, h3, h4⟩ ⟨pk, hpk, qk, rfl⟩ hlen
    clear hIown mp5 hs5 hLW qt hb4 hb5 hB5
    skip
    have hxq := x.2
    obtain ⟨q, hxe⟩ : ∃ q, x.1 = q := ⟨_, rfl⟩
    rw [hxe] at hxq qk
    have HXE := Lib.hid hxe
    simp only [hxe]
    clear hxe
    have hqb := hxq.bd ht
    have hr0 := hR 0 h0
    have hbb := bnd_bd ht hr0
    have h2W := h2
    replace h2 := h2.up h1.sz
    have hF : Fr (fun k => k = m) W W := Fr.refl _ _
    have h3W := h3.1
    have h1W := h1.sz
    skip
    have HM : Hid (Mid rs q (bndP t (gE rs 0)).lo (bndP t (gE rs 0)).hi (bndP t (gE rs 0)).lo (F q)) := Lib.hid (mid_start (by
      by_cases hin : q ∈ pre.map (·.1)
      · exact .inr ((h4.out q).1 hin)
      · exact .inl ((h4.out q).2 hin)))
    obtain ⟨bi, oi, rfl, hbi, g0, g1, g2, g3, g4, g5, g6, g7, g8, g9⟩ := IsRds.at10 h2 h0
    rw [Nat.zero_mul, Nat.add_zero] at g0 g1 g2 g3 g4 g5 g6 g7 g8 g9
    have a0 : W.cell? ⟨pu, 0, none⟩ = some (.int .i64 t.g.base) := h1.qu.cell 0
    have a1 : W.cell? ⟨pu, 1, none⟩ = some (.slice Ab t.g.bands.length cb) := h1.qu.cell 1
    have a2 : W.cell? ⟨pu, 2, none⟩ = some (.slice Ad t.g.depths.length cd) := h1.qu.cell 2
    have a3 : W.cell? ⟨pu, 3, none⟩ = some (.int .i64 t.g.blo) := h1.qu.cell 3
    have a4 : W.cell? ⟨pu, 4, none⟩ = some (.int .i64 t.g.bhi) := h1.qu.cell 4
    have a5 : W.cell? ⟨pu, 5, none⟩ = some (.int .i64 t.k.lo) := h1.qu.cell 5
    have a6 : W.cell? ⟨pu, 6, none⟩ = some (.int .i64 t.k.hi) := h1.qu.cell 6
    have a7 : W.cell? ⟨pu, 7, none⟩ = some (.int .i64 t.lag.lo) := h1.qu.cell 7
    have a8 : W.cell? ⟨pu, 8, none⟩ = some (.int .i64 t.lag.hi) := h1.qu.cell 8
    have a9 : W.cell? ⟨pu, 9, none⟩ = some (.int .i64 t.sq.lo) := h1.qu.cell 9
    have a10 : W.cell? ⟨pu, 10, none⟩ = some (.int .i64 t.sq.hi) := h1.qu.cell 10
    have a11 : W.cell? ⟨pu, 11, none⟩ = some (.int .i64 t.term) := h1.qu.cell 11
    have la := h1.qu.lt
    have e0 : W.cell? ⟨pl, 0, none⟩ = some (.slice (some ⟨bi, oi, none⟩) rs.length cr) := h1.ql.cell 0
    have le0 := h1.ql.lt
    have hr0i : (0 : Int) < (rs.length : Int) := by omega
    gi_wp2_with fail
    refine wpIn_region_ext_tq 8 (.quiet 0 (.quiet 1 (.quiet 2 (.quiet 3 (.quiet 4 (.quiet 5 (.fork 6 (.loud 7 .done) 7 (.loud 6 .done)))))))) (by kernel_rfl) (by kernel_rfl) (by kernel_rfl) (by rintro ⟨_, _, hf⟩; exact hf) (by intro d _ _ _ _ h; cases d <;> exact h) ?_
    have D0 := (Below.refl W.heap.size W).drew
    repeat (refine tq_quiet rfl ?_; go_big_quiet_step (fail); refine wpQuiet_nil ?_)
    refine tq_fork rfl rfl ?_ ?_
    · go_wp2_with fail
      refine (sm_bounds t Ab Ad cb cd (gE rs 0) _ ht hr0).mono ?_
      rintro e V21 ⟨rfl, hV21⟩
      have N6 := ex_trans ((Below.refl W.heap.size W)).drew hV21
      go_wp2_with fail
      refine ⟨inEx N6, ?_⟩
      refine tq_loud rfl ?_
      go_wp2_with fail
      have sb := (N6).size
      try simp at sb
      have N7 := ex_alloc N6 (.cells #[.int .i64 0, .int .i64 0] 23)
      have bb : Blk (V21.alloc (.cells #[.int .i64 0, .int .i64 0] 23)) (V21.heap.size) 23 #[.int .i64 0, .int .i64 0] := Blk.new' _ _ _ (by first | rfl | (simp; done) | (simp; omega))
      obtain ⟨pb, hpb⟩ : ∃ p, V21.heap.size = p := ⟨_, rfl⟩
      rw [hpb] at bb
      try rw [hpb]
      have yb : W.heap.size ≤ pb := by omega
      clear sb
      refine ⟨inEx N7, ?_⟩
      refine tq_done (r := [_]) rfl ?_
      have XA99 := N7
      generalize (V21.alloc (.cells #[.int .i64 0, .int .i64 0] 23)) = V22 at *
      have sc0 : V22.cell? ⟨pb, 0, none⟩ = some (.int .i64 0) := bb.cell 0
      have sc1 : V22.cell? ⟨pb, 1, none⟩ = some (.int .i64 0) := bb.cell 1
      have sf := bb.frozen0
      have sl := bb.lt
      go_wp2_with fail
      replace bb := bb.set_ 0 (.int .i64 (bndP t (gE rs 0)).lo)
      replace XA99 := ex_set (p := ⟨pb, 0, none⟩) XA99 yb (.int .i64 (bndP t (gE rs 0)).lo)
      replace bb := bb.set_ 1 (.int .i64 (bndP t (gE rs 0)).hi)
      replace XA99 := ex_set (p := ⟨pb, 1, none⟩) XA99 yb (.int .i64 (bndP t (gE rs 0)).hi)
      simp only [List.setIfInBounds_toArray, List.set_cons_zero, List.set_cons_succ] at bb
      clear sf sl sc0 sc1
      generalize ((V22.setCell ⟨pb, 0, none⟩ (.int .i64 (bndP t (gE rs 0)).lo)).setCell ⟨pb, 1, none⟩ (.int .i64 (bndP t (gE rs 0)).hi)) = V23 at *
      have XX := XA99
      have XS := XX.size
      replace h1 := h1.go XX
      replace h2 := h2.go XX
      replace h3 := h3.go XX
      replace qk := qk.below XX qk.lt
      replace hF := hF.go XX
      clear D0 XX XS XA99 N7 hV21 N6 hpb
      generalize V23 = V24 at *
      clear a0 a1 a2 a3 a4 a5 a6 a7 a8 a9 a10 a11 la e0 le0 g0 g1 g2 g3 g4 g5 g6 g7 g8 g9 hbi
      have hyb5 : W5.heap.size ≤ pb := by omega
      clear yb
      obtain ⟨lo, hlo⟩ : ∃ v, (bndP t (gE rs 0)).lo = v := ⟨_, rfl⟩
      obtain ⟨hi', hhi⟩ : ∃ v, (bndP t (gE rs 0)).hi = v := ⟨_, rfl⟩
      rw [hlo, hhi] at bb HM hbb
      have HLO := Lib.hid hlo
      have HHI := Lib.hid hhi
      simp only [hlo, hhi]
      clear hlo hhi
      have u0 := bb.cell 0
      have u1 := bb.cell 1
      have lb := bb.lt
      simp at u0 u1
      have NA := ex_alloc (Below.refl V24.heap.size V24) (.cells #[.int .i64 lo] 3)
      have bn : Blk (V24.alloc (.cells #[.int .i64 lo] 3)) V24.heap.size 3 #[.int .i64 lo] := Blk.new _ _ _
      have yn := h1.sz
      gi_wp2_with fail
      replace h1 := h1.go NA
      replace h2 := h2.go NA
      replace h3 := h3.go NA
      replace qk := qk.below NA qk.lt
      replace hF := hF.go NA
      replace bb := bb.below NA bb.lt
      obtain ⟨pn, hpn⟩ : ∃ p, V24.heap.size = p := ⟨_, rfl⟩
      rw [hpn] at bn yn ⊢
      clear hpn NA
      generalize V24.alloc (.cells #[.int .i64 lo] 3) = V25 at *
      clear u0 u1 lb
      have HF0 : Hid (∀ q', q' ≠ q → F q' = F q') := Lib.hid (fun _ _ => rfl)
      refine wpIn_loop (fun a V => Rel (fun a V => ∃ N : Int, lo ≤ N ∧ N ≤ hi' + 1 ∧ ∃ pn, ∃ L F', LfW #[.int .i64 t.g.base, .slice Ab t.g.bands.length cb, .slice Ad t.g.depths.length cd, .int .i64 t.g.blo, .int .i64 t.g.bhi, .int .i64 t.k.lo, .int .i64 t.k.hi, .int .i64 t.lag.lo, .int .i64 t.lag.hi, .int .i64 t.sq.lo, .int .i64 t.sq.hi, .int .i64 t.term, .slice Ah h.length ch, .slice Ai l.length ci, .slice Az nz cz] #[.slice (some ⟨bi, oi, none⟩) rs.length cr] #[.int .i64 t.g.base, .slice Ab t.g.bands.length cb, .slice Ad t.g.depths.length cd, .int .i64 t.g.blo, .int .i64 t.g.bhi, .int .i64 t.k.lo, .int .i64 t.k.hi, .int .i64 t.lag.lo, .int .i64 t.lag.hi, .int .i64 t.sq.lo, .int .i64 t.sq.hi, .int .i64 t.term] w W5 pu pl m po pt V ∧ SlAt V V.heap.size 10 (some ⟨bi, oi, none⟩) rs.length (fE rs) ∧ MpN keyK cRg V m L F' ∧ Hid (Mid rs q lo hi' N (F' q)) ∧ Hid (∀ q', q' ≠ q → F' q' = F q') ∧ Blk V pk 80 #[.int .i64 q.k, .int .i64 q.lag, .int .i64 q.sq] ∧ Blk V pb 23 #[.int .i64 lo, .int .i64 hi'] ∧ Blk V pn 3 #[.int .i64 N] ∧ (W5.heap.size ≤ pn ∧ Fr (fun k => k = m) W V) ∧ ∃ u : Nat → Value, a = ⟨List.toArray (u 0 :: u 1 :: .pointer (some ⟨pu, 0, none⟩) :: .pointer (some ⟨pl, 0, none⟩) :: u 4 :: .pointer (some ⟨po, 0, none⟩) :: .pointer (some ⟨pk, 0, none⟩) :: .pointer (some ⟨pb, 0, none⟩) :: .pointer (some ⟨pn, 0, none⟩) :: u 9 :: u 10 :: u 11 :: u 12 :: u 13 :: u 14 :: u 15 :: u 16 :: u 17 :: u 18 :: u 19 :: u 20 :: u 21 :: u 22 :: u 23 :: u 24 :: u 25 :: u 26 :: u 27 :: u 28 :: u 29 :: u 30 :: u 31 :: u 32 :: u 33 :: u 34 :: u 35 :: u 36 :: u 37 :: u 38 :: u 39 :: u 40 :: u 41 :: u 42 :: u 43 :: u 44 :: u 45 :: u 46 :: u 47 :: u 48 :: u 49 :: u 50 :: u 51 :: u 52 :: u 53 :: []), []⟩) a V)
        (fun a V => lfM hi' a V) ⟨⟨lo, Int.le_refl _, by omega, pn, L, F, h1, h2, h3, HM, HF0, qk, bb, bn, ⟨by omega, hF⟩, exFrame (by kernel_rfl)⟩⟩ ?_
      clear h1 h2 h3 HM HF0 qk bb bn hF yn
      rintro a V ⟨⟨N, hN0, hN1, pn, L, F', h1, h2, h3, HM, HF, qk, bb, bn, ⟨hpn, hF⟩, u, rfl⟩⟩
      have HLM := Lib.hid (lfM_eq (hi := hi') (V := V) (a := ⟨List.toArray (u 0 :: u 1 :: .pointer (some ⟨pu, 0, none⟩) :: .pointer (some ⟨pl, 0, none⟩) :: u 4 :: .pointer (some ⟨po, 0, none⟩) :: .pointer (some ⟨pk, 0, none⟩) :: .pointer (some ⟨pb, 0, none⟩) :: .pointer (some ⟨pn, 0, none⟩) :: u 9 :: u 10 :: u 11 :: u 12 :: u 13 :: u 14 :: u 15 :: u 16 :: u 17 :: u 18 :: u 19 :: u 20 :: u 21 :: u 22 :: u 23 :: u 24 :: u 25 :: u 26 :: u 27 :: u 28 :: u 29 :: u 30 :: u 31 :: u 32 :: u 33 :: u 34 :: u 35 :: u 36 :: u 37 :: u 38 :: u 39 :: u 40 :: u 41 :: u 42 :: u 43 :: u 44 :: u 45 :: u 46 :: u 47 :: u 48 :: u 49 :: u 50 :: u 51 :: u 52 :: u 53 :: []), []⟩) rfl bn)
      by_cases hle : N ≤ hi'
      · have n0 : V.cell? ⟨pn, 0, none⟩ = some (.int .i64 N) := bn.cell 0
        have ln := bn.lt
        have u1 : V.cell? ⟨pb, 1, none⟩ = some (.int .i64 hi') := bb.cell 1
        have lb := bb.lt
        have e0 : V.cell? ⟨pl, 0, none⟩ = some (.slice (some ⟨bi, oi, none⟩) rs.length cr) := h1.ql.cell 0
        have le0 := h1.ql.lt
        gi_wp2_with fail
        refine ⟨trivial, CallsIn.inRound l' (callsIn_wide.2 ((all_left pu pk pn (fun k => saysB (gE rs k) q N) rs rs.length _ _ V h2 hrl (fun k W6 hk hW => sm_left1 t Ab Ad Ah Ai Az cb cd ch ci cz nz h l (gE rs k) q N pu pk pn W6 (h1.qu.below hW h1.qu.lt) (qk.below hW qk.lt) (bn.below hW bn.lt) (hR k hk) hqb)).mono ?_))⟩
        rintro e V41 ⟨rfl, hV41⟩
        clear n0 ln u1 lb e0 le0
        replace h1 := h1.go hV41
        replace h2 := h2.go hV41
        replace h3 := h3.go hV41
        replace qk := qk.below hV41 qk.lt
        replace bb := bb.below hV41 bb.lt
        replace bn := bn.below hV41 bn.lt
        replace hF := hF.go hV41
        clear hV41
        have hsy : allTo (fun k => saysB (gE rs k) q N) rs.length = sayAll rs q N := rfl
        rw [hsy]
        clear hsy
        cases hsa : sayAll rs q N
        · have HM2 := Lib.hid (mid_no HM.out hsa)
          clear hsa
          have n0 : V41.cell? ⟨pn, 0, none⟩ = some (.int .i64 N) := bn.cell 0
          have ln := bn.lt
          have NA := ex_alloc (Below.refl V41.heap.size V41) (.cells #[.int .i64 (N + 1)] 3)
          have bm : Blk (V41.alloc (.cells #[.int .i64 (N + 1)] 3)) V41.heap.size 3 #[.int .i64 (N + 1)] := Blk.new _ _ _
          have hyn := h1.sz
          skip
          gi_wp2_with fail
          replace h1 := h1.go NA
          replace h2 := h2.go NA
          replace h3 := h3.go NA
          replace qk := qk.below NA qk.lt
          replace bb := bb.below NA bb.lt
          replace bn := bn.below NA bn.lt
          replace hF := hF.go NA
          refine ⟨⟨⟨N + 1, by omega, by omega, V41.heap.size, L, F', h1, h2, h3, HM2, HF, qk, bb, bm, ⟨hyn, hF⟩, exFrame (by kernel_rfl)⟩⟩, ?_⟩
          rw [lfM_eq (hi := hi') (N := N + 1) (pn := V41.heap.size) rfl bm, HLM.out]
          omega
        · have HM2 := Lib.hid (mid_yes HM.out hN0 hle hsa)
          clear hsa
          cases hfq : F' q with
          | none =>
            skip
            have p0 : V41.cell? ⟨po, 0, none⟩ = some (.map (some m)) := h1.qo.cell 0
            have lpo := h1.qo.lt
            have k0 : V41.cell? ⟨pk, 0, none⟩ = some (.int .i64 q.k) := qk.cell 0
            have k1 : V41.cell? ⟨pk, 1, none⟩ = some (.int .i64 q.lag) := qk.cell 1
            have k2 : V41.cell? ⟨pk, 2, none⟩ = some (.int .i64 q.sq) := qk.cell 2
            have lk := qk.lt
            have n0 : V41.cell? ⟨pn, 0, none⟩ = some (.int .i64 N) := bn.cell 0
            have ln := bn.lt
            have hlk := lk_none h3.is q hfq
            rw [hfq] at HM2
            have HM3 : Hid (Mid rs q lo hi' (N + 1) (some ⟨N, N⟩)) := HM2
            clear HM2 hfq
            have NA := ex_alloc (Below.refl V41.heap.size V41) (.cells #[.int .i64 N, .int .i64 N] 23)
            have hlt9 : V41.heap.size < (V41.alloc (.cells #[.int .i64 N, .int .i64 N] 23)).heap.size := by simp
            have h3a := h3.go NA
            obtain ⟨o, L2, hup, h3b⟩ := MpN.put (et := 23) Try.underlying77 keyK_fd h3a q (⟨N, N⟩ : Rg)
            unfold keyK cRg at hup
            simp only at hup
            have hP : Fr (fun k => k = m) (V41.alloc (.cells #[.int .i64 N, .int .i64 N] 23)) ((V41.alloc (.cells #[.int .i64 N, .int .i64 N] 23)).putObj m o) := fr_putO _ _ m o rfl
            have hmm := h1.hm
            have g1 := (h1.go NA).fr hP
            have g2 := ((h2.go NA).map10 (Nat.le_refl _) h3a.1 hP).up hP.size
            have gk := (qk.below NA qk.lt).fr hP (by omega)
            have gb := (bb.below NA bb.lt).fr hP (by omega)
            have gn := (bn.below NA bn.lt).fr hP (by omega)
            have gF := (hF.go NA).trans hP (fun _ _ h => h)
            have n1 : ((V41.alloc (.cells #[.int .i64 N, .int .i64 N] 23)).putObj m o).cell? ⟨pn, 0, none⟩ = some (.int .i64 N) := gn.cell 0
            have ln1 := gn.lt
            have NB := ex_alloc (Below.refl ((V41.alloc (.cells #[.int .i64 N, .int .i64 N] 23)).putObj m o).heap.size ((V41.alloc (.cells #[.int .i64 N, .int .i64 N] 23)).putObj m o)) (.cells #[.int .i64 (N + 1)] 3)
            have bm : Blk (((V41.alloc (.cells #[.int .i64 N, .int .i64 N] 23)).putObj m o).alloc (.cells #[.int .i64 (N + 1)] 3)) (V41.heap.size + 1) 3 #[.int .i64 (N + 1)] := Blk.new' _ _ _ (by simp)
            have hyn : W5.heap.size ≤ V41.heap.size + 1 := by have := h1.sz; omega
            have HF2 : Hid (∀ q', q' ≠ q → (fun x => if x = q then some (⟨N, N⟩ : Rg) else F' x) q' = F q') := Lib.hid (fun q' hq' => by
              show (if q' = q then _ else _) = _
              rw [if_neg hq']; exact HF.out q' hq')
            have HM4 : Hid (Mid rs q lo hi' (N + 1) ((fun x => if x = q then some (⟨N, N⟩ : Rg) else F' x) q)) := Lib.hid (by
              show Mid rs q lo hi' (N + 1) (if q = q then _ else _)
              rw [if_pos rfl]; exact HM3.out)
            generalize (fun x => if x = q then some (⟨N, N⟩ : Rg) else F' x) = F2 at *
            gi_wp2_with fail
            refine ⟨⟨⟨N + 1, by omega, by omega, V41.heap.size + 1, L2, F2, g1.go NB, g2.go NB, h3b.go NB, HM4, HF2, gk.below NB gk.lt, gb.below NB gb.lt, bm, ⟨hyn, gF.go NB⟩, exFrame (by kernel_rfl)⟩⟩, ?_⟩
            rw [lfM_eq (hi := hi') (N := N + 1) (pn := V41.heap.size + 1) rfl bm, HLM.out]
            omega
          | some R =>
            skip
            have p0 : V41.cell? ⟨po, 0, none⟩ = some (.map (some m)) := h1.qo.cell 0
            have lpo := h1.qo.lt
            have k0 : V41.cell? ⟨pk, 0, none⟩ = some (.int .i64 q.k) := qk.cell 0
            have k1 : V41.cell? ⟨pk, 1, none⟩ = some (.int .i64 q.lag) := qk.cell 1
            have k2 : V41.cell? ⟨pk, 2, none⟩ = some (.int .i64 q.sq) := qk.cell 2
            have lk := qk.lt
            have n0 : V41.cell? ⟨pn, 0, none⟩ = some (.int .i64 N) := bn.cell 0
            have ln := bn.lt
            have hlk := lk_some h3.is q hfq
            rw [hfq] at HM2
            have HM3 : Hid (Mid rs q lo hi' (N + 1) (some ⟨R.lo, N⟩)) := HM2
            clear HM2 hfq
            have NA := ex_alloc (Below.refl V41.heap.size V41) (.cells #[.int .i64 R.lo, .int .i64 R.hi] 23)
            have hlt9 : V41.heap.size < (V41.alloc (.cells #[.int .i64 R.lo, .int .i64 R.hi] 23)).heap.size := by simp
            have h3a := h3.go NA
            obtain ⟨o, L2, hup, h3b⟩ := MpN.put (et := 23) Try.underlying77 keyK_fd h3a q (⟨R.lo, N⟩ : Rg)
            unfold keyK cRg at hup
            simp only at hup
            have hP : Fr (fun k => k = m) (V41.alloc (.cells #[.int .i64 R.lo, .int .i64 R.hi] 23)) ((V41.alloc (.cells #[.int .i64 R.lo, .int .i64 R.hi] 23)).putObj m o) := fr_putO _ _ m o rfl
            have hmm := h1.hm
            have g1 := (h1.go NA).fr hP
            have g2 := ((h2.go NA).map10 (Nat.le_refl _) h3a.1 hP).up hP.size
            have gk := (qk.below NA qk.lt).fr hP (by omega)
            have gb := (bb.below NA bb.lt).fr hP (by omega)
            have gn := (bn.below NA bn.lt).fr hP (by omega)
            have gF := (hF.go NA).trans hP (fun _ _ h => h)
            have n1 : ((V41.alloc (.cells #[.int .i64 R.lo, .int .i64 R.hi] 23)).putObj m o).cell? ⟨pn, 0, none⟩ = some (.int .i64 N) := gn.cell 0
            have ln1 := gn.lt
            have NB := ex_alloc (Below.refl ((V41.alloc (.cells #[.int .i64 R.lo, .int .i64 R.hi] 23)).putObj m o).heap.size ((V41.alloc (.cells #[.int .i64 R.lo, .int .i64 R.hi] 23)).putObj m o)) (.cells #[.int .i64 (N + 1)] 3)
            have bm : Blk (((V41.alloc (.cells #[.int .i64 R.lo, .int .i64 R.hi] 23)).putObj m o).alloc (.cells #[.int .i64 (N + 1)] 3)) (V41.heap.size + 1) 3 #[.int .i64 (N + 1)] := Blk.new' _ _ _ (by simp)
            have hyn : W5.heap.size ≤ V41.heap.size + 1 := by have := h1.sz; omega
            have HF2 : Hid (∀ q', q' ≠ q → (fun x => if x = q then some (⟨R.lo, N⟩ : Rg) else F' x) q' = F q') := Lib.hid (fun q' hq' => by
              show (if q' = q then _ else _) = _
              rw [if_neg hq']; exact HF.out q' hq')
            have HM4 : Hid (Mid rs q lo hi' (N + 1) ((fun x => if x = q then some (⟨R.lo, N⟩ : Rg) else F' x) q)) := Lib.hid (by
              show Mid rs q lo hi' (N + 1) (if q = q then _ else _)
              rw [if_pos rfl]; exact HM3.out)
            generalize (fun x => if x = q then some (⟨R.lo, N⟩ : Rg) else F' x) = F2 at *
            gi_wp2_with fail
            refine ⟨⟨⟨N + 1, by omega, by omega, V41.heap.size + 1, L2, F2, g1.go NB, g2.go NB, h3b.go NB, HM4, HF2, gk.below NB gk.lt, gb.below NB gb.lt, bm, ⟨hyn, gF.go NB⟩, exFrame (by kernel_rfl)⟩⟩, ?_⟩
            rw [lfM_eq (hi := hi') (N := N + 1) (pn := V41.heap.size + 1) rfl bm, HLM.out]
            omega
      · have n0 : V.cell? ⟨pn, 0, none⟩ = some (.int .i64 N) := bn.cell 0
        have ln := bn.lt
        have u1 : V.cell? ⟨pb, 1, none⟩ = some (.int .i64 hi') := bb.cell 1
        have lb := bb.lt
        have hmm := h1.hm
        have hpe := h1.ne.2.2.2
        have hpu := h1.hu.2.2.2
        have HE : Hid (LeftP t rs (pre ++ [x]) F') := Lib.hid (leftP_snoc h4.out HXE.out (by
          rw [HLO.out, HHI.out]
          have e : N = hi' + 1 := by omega
          have := HM.out
          rw [e] at this
          exact mid_end this) HF.out)
        have hg2 := (h2W.map10 h1W h3W hF)
        gi_wp2_with fail
        refine ⟨⟨hF.size, fun k o hB ho _ => (hF.block k (Array.getElem?_eq_some_iff.1 ho).1 (by omega)).trans ho⟩, ⟨hF.size, hF.block pt (by omega) hpe⟩, h1, hg2, L, F', h3, HE⟩
    · go_wp2_with fail
      have sb := ((Below.refl W.heap.size W)).size
      try simp at sb
      have N7 := ex_alloc (Below.refl W.heap.size W) (.cells #[.int .i64 0, .int .i64 0] 23)
      have bb : Blk (W.alloc (.cells #[.int .i64 0, .int .i64 0] 23)) (W.heap.size) 23 #[.int .i64 0, .int .i64 0] := Blk.new' _ _ _ (by first | rfl | (simp; done) | (simp; omega))
      obtain ⟨pb, hpb⟩ : ∃ p, W.heap.size = p := ⟨_, rfl⟩
      rw [hpb] at bb
      try rw [hpb]
      have yb : W.heap.size ≤ pb := by omega
      clear sb
      refine ⟨inEx (N7).drew, ?_⟩
      refine tq_loud rfl ?_
      go_wp2_with fail
      refine (sm_bounds t Ab Ad cb cd (gE rs 0) _ ht hr0).mono ?_
      rintro e V42 ⟨rfl, hV42⟩
      replace bb := Blk.below (Blk.drew bb) hV42 bb.lt
      have N6 := ex_trans (N7).drew hV42
      go_wp2_with fail
      refine ⟨inEx N6, ?_⟩
      refine tq_done (r := [_]) rfl ?_
      have XA99 := N6
      generalize V42 = V43 at *
      have sc0 : V43.cell? ⟨pb, 0, none⟩ = some (.int .i64 0) := bb.cell 0
      have sc1 : V43.cell? ⟨pb, 1, none⟩ = some (.int .i64 0) := bb.cell 1
      have sf := bb.frozen0
      have sl := bb.lt
      go_wp2_with fail
      replace bb := bb.set_ 0 (.int .i64 (bndP t (gE rs 0)).lo)
      replace XA99 := ex_set (p := ⟨pb, 0, none⟩) XA99 yb (.int .i64 (bndP t (gE rs 0)).lo)
      replace bb := bb.set_ 1 (.int .i64 (bndP t (gE rs 0)).hi)
      replace XA99 := ex_set (p := ⟨pb, 1, none⟩) XA99 yb (.int .i64 (bndP t (gE rs 0)).hi)
      simp only [List.setIfInBounds_toArray, List.set_cons_zero, List.set_cons_succ] at bb
      clear sf sl sc0 sc1
      generalize ((V43.setCell ⟨pb, 0, none⟩ (.int .i64 (bndP t (gE rs 0)).lo)).setCell ⟨pb, 1, none⟩ (.int .i64 (bndP t (gE rs 0)).hi)) = V44 at *
      have XX := XA99
      have XS := XX.size
      replace h1 := h1.go XX
      replace h2 := h2.go XX
      replace h3 := h3.go XX
      replace qk := qk.below XX qk.lt
      replace hF := hF.go XX
      clear D0 XX XS XA99 hV42 N6 N7 hpb
      generalize V44 = V45 at *
      clear a0 a1 a2 a3 a4 a5 a6 a7 a8 a9 a10 a11 la e0 le0 g0 g1 g2 g3 g4 g5 g6 g7 g8 g9 hbi
      have hyb5 : W5.heap.size ≤ pb := by omega
      clear yb
      obtain ⟨lo, hlo⟩ : ∃ v, (bndP t (gE rs 0)).lo = v := ⟨_, rfl⟩
      obtain ⟨hi', hhi⟩ : ∃ v, (bndP t (gE rs 0)).hi = v := ⟨_, rfl⟩
      rw [hlo, hhi] at bb HM hbb
      have HLO := Lib.hid hlo
      have HHI := Lib.hid hhi
      simp only [hlo, hhi]
      clear hlo hhi
      have u0 := bb.cell 0
      have u1 := bb.cell 1
      have lb := bb.lt
      simp at u0 u1
      have NA := ex_alloc (Below.refl V45.heap.size V45) (.cells #[.int .i64 lo] 3)
      have bn : Blk (V45.alloc (.cells #[.int .i64 lo] 3)) V45.heap.size 3 #[.int .i64 lo] := Blk.new _ _ _
      have yn := h1.sz
      gi_wp2_with fail
      replace h1 := h1.go NA
      replace h2 := h2.go NA
      replace h3 := h3.go NA
      replace qk := qk.below NA qk.lt
      replace hF := hF.go NA
      replace bb := bb.below NA bb.lt
      obtain ⟨pn, hpn⟩ : ∃ p, V45.heap.size = p := ⟨_, rfl⟩
      rw [hpn] at bn yn ⊢
      clear hpn NA
      generalize V45.alloc (.cells #[.int .i64 lo] 3) = V46 at *
      clear u0 u1 lb
      have HF0 : Hid (∀ q', q' ≠ q → F q' = F q') := Lib.hid (fun _ _ => rfl)
      refine wpIn_loop (fun a V => Rel (fun a V => ∃ N : Int, lo ≤ N ∧ N ≤ hi' + 1 ∧ ∃ pn, ∃ L F', LfW #[.int .i64 t.g.base, .slice Ab t.g.bands.length cb, .slice Ad t.g.depths.length cd, .int .i64 t.g.blo, .int .i64 t.g.bhi, .int .i64 t.k.lo, .int .i64 t.k.hi, .int .i64 t.lag.lo, .int .i64 t.lag.hi, .int .i64 t.sq.lo, .int .i64 t.sq.hi, .int .i64 t.term, .slice Ah h.length ch, .slice Ai l.length ci, .slice Az nz cz] #[.slice (some ⟨bi, oi, none⟩) rs.length cr] #[.int .i64 t.g.base, .slice Ab t.g.bands.length cb, .slice Ad t.g.depths.length cd, .int .i64 t.g.blo, .int .i64 t.g.bhi, .int .i64 t.k.lo, .int .i64 t.k.hi, .int .i64 t.lag.lo, .int .i64 t.lag.hi, .int .i64 t.sq.lo, .int .i64 t.sq.hi, .int .i64 t.term] w W5 pu pl m po pt V ∧ SlAt V V.heap.size 10 (some ⟨bi, oi, none⟩) rs.length (fE rs) ∧ MpN keyK cRg V m L F' ∧ Hid (Mid rs q lo hi' N (F' q)) ∧ Hid (∀ q', q' ≠ q → F' q' = F q') ∧ Blk V pk 80 #[.int .i64 q.k, .int .i64 q.lag, .int .i64 q.sq] ∧ Blk V pb 23 #[.int .i64 lo, .int .i64 hi'] ∧ Blk V pn 3 #[.int .i64 N] ∧ (W5.heap.size ≤ pn ∧ Fr (fun k => k = m) W V) ∧ ∃ u : Nat → Value, a = ⟨List.toArray (u 0 :: u 1 :: .pointer (some ⟨pu, 0, none⟩) :: .pointer (some ⟨pl, 0, none⟩) :: u 4 :: .pointer (some ⟨po, 0, none⟩) :: .pointer (some ⟨pk, 0, none⟩) :: .pointer (some ⟨pb, 0, none⟩) :: .pointer (some ⟨pn, 0, none⟩) :: u 9 :: u 10 :: u 11 :: u 12 :: u 13 :: u 14 :: u 15 :: u 16 :: u 17 :: u 18 :: u 19 :: u 20 :: u 21 :: u 22 :: u 23 :: u 24 :: u 25 :: u 26 :: u 27 :: u 28 :: u 29 :: u 30 :: u 31 :: u 32 :: u 33 :: u 34 :: u 35 :: u 36 :: u 37 :: u 38 :: u 39 :: u 40 :: u 41 :: u 42 :: u 43 :: u 44 :: u 45 :: u 46 :: u 47 :: u 48 :: u 49 :: u 50 :: u 51 :: u 52 :: u 53 :: []), []⟩) a V)
        (fun a V => lfM hi' a V) ⟨⟨lo, Int.le_refl _, by omega, pn, L, F, h1, h2, h3, HM, HF0, qk, bb, bn, ⟨by omega, hF⟩, exFrame (by kernel_rfl)⟩⟩ ?_
      clear h1 h2 h3 HM HF0 qk bb bn hF yn
      rintro a V ⟨⟨N, hN0, hN1, pn, L, F', h1, h2, h3, HM, HF, qk, bb, bn, ⟨hpn, hF⟩, u, rfl⟩⟩
      have HLM := Lib.hid (lfM_eq (hi := hi') (V := V) (a := ⟨List.toArray (u 0 :: u 1 :: .pointer (some ⟨pu, 0, none⟩) :: .pointer (some ⟨pl, 0, none⟩) :: u 4 :: .pointer (some ⟨po, 0, none⟩) :: .pointer (some ⟨pk, 0, none⟩) :: .pointer (some ⟨pb, 0, none⟩) :: .pointer (some ⟨pn, 0, none⟩) :: u 9 :: u 10 :: u 11 :: u 12 :: u 13 :: u 14 :: u 15 :: u 16 :: u 17 :: u 18 :: u 19 :: u 20 :: u 21 :: u 22 :: u 23 :: u 24 :: u 25 :: u 26 :: u 27 :: u 28 :: u 29 :: u 30 :: u 31 :: u 32 :: u 33 :: u 34 :: u 35 :: u 36 :: u 37 :: u 38 :: u 39 :: u 40 :: u 41 :: u 42 :: u 43 :: u 44 :: u 45 :: u 46 :: u 47 :: u 48 :: u 49 :: u 50 :: u 51 :: u 52 :: u 53 :: []), []⟩) rfl bn)
      by_cases hle : N ≤ hi'
      · have n0 : V.cell? ⟨pn, 0, none⟩ = some (.int .i64 N) := bn.cell 0
        have ln := bn.lt
        have u1 : V.cell? ⟨pb, 1, none⟩ = some (.int .i64 hi') := bb.cell 1
        have lb := bb.lt
        have e0 : V.cell? ⟨pl, 0, none⟩ = some (.slice (some ⟨bi, oi, none⟩) rs.length cr) := h1.ql.cell 0
        have le0 := h1.ql.lt
        gi_wp2_with fail
        refine ⟨trivial, CallsIn.inRound l' (callsIn_wide.2 ((all_left pu pk pn (fun k => saysB (gE rs k) q N) rs rs.length _ _ V h2 hrl (fun k W6 hk hW => sm_left1 t Ab Ad Ah Ai Az cb cd ch ci cz nz h l (gE rs k) q N pu pk pn W6 (h1.qu.below hW h1.qu.lt) (qk.below hW qk.lt) (bn.below hW bn.lt) (hR k hk) hqb)).mono ?_))⟩
        rintro e V41 ⟨rfl, hV41⟩
        clear n0 ln u1 lb e0 le0
        replace h1 := h1.go hV41
        replace h2 := h2.go hV41
        replace h3 := h3.go hV41
        replace qk := qk.below hV41 qk.lt
        replace bb := bb.below hV41 bb.lt
        replace bn := bn.below hV41 bn.lt
        replace hF := hF.go hV41
        clear hV41
        have hsy : allTo (fun k => saysB (gE rs k) q N) rs.length = sayAll rs q N := rfl
        rw [hsy]
        clear hsy
        cases hsa : sayAll rs q N
        · have HM2 := Lib.hid (mid_no HM.out hsa)
          clear hsa
          have n0 : V41.cell? ⟨pn, 0, none⟩ = some (.int .i64 N) := bn.cell 0
          have ln := bn.lt
          have NA := ex_alloc (Below.refl V41.heap.size V41) (.cells #[.int .i64 (N + 1)] 3)
          have bm : Blk (V41.alloc (.cells #[.int .i64 (N + 1)] 3)) V41.heap.size 3 #[.int .i64 (N + 1)] := Blk.new _ _ _
          have hyn := h1.sz
          skip
          gi_wp2_with fail
          replace h1 := h1.go NA
          replace h2 := h2.go NA
          replace h3 := h3.go NA
          replace qk := qk.below NA qk.lt
          replace bb := bb.below NA bb.lt
          replace bn := bn.below NA bn.lt
          replace hF := hF.go NA
          refine ⟨⟨⟨N + 1, by omega, by omega, V41.heap.size, L, F', h1, h2, h3, HM2, HF, qk, bb, bm, ⟨hyn, hF⟩, exFrame (by kernel_rfl)⟩⟩, ?_⟩
          rw [lfM_eq (hi := hi') (N := N + 1) (pn := V41.heap.size) rfl bm, HLM.out]
          omega
        · have HM2 := Lib.hid (mid_yes HM.out hN0 hle hsa)
          clear hsa
          cases hfq : F' q with
          | none =>
            skip
            have p0 : V41.cell? ⟨po, 0, none⟩ = some (.map (some m)) := h1.qo.cell 0
            have lpo := h1.qo.lt
            have k0 : V41.cell? ⟨pk, 0, none⟩ = some (.int .i64 q.k) := qk.cell 0
            have k1 : V41.cell? ⟨pk, 1, none⟩ = some (.int .i64 q.lag) := qk.cell 1
            have k2 : V41.cell? ⟨pk, 2, none⟩ = some (.int .i64 q.sq) := qk.cell 2
            have lk := qk.lt
            have n0 : V41.cell? ⟨pn, 0, none⟩ = some (.int .i64 N) := bn.cell 0
            have ln := bn.lt
            have hlk := lk_none h3.is q hfq
            rw [hfq] at HM2
            have HM3 : Hid (Mid rs q lo hi' (N + 1) (some ⟨N, N⟩)) := HM2
            clear HM2 hfq
            have NA := ex_alloc (Below.refl V41.heap.size V41) (.cells #[.int .i64 N, .int .i64 N] 23)
            have hlt9 : V41.heap.size < (V41.alloc (.cells #[.int .i64 N, .int .i64 N] 23)).heap.size := by simp
            have h3a := h3.go NA
            obtain ⟨o, L2, hup, h3b⟩ := MpN.put (et := 23) Try.underlying77 keyK_fd h3a q (⟨N, N⟩ : Rg)
            unfold keyK cRg at hup
            simp only at hup
            have hP : Fr (fun k => k = m) (V41.alloc (.cells #[.int .i64 N, .int .i64 N] 23)) ((V41.alloc (.cells #[.int .i64 N, .int .i64 N] 23)).putObj m o) := fr_putO _ _ m o rfl
            have hmm := h1.hm
            have g1 := (h1.go NA).fr hP
            have g2 := ((h2.go NA).map10 (Nat.le_refl _) h3a.1 hP).up hP.size
            have gk := (qk.below NA qk.lt).fr hP (by omega)
            have gb := (bb.below NA bb.lt).fr hP (by omega)
            have gn := (bn.below NA bn.lt).fr hP (by omega)
            have gF := (hF.go NA).trans hP (fun _ _ h => h)
            have n1 : ((V41.alloc (.cells #[.int .i64 N, .int .i64 N] 23)).putObj m o).cell? ⟨pn, 0, none⟩ = some (.int .i64 N) := gn.cell 0
            have ln1 := gn.lt
            have NB := ex_alloc (Below.refl ((V41.alloc (.cells #[.int .i64 N, .int .i64 N] 23)).putObj m o).heap.size ((V41.alloc (.cells #[.int .i64 N, .int .i64 N] 23)).putObj m o)) (.cells #[.int .i64 (N + 1)] 3)
            have bm : Blk (((V41.alloc (.cells #[.int .i64 N, .int .i64 N] 23)).putObj m o).alloc (.cells #[.int .i64 (N + 1)] 3)) (V41.heap.size + 1) 3 #[.int .i64 (N + 1)] := Blk.new' _ _ _ (by simp)
            have hyn : W5.heap.size ≤ V41.heap.size + 1 := by have := h1.sz; omega
            have HF2 : Hid (∀ q', q' ≠ q → (fun x => if x = q then some (⟨N, N⟩ : Rg) else F' x) q' = F q') := Lib.hid (fun q' hq' => by
              show (if q' = q then _ else _) = _
              rw [if_neg hq']; exact HF.out q' hq')
            have HM4 : Hid (Mid rs q lo hi' (N + 1) ((fun x => if x = q then some (⟨N, N⟩ : Rg) else F' x) q)) := Lib.hid (by
              show Mid rs q lo hi' (N + 1) (if q = q then _ else _)
              rw [if_pos rfl]; exact HM3.out)
            generalize (fun x => if x = q then some (⟨N, N⟩ : Rg) else F' x) = F2 at *
            gi_wp2_with fail
            refine ⟨⟨⟨N + 1, by omega, by omega, V41.heap.size + 1, L2, F2, g1.go NB, g2.go NB, h3b.go NB, HM4, HF2, gk.below NB gk.lt, gb.below NB gb.lt, bm, ⟨hyn, gF.go NB⟩, exFrame (by kernel_rfl)⟩⟩, ?_⟩
            rw [lfM_eq (hi := hi') (N := N + 1) (pn := V41.heap.size + 1) rfl bm, HLM.out]
            omega
          | some R =>
            skip
            have p0 : V41.cell? ⟨po, 0, none⟩ = some (.map (some m)) := h1.qo.cell 0
            have lpo := h1.qo.lt
            have k0 : V41.cell? ⟨pk, 0, none⟩ = some (.int .i64 q.k) := qk.cell 0
            have k1 : V41.cell? ⟨pk, 1, none⟩ = some (.int .i64 q.lag) := qk.cell 1
            have k2 : V41.cell? ⟨pk, 2, none⟩ = some (.int .i64 q.sq) := qk.cell 2
            have lk := qk.lt
            have n0 : V41.cell? ⟨pn, 0, none⟩ = some (.int .i64 N) := bn.cell 0
            have ln := bn.lt
            have hlk := lk_some h3.is q hfq
            rw [hfq] at HM2
            have HM3 : Hid (Mid rs q lo hi' (N + 1) (some ⟨R.lo, N⟩)) := HM2
            clear HM2 hfq
            have NA := ex_alloc (Below.refl V41.heap.size V41) (.cells #[.int .i64 R.lo, .int .i64 R.hi] 23)
            have hlt9 : V41.heap.size < (V41.alloc (.cells #[.int .i64 R.lo, .int .i64 R.hi] 23)).heap.size := by simp
            have h3a := h3.go NA
            obtain ⟨o, L2, hup, h3b⟩ := MpN.put (et := 23) Try.underlying77 keyK_fd h3a q (⟨R.lo, N⟩ : Rg)
            unfold keyK cRg at hup
            simp only at hup
            have hP : Fr (fun k => k = m) (V41.alloc (.cells #[.int .i64 R.lo, .int .i64 R.hi] 23)) ((V41.alloc (.cells #[.int .i64 R.lo, .int .i64 R.hi] 23)).putObj m o) := fr_putO _ _ m o rfl
            have hmm := h1.hm
            have g1 := (h1.go NA).fr hP
            have g2 := ((h2.go NA).map10 (Nat.le_refl _) h3a.1 hP).up hP.size
            have gk := (qk.below NA qk.lt).fr hP (by omega)
            have gb := (bb.below NA bb.lt).fr hP (by omega)
            have gn := (bn.below NA bn.lt).fr hP (by omega)
            have gF := (hF.go NA).trans hP (fun _ _ h => h)
            have n1 : ((V41.alloc (.cells #[.int .i64 R.lo, .int .i64 R.hi] 23)).putObj m o).cell? ⟨pn, 0, none⟩ = some (.int .i64 N) := gn.cell 0
            have ln1 := gn.lt
            have NB := ex_alloc (Below.refl ((V41.alloc (.cells #[.int .i64 R.lo, .int .i64 R.hi] 23)).putObj m o).heap.size ((V41.alloc (.cells #[.int .i64 R.lo, .int .i64 R.hi] 23)).putObj m o)) (.cells #[.int .i64 (N + 1)] 3)
            have bm : Blk (((V41.alloc (.cells #[.int .i64 R.lo, .int .i64 R.hi] 23)).putObj m o).alloc (.cells #[.int .i64 (N + 1)] 3)) (V41.heap.size + 1) 3 #[.int .i64 (N + 1)] := Blk.new' _ _ _ (by simp)
            have hyn : W5.heap.size ≤ V41.heap.size + 1 := by have := h1.sz; omega
            have HF2 : Hid (∀ q', q' ≠ q → (fun x => if x = q then some (⟨R.lo, N⟩ : Rg) else F' x) q' = F q') := Lib.hid (fun q' hq' => by
              show (if q' = q then _ else _) = _
              rw [if_neg hq']; exact HF.out q' hq')
            have HM4 : Hid (Mid rs q lo hi' (N + 1) ((fun x => if x = q then some (⟨R.lo, N⟩ : Rg) else F' x) q)) := Lib.hid (by
              show Mid rs q lo hi' (N + 1) (if q = q then _ else _)
              rw [if_pos rfl]; exact HM3.out)
            generalize (fun x => if x = q then some (⟨R.lo, N⟩ : Rg) else F' x) = F2 at *
            gi_wp2_with fail
            refine ⟨⟨⟨N + 1, by omega, by omega, V41.heap.size + 1, L2, F2, g1.go NB, g2.go NB, h3b.go NB, HM4, HF2, gk.below NB gk.lt, gb.below NB gb.lt, bm, ⟨hyn, gF.go NB⟩, exFrame (by kernel_rfl)⟩⟩, ?_⟩
            rw [lfM_eq (hi := hi') (N := N + 1) (pn := V41.heap.size + 1) rfl bm, HLM.out]
            omega
      · have n0 : V.cell? ⟨pn, 0, none⟩ = some (.int .i64 N) := bn.cell 0
        have ln := bn.lt
        have u1 : V.cell? ⟨pb, 1, none⟩ = some (.int .i64 hi') := bb.cell 1
        have lb := bb.lt
        have hmm := h1.hm
        have hpe := h1.ne.2.2.2
        have hpu := h1.hu.2.2.2
        have HE : Hid (LeftP t rs (pre ++ [x]) F') := Lib.hid (leftP_snoc h4.out HXE.out (by
          rw [HLO.out, HHI.out]
          have e : N = hi' + 1 := by omega
          have := HM.out
          rw [e] at this
          exact mid_end this) HF.out)
        have hg2 := (h2W.map10 h1W h3W hF)
        gi_wp2_with fail
        refine ⟨⟨hF.size, fun k o hB ho _ => (hF.block k (Array.getElem?_eq_some_iff.1 ho).1 (by omega)).trans ho⟩, ⟨hF.size, hF.block pt (by omega) hpe⟩, h1, hg2, L, F', h3, HE⟩

end Go.Proofs.Ytkaogjhnogkcdaa
end

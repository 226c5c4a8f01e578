/- Stem: bounds' add (walk). · The reference's map of states: where it lies, and what a store turns; the days' steps (plain). · The reference's Ahead (plain): how far a day's loops have come. · The reference's Ahead (walk). · Stem: bounds (walk). -/
import Derived.Test.YtkaogjhnogkcdaaGreatJ13
import Derived.Test.YtkaogjhnogkcdaaGreatJ12
import Derived.Test.YtkaogjhnogkcdaaGreatJ11
import Derived.Test.YtkaogjhnogkcdaaGreatJ10
import Derived.Test.YtkaogjhnogkcdaaGreatJ9
set_option linter.unusedVariables false
set_option linter.unusedSimpArgs false
set_option linter.unusedSectionVars false
section
namespace Go.Proofs.YtkaogjhnogkcdaaGreat
open Go.RowKit
attribute [local go_sem] Ex.cell? Ex.frozen?

theorem Fr.go {R : Nat → Prop} {a w w' : World} (h : Fr R a w) (hb : Below w.heap.size w w') : Fr R a w' := h.trans (Fr.below (R := fun _ => False) hb) (fun _ _ hx => hx.elim)
def fstI (b : Bool) (x y : Int) : Int := if b then x else y
set_option maxRecDepth 100000 in
set_option maxHeartbeats 3200000 in
theorem sm_add (a b lo hi : Int) (fst : Bool) (pf po : Nat) (w : World) (hne : pf ≠ po) (qf : Blk w pf 4 #[.bool fst]) (qo : Blk w po 41 #[.int .i64 lo, .int .i64 hi]) :
  Calls Tryz.prog 120 #[.agg #[.int .i64 a, .int .i64 b], .pointer (some ⟨pf, 0, none⟩), .pointer (some ⟨po, 0, none⟩)] w fun e w' => e = .returned (.tuple #[]) ∧
   Blk w' pf 4 #[.bool false] ∧ Blk w' po 41 #[.int .i64 (min (fstI fst a lo) a), .int .i64 (max (fstI fst b hi) b)] ∧ Fr (fun k => k = pf ∨ k = po) w w' := by
 have hne2 : po ≠ pf := fun e => hne e.symm
 have lf := qf.lt
 have lo_ := qo.lt
 cases fst
 ·
  have f0 := qf.cell 0
  have o0 := qo.cell 0
  have o1 := qo.cell 1
  have ff := qf.frozen0
  have fo := qo.frozen0
  simp at f0 o0 o1
  have g0 : Fr (fun k => k = pf ∨ k = po) w w := Fr.refl _ _
  have y1 := qo
  have y2 := qf
  have hb1 := ex_alloc (Below.refl (w).heap.size (w)) (.cells #[.int .i64 a, .int .i64 b] 41)
  have q3 : Blk (w.alloc (.cells #[.int .i64 a, .int .i64 b] 41)) w.heap.size 41 #[.int .i64 a, .int .i64 b] := Blk.new' _ _ _ (by simp)
  replace y1 := y1.alloc (.cells #[.int .i64 a, .int .i64 b] 41)
  replace y2 := y2.alloc (.cells #[.int .i64 a, .int .i64 b] 41)
  replace g0 := g0.go hb1
  go_enter Tryz.func120, Tryz.ntmps120
  go_upto_region 3 with fail
  show Code.wp _ _ _ _ (w.alloc (.cells #[.int .i64 a, .int .i64 b] 41))
  clear hb1 f0 o0 o1 ff fo
  generalize w.alloc (.cells #[.int .i64 a, .int .i64 b] 41) = V at *
  have u0 : V.cell? ⟨po, 0, none⟩ = some ((.int .i64 lo)) := y1.cell 0
  have u1 : V.cell? ⟨po, 1, none⟩ = some ((.int .i64 hi)) := y1.cell 1
  have lu := y1.lt
  have r0 : V.cell? ⟨w.heap.size, 0, none⟩ = some (.int .i64 a) := q3.cell 0
  have r1 : V.cell? ⟨w.heap.size, 1, none⟩ = some (.int .i64 b) := q3.cell 1
  have lr := q3.lt
  go_wp2_with fail
  refine wp_region_ext_tq 13 (.quiet 0 (.quiet 1 (.quiet 2 (.quiet 3 (.quiet 6 (.quiet 7 (.quiet 8 (.quiet 9 (.fork 4 (.fork 5 (.loud 10 (.loud 11 (.quiet 12 .done))) 10 (.loud 5 (.loud 11 (.quiet 12 .done)))) 10 (.loud 4 (.loud 5 (.loud 11 (.quiet 12 .done))))))))))))) (by kernel_rfl) (by kernel_rfl) (by intro d _ _ _ _ h; cases d <;> exact h) ?_
  have D0 := (Below.refl V.heap.size V).drew
  repeat (refine tq_quiet rfl ?_; go_big_quiet_step (fail); refine wpQuiet_nil ?_)
  refine tq_fork rfl rfl ?_ ?_
  ·
   go_wp2_with fail
   have N1 := ex_alloc (Below.refl V.heap.size V) (.cells #[.int .i64 (lo), .int .i64 (a)] 3)
   have b1 : Blk (V.alloc (.cells #[.int .i64 (lo), .int .i64 (a)] 3)) (V.heap.size) 3 #[.int .i64 (lo), .int .i64 (a)] := Blk.new' _ _ _ (by simp)
   refine ⟨inEx N1.drew, ?_⟩
   repeat (refine tq_quiet rfl ?_; go_big_quiet_step (fail); refine wpQuiet_nil ?_)
   refine tq_fork rfl rfl ?_ ?_
   ·
    go_wp2_with fail
    refine (sm_least2 _ _ _ _ _ b1.drew).mono ?_
    rintro e w' ⟨rfl, rfl⟩
    go_wp2_with fail
    refine ⟨inEx N1.drew, ?_⟩
    repeat (refine tq_quiet rfl ?_; go_big_quiet_step (fail); refine wpQuiet_nil ?_)
    refine tq_loud rfl ?_
    go_wp2_with fail
    have N2 := ex_alloc N1 (.cells #[.int .i64 (hi), .int .i64 (b)] 3)
    have b2 : Blk ((V.alloc (.cells #[.int .i64 (lo), .int .i64 (a)] 3)).alloc (.cells #[.int .i64 (hi), .int .i64 (b)] 3)) (V.heap.size + 1) 3 #[.int .i64 (hi), .int .i64 (b)] := Blk.new' _ _ _ (by simp)
    replace b1 := b1.alloc (.cells #[.int .i64 (hi), .int .i64 (b)] 3)
    refine ⟨inEx N2.drew, ?_⟩
    repeat (refine tq_quiet rfl ?_; go_big_quiet_step (fail); refine wpQuiet_nil ?_)
    refine tq_loud rfl ?_
    go_wp2_with fail
    refine (sm_greatest2 _ _ _ _ _ b2.drew).mono ?_
    rintro e w' ⟨rfl, rfl⟩
    go_wp2_with fail
    refine ⟨inEx N2.drew, ?_⟩
    repeat (refine tq_quiet rfl ?_; go_big_quiet_step (fail); refine wpQuiet_nil ?_)
    refine tq_done (r := [_]) rfl ?_
    replace y1 := y1.below N2.drew y1.lt
    replace y2 := y2.below N2.drew y2.lt
    replace q3 := q3.below N2.drew q3.lt
    replace g0 := g0.go N2.drew
    clear u0 u1 lu
    clear r0 r1 lr
    clear D0 N2 b2 N1 b1
    generalize ((V.alloc (.cells #[.int .i64 (lo), .int .i64 (a)] 3)).alloc (.cells #[.int .i64 (hi), .int .i64 (b)] 3)).drew = V1 at *
    have m0 := y1.cell 0
    have m2 := y1.cell 1
    simp at m0 m2
    have mf := y1.frozen0
    have ml := y1.lt
    have m3 := (y1.set_ 0 (.int .i64 (min lo a))).set_ 1 (.int .i64 (max hi b))
    simp only [List.setIfInBounds_toArray, List.set_cons_zero, List.set_cons_succ] at m3
    have m4 := (y2.far (p := ⟨po, 0, none⟩) hne (.int .i64 (min lo a))).far (p := ⟨po, 1, none⟩) hne (.int .i64 (max hi b))
    have g1 := (g0.andSet (b := po) (i := 0) (v := .int .i64 (min lo a)) (.inr rfl)).andSet (b := po) (i := 1) (v := .int .i64 (max hi b)) (.inr rfl)
    go_wp2
    refine bodyPost_end (v := .tuple #[]) (results_none rfl _ _ _) rfl ?_
    exact ⟨rfl, m4, m3, g1⟩
   ·
    go_wp2_with fail
    have N2 := ex_alloc N1 (.cells #[.int .i64 (hi), .int .i64 (b)] 3)
    have b2 : Blk ((V.alloc (.cells #[.int .i64 (lo), .int .i64 (a)] 3)).alloc (.cells #[.int .i64 (hi), .int .i64 (b)] 3)) (V.heap.size + 1) 3 #[.int .i64 (hi), .int .i64 (b)] := Blk.new' _ _ _ (by simp)
    replace b1 := b1.alloc (.cells #[.int .i64 (hi), .int .i64 (b)] 3)
    refine ⟨inEx N2.drew, ?_⟩
    repeat (refine tq_quiet rfl ?_; go_big_quiet_step (fail); refine wpQuiet_nil ?_)
    refine tq_loud rfl ?_
    go_wp2_with fail
    refine (sm_least2 _ _ _ _ _ b1.drew).mono ?_
    rintro e w' ⟨rfl, rfl⟩
    go_wp2_with fail
    refine ⟨inEx N2.drew, ?_⟩
    repeat (refine tq_quiet rfl ?_; go_big_quiet_step (fail); refine wpQuiet_nil ?_)
    refine tq_loud rfl ?_
    go_wp2_with fail
    refine (sm_greatest2 _ _ _ _ _ b2.drew).mono ?_
    rintro e w' ⟨rfl, rfl⟩
    go_wp2_with fail
    refine ⟨inEx N2.drew, ?_⟩
    repeat (refine tq_quiet rfl ?_; go_big_quiet_step (fail); refine wpQuiet_nil ?_)
    refine tq_done (r := [_]) rfl ?_
    replace y1 := y1.below N2.drew y1.lt
    replace y2 := y2.below N2.drew y2.lt
    replace q3 := q3.below N2.drew q3.lt
    replace g0 := g0.go N2.drew
    clear u0 u1 lu
    clear r0 r1 lr
    clear D0 N2 b2 N1 b1
    generalize ((V.alloc (.cells #[.int .i64 (lo), .int .i64 (a)] 3)).alloc (.cells #[.int .i64 (hi), .int .i64 (b)] 3)).drew = V2 at *
    have m0 := y1.cell 0
    have m2 := y1.cell 1
    simp at m0 m2
    have mf := y1.frozen0
    have ml := y1.lt
    have m3 := (y1.set_ 0 (.int .i64 (min lo a))).set_ 1 (.int .i64 (max hi b))
    simp only [List.setIfInBounds_toArray, List.set_cons_zero, List.set_cons_succ] at m3
    have m4 := (y2.far (p := ⟨po, 0, none⟩) hne (.int .i64 (min lo a))).far (p := ⟨po, 1, none⟩) hne (.int .i64 (max hi b))
    have g1 := (g0.andSet (b := po) (i := 0) (v := .int .i64 (min lo a)) (.inr rfl)).andSet (b := po) (i := 1) (v := .int .i64 (max hi b)) (.inr rfl)
    go_wp2
    refine bodyPost_end (v := .tuple #[]) (results_none rfl _ _ _) rfl ?_
    exact ⟨rfl, m4, m3, g1⟩
  ·
   go_wp2_with fail
   have N2 := ex_alloc (Below.refl V.heap.size V) (.cells #[.int .i64 (hi), .int .i64 (b)] 3)
   have b2 : Blk (V.alloc (.cells #[.int .i64 (hi), .int .i64 (b)] 3)) (V.heap.size) 3 #[.int .i64 (hi), .int .i64 (b)] := Blk.new' _ _ _ (by simp)
   refine ⟨inEx N2.drew, ?_⟩
   repeat (refine tq_quiet rfl ?_; go_big_quiet_step (fail); refine wpQuiet_nil ?_)
   refine tq_loud rfl ?_
   go_wp2_with fail
   have N1 := ex_alloc N2 (.cells #[.int .i64 (lo), .int .i64 (a)] 3)
   have b1 : Blk ((V.alloc (.cells #[.int .i64 (hi), .int .i64 (b)] 3)).alloc (.cells #[.int .i64 (lo), .int .i64 (a)] 3)) (V.heap.size + 1) 3 #[.int .i64 (lo), .int .i64 (a)] := Blk.new' _ _ _ (by simp)
   replace b2 := b2.alloc (.cells #[.int .i64 (lo), .int .i64 (a)] 3)
   refine ⟨inEx N1.drew, ?_⟩
   repeat (refine tq_quiet rfl ?_; go_big_quiet_step (fail); refine wpQuiet_nil ?_)
   refine tq_loud rfl ?_
   go_wp2_with fail
   refine (sm_least2 _ _ _ _ _ b1.drew).mono ?_
   rintro e w' ⟨rfl, rfl⟩
   go_wp2_with fail
   refine ⟨inEx N1.drew, ?_⟩
   repeat (refine tq_quiet rfl ?_; go_big_quiet_step (fail); refine wpQuiet_nil ?_)
   refine tq_loud rfl ?_
   go_wp2_with fail
   refine (sm_greatest2 _ _ _ _ _ b2.drew).mono ?_
   rintro e w' ⟨rfl, rfl⟩
   go_wp2_with fail
   refine ⟨inEx N1.drew, ?_⟩
   repeat (refine tq_quiet rfl ?_; go_big_quiet_step (fail); refine wpQuiet_nil ?_)
   refine tq_done (r := [_]) rfl ?_
   replace y1 := y1.below N1.drew y1.lt
   replace y2 := y2.below N1.drew y2.lt
   replace q3 := q3.below N1.drew q3.lt
   replace g0 := g0.go N1.drew
   clear u0 u1 lu
   clear r0 r1 lr
   clear D0 N1 b1 N2 b2
   generalize ((V.alloc (.cells #[.int .i64 (hi), .int .i64 (b)] 3)).alloc (.cells #[.int .i64 (lo), .int .i64 (a)] 3)).drew = V3 at *
   have m0 := y1.cell 0
   have m2 := y1.cell 1
   simp at m0 m2
   have mf := y1.frozen0
   have ml := y1.lt
   have m3 := (y1.set_ 0 (.int .i64 (min lo a))).set_ 1 (.int .i64 (max hi b))
   simp only [List.setIfInBounds_toArray, List.set_cons_zero, List.set_cons_succ] at m3
   have m4 := (y2.far (p := ⟨po, 0, none⟩) hne (.int .i64 (min lo a))).far (p := ⟨po, 1, none⟩) hne (.int .i64 (max hi b))
   have g1 := (g0.andSet (b := po) (i := 0) (v := .int .i64 (min lo a)) (.inr rfl)).andSet (b := po) (i := 1) (v := .int .i64 (max hi b)) (.inr rfl)
   go_wp2
   refine bodyPost_end (v := .tuple #[]) (results_none rfl _ _ _) rfl ?_
   exact ⟨rfl, m4, m3, g1⟩
 ·
  have f0 := qf.cell 0
  have o0 := qo.cell 0
  have o1 := qo.cell 1
  have ff := qf.frozen0
  have fo := qo.frozen0
  simp at f0 o0 o1
  have g0 : Fr (fun k => k = pf ∨ k = po) w (((w.setCell ⟨po, 0, none⟩ (.int .i64 a)).setCell ⟨po, 1, none⟩ (.int .i64 b)).setCell ⟨pf, 0, none⟩ (.bool false)) := (((Fr.refl (fun k => k = pf ∨ k = po) w).andSet (.inr rfl)).andSet (.inr rfl)).andSet (.inl rfl)
  have y1 := (qo.set_ 0 (.int .i64 a)).set_ 1 (.int .i64 b)
  simp only [List.setIfInBounds_toArray, List.set_cons_zero, List.set_cons_succ] at y1
  replace y1 := y1.far (p := ⟨pf, 0, none⟩) hne2 (.bool false)
  have y2 := ((qf.far (p := ⟨po, 0, none⟩) hne (.int .i64 a)).far (p := ⟨po, 1, none⟩) hne (.int .i64 b)).set_ 0 (.bool false)
  simp only [List.setIfInBounds_toArray, List.set_cons_zero, List.set_cons_succ] at y2
  have hb1 := ex_alloc (Below.refl (((w.setCell ⟨po, 0, none⟩ (.int .i64 a)).setCell ⟨po, 1, none⟩ (.int .i64 b)).setCell ⟨pf, 0, none⟩ (.bool false)).heap.size (((w.setCell ⟨po, 0, none⟩ (.int .i64 a)).setCell ⟨po, 1, none⟩ (.int .i64 b)).setCell ⟨pf, 0, none⟩ (.bool false))) (.cells #[.int .i64 a, .int .i64 b] 41)
  have q3 : Blk ((((w.setCell ⟨po, 0, none⟩ (.int .i64 a)).setCell ⟨po, 1, none⟩ (.int .i64 b)).setCell ⟨pf, 0, none⟩ (.bool false)).alloc (.cells #[.int .i64 a, .int .i64 b] 41)) w.heap.size 41 #[.int .i64 a, .int .i64 b] := Blk.new' _ _ _ (by simp)
  replace y1 := y1.alloc (.cells #[.int .i64 a, .int .i64 b] 41)
  replace y2 := y2.alloc (.cells #[.int .i64 a, .int .i64 b] 41)
  replace g0 := g0.go hb1
  go_enter Tryz.func120, Tryz.ntmps120
  go_upto_region 3 with fail
  show Code.wp _ _ _ _ ((((w.setCell ⟨po, 0, none⟩ (.int .i64 a)).setCell ⟨po, 1, none⟩ (.int .i64 b)).setCell ⟨pf, 0, none⟩ (.bool false)).alloc (.cells #[.int .i64 a, .int .i64 b] 41))
  clear hb1 f0 o0 o1 ff fo
  generalize (((w.setCell ⟨po, 0, none⟩ (.int .i64 a)).setCell ⟨po, 1, none⟩ (.int .i64 b)).setCell ⟨pf, 0, none⟩ (.bool false)).alloc (.cells #[.int .i64 a, .int .i64 b] 41) = V at *
  have u0 : V.cell? ⟨po, 0, none⟩ = some ((.int .i64 a)) := y1.cell 0
  have u1 : V.cell? ⟨po, 1, none⟩ = some ((.int .i64 b)) := y1.cell 1
  have lu := y1.lt
  have r0 : V.cell? ⟨w.heap.size, 0, none⟩ = some (.int .i64 a) := q3.cell 0
  have r1 : V.cell? ⟨w.heap.size, 1, none⟩ = some (.int .i64 b) := q3.cell 1
  have lr := q3.lt
  go_wp2_with fail
  refine wp_region_ext_tq 13 (.quiet 0 (.quiet 1 (.quiet 2 (.quiet 3 (.quiet 6 (.quiet 7 (.quiet 8 (.quiet 9 (.fork 4 (.fork 5 (.loud 10 (.loud 11 (.quiet 12 .done))) 10 (.loud 5 (.loud 11 (.quiet 12 .done)))) 10 (.loud 4 (.loud 5 (.loud 11 (.quiet 12 .done))))))))))))) (by kernel_rfl) (by kernel_rfl) (by intro d _ _ _ _ h; cases d <;> exact h) ?_
  have D0 := (Below.refl V.heap.size V).drew
  repeat (refine tq_quiet rfl ?_; go_big_quiet_step (fail); refine wpQuiet_nil ?_)
  refine tq_fork rfl rfl ?_ ?_
  ·
   go_wp2_with fail
   have N1 := ex_alloc (Below.refl V.heap.size V) (.cells #[.int .i64 (a), .int .i64 (a)] 3)
   have b1 : Blk (V.alloc (.cells #[.int .i64 (a), .int .i64 (a)] 3)) (V.heap.size) 3 #[.int .i64 (a), .int .i64 (a)] := Blk.new' _ _ _ (by simp)
   refine ⟨inEx N1.drew, ?_⟩
   repeat (refine tq_quiet rfl ?_; go_big_quiet_step (fail); refine wpQuiet_nil ?_)
   refine tq_fork rfl rfl ?_ ?_
   ·
    go_wp2_with fail
    refine (sm_least2 _ _ _ _ _ b1.drew).mono ?_
    rintro e w' ⟨rfl, rfl⟩
    go_wp2_with fail
    refine ⟨inEx N1.drew, ?_⟩
    repeat (refine tq_quiet rfl ?_; go_big_quiet_step (fail); refine wpQuiet_nil ?_)
    refine tq_loud rfl ?_
    go_wp2_with fail
    have N2 := ex_alloc N1 (.cells #[.int .i64 (b), .int .i64 (b)] 3)
    have b2 : Blk ((V.alloc (.cells #[.int .i64 (a), .int .i64 (a)] 3)).alloc (.cells #[.int .i64 (b), .int .i64 (b)] 3)) (V.heap.size + 1) 3 #[.int .i64 (b), .int .i64 (b)] := Blk.new' _ _ _ (by simp)
    replace b1 := b1.alloc (.cells #[.int .i64 (b), .int .i64 (b)] 3)
    refine ⟨inEx N2.drew, ?_⟩
    repeat (refine tq_quiet rfl ?_; go_big_quiet_step (fail); refine wpQuiet_nil ?_)
    refine tq_loud rfl ?_
    go_wp2_with fail
    refine (sm_greatest2 _ _ _ _ _ b2.drew).mono ?_
    rintro e w' ⟨rfl, rfl⟩
    go_wp2_with fail
    refine ⟨inEx N2.drew, ?_⟩
    repeat (refine tq_quiet rfl ?_; go_big_quiet_step (fail); refine wpQuiet_nil ?_)
    refine tq_done (r := [_]) rfl ?_
    replace y1 := y1.below N2.drew y1.lt
    replace y2 := y2.below N2.drew y2.lt
    replace q3 := q3.below N2.drew q3.lt
    replace g0 := g0.go N2.drew
    clear u0 u1 lu
    clear r0 r1 lr
    clear D0 N2 b2 N1 b1
    generalize ((V.alloc (.cells #[.int .i64 (a), .int .i64 (a)] 3)).alloc (.cells #[.int .i64 (b), .int .i64 (b)] 3)).drew = V4 at *
    have m0 := y1.cell 0
    have m2 := y1.cell 1
    simp at m0 m2
    have mf := y1.frozen0
    have ml := y1.lt
    have m3 := (y1.set_ 0 (.int .i64 (min a a))).set_ 1 (.int .i64 (max b b))
    simp only [List.setIfInBounds_toArray, List.set_cons_zero, List.set_cons_succ] at m3
    have m4 := (y2.far (p := ⟨po, 0, none⟩) hne (.int .i64 (min a a))).far (p := ⟨po, 1, none⟩) hne (.int .i64 (max b b))
    have g1 := (g0.andSet (b := po) (i := 0) (v := .int .i64 (min a a)) (.inr rfl)).andSet (b := po) (i := 1) (v := .int .i64 (max b b)) (.inr rfl)
    simp only [Int.min_self, Int.max_self] at m3 m4 g1
    go_wp2
    refine bodyPost_end (v := .tuple #[]) (results_none rfl _ _ _) rfl ?_
    rw [show min (fstI true a lo) a = a from Int.min_self a, show max (fstI true b hi) b = b from Int.max_self b]
    exact ⟨rfl, m4, m3, g1⟩
   ·
    go_wp2_with fail
    have N2 := ex_alloc N1 (.cells #[.int .i64 (b), .int .i64 (b)] 3)
    have b2 : Blk ((V.alloc (.cells #[.int .i64 (a), .int .i64 (a)] 3)).alloc (.cells #[.int .i64 (b), .int .i64 (b)] 3)) (V.heap.size + 1) 3 #[.int .i64 (b), .int .i64 (b)] := Blk.new' _ _ _ (by simp)
    replace b1 := b1.alloc (.cells #[.int .i64 (b), .int .i64 (b)] 3)
    refine ⟨inEx N2.drew, ?_⟩
    repeat (refine tq_quiet rfl ?_; go_big_quiet_step (fail); refine wpQuiet_nil ?_)
    refine tq_loud rfl ?_
    go_wp2_with fail
    refine (sm_least2 _ _ _ _ _ b1.drew).mono ?_
    rintro e w' ⟨rfl, rfl⟩
    go_wp2_with fail
    refine ⟨inEx N2.drew, ?_⟩
    repeat (refine tq_quiet rfl ?_; go_big_quiet_step (fail); refine wpQuiet_nil ?_)
    refine tq_loud rfl ?_
    go_wp2_with fail
    refine (sm_greatest2 _ _ _ _ _ b2.drew).mono ?_
    rintro e w' ⟨rfl, rfl⟩
    go_wp2_with fail
    refine ⟨inEx N2.drew, ?_⟩
    repeat (refine tq_quiet rfl ?_; go_big_quiet_step (fail); refine wpQuiet_nil ?_)
    refine tq_done (r := [_]) rfl ?_
    replace y1 := y1.below N2.drew y1.lt
    replace y2 := y2.below N2.drew y2.lt
    replace q3 := q3.below N2.drew q3.lt
    replace g0 := g0.go N2.drew
    clear u0 u1 lu
    clear r0 r1 lr
    clear D0 N2 b2 N1 b1
    generalize ((V.alloc (.cells #[.int .i64 (a), .int .i64 (a)] 3)).alloc (.cells #[.int .i64 (b), .int .i64 (b)] 3)).drew = V5 at *
    have m0 := y1.cell 0
    have m2 := y1.cell 1
    simp at m0 m2
    have mf := y1.frozen0
    have ml := y1.lt
    have m3 := (y1.set_ 0 (.int .i64 (min a a))).set_ 1 (.int .i64 (max b b))
    simp only [List.setIfInBounds_toArray, List.set_cons_zero, List.set_cons_succ] at m3
    have m4 := (y2.far (p := ⟨po, 0, none⟩) hne (.int .i64 (min a a))).far (p := ⟨po, 1, none⟩) hne (.int .i64 (max b b))
    have g1 := (g0.andSet (b := po) (i := 0) (v := .int .i64 (min a a)) (.inr rfl)).andSet (b := po) (i := 1) (v := .int .i64 (max b b)) (.inr rfl)
    simp only [Int.min_self, Int.max_self] at m3 m4 g1
    go_wp2
    refine bodyPost_end (v := .tuple #[]) (results_none rfl _ _ _) rfl ?_
    rw [show min (fstI true a lo) a = a from Int.min_self a, show max (fstI true b hi) b = b from Int.max_self b]
    exact ⟨rfl, m4, m3, g1⟩
  ·
   go_wp2_with fail
   have N2 := ex_alloc (Below.refl V.heap.size V) (.cells #[.int .i64 (b), .int .i64 (b)] 3)
   have b2 : Blk (V.alloc (.cells #[.int .i64 (b), .int .i64 (b)] 3)) (V.heap.size) 3 #[.int .i64 (b), .int .i64 (b)] := Blk.new' _ _ _ (by simp)
   refine ⟨inEx N2.drew, ?_⟩
   repeat (refine tq_quiet rfl ?_; go_big_quiet_step (fail); refine wpQuiet_nil ?_)
   refine tq_loud rfl ?_
   go_wp2_with fail
   have N1 := ex_alloc N2 (.cells #[.int .i64 (a), .int .i64 (a)] 3)
   have b1 : Blk ((V.alloc (.cells #[.int .i64 (b), .int .i64 (b)] 3)).alloc (.cells #[.int .i64 (a), .int .i64 (a)] 3)) (V.heap.size + 1) 3 #[.int .i64 (a), .int .i64 (a)] := Blk.new' _ _ _ (by simp)
   replace b2 := b2.alloc (.cells #[.int .i64 (a), .int .i64 (a)] 3)
   refine ⟨inEx N1.drew, ?_⟩
   repeat (refine tq_quiet rfl ?_; go_big_quiet_step (fail); refine wpQuiet_nil ?_)
   refine tq_loud rfl ?_
   go_wp2_with fail
   refine (sm_least2 _ _ _ _ _ b1.drew).mono ?_
   rintro e w' ⟨rfl, rfl⟩
   go_wp2_with fail
   refine ⟨inEx N1.drew, ?_⟩
   repeat (refine tq_quiet rfl ?_; go_big_quiet_step (fail); refine wpQuiet_nil ?_)
   refine tq_loud rfl ?_
   go_wp2_with fail
   refine (sm_greatest2 _ _ _ _ _ b2.drew).mono ?_
   rintro e w' ⟨rfl, rfl⟩
   go_wp2_with fail
   refine ⟨inEx N1.drew, ?_⟩
   repeat (refine tq_quiet rfl ?_; go_big_quiet_step (fail); refine wpQuiet_nil ?_)
   refine tq_done (r := [_]) rfl ?_
   replace y1 := y1.below N1.drew y1.lt
   replace y2 := y2.below N1.drew y2.lt
   replace q3 := q3.below N1.drew q3.lt
   replace g0 := g0.go N1.drew
   clear u0 u1 lu
   clear r0 r1 lr
   clear D0 N1 b1 N2 b2
   generalize ((V.alloc (.cells #[.int .i64 (b), .int .i64 (b)] 3)).alloc (.cells #[.int .i64 (a), .int .i64 (a)] 3)).drew = V6 at *
   have m0 := y1.cell 0
   have m2 := y1.cell 1
   simp at m0 m2
   have mf := y1.frozen0
   have ml := y1.lt
   have m3 := (y1.set_ 0 (.int .i64 (min a a))).set_ 1 (.int .i64 (max b b))
   simp only [List.setIfInBounds_toArray, List.set_cons_zero, List.set_cons_succ] at m3
   have m4 := (y2.far (p := ⟨po, 0, none⟩) hne (.int .i64 (min a a))).far (p := ⟨po, 1, none⟩) hne (.int .i64 (max b b))
   have g1 := (g0.andSet (b := po) (i := 0) (v := .int .i64 (min a a)) (.inr rfl)).andSet (b := po) (i := 1) (v := .int .i64 (max b b)) (.inr rfl)
   simp only [Int.min_self, Int.max_self] at m3 m4 g1
   go_wp2
   refine bodyPost_end (v := .tuple #[]) (results_none rfl _ _ _) rfl ?_
   rw [show min (fstI true a lo) a = a from Int.min_self a, show max (fstI true b hi) b = b from Int.max_self b]
   exact ⟨rfl, m4, m3, g1⟩

end Go.Proofs.YtkaogjhnogkcdaaGreat
end

section
namespace Go.Proofs.YtkaogjhnogkcdaaGreat
open Go.RowKit
attribute [local go_sem] Ex.cell? Ex.frozen?

def MapAt (W : World) (q : Nat) (M : Nat → Nat → Nat → Bool) : Prop :=
  ∃ cs, Blk W q 128 cs ∧ cs.size = 27404 ∧ ∀ d r s, d < 17 → r < 52 → s < 31 → cs[d * 1612 + r * 31 + s]? = some (.bool (M d r s))
def upd (M : Nat → Nat → Nat → Bool) (d r s : Nat) : Nat → Nat → Nat → Bool := fun d' r' s' => if d' = d ∧ r' = r ∧ s' = s then true else M d' r' s'
theorem upd_self {M : Nat → Nat → Nat → Bool} {d r s : Nat} : upd M d r s d r s = true := by simp [upd]
section
variable {W W' : World} {q : Nat} {M : Nat → Nat → Nat → Bool}
theorem MapAt.lt (h : MapAt W q M) : q < W.heap.size := by obtain ⟨_, h1, _⟩ := h; exact h1.lt
theorem MapAt.cell (h : MapAt W q M) {d r s : Nat} (hd : d < 17) (hr : r < 52) (hs : s < 31) : W.cell? ⟨q, d * 1612 + r * 31 + s, none⟩ = some (.bool (M d r s)) := by
  obtain ⟨cs, h1, _, h2⟩ := h
  rw [h1.cell]; exact h2 d r s hd hr hs
theorem MapAt.frozen (h : MapAt W q M) (i : Nat) : W.frozen? ⟨q, i, none⟩ = false := by obtain ⟨_, h1, _⟩ := h; exact h1.frozen i
theorem MapAt.below (h : MapAt W q M) (hb : Below W.heap.size W W') : MapAt W' q M := by
  obtain ⟨cs, h1, h2⟩ := h
  exact ⟨cs, h1.below hb h1.lt, h2⟩
theorem MapAt.set (h : MapAt W q M) {d r s : Nat} (hd : d < 17) (hr : r < 52) (hs : s < 31) : MapAt (W.setCell ⟨q, d * 1612 + r * 31 + s, none⟩ (.bool true)) q (upd M d r s) := by
  obtain ⟨cs, h1, h2, h3⟩ := h
  refine ⟨cs.setIfInBounds (d * 1612 + r * 31 + s) (.bool true), h1.set_ _ _, by simpa using h2, fun d' r' s' hd' hr' hs' => ?_⟩
  rw [Array.getElem?_setIfInBounds]
  by_cases he : d' = d ∧ r' = r ∧ s' = s
  · obtain ⟨rfl, rfl, rfl⟩ := he
    rw [if_pos rfl, if_pos (by omega), upd_self]
  · rw [if_neg (by omega), h3 d' r' s' hd' hr' hs']
    simp [upd, he]
theorem MapAt.new {oc : Array Value} (W : World) (h1 : oc.size = 27404) (h2 : ∀ k, k < 27404 → oc[k]? = some (.bool false)) : MapAt (W.alloc (.cells oc 128)) W.heap.size (fun _ _ _ => false) :=
  ⟨oc, Blk.new _ _ _, h1, fun d r s hd hr hs => h2 _ (by omega)⟩
end

def Known (g : Gl) (h : List Rg) (l : List Ic) (o : Nat → Bool) (M : Nat → Nat → Nat → Bool) (d : Nat) : Prop := ∀ e r s : Nat, e ≤ d → r < 52 → s < 31 → (M e r s = true ↔ Can g h l o e ((r : Int), (s : Int)))
def Blank (M : Nat → Nat → Nat → Bool) (d : Nat) : Prop := ∀ e r s : Nat, d < e → M e r s = false
def Got (g : Gl) (l : List Ic) (o : Nat → Bool) (D : List Int) (d r s : Nat) (c b : Int) (k : Nat) (M : Nat → Nat → Nat → Bool) : Prop :=
  fitsB l o (d : Int) (g.base + ((r : Int) + c) - mx3 ((s : Int) - b) 0 (gI D k)) = true → M (d + 1) ((r : Int) + c).toNat (mx3 ((s : Int) - b) 0 (gI D k)).toNat = true
theorem Got.mono {g : Gl} {l : List Ic} {o : Nat → Bool} {D : List Int} {d r s : Nat} {c b : Int} {k : Nat} {M M' : Nat → Nat → Nat → Bool} (h : Got g l o D d r s c b k M) (hm : ∀ x y, M (d + 1) x y = true → M' (d + 1) x y = true) : Got g l o D d r s c b k M' := fun hf => hm _ _ (h hf)
theorem known_succ {g : Gl} {h : List Rg} {l : List Ic} {o : Nat → Bool} (hok : Ok g h) {D : List Int} {d : Nat} (hd : d < h.length) {M : Nat → Nat → Nat → Bool} (hD : ∀ y : Int, (∃ k, k < D.length ∧ gI D k = y) ↔ ∃ x, ((gR h d).lo ≤ x ∧ x ≤ (gR h d).hi) ∧ y = sinks g x)
    (hk : Known g h l o M d) (hs : ∀ r s : Nat, M (d + 1) r s = true → Can g h l o (d + 1) ((r : Int), (s : Int)))
    (hc : ∀ r s : Nat, r < 49 → s < 31 → M d r s = true → ∀ c b : Int, (creep g d).lo ≤ c → c ≤ (creep g d).hi → g.blo ≤ b → b ≤ g.bhi → ∀ k, k < D.length → Got g l o D d r s c b k M) : Known g h l o M (d + 1) := by
  intro e r s he hr hs'
  rcases Nat.eq_or_lt_of_le he with rfl | hlt
  rotate_left
  · exact hk e r s (by omega) hr hs'
  refine ⟨hs r s, fun hcan => ?_⟩
  obtain ⟨⟨a1, a2⟩, h1, h2, h3⟩ := hcan
  obtain ⟨σ, p, _, e1⟩ := (can_iff hok (by omega)).1 h1
  have hb := path_bd hok p (d := d) (Nat.le_refl _)
  rw [e1] at hb
  simp only at hb
  obtain ⟨x, b, c, hx, hb', hc', ht⟩ := (mem_nextL hok hd).1 h2
  have hnh := hok.nh
  obtain ⟨k, hk1, hk2⟩ := (hD _).2 ⟨x, hx, rfl⟩
  have hm : M d a1.toNat a2.toNat = true := (hk d a1.toNat a2.toNat (Nat.le_refl _) (by omega) (by omega)).2 (by rw [Int.toNat_of_nonneg (by omega), Int.toNat_of_nonneg (by omega)]; exact h1)
  have hg := hc a1.toNat a2.toNat (by omega) (by omega) hm c b hc'.1 hc'.2 hb'.1 hb'.2 k hk1
  unfold Got at hg
  rw [Int.toNat_of_nonneg (by omega), Int.toNat_of_nonneg (by omega), hk2] at hg
  simp only [Prod.mk.injEq] at ht
  obtain ⟨t1, t2⟩ := ht
  rw [← t1, ← t2] at hg
  have := hg (by
    have e2 : g.base + (r : Int) - (s : Int) = zero g ((r : Int), (s : Int)) := rfl
    rw [e2]; exact h3)
  simpa using this
end Go.Proofs.YtkaogjhnogkcdaaGreat
end

section
namespace Go.Proofs.YtkaogjhnogkcdaaGreat

section
variable (g : Gl) (h : List Rg) (l : List Ic) (o : Nat → Bool) (D : List Int) (d : Nat)
structure PP (n m : Nat) (c b : Int) (k : Nat) (M : Nat → Nat → Nat → Bool) : Prop where
  known : Known g h l o M d
  blank : Blank M (d + 1)
  sound : ∀ r s : Nat, M (d + 1) r s = true → Can g h l o (d + 1) ((r : Int), (s : Int))
  p2 : ∀ r s : Nat, r < n → s < 31 → M d r s = true → ∀ c b : Int, (creep g d).lo ≤ c → c ≤ (creep g d).hi → g.blo ≤ b → b ≤ g.bhi → ∀ k, k < D.length → Got g l o D d r s c b k M
  p3 : ∀ s : Nat, s < m → M d n s = true → ∀ c b : Int, (creep g d).lo ≤ c → c ≤ (creep g d).hi → g.blo ≤ b → b ≤ g.bhi → ∀ k, k < D.length → Got g l o D d n s c b k M
  p4 : ∀ c' b : Int, (creep g d).lo ≤ c' → c' < c → g.blo ≤ b → b ≤ g.bhi → ∀ k, k < D.length → Got g l o D d n m c' b k M
  p5 : ∀ b' : Int, g.blo ≤ b' → b' < b → ∀ k, k < D.length → Got g l o D d n m c b' k M
  p6 : ∀ k', k' < k → Got g l o D d n m c b k' M
end
section
variable {g : Gl} {h : List Rg} {l : List Ic} {o : Nat → Bool} {D : List Int} {d n m k : Nat} {c b : Int} {M : Nat → Nat → Nat → Bool}
theorem PP.no (p : PP g h l o D d n m c b k M) (hf : fitsB l o (d : Int) (g.base + ((n : Int) + c) - mx3 ((m : Int) - b) 0 (gI D k)) = false) : PP g h l o D d n m c b (k + 1) M :=
  ⟨p.known, p.blank, p.sound, p.p2, p.p3, p.p4, p.p5, fun k' hk' => by
    rcases Nat.lt_succ_iff_lt_or_eq.1 hk' with h1 | h1
    · exact p.p6 k' h1
    · subst h1; intro hf'; rw [hf] at hf'; cases hf'⟩
theorem PP.back (p : PP g h l o D d n m c b D.length M) : PP g h l o D d n m c (b + 1) 0 M :=
  ⟨p.known, p.blank, p.sound, p.p2, p.p3, p.p4, fun b' h1 h2 k hk => by
    rcases Int.lt_or_eq_of_le (show b' ≤ b by omega) with h3 | h3
    · exact p.p5 b' h1 h3 k hk
    · subst h3; exact p.p6 k hk, fun k hk => by omega⟩
theorem PP.creep (p : PP g h l o D d n m c b 0 M) (hb : g.bhi < b) : PP g h l o D d n m (c + 1) g.blo 0 M :=
  ⟨p.known, p.blank, p.sound, p.p2, p.p3, fun c' b' h1 h2 h3 h4 k hk => by
    rcases Int.lt_or_eq_of_le (show c' ≤ c by omega) with h5 | h5
    · exact p.p4 c' b' h1 h5 h3 h4 k hk
    · subst h5; exact p.p5 b' h3 (by omega) k hk, fun b' h1 h2 => by omega, fun k hk => by omega⟩
theorem PP.sink (p : PP g h l o D d n m c g.blo 0 M) (hc : (Go.Proofs.YtkaogjhnogkcdaaGreat.creep g d).hi < c ∨ M d n m = false) : PP g h l o D d n (m + 1) (Go.Proofs.YtkaogjhnogkcdaaGreat.creep g d).lo g.blo 0 M :=
  ⟨p.known, p.blank, p.sound, p.p2, fun s hs hM c' b' h1 h2 h3 h4 k hk => by
    rcases Nat.lt_succ_iff_lt_or_eq.1 hs with h5 | h5
    · exact p.p3 s h5 hM c' b' h1 h2 h3 h4 k hk
    · subst h5
      rcases hc with hc | hc
      · exact p.p4 c' b' h1 (by omega) h3 h4 k hk
      · rw [hc] at hM; exact absurd hM (by simp), fun c' b' h1 h2 => by omega, fun b' h1 h2 => by omega, fun k hk => by omega⟩
theorem PP.rise (p : PP g h l o D d n 31 c b 0 M) : PP g h l o D d (n + 1) 0 (Go.Proofs.YtkaogjhnogkcdaaGreat.creep g d).lo g.blo 0 M :=
  ⟨p.known, p.blank, p.sound, fun r s hr hs hM => by
    rcases Nat.lt_succ_iff_lt_or_eq.1 hr with h5 | h5
    · exact p.p2 r s h5 hs hM
    · subst h5; exact p.p3 s hs hM, fun s hs => by omega, fun c' b' h1 h2 => by omega, fun b' h1 h2 => by omega, fun k hk => by omega⟩
theorem PP.day (hok : Ok g h) (hd : d < h.length) (hD : ∀ y : Int, (∃ k, k < D.length ∧ gI D k = y) ↔ ∃ x, ((gR h d).lo ≤ x ∧ x ≤ (gR h d).hi) ∧ y = sinks g x) (p : PP g h l o D d 49 0 c b k M) : Known g h l o M (d + 1) ∧ Blank M (d + 1) :=
  ⟨known_succ hok hd hD p.known p.sound (fun r s hr hs hM => p.p2 r s hr hs hM), p.blank⟩
end
end Go.Proofs.YtkaogjhnogkcdaaGreat
end

section
namespace Go.Proofs.YtkaogjhnogkcdaaGreat
open Go.RowKit
attribute [local go_sem] Ex.cell? Ex.frozen?

structure Rel (p : Act → World → Prop) (a : Act) (W : World) : Prop where
 out : p a W
structure AS (gc : Array Value) (w : World) (M : Nat → Nat → Nat → Bool) (W : World) : Prop where
 bw : Below w.heap.size w W
 qg : Blk W w.heap.size 27 gc
 mp : MapAt W (w.heap.size + 1) M
theorem AS.below {gc : Array Value} {w : World} {M : Nat → Nat → Nat → Bool} {W W' : World} (h : AS gc w M W) (hb : Below W.heap.size W W') : AS gc w M W' := ⟨ex_trans h.bw hb, h.qg.below hb h.qg.lt, h.mp.below hb⟩
structure AD (gc : Array Value) (w : World) (M : Nat → Nat → Nat → Bool) (pc : Nat) (cl chi : Int) (v : Value) (D : List Int) (W : World) : Prop where
 ah : AS gc w M W
 qc : Blk W pc 25 #[.int .i64 cl, .int .i64 chi]
 ow : W.ownsRow (w.heap.size + 1 + 1) 3 1 v D.length (D.map (Value.int .i64))
section
variable {gc : Array Value} {w : World} {M : Nat → Nat → Nat → Bool} {pc : Nat} {cl chi : Int} {v : Value} {D : List Int} {W W' : World}
theorem AD.below (h : AD gc w M pc cl chi v D W) (hb : Below W.heap.size W W') : AD gc w M pc cl chi v D W' := ⟨h.ah.below hb, h.qc.below hb h.qc.lt, own_below h.ow hb⟩
theorem AD.set (h : AD gc w M pc cl chi v D W) {d r s : Nat} (hd : d < 17) (hr : r < 52) (hs : s < 31) : AD gc w (upd M d r s) pc cl chi v D (W.setCell ⟨w.heap.size + 1, d * 1612 + r * 31 + s, none⟩ (.bool true)) := by
 have hf : Fr (fun b => b = w.heap.size + 1) W (W.setCell ⟨w.heap.size + 1, d * 1612 + r * 31 + s, none⟩ (.bool true)) := (Fr.refl (fun b => b = w.heap.size + 1) W).andSet rfl
 obtain ⟨cs, hb, _⟩ := h.ah.mp
 exact ⟨⟨hf.toBelow h.ah.bw h.ah.bw.size (fun x hx => by omega), h.ah.qg.fr hf (by omega), h.ah.mp.set hd hr hs⟩, h.qc.fr hf (fun e => blk_ne h.qc hb (by decide) e), own_fr h.ow hf (fun b hb' e => own_blkne h.ow hb (by decide) (e ▸ hb'))⟩
end
set_option maxRecDepth 1000000 in
theorem zc_ok : chkF Tryz.zeroCells128.toList 27404 = true := by kernel_rfl
theorem MapAt.first (W : World) : MapAt (W.alloc (.cells (Tryz.zeroCells128.setIfInBounds 0 (.bool true)) 128)) W.heap.size (upd (fun _ _ _ => false) 0 0 0) := by
 obtain ⟨h1, h2⟩ := chkF_iff zc_ok
 have h1' : Tryz.zeroCells128.size = 27404 := by rw [← Array.length_toList]; exact h1
 generalize Tryz.zeroCells128 = zc at *
 refine ⟨_, Blk.new _ _ _, by simpa using h1', fun d r s hd hr hs => ?_⟩
 rw [Array.getElem?_setIfInBounds]
 by_cases he : d = 0 ∧ r = 0 ∧ s = 0
 ·
  obtain ⟨rfl, rfl, rfl⟩ := he
  rw [if_pos (by omega), if_pos (by omega), upd_self]
 ·
  rw [if_neg (by omega)]
  have hk : d * 1612 + r * 31 + s < zc.size := by omega
  have e := h2 zc[d * 1612 + r * 31 + s] (by simp)
  rw [Array.getElem?_eq_getElem hk, e]
  unfold upd
  rw [if_neg he]
set_option maxRecDepth 100000 in
def DQ (g : Gl) (Ab Ad Ah Ai Ao : Option Addr) (cb cd ch ci co : Nat) (h : List Rg) (l : List Ic) (out : List Int) (w : World) (d : Nat) (M : Nat → Nat → Nat → Bool) (e : Exit) (a' : Act) (W' : World) : Prop :=
 e = .normal ∧ ∃ pc Ad' cd' D, AD #[.int .i64 g.base, .slice Ab g.bands.length cb, .slice Ad g.depths.length cd, .int .i64 g.blo, .int .i64 g.bhi] w M pc (creepTo g.bands (d : Int) g.bands.length).lo (creepTo g.bands (d : Int) g.bands.length).hi (.slice Ad' (D : List Int).length cd') D W' ∧ Hid (DeepIs g (gR h d).lo ((gR h d).hi - (gR h d).lo + 1).toNat D) ∧ ∃ u : Nat → Value, a' = ⟨List.toArray (u 0 :: .slice Ah h.length ch :: .slice Ai l.length ci :: .slice Ao out.length co :: .pointer (some ⟨w.heap.size, 0, none⟩) :: u 5 :: u 6 :: u 7 :: u 8 :: .pointer (some ⟨w.heap.size + 1, 0, none⟩) :: .int .i64 (d : Int) :: .pointer (some ⟨pc, 0, none⟩) :: .slice Ad' D.length cd' :: u 13 :: u 14 :: u 15 :: u 16 :: u 17 :: u 18 :: u 19 :: u 20 :: u 21 :: u 22 :: u 23 :: u 24 :: u 25 :: u 26 :: u 27 :: u 28 :: u 29 :: u 30 :: u 31 :: u 32 :: u 33 :: u 34 :: u 35 :: u 36 :: u 37 :: u 38 :: u 39 :: u 40 :: u 41 :: u 42 :: u 43 :: u 44 :: u 45 :: u 46 :: u 47 :: u 48 :: u 49 :: u 50 :: u 51 :: u 52 :: u 53 :: u 54 :: u 55 :: u 56 :: u 57 :: u 58 :: u 59 :: u 60 :: u 61 :: u 62 :: u 63 :: u 64 :: u 65 :: u 66 :: u 67 :: u 68 :: u 69 :: u 70 :: u 71 :: u 72 :: u 73 :: u 74 :: u 75 :: u 76 :: u 77 :: u 78 :: u 79 :: u 80 :: u 81 :: u 82 :: u 83 :: u 84 :: u 85 :: u 86 :: u 87 :: u 88 :: u 89 :: u 90 :: u 91 :: u 92 :: u 93 :: u 94 :: u 95 :: u 96 :: u 97 :: u 98 :: u 99 :: u 100 :: u 101 :: u 102 :: u 103 :: u 104 :: u 105 :: u 106 :: []), []⟩
end Go.Proofs.YtkaogjhnogkcdaaGreat
end

section
namespace Go.Proofs.YtkaogjhnogkcdaaGreat
open Go.RowKit
attribute [local go_sem] Ex.cell? Ex.frozen?

theorem endOf_mod (r : Rg) (b c : Nat) (h : b % 2 = c % 2) : endOf r b = endOf r c := by unfold endOf; rw [h]
theorem enK_at (t : Tb) {i j k m : Nat} (hi : i < 2) (hj : j < 2) (hk : k < 2) (hm : m < 2) : enK t (8 * i + 4 * j + 2 * k + m) = ⟨endOf t.k i, endOf t.lag j, endOf t.sq k⟩ := by
 unfold enK
 rw [endOf_mod t.k _ i (by omega), endOf_mod t.lag _ j (by omega), endOf_mod t.sq _ k (by omega)]
theorem spanAt_at (t : Tb) (r : Rd) {i j k m : Nat} (hi : i < 2) (hj : j < 2) (hk : k < 2) (hm : m < 2) : spanAt t r (8 * i + 4 * j + 2 * k + m) = spanP r ⟨endOf t.k i, endOf t.lag j, endOf t.sq k⟩ (endOf r.rate m) := by
 unfold spanAt
 rw [enK_at t hi hj hk hm, endOf_mod r.rate _ m (by omega)]
theorem two_cell {W : World} {p : Nat} {x : Rg} (h : Blk W p 3 #[.int .i64 x.lo, .int .i64 x.hi]) {i : Nat} (hi : i < 2) : W.cell? ⟨p, i, none⟩ = some (.int .i64 (endOf x i)) := by
 rw [h.cell]
 rcases (show i = 0 ∨ i = 1 by omega) with rfl | rfl <;> rfl
structure BdW (lk : Array Value) (f : Nat → Rg) (w : World) (p1 pr pf po n : Nat) (W : World) : Prop where
 b : Below w.heap.size w W
 q1 : Blk W p1 170 lk
 qr : Blk W pr 41 #[.int .i64 0, .int .i64 0]
 qf : Blk W pf 4 #[.bool (decide (n = 0))]
 qo : Blk W po 41 #[.int .i64 (accTo f n).lo, .int .i64 (accTo f n).hi]
 of : w.heap.size ≤ pf
 oo : w.heap.size ≤ po
 ob : w.heap.size ≤ pr
 n1 : ¬ (p1 = pf ∨ p1 = po)
 n2 : ¬ (pr = pf ∨ pr = po)
 n3 : pf ≠ po
section
variable {lk : Array Value} {f : Nat → Rg} {w : World} {p1 pr pf po n : Nat} {W W1 W2 : World}
theorem BdW.go (h : BdW lk f w p1 pr pf po n W) (hb : Below W.heap.size W W1) : BdW lk f w p1 pr pf po n W1 := ⟨ex_trans h.b hb, h.q1.below hb h.q1.lt, h.qr.below hb h.qr.lt, h.qf.below hb h.qf.lt, h.qo.below hb h.qo.lt, h.of, h.oo, h.ob, h.n1, h.n2, h.n3⟩
theorem acc_step (f : Nat → Rg) (n : Nat) : min (fstI (decide (n = 0)) (f n).lo (accTo f n).lo) (f n).lo = (accTo f (n + 1)).lo ∧ max (fstI (decide (n = 0)) (f n).hi (accTo f n).hi) (f n).hi = (accTo f (n + 1)).hi := by
 rw [accTo]
 by_cases h : n = 0
 ·
  subst h; simp [fstI]
 ·
  simp [fstI, h]
theorem BdW.add (h : BdW lk f w p1 pr pf po n W) (x : Rg) (hx : x = f n) (h1 : Blk W2 pf 4 #[.bool false]) (h2 : Blk W2 po 41 #[.int .i64 (min (fstI (decide (n = 0)) x.lo (accTo f n).lo) x.lo), .int .i64 (max (fstI (decide (n = 0)) x.hi (accTo f n).hi) x.hi)])
  (hf : Fr (fun k => k = pf ∨ k = po) W W2) : BdW lk f w p1 pr pf po (n + 1) W2 := by
 subst hx
 obtain ⟨e1, e2⟩ := acc_step f n
 rw [e1, e2] at h2
 exact ⟨hf.toBelow h.b h.b.size (fun x hx => by rcases hx with rfl | rfl; exact h.of; exact h.oo), h.q1.fr hf h.n1, h.qr.fr hf h.n2, by rw [show decide (n + 1 = 0) = false by simp]; exact h1, h2, h.of, h.oo, h.ob, h.n1, h.n2, h.n3⟩
end
set_option maxRecDepth 100000 in
set_option maxHeartbeats 6400000 in
theorem sm_bounds (t : Tb) (Ab Ad : Option Addr) (cb cd : Nat) (r : Rd) (w : World) (ht : TbBd t) (hr : RdBd r) :
  Calls Tryz.prog 91 #[.agg #[.int .i64 t.g.base, .slice Ab t.g.bands.length cb, .slice Ad t.g.depths.length cd, .int .i64 t.g.blo, .int .i64 t.g.bhi, .int .i64 t.k.lo, .int .i64 t.k.hi, .int .i64 t.lag.lo, .int .i64 t.lag.hi, .int .i64 t.sq.lo, .int .i64 t.sq.hi, .int .i64 t.term, .int .i64 r.day, .int .i64 r.shown, .int .i64 r.err, .int .i64 r.bare, .int .i64 r.air.lo, .int .i64 r.air.hi, .int .i64 r.rate.lo, .int .i64 r.rate.hi, .int .i64 r.deep, .bool r.broken]] w fun e w' => e = .returned (.agg #[.int .i64 (bndP t r).lo, .int .i64 (bndP t r).hi]) ∧ Below w.heap.size w w' := by
 have HB : BdW #[.int .i64 t.g.base, .slice Ab t.g.bands.length cb, .slice Ad t.g.depths.length cd, .int .i64 t.g.blo, .int .i64 t.g.bhi, .int .i64 t.k.lo, .int .i64 t.k.hi, .int .i64 t.lag.lo, .int .i64 t.lag.hi, .int .i64 t.sq.lo, .int .i64 t.sq.hi, .int .i64 t.term, .int .i64 r.day, .int .i64 r.shown, .int .i64 r.err, .int .i64 r.bare, .int .i64 r.air.lo, .int .i64 r.air.hi, .int .i64 r.rate.lo, .int .i64 r.rate.hi, .int .i64 r.deep, .bool r.broken] (spanAt t r) w (w.heap.size) (w.heap.size + 1) (w.heap.size + 1 + 1) (w.heap.size + 1 + 1 + 1) 0 ((((w.alloc (.cells #[.int .i64 t.g.base, .slice Ab t.g.bands.length cb, .slice Ad t.g.depths.length cd, .int .i64 t.g.blo, .int .i64 t.g.bhi, .int .i64 t.k.lo, .int .i64 t.k.hi, .int .i64 t.lag.lo, .int .i64 t.lag.hi, .int .i64 t.sq.lo, .int .i64 t.sq.hi, .int .i64 t.term, .int .i64 r.day, .int .i64 r.shown, .int .i64 r.err, .int .i64 r.bare, .int .i64 r.air.lo, .int .i64 r.air.hi, .int .i64 r.rate.lo, .int .i64 r.rate.hi, .int .i64 r.deep, .bool r.broken] 170)).alloc (.cells #[.int .i64 0, .int .i64 0] 41)).alloc (.cells #[.bool true] 4)).alloc (.cells #[.int .i64 0, .int .i64 0] 41)) := ⟨ex_alloc (ex_alloc (ex_alloc (ex_alloc (Below.refl w.heap.size w) (.cells #[.int .i64 t.g.base, .slice Ab t.g.bands.length cb, .slice Ad t.g.depths.length cd, .int .i64 t.g.blo, .int .i64 t.g.bhi, .int .i64 t.k.lo, .int .i64 t.k.hi, .int .i64 t.lag.lo, .int .i64 t.lag.hi, .int .i64 t.sq.lo, .int .i64 t.sq.hi, .int .i64 t.term, .int .i64 r.day, .int .i64 r.shown, .int .i64 r.err, .int .i64 r.bare, .int .i64 r.air.lo, .int .i64 r.air.hi, .int .i64 r.rate.lo, .int .i64 r.rate.hi, .int .i64 r.deep, .bool r.broken] 170)) (.cells #[.int .i64 0, .int .i64 0] 41)) (.cells #[.bool true] 4)) (.cells #[.int .i64 0, .int .i64 0] 41), (show Blk ((((w.alloc (.cells #[.int .i64 t.g.base, .slice Ab t.g.bands.length cb, .slice Ad t.g.depths.length cd, .int .i64 t.g.blo, .int .i64 t.g.bhi, .int .i64 t.k.lo, .int .i64 t.k.hi, .int .i64 t.lag.lo, .int .i64 t.lag.hi, .int .i64 t.sq.lo, .int .i64 t.sq.hi, .int .i64 t.term, .int .i64 r.day, .int .i64 r.shown, .int .i64 r.err, .int .i64 r.bare, .int .i64 r.air.lo, .int .i64 r.air.hi, .int .i64 r.rate.lo, .int .i64 r.rate.hi, .int .i64 r.deep, .bool r.broken] 170)).alloc (.cells #[.int .i64 0, .int .i64 0] 41)).alloc (.cells #[.bool true] 4)).alloc (.cells #[.int .i64 0, .int .i64 0] 41)) (w.heap.size) 170 #[.int .i64 t.g.base, .slice Ab t.g.bands.length cb, .slice Ad t.g.depths.length cd, .int .i64 t.g.blo, .int .i64 t.g.bhi, .int .i64 t.k.lo, .int .i64 t.k.hi, .int .i64 t.lag.lo, .int .i64 t.lag.hi, .int .i64 t.sq.lo, .int .i64 t.sq.hi, .int .i64 t.term, .int .i64 r.day, .int .i64 r.shown, .int .i64 r.err, .int .i64 r.bare, .int .i64 r.air.lo, .int .i64 r.air.hi, .int .i64 r.rate.lo, .int .i64 r.rate.hi, .int .i64 r.deep, .bool r.broken] from (((Blk.new _ _ _).alloc _).alloc _).alloc _), (show Blk ((((w.alloc (.cells #[.int .i64 t.g.base, .slice Ab t.g.bands.length cb, .slice Ad t.g.depths.length cd, .int .i64 t.g.blo, .int .i64 t.g.bhi, .int .i64 t.k.lo, .int .i64 t.k.hi, .int .i64 t.lag.lo, .int .i64 t.lag.hi, .int .i64 t.sq.lo, .int .i64 t.sq.hi, .int .i64 t.term, .int .i64 r.day, .int .i64 r.shown, .int .i64 r.err, .int .i64 r.bare, .int .i64 r.air.lo, .int .i64 r.air.hi, .int .i64 r.rate.lo, .int .i64 r.rate.hi, .int .i64 r.deep, .bool r.broken] 170)).alloc (.cells #[.int .i64 0, .int .i64 0] 41)).alloc (.cells #[.bool true] 4)).alloc (.cells #[.int .i64 0, .int .i64 0] 41)) (w.heap.size + 1) 41 #[.int .i64 0, .int .i64 0] from ((Blk.new' _ _ _ (by simp)).alloc _).alloc _), (show Blk ((((w.alloc (.cells #[.int .i64 t.g.base, .slice Ab t.g.bands.length cb, .slice Ad t.g.depths.length cd, .int .i64 t.g.blo, .int .i64 t.g.bhi, .int .i64 t.k.lo, .int .i64 t.k.hi, .int .i64 t.lag.lo, .int .i64 t.lag.hi, .int .i64 t.sq.lo, .int .i64 t.sq.hi, .int .i64 t.term, .int .i64 r.day, .int .i64 r.shown, .int .i64 r.err, .int .i64 r.bare, .int .i64 r.air.lo, .int .i64 r.air.hi, .int .i64 r.rate.lo, .int .i64 r.rate.hi, .int .i64 r.deep, .bool r.broken] 170)).alloc (.cells #[.int .i64 0, .int .i64 0] 41)).alloc (.cells #[.bool true] 4)).alloc (.cells #[.int .i64 0, .int .i64 0] 41)) (w.heap.size + 1 + 1) 4 #[.bool true] from (Blk.new' _ _ _ (by simp)).alloc _), (show Blk ((((w.alloc (.cells #[.int .i64 t.g.base, .slice Ab t.g.bands.length cb, .slice Ad t.g.depths.length cd, .int .i64 t.g.blo, .int .i64 t.g.bhi, .int .i64 t.k.lo, .int .i64 t.k.hi, .int .i64 t.lag.lo, .int .i64 t.lag.hi, .int .i64 t.sq.lo, .int .i64 t.sq.hi, .int .i64 t.term, .int .i64 r.day, .int .i64 r.shown, .int .i64 r.err, .int .i64 r.bare, .int .i64 r.air.lo, .int .i64 r.air.hi, .int .i64 r.rate.lo, .int .i64 r.rate.hi, .int .i64 r.deep, .bool r.broken] 170)).alloc (.cells #[.int .i64 0, .int .i64 0] 41)).alloc (.cells #[.bool true] 4)).alloc (.cells #[.int .i64 0, .int .i64 0] 41)) (w.heap.size + 1 + 1 + 1) 41 #[.int .i64 0, .int .i64 0] from Blk.new' _ _ _ (by simp)), by omega, by omega, by omega, by omega, by omega, by omega⟩
 go_enter Tryz.func91, Tryz.ntmps91
 go_upto_region 3 with fail
 show Code.wp _ _ _ _ ((((w.alloc (.cells #[.int .i64 t.g.base, .slice Ab t.g.bands.length cb, .slice Ad t.g.depths.length cd, .int .i64 t.g.blo, .int .i64 t.g.bhi, .int .i64 t.k.lo, .int .i64 t.k.hi, .int .i64 t.lag.lo, .int .i64 t.lag.hi, .int .i64 t.sq.lo, .int .i64 t.sq.hi, .int .i64 t.term, .int .i64 r.day, .int .i64 r.shown, .int .i64 r.err, .int .i64 r.bare, .int .i64 r.air.lo, .int .i64 r.air.hi, .int .i64 r.rate.lo, .int .i64 r.rate.hi, .int .i64 r.deep, .bool r.broken] 170)).alloc (.cells #[.int .i64 0, .int .i64 0] 41)).alloc (.cells #[.bool true] 4)).alloc (.cells #[.int .i64 0, .int .i64 0] 41))
 obtain ⟨p1, hp1⟩ : ∃ p, w.heap.size = p := ⟨_, rfl⟩
 obtain ⟨pr, hpr⟩ : ∃ p, w.heap.size + 1 = p := ⟨_, rfl⟩
 obtain ⟨pf, hpf⟩ : ∃ p, w.heap.size + 1 + 1 = p := ⟨_, rfl⟩
 obtain ⟨po, hpo⟩ : ∃ p, w.heap.size + 1 + 1 + 1 = p := ⟨_, rfl⟩
 rw [hpo] at HB ⊢
 rw [hpf] at HB ⊢
 rw [hpr] at HB ⊢
 rw [hp1] at HB ⊢
 clear hpo hpf hpr hp1
 generalize (((w.alloc (.cells #[.int .i64 t.g.base, .slice Ab t.g.bands.length cb, .slice Ad t.g.depths.length cd, .int .i64 t.g.blo, .int .i64 t.g.bhi, .int .i64 t.k.lo, .int .i64 t.k.hi, .int .i64 t.lag.lo, .int .i64 t.lag.hi, .int .i64 t.sq.lo, .int .i64 t.sq.hi, .int .i64 t.term, .int .i64 r.day, .int .i64 r.shown, .int .i64 r.err, .int .i64 r.bare, .int .i64 r.air.lo, .int .i64 r.air.hi, .int .i64 r.rate.lo, .int .i64 r.rate.hi, .int .i64 r.deep, .bool r.broken] 170)).alloc (.cells #[.int .i64 0, .int .i64 0] 41)).alloc (.cells #[.bool true] 4)).alloc (.cells #[.int .i64 0, .int .i64 0] 41) = V at *
 have g5 := HB.q1.cell 5
 have g6 := HB.q1.cell 6
 have lg := HB.q1.lt
 simp at g5 g6
 have NB := ex_alloc (Below.refl V.heap.size V) (.cells #[.int .i64 t.k.lo, .int .i64 t.k.hi] 3)
 have z1 : Blk (V.alloc (.cells #[.int .i64 t.k.lo, .int .i64 t.k.hi] 3)) V.heap.size 3 #[.int .i64 t.k.lo, .int .i64 t.k.hi] := Blk.new _ _ _
 have hn1 : ¬ (V.heap.size = pf ∨ V.heap.size = po) := by have := HB.qf.lt; have := HB.qo.lt; omega
 replace HB := HB.go NB
 obtain ⟨s1, hs1⟩ : ∃ p, V.heap.size = p := ⟨_, rfl⟩
 rw [hs1] at z1 hn1
 go_wp2_with fail
 clear NB g5 g6 lg hs1
 generalize V.alloc (.cells #[.int .i64 t.k.lo, .int .i64 t.k.hi] 3) = V1 at *
 refine wp_loop (fun a W => Rel (fun a W => ∃ i : Nat, i ≤ 2 ∧ BdW #[.int .i64 t.g.base, .slice Ab t.g.bands.length cb, .slice Ad t.g.depths.length cd, .int .i64 t.g.blo, .int .i64 t.g.bhi, .int .i64 t.k.lo, .int .i64 t.k.hi, .int .i64 t.lag.lo, .int .i64 t.lag.hi, .int .i64 t.sq.lo, .int .i64 t.sq.hi, .int .i64 t.term, .int .i64 r.day, .int .i64 r.shown, .int .i64 r.err, .int .i64 r.bare, .int .i64 r.air.lo, .int .i64 r.air.hi, .int .i64 r.rate.lo, .int .i64 r.rate.hi, .int .i64 r.deep, .bool r.broken] (spanAt t r) w p1 pr pf po (8 * i) W ∧ Blk W s1 3 #[.int .i64 t.k.lo, .int .i64 t.k.hi] ∧ ∃ u : Nat → Value, a = ⟨List.toArray (u 0 :: .pointer (some ⟨p1, 0, none⟩) :: .pointer (some ⟨pr, 0, none⟩) :: .pointer (some ⟨pf, 0, none⟩) :: .pointer (some ⟨po, 0, none⟩) :: .func (.func 120) #[] #[.pointer (some ⟨pf, 0, none⟩), .pointer (some ⟨po, 0, none⟩)] :: u 6 :: u 7 :: u 8 :: u 9 :: u 10 :: u 11 :: u 12 :: u 13 :: u 14 :: u 15 :: u 16 :: u 17 :: u 18 :: u 19 :: u 20 :: .slice (some ⟨s1, 0, none⟩) 2 2 :: .int .i64 2 :: .int .i64 (i : Int) :: u 24 :: u 25 :: u 26 :: u 27 :: u 28 :: u 29 :: u 30 :: u 31 :: u 32 :: u 33 :: u 34 :: u 35 :: u 36 :: u 37 :: u 38 :: u 39 :: u 40 :: u 41 :: u 42 :: u 43 :: u 44 :: u 45 :: u 46 :: u 47 :: u 48 :: u 49 :: u 50 :: u 51 :: u 52 :: u 53 :: u 54 :: u 55 :: u 56 :: u 57 :: u 58 :: u 59 :: u 60 :: u 61 :: u 62 :: u 63 :: u 64 :: u 65 :: u 66 :: u 67 :: u 68 :: u 69 :: u 70 :: u 71 :: u 72 :: u 73 :: u 74 :: u 75 :: u 76 :: u 77 :: u 78 :: u 79 :: u 80 :: u 81 :: u 82 :: []), []⟩) a W)
  (fun a _ => 2 - (intOf (a.tmps.getD 23 undef)).toNat) ⟨⟨0, by omega, HB, z1, exFrame (by kernel_rfl)⟩⟩ ?_
 clear HB z1 V1
 rintro a W ⟨⟨i, hi, HB, z1, u, rfl⟩⟩
 by_cases hlt : i < 2
 ·
  have c1 := two_cell z1 hlt
  have g7 := HB.q1.cell 7
  have g8 := HB.q1.cell 8
  have lg := HB.q1.lt
  have ls := z1.lt
  simp at g7 g8
  have NB := ex_alloc (Below.refl W.heap.size W) (.cells #[.int .i64 t.lag.lo, .int .i64 t.lag.hi] 3)
  have z2 : Blk (W.alloc (.cells #[.int .i64 t.lag.lo, .int .i64 t.lag.hi] 3)) W.heap.size 3 #[.int .i64 t.lag.lo, .int .i64 t.lag.hi] := Blk.new _ _ _
  have hn2 : ¬ (W.heap.size = pf ∨ W.heap.size = po) := by have := HB.qf.lt; have := HB.qo.lt; omega
  replace HB := HB.go NB
  replace z1 := z1.below NB z1.lt
  obtain ⟨s2, hs2⟩ : ∃ p, W.heap.size = p := ⟨_, rfl⟩
  rw [hs2] at z2 hn2
  go_wp2_with fail
  clear NB g7 g8 lg hs2 c1 ls
  generalize W.alloc (.cells #[.int .i64 t.lag.lo, .int .i64 t.lag.hi] 3) = W1 at *
  refine wp_loop (fun a W => Rel (fun a W => ∃ j : Nat, j ≤ 2 ∧ BdW #[.int .i64 t.g.base, .slice Ab t.g.bands.length cb, .slice Ad t.g.depths.length cd, .int .i64 t.g.blo, .int .i64 t.g.bhi, .int .i64 t.k.lo, .int .i64 t.k.hi, .int .i64 t.lag.lo, .int .i64 t.lag.hi, .int .i64 t.sq.lo, .int .i64 t.sq.hi, .int .i64 t.term, .int .i64 r.day, .int .i64 r.shown, .int .i64 r.err, .int .i64 r.bare, .int .i64 r.air.lo, .int .i64 r.air.hi, .int .i64 r.rate.lo, .int .i64 r.rate.hi, .int .i64 r.deep, .bool r.broken] (spanAt t r) w p1 pr pf po (8 * i + 4 * j) W ∧ Blk W s1 3 #[.int .i64 t.k.lo, .int .i64 t.k.hi] ∧ Blk W s2 3 #[.int .i64 t.lag.lo, .int .i64 t.lag.hi] ∧ ∃ u : Nat → Value, a = ⟨List.toArray (u 0 :: .pointer (some ⟨p1, 0, none⟩) :: .pointer (some ⟨pr, 0, none⟩) :: .pointer (some ⟨pf, 0, none⟩) :: .pointer (some ⟨po, 0, none⟩) :: .func (.func 120) #[] #[.pointer (some ⟨pf, 0, none⟩), .pointer (some ⟨po, 0, none⟩)] :: u 6 :: .int .i64 (endOf t.k i) :: u 8 :: u 9 :: u 10 :: u 11 :: u 12 :: u 13 :: u 14 :: u 15 :: u 16 :: u 17 :: u 18 :: u 19 :: u 20 :: .slice (some ⟨s1, 0, none⟩) 2 2 :: .int .i64 2 :: .int .i64 (i : Int) :: u 24 :: u 25 :: u 26 :: u 27 :: u 28 :: u 29 :: u 30 :: u 31 :: u 32 :: u 33 :: u 34 :: .slice (some ⟨s2, 0, none⟩) 2 2 :: .int .i64 2 :: .int .i64 (j : Int) :: u 38 :: u 39 :: u 40 :: u 41 :: u 42 :: u 43 :: u 44 :: u 45 :: u 46 :: u 47 :: u 48 :: u 49 :: u 50 :: u 51 :: u 52 :: u 53 :: u 54 :: u 55 :: u 56 :: u 57 :: u 58 :: u 59 :: u 60 :: u 61 :: u 62 :: u 63 :: u 64 :: u 65 :: u 66 :: u 67 :: u 68 :: u 69 :: u 70 :: u 71 :: u 72 :: u 73 :: u 74 :: u 75 :: u 76 :: u 77 :: u 78 :: u 79 :: u 80 :: u 81 :: u 82 :: []), []⟩) a W)
   (fun a _ => 2 - (intOf (a.tmps.getD 37 undef)).toNat) ⟨⟨0, by omega, HB, z1, z2, exFrame (by kernel_rfl)⟩⟩ ?_
  clear HB z1 z2 W1
  rintro a W ⟨⟨j, hj, HB, z1, z2, u, rfl⟩⟩
  by_cases hlj : j < 2
  ·
   have c2 := two_cell z2 hlj
   have g9 := HB.q1.cell 9
   have g10 := HB.q1.cell 10
   have lg := HB.q1.lt
   have ls := z2.lt
   simp at g9 g10
   have NB := ex_alloc (Below.refl W.heap.size W) (.cells #[.int .i64 t.sq.lo, .int .i64 t.sq.hi] 3)
   have z3 : Blk (W.alloc (.cells #[.int .i64 t.sq.lo, .int .i64 t.sq.hi] 3)) W.heap.size 3 #[.int .i64 t.sq.lo, .int .i64 t.sq.hi] := Blk.new _ _ _
   have hn3 : ¬ (W.heap.size = pf ∨ W.heap.size = po) := by have := HB.qf.lt; have := HB.qo.lt; omega
   replace HB := HB.go NB
   replace z1 := z1.below NB z1.lt
   replace z2 := z2.below NB z2.lt
   obtain ⟨s3, hs3⟩ : ∃ p, W.heap.size = p := ⟨_, rfl⟩
   rw [hs3] at z3 hn3
   go_wp2_with fail
   clear NB g9 g10 lg hs3 c2 ls
   generalize W.alloc (.cells #[.int .i64 t.sq.lo, .int .i64 t.sq.hi] 3) = W1 at *
   refine wp_loop (fun a W => Rel (fun a W => ∃ k : Nat, k ≤ 2 ∧ BdW #[.int .i64 t.g.base, .slice Ab t.g.bands.length cb, .slice Ad t.g.depths.length cd, .int .i64 t.g.blo, .int .i64 t.g.bhi, .int .i64 t.k.lo, .int .i64 t.k.hi, .int .i64 t.lag.lo, .int .i64 t.lag.hi, .int .i64 t.sq.lo, .int .i64 t.sq.hi, .int .i64 t.term, .int .i64 r.day, .int .i64 r.shown, .int .i64 r.err, .int .i64 r.bare, .int .i64 r.air.lo, .int .i64 r.air.hi, .int .i64 r.rate.lo, .int .i64 r.rate.hi, .int .i64 r.deep, .bool r.broken] (spanAt t r) w p1 pr pf po (8 * i + 4 * j + 2 * k) W ∧ Blk W s1 3 #[.int .i64 t.k.lo, .int .i64 t.k.hi] ∧ Blk W s2 3 #[.int .i64 t.lag.lo, .int .i64 t.lag.hi] ∧ Blk W s3 3 #[.int .i64 t.sq.lo, .int .i64 t.sq.hi] ∧ ∃ u : Nat → Value, a = ⟨List.toArray (u 0 :: .pointer (some ⟨p1, 0, none⟩) :: .pointer (some ⟨pr, 0, none⟩) :: .pointer (some ⟨pf, 0, none⟩) :: .pointer (some ⟨po, 0, none⟩) :: .func (.func 120) #[] #[.pointer (some ⟨pf, 0, none⟩), .pointer (some ⟨po, 0, none⟩)] :: u 6 :: .int .i64 (endOf t.k i) :: u 8 :: .int .i64 (endOf t.lag j) :: u 10 :: u 11 :: u 12 :: u 13 :: u 14 :: u 15 :: u 16 :: u 17 :: u 18 :: u 19 :: u 20 :: .slice (some ⟨s1, 0, none⟩) 2 2 :: .int .i64 2 :: .int .i64 (i : Int) :: u 24 :: u 25 :: u 26 :: u 27 :: u 28 :: u 29 :: u 30 :: u 31 :: u 32 :: u 33 :: u 34 :: .slice (some ⟨s2, 0, none⟩) 2 2 :: .int .i64 2 :: .int .i64 (j : Int) :: u 38 :: u 39 :: u 40 :: u 41 :: u 42 :: u 43 :: u 44 :: u 45 :: u 46 :: u 47 :: u 48 :: .slice (some ⟨s3, 0, none⟩) 2 2 :: .int .i64 2 :: .int .i64 (k : Int) :: u 52 :: u 53 :: u 54 :: u 55 :: u 56 :: u 57 :: u 58 :: u 59 :: u 60 :: u 61 :: u 62 :: u 63 :: u 64 :: u 65 :: u 66 :: u 67 :: u 68 :: u 69 :: u 70 :: u 71 :: u 72 :: u 73 :: u 74 :: u 75 :: u 76 :: u 77 :: u 78 :: u 79 :: u 80 :: u 81 :: u 82 :: []), []⟩) a W)
    (fun a _ => 2 - (intOf (a.tmps.getD 51 undef)).toNat) ⟨⟨0, by omega, HB, z1, z2, z3, exFrame (by kernel_rfl)⟩⟩ ?_
   clear HB z1 z2 z3 W1
   rintro a W ⟨⟨k, hk, HB, z1, z2, z3, u, rfl⟩⟩
   by_cases hlk : k < 2
   ·
    have c3 := two_cell z3 hlk
    have g18 := HB.q1.cell 18
    have g19 := HB.q1.cell 19
    have lg := HB.q1.lt
    have ls := z3.lt
    simp at g18 g19
    have HK : KiBd ⟨endOf t.k i, endOf t.lag j, endOf t.sq k⟩ := by
     have := enK_in ht (8 * i + 4 * j + 2 * k + 0)
     rw [enK_at t hlt hlj hlk (by omega)] at this
     exact this.bd ht
    have hr1 : -20 ≤ r.rate.lo ∧ r.rate.lo ≤ 20 := by have := hr.rate; omega
    have hr2 : -20 ≤ r.rate.hi ∧ r.rate.hi ≤ 20 := by have := hr.rate; omega
    have E1 := (spanAt_at t r hlt hlj hlk (show 0 < 2 by omega)).symm
    have E2 := (spanAt_at t r hlt hlj hlk (show 1 < 2 by omega)).symm
    have HE1 := Lib.hid E1
    have HE2 := Lib.hid E2
    clear E1 E2
    go_wp2_with (refine pause_at 56 rfl ?_)
    refine Paused.mk ?_
    refine wpList_load_row rfl 170 _ rfl _ rfl 170 _ (0, 0) _ (HB.q1) Tryz.underlying170 rfl (by kernel_rfl) ?_
    go_wp2_with fail
    refine (sm_span t Ab Ad cb cd r ⟨endOf t.k i, endOf t.lag j, endOf t.sq k⟩ r.rate.lo _ hr HK hr1).mono ?_
    rintro e Y1 ⟨rfl, hY1⟩
    replace HB := HB.go hY1
    replace z1 := z1.below hY1 z1.lt
    replace z2 := z2.below hY1 z2.lt
    replace z3 := z3.below hY1 z3.lt
    go_wp2_with fail
    refine (sm_add _ _ _ _ _ pf po _ HB.n3 HB.qf HB.qo).mono ?_
    rintro e Z1 ⟨rfl, hf1, ho1, hF1⟩
    replace HB := HB.add _ HE1.out hf1 ho1 hF1
    replace z1 := z1.fr hF1 hn1
    replace z2 := z2.fr hF1 hn2
    replace z3 := z3.fr hF1 hn3
    clear hf1 ho1
    clear g18 g19 lg ls c3
    have g18 := HB.q1.cell 18
    have g19 := HB.q1.cell 19
    have lg := HB.q1.lt
    simp at g18 g19
    go_wp2_with (refine pause_at 68 rfl ?_)
    refine Paused.mk ?_
    refine wpList_load_row rfl 170 _ rfl _ rfl 170 _ (0, 0) _ (HB.q1) Tryz.underlying170 rfl (by kernel_rfl) ?_
    go_wp2_with fail
    refine (sm_span t Ab Ad cb cd r ⟨endOf t.k i, endOf t.lag j, endOf t.sq k⟩ r.rate.hi _ hr HK hr2).mono ?_
    rintro e Y2 ⟨rfl, hY2⟩
    replace HB := HB.go hY2
    replace z1 := z1.below hY2 z1.lt
    replace z2 := z2.below hY2 z2.lt
    replace z3 := z3.below hY2 z3.lt
    go_wp2_with fail
    refine (sm_add _ _ _ _ _ pf po _ HB.n3 HB.qf HB.qo).mono ?_
    rintro e Z2 ⟨rfl, hf1, ho1, hF1⟩
    replace HB := HB.add _ HE2.out hf1 ho1 hF1
    replace z1 := z1.fr hF1 hn1
    replace z2 := z2.fr hF1 hn2
    replace z3 := z3.fr hF1 hn3
    clear hf1 ho1
    go_wp2_with fail
    refine ⟨⟨⟨k + 1, by omega, HB, z1, z2, z3, exFrame (by kernel_rfl)⟩⟩, ?_⟩
    show 2 - (intOf (.int .i64 ((k : Int) + 1))).toNat < 2 - (intOf (.int .i64 (k : Int))).toNat
    simp [intOf]
    omega
   ·
    have hkk : k = 2 := by omega
    subst hkk
    go_wp2_with fail
    refine ⟨⟨⟨j + 1, by omega, HB, z1, z2, exFrame (by kernel_rfl)⟩⟩, ?_⟩
    show 2 - (intOf (.int .i64 ((j : Int) + 1))).toNat < 2 - (intOf (.int .i64 (j : Int))).toNat
    simp [intOf]
    omega
  ·
   have hjj : j = 2 := by omega
   subst hjj
   go_wp2_with fail
   refine ⟨⟨⟨i + 1, by omega, HB, z1, exFrame (by kernel_rfl)⟩⟩, ?_⟩
   show 2 - (intOf (.int .i64 ((i : Int) + 1))).toNat < 2 - (intOf (.int .i64 (i : Int))).toNat
   simp [intOf]
   omega
 ·
  have hii : i = 2 := by omega
  subst hii
  have o0 := HB.qo.cell 0
  have o1 := HB.qo.cell 1
  have r0 := HB.qr.cell 0
  have r1 := HB.qr.cell 1
  have fr := HB.qr.frozen0
  have lr := HB.qr.lt
  have lo' := HB.qo.lt
  simp at o0 o1 r0 r1
  skip
  have m3 := (HB.qr.set_ 0 (.int .i64 (accTo (spanAt t r) (8 * 2)).lo)).set_ 1 (.int .i64 (accTo (spanAt t r) (8 * 2)).hi)
  simp only [List.setIfInBounds_toArray, List.set_cons_zero, List.set_cons_succ] at m3
  go_wp2
  refine bodyPost_ret (results_cell_row rfl _ _ _ 41 #[.int .i64 (accTo (spanAt t r) (8 * 2)).lo, .int .i64 (accTo (spanAt t r) (8 * 2)).hi] (0, 0) _ rfl m3 rfl rfl rfl) rfl ?_
  exact ⟨rfl, ex_set (p := ⟨pr, 1, none⟩) (ex_set (p := ⟨pr, 0, none⟩) HB.b HB.ob _) HB.ob _⟩

end Go.Proofs.YtkaogjhnogkcdaaGreat
end

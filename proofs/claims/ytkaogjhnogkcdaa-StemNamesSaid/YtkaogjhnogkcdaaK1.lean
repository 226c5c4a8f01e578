/- Glass: what all walks use: worlds that have grown, and regions that draw their order and only read. · Glass: leaf functions (walks). · Glass: what is valid (walks). · Glass: CheckGlass, all, lived, iced (walks). · Glass: all, lived, iced (walks). · Glass: lived (walk). · Glass: ices that are right (walks). · Glass: iced (walk). · Glass: fits (walk). · Glass: truth (walk). · Glass: bounds of what is valid (plain). · Boxes that a function makes of its parameters, without their types and cells. · Stem (plain): tubes, readings, and what a reading says but for the zero. -/
import Derived.WalkKit
import Derived.Deep.RegionHeld3
import Derived.Deep.QuietTactic
import Derived.Deep.DeepCutAuto
import Derived.BigQuiet
import Derived.Lib.Hide
import Derived.Test.YtkaogjhnogkcdaaProg
import Derived.Test.YtkaogjhnogkcdaaK0
set_option linter.unusedVariables false
set_option linter.unusedSimpArgs false
set_option linter.unusedSectionVars false
section
namespace Go.Proofs.Ytkaogjhnogkcdaa
open Go.RowKit

structure Ex (w : World) where
 W : World
 h : Below w.heap.size w W

theorem ex_alloc {w w1 : World} (h : Below w.heap.size w w1) (o : Obj) : Below w.heap.size w (w1.alloc o) := h.alloc h.size o
theorem ex_set {w w1 : World} (h : Below w.heap.size w w1) {p : Addr} (hp : w.heap.size ≤ p.block) (u : Value) : Below w.heap.size w (w1.setCell p u) := h.setCell hp u
theorem ex_trans {w w1 w2 : World} (h : Below w.heap.size w w1) (k : Below w1.heap.size w1 w2) : Below w.heap.size w w2 := h.trans (k.mono h.size)
theorem ex_drewN {w w1 : World} (h : Below w.heap.size w w1) (n : Nat) : Below w.heap.size w (w1.drewN n) := ⟨h.os, h.tape, h.output, h.size, h.block⟩

theorem Ex.cell {w : World} (x : Ex w) {b o : Nat} {v : Value} (h : w.cell? ⟨b, o, none⟩ = some v) : x.W.cell? ⟨b, o, none⟩ = some v := by
 have hb : b < w.heap.size := by
  rcases Nat.lt_or_ge b w.heap.size with h' | h'
  ·
   exact h'
  ·
   simp [World.cell?, Array.getElem?_eq_none h'] at h
 exact (x.h.cell (p := ⟨b, o, none⟩) hb).trans h

instance (w : World) : Nonempty (Ex w) := ⟨⟨w, Below.refl _ _⟩⟩
theorem Ex.cell? {w : World} (x : Ex w) (b o : Nat) (hb : b < w.heap.size) : x.W.cell? ⟨b, o, none⟩ = w.cell? ⟨b, o, none⟩ := x.h.cell (p := ⟨b, o, none⟩) hb

theorem Calls.ext_of {P : Program} {f : FuncId} {args : Array Value} {w : World} {x : Ex w} {v : Value}
  (h : Calls P f args x.W fun e w' => e = .returned v ∧ Below x.W.heap.size x.W w') : Calls P f args x.W fun e w'' => e = .returned v ∧ ∃ y : Ex w, w'' = y.W :=
 h.mono fun _ w'' ⟨he, hb⟩ => ⟨he, ⟨w'', ex_trans x.h hb⟩, rfl⟩
theorem Calls.ext_same {P : Program} {f : FuncId} {args : Array Value} {w : World} {x : Ex w} {v : Value}
  (h : Calls P f args x.W fun e w' => e = .returned v ∧ x.W = w') : Calls P f args x.W fun e w'' => e = .returned v ∧ ∃ y : Ex w, w'' = y.W :=
 h.mono fun _ _ ⟨he, hb⟩ => ⟨he, x, hb.symm⟩

theorem wp_region_ext {P : Program} {id : Nat} {Q : Exit → Act → World → Prop} {a : Act} {w : World} {l : List Oper} (hm : P.follows .mixedOrders = true) (hB : Region.lexB .any l.toArray = true)
  (h : wpQuiet P l.toArray (fun w' => ∃ x : Ex w, w' = x.W) (fun a' => ∀ w', (∃ x : Ex w, w' = x.W) → Q .normal a' w') l a) : (Code.region id l.toArray true).wp P Q a w :=
 wp_region_quiet (C := fun w' => ∃ x : Ex w, w' = x.W) hm hB ⟨⟨_, (Below.refl w.heap.size w).drew⟩, rfl⟩ (by simpa using h)


theorem within_any (n lo hi : Int) (w : World) :
  Calls Try.prog 46 #[.int .i64 n, .int .i64 lo, .int .i64 hi] w fun e w' => e = .returned (.bool (inB n lo hi)) ∧ w = w' := by
 by_cases h1 : lo ≤ n
 ·
  by_cases h2 : n ≤ hi
  ·
   go_enter Try.func46, Try.ntmps46
   go_wp2
   go_ret
   simp [inB, h1, h2]
  ·
   have h2' : decide (n ≤ hi) = false := by simpa using h2
   go_enter Try.func46, Try.ntmps46
   go_wp2
   go_ret
   simp [inB, h1, h2]
 ·
  have h1' : decide (lo ≤ n) = false := by simpa using h1
  go_enter Try.func46, Try.ntmps46
  go_wp2
  go_ret
  exact ⟨by rw [inB, h1']; rfl, rfl⟩

theorem to_any (lo hi high : Int) (w : World) :
  Calls Try.prog 47 #[.agg #[.int .i64 lo, .int .i64 hi], .int .i64 high] w fun e w' => e = .returned (.bool (toB lo hi high)) ∧ Below w.heap.size w w' := by
 by_cases h1 : 0 ≤ lo
 ·
  by_cases h2 : lo ≤ hi
  ·
   by_cases h3 : hi ≤ high
   ·
    rw [show toB lo hi high = true by simp [toB, h1, h2, h3]]
    go_enter Try.func47, Try.ntmps47
    go_wp2
    go_ret
    exact ⟨rfl, ex_alloc (Below.refl _ _) _⟩
   ·
    rw [show toB lo hi high = false by simp [toB, h1, h2, h3]]
    have h3' : decide (hi ≤ high) = false := by simpa using h3
    go_enter Try.func47, Try.ntmps47
    go_wp2
    go_ret
    exact ⟨rfl, ex_alloc (Below.refl _ _) _⟩
  ·
   rw [show toB lo hi high = false by simp [toB, h1, h2]]
   have h2' : decide (lo ≤ hi) = false := by simpa using h2
   go_enter Try.func47, Try.ntmps47
   go_wp2
   go_ret
   exact ⟨rfl, ex_alloc (Below.refl _ _) _⟩
 ·
  rw [show toB lo hi high = false by simp [toB, h1]]
  have h1' : decide (0 ≤ lo) = false := by simpa using h1
  go_enter Try.func47, Try.ntmps47
  go_wp2
  go_ret
  exact ⟨rfl, ex_alloc (Below.refl _ _) _⟩

theorem zero_any (base a b rise sink : Int) (v1 v2 : Value) (w : World) (h0 : -100000 ≤ base ∧ base ≤ 100000)  (h1 : 0 ≤ rise ∧ rise ≤ 100000) (h2 : 0 ≤ sink ∧ sink ≤ 100000):
  Calls Try.prog 62 #[.agg #[.int .i64 base, v1, v2, .int .i64 a, .int .i64 b], .agg #[.int .i64 rise, .int .i64 sink]] w fun e w' => e = .returned (.int .i64 (base + rise - sink)) ∧ Below w.heap.size w w' := by
 obtain ⟨h01, h02⟩ := h0
 obtain ⟨h11, h12⟩ := h1
 obtain ⟨h21, h22⟩ := h2
 go_enter Try.func62, Try.ntmps62
 go_wp2
 go_ret
 exact ⟨rfl, ex_alloc (ex_alloc (Below.refl _ _) _) _⟩

theorem agrees_any (day zero err z : Int) (w : World) (h0 : -100000 ≤ zero ∧ zero ≤ 100000) (h1 : -1000000 ≤ z ∧ z ≤ 1000000) (h2 : 0 ≤ err ∧ err ≤ 100000) :
  Calls Try.prog 81 #[.agg #[.int .i64 day, .int .i64 zero, .int .i64 err], .int .i64 z] w fun e w' => e = .returned (.bool (inB (z - zero) (-err) err)) ∧ Below w.heap.size w w' := by
 obtain ⟨h01, h02⟩ := h0
 obtain ⟨h11, h12⟩ := h1
 obtain ⟨h21, h22⟩ := h2
 go_enter Try.func81, Try.ntmps81
 go_wp2_with (go_at_call 46; refine (within_any _ _ _ _).mono ?_; rintro e w' ⟨rfl, rfl⟩)
 go_ret
 exact ⟨rfl, ex_alloc (Below.refl _ _) _⟩

theorem low_any (lo hi n : Int) (w : World) :
  Calls Try.prog 72 #[.agg #[.int .i64 lo, .int .i64 hi], .int .i64 n] w fun e w' => e = .returned (.int .i64 (min lo n)) ∧ Below w.heap.size w w' := by
 go_enter Try.func72, Try.ntmps72
 go_wp2
 all_goals (go_ret; refine ⟨ret_int ?_, ex_alloc (Below.refl _ _) _⟩; (first | omega | (symm; apply Int.min_eq_left; omega) | (symm; apply Int.min_eq_right; omega) | (symm; apply Int.max_eq_left; omega) | (symm; apply Int.max_eq_right; omega)))
theorem high_any (lo hi n : Int) (w : World) :
  Calls Try.prog 73 #[.agg #[.int .i64 lo, .int .i64 hi], .int .i64 n] w fun e w' => e = .returned (.int .i64 (max hi n)) ∧ Below w.heap.size w w' := by
 go_enter Try.func73, Try.ntmps73
 go_wp2
 all_goals (go_ret; refine ⟨ret_int ?_, ex_alloc (Below.refl _ _) _⟩; (first | omega | (symm; apply Int.min_eq_left; omega) | (symm; apply Int.min_eq_right; omega) | (symm; apply Int.max_eq_left; omega) | (symm; apply Int.max_eq_right; omega)))

end Go.Proofs.Ytkaogjhnogkcdaa
end

section
namespace Go.Proofs.Ytkaogjhnogkcdaa
open Go.RowKit

set_option maxHeartbeats 400000 in
theorem max_any (A : Option Addr) (c B n : Nat) (xs : List Int) (w : World) (h1 : 1 ≤ n) (hl : n ≤ 1000000) (hA : SlAt w B 1 A n (fI xs)) :
  Calls Try.prog 35 #[.slice A n c] w fun e w' => e = .returned (.int .i64 (mxTo xs n)) ∧ w = w' := by
 obtain ⟨b, off, rfl, hb, hc⟩ := hA (by omega)
 have hc0 : w.cell? ⟨b, off, none⟩ = some (.int .i64 (gI xs 0)) := by simpa [fI] using hc 0 0 (by omega) (by omega)
 have hc : ∀ k, k < n → w.cell? ⟨b, off + k, none⟩ = some (.int .i64 (gI xs k)) := fun k hk => by simpa [fI] using hc k 0 hk (by omega)
 go_enter Try.func35, Try.ntmps35
 go_wp2
 go_loop [3, 4] (fun m i => ∃ k : Nat, 1 ≤ k ∧ k ≤ n ∧ i = .int .i64 k ∧ m = .int .i64 (mxTo xs k)) (fun _ i => n - (intOf i).toNat)
 case atStart => exact ⟨1, by omega, by omega, rfl, by simp [mxTo]⟩
 case round =>
  obtain ⟨k, hk1, hk, rfl, rfl⟩ := hrel
  by_cases hlt : k < n
  ·
   have hcell := hc k hlt
   go_wp2
   go_round
   case rel => exact ⟨k + 1, by omega, by omega, by go_num, by simp only [mxTo]; congr 1; split <;> omega⟩
   case measure => simp [intOf]; omega
  ·
   have : k = n := by omega
   subst this
   go_wp2
   go_ret
   exact ⟨rfl, rfl⟩

set_option maxHeartbeats 400000 in
theorem creep_any (base blo bhi day : Int) (Ab : Option Addr) (cb B n : Nat) (vd : Value) (l : List Bd) (w : World) (hB : B ≤ w.heap.size) (hl : n ≤ 1000000) (hA : SlAt w B 3 Ab n (fB l)) :
  Calls Try.prog 75 #[.agg #[.int .i64 base, .slice Ab n cb, vd, .int .i64 blo, .int .i64 bhi], .int .i64 day] w fun e w' =>
   e = .returned (.agg #[.int .i64 (creepTo l day n).lo, .int .i64 (creepTo l day n).hi]) ∧ Below w.heap.size w w' := by
 go_enter Try.func75, Try.ntmps75
 go_wp2
 go_loopw [10] (fun i wr => ∃ k : Nat, k ≤ n ∧ i = .int .i64 k ∧ Below w.heap.size w wr ∧ Blk wr (w.heap.size + 1) 23 #[.int .i64 (creepTo l day k).lo, .int .i64 (creepTo l day k).hi])
  (fun i _ => n - (intOf i).toNat)
 case atStart => exact ⟨0, by omega, rfl, ((Below.refl _ _).alloc (Nat.le_refl _) _).alloc (by simp) _, Blk.new' _ _ _ (by simp)⟩
 case round =>
  obtain ⟨k, hk, rfl, hbl, hblk⟩ := hrel
  have hc0 := hblk.cell 0
  have hc1 := hblk.cell 1
  have hf0 := hblk.frozen 0
  have hf1 := hblk.frozen 1
  have hlt0 := hblk.lt
  simp at hc0 hc1
  by_cases hlt : k < n
  ·
   obtain ⟨b, off, rfl, hbB, h0, h1, h2⟩ := IsBds.at_ (hA.below (hbl.mono hB)) hlt
   by_cases hd : (gB l k).from_ ≤ day
   ·
    go_wp2
    go_roundw
    case rel => exact ⟨k + 1, by omega, by go_num, ex_alloc (ex_set (ex_set hbl (by simp) _) (by simp) _) _, by rw [creepTo, if_pos hd]; exact ((hblk.set_ 0 _).set_ 1 _).alloc _⟩
    case measure => simp [intOf]; omega
   ·
    go_wp2
    go_roundw
    case rel => exact ⟨k + 1, by omega, by go_num, ex_alloc hbl _, by rw [creepTo, if_neg hd]; exact hblk.alloc _⟩
    case measure => simp [intOf]; omega
  ·
   obtain rfl : k = n := by omega
   go_wp2
   exact bodyPost_ret (v := .agg #[.int .i64 (creepTo l day k).lo, .int .i64 (creepTo l day k).hi]) (by simp [results, Try.results75, go_sem, hc0, hc1]) rfl ⟨rfl, ex_set (ex_set hbl (by simp) _) (by simp) _⟩

set_option maxHeartbeats 400000 in
theorem sinks_any (base blo bhi heat : Int) (A : Option Addr) (c B n : Nat) (vb : Value) (l : List Dp) (w : World) (hB : B ≤ w.heap.size) (hl : n ≤ 1000000) (hA : SlAt w B 2 A n (fD l)) :
  Calls Try.prog 82 #[.agg #[.int .i64 base, vb, .slice A n c, .int .i64 blo, .int .i64 bhi], .int .i64 heat] w fun e w' =>
   e = .returned (.int .i64 (sinksTo l heat n)) ∧ Below w.heap.size w w' := by
 go_enter Try.func82, Try.ntmps82
 go_wp2
 go_loopw [4, 10] (fun s i wr => ∃ k : Nat, k ≤ n ∧ i = .int .i64 k ∧ s = .int .i64 (sinksTo l heat k) ∧ Below w.heap.size w wr)
  (fun _ i _ => n - (intOf i).toNat)
 case atStart => exact ⟨0, by omega, rfl, rfl, ex_alloc (Below.refl _ _) _⟩
 case round =>
  obtain ⟨k, hk, rfl, rfl, hbl⟩ := hrel
  by_cases hlt : k < n
  ·
   obtain ⟨b, off, rfl, hbB, h0, h1⟩ := IsDps.at_ (hA.below (hbl.mono hB)) hlt
   by_cases hd : (gD l k).from_ ≤ heat
   ·
    go_wp2
    go_roundw
    case rel => exact ⟨k + 1, by omega, by go_num, by rw [sinksTo, if_pos hd], ex_alloc hbl _⟩
    case measure => simp [intOf]; omega
   ·
    go_wp2
    go_roundw
    case rel => exact ⟨k + 1, by omega, by go_num, by rw [sinksTo, if_neg hd], ex_alloc hbl _⟩
    case measure => simp [intOf]; omega
  ·
   obtain rfl : k = n := by omega
   go_wp2
   go_ret
   exact ⟨rfl, hbl⟩

theorem greatest_any (A : Option Addr) (c B n : Nat) (xs : List Int) (w : World) (h1 : 1 ≤ n) (hl : n ≤ 1000000) (hA : SlAt w B 1 A n (fI xs)) :
  Calls Try.prog 84 #[.slice A n c] w fun e w' => e = .returned (.int .i64 (mxTo xs n)) ∧ w = w' := by
 go_enter Try.func84, Try.ntmps84
 go_wp2_with (go_at_call 35; refine (max_any _ _ _ _ _ _ h1 hl hA).mono ?_; rintro e w' ⟨rfl, rfl⟩)
 go_ret
 exact ⟨rfl, rfl⟩

theorem greatest3 (b c : Nat) (x y z : Int) (w : World) (h0 : w.cell? ⟨b, 0, none⟩ = some (.int .i64 x)) (h1 : w.cell? ⟨b, 1, none⟩ = some (.int .i64 y)) (h2 : w.cell? ⟨b, 2, none⟩ = some (.int .i64 z)) :
  Calls Try.prog 84 #[.slice (some ⟨b, 0, none⟩) 3 c] w fun e w' => e = .returned (.int .i64 (mx3 x y z)) ∧ w = w' := by
 refine (greatest_any _ c (b + 1) 3 [x, y, z] w (by omega) (by omega) (fun _ => ⟨b, 0, rfl, by omega, fun k j hk hj => ?_⟩)).mono ?_
 ·
  obtain rfl : j = 0 := by omega
  match k, hk with
  | 0, _ => simpa [fI, gI] using h0
  | 1, _ => simpa [fI, gI] using h1
  | 2, _ => simpa [fI, gI] using h2
 ·
  rintro e w' ⟨rfl, rfl⟩
  exact ⟨ret_int (by simp [mxTo, gI, mx3]), rfl⟩

set_option maxHeartbeats 800000 in
theorem after_any (rise sink creep back sinks : Int) (w : World) (h1 : 0 ≤ rise ∧ rise ≤ 100000) (h2 : 0 ≤ sink ∧ sink ≤ 100000) (h3 : 0 ≤ creep ∧ creep ≤ 100000) (h4 : 0 ≤ back ∧ back ≤ 100000) :
  Calls Try.prog 77 #[.agg #[.int .i64 rise, .int .i64 sink], .int .i64 creep, .int .i64 back, .int .i64 sinks] w fun e w' =>
   e = .returned (.agg #[.int .i64 (rise + creep), .int .i64 (mx3 (sink - back) 0 sinks)]) ∧ Below w.heap.size w w' := by
 obtain ⟨h11, h12⟩ := h1
 obtain ⟨h21, h22⟩ := h2
 obtain ⟨h31, h32⟩ := h3
 obtain ⟨h41, h42⟩ := h4
 have hs1 : IntKind.i64.wrap (sink - back) = sink - back := IntWalk.i64_in _ (by omega)
 have hs2 : IntKind.i64.wrap (rise + creep) = rise + creep := IntWalk.i64_in _ (by omega)
 go_enter Try.func77, Try.ntmps77
 go_wp2
 go_region_held3 (fun w' => w'.cell? ⟨w.heap.size, 0, none⟩ = some (.int .i64 rise) ∧ w'.cell? ⟨w.heap.size, 1, none⟩ = some (.int .i64 sink)) (go_keep)
  ((go_at_call 84; refine (greatest3 _ _ (sink - back) 0 sinks _ ?_ ?_ ?_).mono ?_; (simp [go_sem]); (simp [go_sem]); (simp [go_sem]); rintro e w' ⟨rfl, rfl⟩))
 go_wp2
 exact bodyPost_ret (v := .agg #[.int .i64 (rise + creep), .int .i64 (mx3 (sink - back) 0 sinks)]) (by simp [results, Try.results77, go_sem]) rfl ⟨rfl, (ex_alloc (ex_alloc (ex_alloc (Below.refl _ _) _) _) _).drew⟩

end Go.Proofs.Ytkaogjhnogkcdaa
end

section
namespace Go.Proofs.Ytkaogjhnogkcdaa
open Go.RowKit
attribute [local go_sem] Ex.cell?

set_option maxHeartbeats 400000 in
theorem banded_any (base blo bhi : Int) (A : Option Addr) (c B n : Nat) (vd : Value) (l : List Bd) (w : World) (hB : B ≤ w.heap.size) (hl : n ≤ 1000000) (hA : SlAt w B 3 A n (fB l)) :
  Calls Try.prog 48 #[.agg #[.int .i64 base, .slice A n c, vd, .int .i64 blo, .int .i64 bhi]] w fun e w' =>
   e = .returned (.bool (bandsB l n)) ∧ Below w.heap.size w w' := by
 go_enter Try.func48, Try.ntmps48
 go_wp2
 go_loopw [8] (fun i wr => ∃ k : Nat, k ≤ n ∧ i = .int .i64 k ∧ (∀ j, j < k → bandOk l j = true) ∧ Below w.heap.size w wr ∧ Blk wr w.heap.size 30 #[.int .i64 base, .slice A n c, vd, .int .i64 blo, .int .i64 bhi])
  (fun i _ => n - (intOf i).toNat)
 case atStart => exact ⟨0, by omega, rfl, fun j hj => by omega, ex_alloc (Below.refl _ _) _, Blk.new _ _ _⟩
 case round =>
  obtain ⟨k, hk, rfl, hok, hbl, hblk⟩ := hrel
  have hc1 := hblk.cell 1
  have hlt0 := hblk.lt
  simp at hc1
  by_cases hlt : k < n
  ·
   obtain ⟨b, off, rfl, hbB, h0, h1, h2⟩ := IsBds.at_ (hA.below (hbl.mono hB)) hlt
   have hbw : b < wr.heap.size := by have := hbl.size; omega
   have HF : bandOk l k = false → Hid (bandsB l n = false) := fun h => by unfold bandsB; rw [allTo_false hlt h]; exact Lib.hid rfl
   cases hi : inB (gB l k).from_ 0 16
   ·
    replace HF := HF (by unfold bandOk; rw [hi]; rfl)
    go_wp2
    refine wp_region_ext (by kernel_rfl) (by kernel_rfl) ?_
    repeat (any_goals (first | go_big_quiet_step ((first | (go_at_call 46; exact Calls.ext_same (within_any _ _ _ _)) | (go_at_call 47; exact Calls.ext_of (to_any _ _ _ _))))))
    refine wpQuiet_nil ?_; intro _ hw'; obtain ⟨x, rfl⟩ := hw'; have hx := ex_trans (ex_alloc hbl _) x.h
    go_wp2
    go_ret
    exact ⟨ret_bool HF.out.symm, hx⟩
   cases ht : toB (gB l k).lo (gB l k).hi 3
   ·
    replace HF := HF (by unfold bandOk; rw [ht]; simp)
    go_wp2
    refine wp_region_ext (by kernel_rfl) (by kernel_rfl) ?_
    repeat (any_goals (first | go_big_quiet_step ((first | (go_at_call 46; exact Calls.ext_same (within_any _ _ _ _)) | (go_at_call 47; exact Calls.ext_of (to_any _ _ _ _))))))
    refine wpQuiet_nil ?_; intro _ hw'; obtain ⟨x, rfl⟩ := hw'; have hx := ex_trans (ex_alloc hbl _) x.h
    go_wp2
    go_ret
    exact ⟨ret_bool HF.out.symm, hx⟩
   rcases Nat.eq_zero_or_pos k with h00 | h00
   ·
    have g0 : decide (0 < k) = false := by simp [h00]
    clear h00
    have hOK : Hid (bandOk l k = true) := by unfold bandOk; rw [hi, ht, g0]; exact Lib.hid rfl
    go_wp2
    refine wp_region_ext (by kernel_rfl) (by kernel_rfl) ?_
    repeat (any_goals (first | go_big_quiet_step ((first | (go_at_call 46; exact Calls.ext_same (within_any _ _ _ _)) | (go_at_call 47; exact Calls.ext_of (to_any _ _ _ _))))))
    refine wpQuiet_nil ?_; intro _ hw'; obtain ⟨x, rfl⟩ := hw'; have hx := ex_trans (ex_alloc hbl _) x.h
    go_wp2
    go_roundw
    case rel => exact ⟨k + 1, by omega, by go_num, fun j hj => by rcases Nat.lt_succ_iff_lt_or_eq.1 hj with h | h; exact hok j h; exact h ▸ hOK.out, hx, (hblk.alloc _).below x.h (by simp; omega)⟩
    case measure => simp [intOf]; omega
   have g0 : decide (0 < k) = true := by simp [h00]
   obtain ⟨b', off', e', hbB', h3, _, _⟩ := IsBds.at_ (hA.below (hbl.mono hB)) (show k - 1 < n by omega)
   injection e' with e'
   injection e' with e1 e2
   subst e1 e2
   have h3' : wr.cell? ⟨b, off + (k - 1) * 3, none⟩ = some (.int .i64 (gB l (k - 1)).from_) := h3
   by_cases hp : (gB l k).from_ ≤ (gB l (k - 1)).from_
   ·
    replace HF := HF (by unfold bandOk; rw [hi, ht, g0, decide_eq_true hp]; rfl)
    go_wp2
    refine wp_region_ext (by kernel_rfl) (by kernel_rfl) ?_
    repeat (any_goals (first | go_big_quiet_step ((first | (go_at_call 46; exact Calls.ext_same (within_any _ _ _ _)) | (go_at_call 47; exact Calls.ext_of (to_any _ _ _ _))))))
    refine wpQuiet_nil ?_; intro _ hw'; obtain ⟨x, rfl⟩ := hw'; have hx := ex_trans (ex_alloc hbl _) x.h
    go_wp2
    go_ret
    exact ⟨ret_bool HF.out.symm, hx⟩
   ·
    have hp' : decide ((gB l k).from_ ≤ (gB l (k - 1)).from_) = false := decide_eq_false hp
    have hOK : Hid (bandOk l k = true) := by unfold bandOk; rw [hi, ht, g0, hp']; exact Lib.hid rfl
    go_wp2
    refine wp_region_ext (by kernel_rfl) (by kernel_rfl) ?_
    repeat (any_goals (first | go_big_quiet_step ((first | (go_at_call 46; exact Calls.ext_same (within_any _ _ _ _)) | (go_at_call 47; exact Calls.ext_of (to_any _ _ _ _))))))
    refine wpQuiet_nil ?_; intro _ hw'; obtain ⟨x, rfl⟩ := hw'; have hx := ex_trans (ex_alloc hbl _) x.h
    go_wp2
    go_roundw
    case rel => exact ⟨k + 1, by omega, by go_num, fun j hj => by rcases Nat.lt_succ_iff_lt_or_eq.1 hj with h | h; exact hok j h; exact h ▸ hOK.out, hx, (hblk.alloc _).below x.h (by simp; omega)⟩
    case measure => simp [intOf]; omega
  ·
   obtain rfl : k = n := by omega
   have HA : Hid (allTo (bandOk l) k = true) := Lib.hid (allTo_iff.2 hok)
   rcases Nat.eq_zero_or_pos k with h00 | h00
   ·
    have g0 : decide (0 < k) = false := by simp [h00]
    clear h00
    have HF : Hid (bandsB l k = false) := by unfold bandsB; rw [g0]; exact Lib.hid (by simp)
    go_wp2
    go_ret
    exact ⟨ret_bool HF.out.symm, hbl⟩
   have g0 : decide (0 < k) = true := by simp [h00]
   obtain ⟨b, off, rfl, hbB, h0, _, _⟩ := IsBds.at_ (hA.below (hbl.mono hB)) h00
   have h0' : wr.cell? ⟨b, off, none⟩ = some (.int .i64 (gB l 0).from_) := by simpa using h0
   clear h0
   cases hz : ((gB l 0).from_ == 0)
   ·
    have HF : Hid (bandsB l k = false) := by unfold bandsB; rw [show decide ((gB l 0).from_ = 0) = false from by simpa using hz]; exact Lib.hid (by simp)
    go_wp2
    go_ret
    exact ⟨ret_bool HF.out.symm, hbl⟩
   ·
    have HF : Hid (bandsB l k = true) := by unfold bandsB; rw [show decide ((gB l 0).from_ = 0) = true from by simpa using hz, HA.out, g0]; exact Lib.hid rfl
    go_wp2
    go_ret
    exact ⟨ret_bool HF.out.symm, hbl⟩

set_option maxHeartbeats 400000 in
theorem deep_any (base blo bhi : Int) (A : Option Addr) (c B n : Nat) (vb : Value) (l : List Dp) (w : World) (hB : B ≤ w.heap.size) (hl : n ≤ 1000000) (hA : SlAt w B 2 A n (fD l)) :
  Calls Try.prog 49 #[.agg #[.int .i64 base, vb, .slice A n c, .int .i64 blo, .int .i64 bhi]] w fun e w' =>
   e = .returned (.bool (deepsB l n)) ∧ Below w.heap.size w w' := by
 go_enter Try.func49, Try.ntmps49
 go_wp2
 go_loopw [8] (fun i wr => ∃ k : Nat, k ≤ n ∧ i = .int .i64 k ∧ (∀ j, j < k → deepOk l j = true) ∧ Below w.heap.size w wr ∧ Blk wr w.heap.size 30 #[.int .i64 base, vb, .slice A n c, .int .i64 blo, .int .i64 bhi])
  (fun i _ => n - (intOf i).toNat)
 case atStart => exact ⟨0, by omega, rfl, fun j hj => by omega, ex_alloc (Below.refl _ _) _, Blk.new _ _ _⟩
 case round =>
  obtain ⟨k, hk, rfl, hok, hbl, hblk⟩ := hrel
  have hc2 := hblk.cell 2
  have hlt0 := hblk.lt
  simp at hc2
  by_cases hlt : k < n
  ·
   obtain ⟨b, off, rfl, hbB, h0, h1⟩ := IsDps.at_ (hA.below (hbl.mono hB)) hlt
   have hbw : b < wr.heap.size := by have := hbl.size; omega
   have HF : deepOk l k = false → Hid (deepsB l n = false) := fun h => by unfold deepsB; rw [allTo_false hlt h]; exact Lib.hid rfl
   cases hi : inB (gD l k).from_ 0 500
   ·
    replace HF := HF (by unfold deepOk; rw [hi]; rfl)
    go_wp2_with (go_at_call 46; refine (within_any _ _ _ _).mono ?_; rintro e w' ⟨rfl, rfl⟩)
    go_ret
    exact ⟨ret_bool HF.out.symm, ex_alloc hbl _⟩
   cases ht : inB (gD l k).sink 0 30
   ·
    replace HF := HF (by unfold deepOk; rw [ht]; simp)
    go_wp2_with (go_at_call 46; refine (within_any _ _ _ _).mono ?_; rintro e w' ⟨rfl, rfl⟩)
    go_ret
    exact ⟨ret_bool HF.out.symm, ex_alloc hbl _⟩
   rcases Nat.eq_zero_or_pos k with h00 | h00
   ·
    have g0 : decide (0 < k) = false := by simp [h00]
    clear h00
    have hOK : Hid (deepOk l k = true) := by unfold deepOk; rw [hi, ht, g0]; exact Lib.hid rfl
    go_wp2_with (go_at_call 46; refine (within_any _ _ _ _).mono ?_; rintro e w' ⟨rfl, rfl⟩)
    refine wp_region_ext (by kernel_rfl) (by kernel_rfl) ?_
    repeat (any_goals (first | go_big_quiet_step (fail)))
    refine wpQuiet_nil ?_; intro _ hw'; obtain ⟨x, rfl⟩ := hw'; have hx := ex_trans (ex_alloc hbl _) x.h
    go_wp2
    go_roundw
    case rel => exact ⟨k + 1, by omega, by go_num, fun j hj => by rcases Nat.lt_succ_iff_lt_or_eq.1 hj with h | h; exact hok j h; exact h ▸ hOK.out, hx, (hblk.alloc _).below x.h (by simp; omega)⟩
    case measure => simp [intOf]; omega
   have g0 : decide (0 < k) = true := by simp [h00]
   obtain ⟨b', off', e', hbB', h3, h4⟩ := IsDps.at_ (hA.below (hbl.mono hB)) (show k - 1 < n by omega)
   injection e' with e'
   injection e' with e1 e2
   subst e1 e2
   by_cases hp : (gD l k).from_ ≤ (gD l (k - 1)).from_
   ·
    replace HF := HF (by unfold deepOk; rw [hi, ht, g0, decide_eq_true hp]; rfl)
    go_wp2_with (go_at_call 46; refine (within_any _ _ _ _).mono ?_; rintro e w' ⟨rfl, rfl⟩)
    refine wp_region_ext (by kernel_rfl) (by kernel_rfl) ?_
    repeat (any_goals (first | go_big_quiet_step (fail)))
    refine wpQuiet_nil ?_; intro _ hw'; obtain ⟨x, rfl⟩ := hw'; have hx := ex_trans (ex_alloc hbl _) x.h
    go_wp2
    go_ret
    exact ⟨ret_bool HF.out.symm, hx⟩
   have hp' : decide ((gD l k).from_ ≤ (gD l (k - 1)).from_) = false := decide_eq_false hp
   by_cases hq : (gD l k).sink < (gD l (k - 1)).sink
   ·
    replace HF := HF (by unfold deepOk; rw [hi, ht, g0, hp', decide_eq_true hq]; rfl)
    go_wp2_with (go_at_call 46; refine (within_any _ _ _ _).mono ?_; rintro e w' ⟨rfl, rfl⟩)
    refine wp_region_ext (by kernel_rfl) (by kernel_rfl) ?_
    repeat (any_goals (first | go_big_quiet_step (fail)))
    refine wpQuiet_nil ?_; intro _ hw'; obtain ⟨x, rfl⟩ := hw'; have hx := ex_trans (ex_alloc hbl _) x.h
    go_wp2
    go_ret
    exact ⟨ret_bool HF.out.symm, hx⟩
   ·
    have hq' : decide ((gD l k).sink < (gD l (k - 1)).sink) = false := decide_eq_false hq
    have hOK : Hid (deepOk l k = true) := by unfold deepOk; rw [hi, ht, g0, hp', hq']; exact Lib.hid rfl
    go_wp2_with (go_at_call 46; refine (within_any _ _ _ _).mono ?_; rintro e w' ⟨rfl, rfl⟩)
    refine wp_region_ext (by kernel_rfl) (by kernel_rfl) ?_
    repeat (any_goals (first | go_big_quiet_step (fail)))
    refine wpQuiet_nil ?_; intro _ hw'; obtain ⟨x, rfl⟩ := hw'; have hx := ex_trans (ex_alloc hbl _) x.h
    go_wp2
    go_roundw
    case rel => exact ⟨k + 1, by omega, by go_num, fun j hj => by rcases Nat.lt_succ_iff_lt_or_eq.1 hj with h | h; exact hok j h; exact h ▸ hOK.out, hx, (hblk.alloc _).below x.h (by simp; omega)⟩
    case measure => simp [intOf]; omega
  ·
   obtain rfl : k = n := by omega
   have HA : Hid (allTo (deepOk l) k = true) := Lib.hid (allTo_iff.2 hok)
   rcases Nat.eq_zero_or_pos k with h00 | h00
   ·
    have g0 : decide (0 < k) = false := by simp [h00]
    clear h00
    have HF : Hid (deepsB l k = false) := by unfold deepsB; rw [g0]; exact Lib.hid (by simp)
    go_wp2
    go_ret
    exact ⟨ret_bool HF.out.symm, hbl⟩
   ·
    have g0 : decide (0 < k) = true := by simp [h00]
    have HF : Hid (deepsB l k = true) := by unfold deepsB; rw [HA.out, g0]; exact Lib.hid rfl
    go_wp2
    go_ret
    exact ⟨ret_bool HF.out.symm, hbl⟩

end Go.Proofs.Ytkaogjhnogkcdaa
end

section
namespace Go.Proofs.Ytkaogjhnogkcdaa
open Go.RowKit

set_option maxHeartbeats 400000 in
theorem check_any (g : Gl) (Ab Ad : Option Addr) (cb cd : Nat) (w : World) (hg : GlIn w w.heap.size g Ab Ad) :
    Calls Try.prog 31 #[.agg #[.int .i64 g.base, .slice Ab g.bands.length cb, .slice Ad g.depths.length cd, .int .i64 g.blo, .int .i64 g.bhi]] w fun e w' =>
      e = .returned (.int .i64 (ckGlass g)) ∧ Below w.heap.size w w' := by
  obtain ⟨hb, hd⟩ := hg
  have hb1 := ex_alloc (Below.refl w.heap.size w) (.cells #[.int .i64 g.base, .slice Ab g.bands.length cb, .slice Ad g.depths.length cd, .int .i64 g.blo, .int .i64 g.bhi] 30)
  by_cases h1 : 3 < g.bands.length
  · have h1' : decide (3 < g.bands.length) = true := decide_eq_true h1
    have HR : Hid (ckGlass g = 3) := by unfold ckGlass; rw [if_pos (.inl h1)]; exact Lib.hid rfl
    go_enter Try.func31, Try.ntmps31
    go_wp2
    go_ret
    exact ⟨ret_int HR.out.symm, hb1⟩
  have h1' : decide (3 < g.bands.length) = false := decide_eq_false h1
  by_cases h2 : 4 < g.depths.length
  · have h2' : decide (4 < g.depths.length) = true := decide_eq_true h2
    have HR : Hid (ckGlass g = 3) := by unfold ckGlass; rw [if_pos (.inr h2)]; exact Lib.hid rfl
    go_enter Try.func31, Try.ntmps31
    go_wp2
    go_ret
    exact ⟨ret_int HR.out.symm, hb1⟩
  have h2' : decide (4 < g.depths.length) = false := decide_eq_false h2
  have HR : Hid (ckGlass g = if ckOk g = true then 0 else 1) := by unfold ckGlass; rw [if_neg (by omega)]; exact Lib.hid rfl
  cases ha : inB g.base (-1000) 1000
  · replace HR : Hid (ckGlass g = 1) := by rw [HR.out]; unfold ckOk; rw [ha]; exact Lib.hid rfl
    go_enter Try.func31, Try.ntmps31
    go_wp2_with (go_at_call 46; refine (within_any _ _ _ _).mono ?_; rintro e w' ⟨rfl, rfl⟩)
    go_ret
    exact ⟨ret_int HR.out.symm, hb1⟩
  cases ht : toB g.blo g.bhi 5
  · replace HR : Hid (ckGlass g = 1) := by rw [HR.out]; unfold ckOk; rw [ha, ht]; exact Lib.hid rfl
    go_enter Try.func31, Try.ntmps31
    go_wp2_with (first
      | (go_at_call 46; refine (within_any _ _ _ _).mono ?_; rintro e w' ⟨rfl, rfl⟩)
      | (go_at_call 47; refine (to_any _ _ _ _).mono ?_; rintro e w2 ⟨rfl, hb2⟩))
    go_ret
    exact ⟨ret_int HR.out.symm, ex_trans hb1 hb2⟩
  cases hbb : bandsB g.bands g.bands.length
  · replace HR : Hid (ckGlass g = 1) := by rw [HR.out]; unfold ckOk; rw [ha, ht, hbb]; exact Lib.hid rfl
    go_enter Try.func31, Try.ntmps31
    go_wp2_with (first
      | (go_at_call 46; refine (within_any _ _ _ _).mono ?_; rintro e w' ⟨rfl, rfl⟩)
      | (go_at_call 47; refine (to_any _ _ _ _).mono ?_; rintro e w2 ⟨rfl, hb2⟩; obtain ⟨hcc, _⟩ := bcell hb2; have hsz : w.heap.size < w2.heap.size := (by have := hb2.size; simp at this; omega))
      | (go_at_call 48; refine (banded_any _ _ _ _ _ _ _ _ g.bands _ (ex_trans hb1 hb2).size (by omega) (hb.below (ex_trans hb1 hb2))).mono ?_; rintro e w3 ⟨rfl, hb3⟩))
    go_ret
    exact ⟨ret_int HR.out.symm, ex_trans (ex_trans hb1 hb2) hb3⟩
  cases hdd : deepsB g.depths g.depths.length
  all_goals
    first
      | (have HR2 : Hid (ckGlass g = 1) := by rw [HR.out]; unfold ckOk; rw [ha, ht, hbb, hdd]; exact Lib.hid rfl)
      | (have HR2 : Hid (ckGlass g = 0) := by rw [HR.out]; unfold ckOk; rw [ha, ht, hbb, hdd]; exact Lib.hid rfl)
    go_enter Try.func31, Try.ntmps31
    go_wp2_with (first
      | (go_at_call 46; refine (within_any _ _ _ _).mono ?_; rintro e w' ⟨rfl, rfl⟩)
      | (go_at_call 47; refine (to_any _ _ _ _).mono ?_; rintro e w2 ⟨rfl, hb2⟩; obtain ⟨hcc, _⟩ := bcell hb2; have hsz : w.heap.size < w2.heap.size := (by have := hb2.size; simp at this; omega))
      | (go_at_call 48; refine (banded_any _ _ _ _ _ _ _ _ g.bands _ (ex_trans hb1 hb2).size (by omega) (hb.below (ex_trans hb1 hb2))).mono ?_; rintro e w3 ⟨rfl, hb3⟩; obtain ⟨hcc3, _⟩ := bcell hb3; have hsz3 : w.heap.size < w3.heap.size := (by have := hb3.size; omega))
      | (go_at_call 49; refine (deep_any _ _ _ _ _ _ _ _ g.depths _ (ex_trans (ex_trans hb1 hb2) hb3).size (by omega) (hd.below (ex_trans (ex_trans hb1 hb2) hb3))).mono ?_; rintro e w4 ⟨rfl, hb4⟩))
    go_ret
    exact ⟨ret_int HR2.out.symm, ex_trans (ex_trans (ex_trans hb1 hb2) hb3) hb4⟩

theorem check_is (g : Gl) (Ab Ad : Option Addr) (cb cd : Nat) (w : World) (r : Int) (hg : GlIn w w.heap.size g Ab Ad) (hr : Hid (ckGlass g = r)) :
    Calls Try.prog 31 #[.agg #[.int .i64 g.base, .slice Ab g.bands.length cb, .slice Ad g.depths.length cd, .int .i64 g.blo, .int .i64 g.bhi]] w fun e w' =>
      e = .returned (.int .i64 r) ∧ Below w.heap.size w w' := by
  have h := check_any g Ab Ad cb cd w hg
  rwa [hr.out] at h

end Go.Proofs.Ytkaogjhnogkcdaa
end

section
namespace Go.Proofs.Ytkaogjhnogkcdaa
open Go.RowKit
attribute [local go_sem] Ex.cell?

theorem lived1_any (lo hi : Int) (w : World) :
  Calls Try.prog 67 #[.agg #[.int .i64 lo, .int .i64 hi]] w fun e w' => e = .returned (.bool (toB lo hi 500)) ∧ Below w.heap.size w w' := by
 go_enter Try.func67, Try.ntmps67
 go_wp2_with (go_at_call 47; refine (to_any _ _ _ _).mono ?_; rintro e w2 ⟨rfl, hb2⟩)
 go_ret
 exact ⟨rfl, ex_trans (ex_alloc (Below.refl _ _) _) hb2⟩

theorem allR1_any (lo hi : Int) (pb : Nat) (w : World) (hp : pb < w.heap.size) (hc : w.cell? ⟨pb, 0, none⟩ = some (.func (.func 67) #[] #[])) :
  Calls Try.prog 79 #[.agg #[.int .i64 lo, .int .i64 hi], .pointer (some ⟨pb, 0, none⟩)] w fun e w' => e = .returned (.bool (!toB lo hi 500)) ∧ Below w.heap.size w w' := by
 go_enter Try.func79, Try.ntmps79
 go_wp2_with (go_at_call 67; refine (lived1_any _ _ _).mono ?_; rintro e w2 ⟨rfl, hb2⟩)
 go_ret
 exact ⟨rfl, ex_trans (ex_alloc (Below.refl _ _) _) hb2⟩

set_option maxHeartbeats 400000 in
theorem indexR_any (A : Option Addr) (c n pb : Nat) (l : List Rg) (w : World) (hl : n ≤ 1000000) (hA : SlAt w w.heap.size 2 A n (fR l)) (hp : pb < w.heap.size) (hc : w.cell? ⟨pb, 0, none⟩ = some (.func (.func 67) #[] #[])) :
  Calls Try.prog 85 #[.slice A n c, .func (.func 79) #[] #[.pointer (some ⟨pb, 0, none⟩)]] w fun e w' =>
   e = .returned (.int .i64 (firstOf (fun k => !heatOk l k) n)) ∧ Below w.heap.size w w' := by
 go_enter Try.func85, Try.ntmps85
 go_wp2
 go_loopw [8] (fun i wr => ∃ k : Nat, k ≤ n ∧ i = .int .i64 k ∧ (∀ j, j < k → heatOk l j = true) ∧ Below w.heap.size w wr)
  (fun i _ => n - (intOf i).toNat)
 case atStart => exact ⟨0, by omega, rfl, fun j hj => by omega, Below.refl _ _⟩
 case round =>
  obtain ⟨k, hk, rfl, hok, hbl⟩ := hrel
  by_cases hlt : k < n
  ·
   obtain ⟨b, off, rfl, hbB, h0, h1⟩ := IsRgs.at_ (hA.below hbl) hlt
   have hcr : wr.cell? ⟨pb, 0, none⟩ = some (.func (.func 67) #[] #[]) := (hbl.cell (p := ⟨pb, 0, none⟩) hp).trans hc
   have hpr : pb < wr.heap.size := by have := hbl.size; omega
   have hOK := Lib.hid (show heatOk l k = toB (gR l k).lo (gR l k).hi 500 from rfl)
   cases ht : toB (gR l k).lo (gR l k).hi 500
   ·
    have HF : Hid (firstOf (fun k => !heatOk l k) n = (k : Int)) := Lib.hid (firstOf_at hlt (fun j hj => by rw [hok j hj]; rfl) (by rw [hOK.out, ht]; rfl))
    go_wp2_with (go_at_call 79; refine (allR1_any _ _ _ _ hpr hcr).mono ?_; rintro e w2 ⟨rfl, hb2⟩)
    go_ret
    exact ⟨ret_int HF.out.symm, ex_trans hbl hb2⟩
   ·
    go_wp2_with (go_at_call 79; refine (allR1_any _ _ _ _ hpr hcr).mono ?_; rintro e w2 ⟨rfl, hb2⟩)
    go_roundw
    case rel => exact ⟨k + 1, by omega, by go_num, fun j hj => by rcases Nat.lt_succ_iff_lt_or_eq.1 hj with h | h; exact hok j h; exact h ▸ hOK.out.trans ht, ex_trans hbl hb2⟩
    case measure => simp [intOf]; omega
  ·
   obtain rfl : k = n := by omega
   have HF : Hid (firstOf (fun k => !heatOk l k) k = -1) := Lib.hid (firstOf_neg fun j hj => by rw [hok j hj]; rfl)
   go_wp2
   go_ret
   exact ⟨ret_int HF.out.symm, hbl⟩

theorem containsR_any (A : Option Addr) (c n pb : Nat) (l : List Rg) (w : World) (hl : n ≤ 1000000) (hA : SlAt w w.heap.size 2 A n (fR l)) (hp : pb < w.heap.size) (hc : w.cell? ⟨pb, 0, none⟩ = some (.func (.func 67) #[] #[])) :
  Calls Try.prog 78 #[.slice A n c, .func (.func 79) #[] #[.pointer (some ⟨pb, 0, none⟩)]] w fun e w' =>
   e = .returned (.bool (!allTo (heatOk l) n)) ∧ Below w.heap.size w w' := by
 have HF : Hid (decide (0 ≤ firstOf (fun k => !heatOk l k) n) = !allTo (heatOk l) n) := Lib.hid (by rw [firstOf_nonneg]; simp)
 go_enter Try.func78, Try.ntmps78
 go_wp2_with (go_at_call 85; refine (indexR_any _ _ _ _ l _ hl hA hp hc).mono ?_; rintro e w2 ⟨rfl, hb2⟩)
 go_ret
 exact ⟨ret_bool HF.out, hb2⟩

theorem allR_any (A : Option Addr) (c n : Nat) (l : List Rg) (w : World) (hl : n ≤ 1000000) (hA : SlAt w w.heap.size 2 A n (fR l)) :
  Calls Try.prog 68 #[.slice A n c, .func (.func 67) #[] #[]] w fun e w' =>
   e = .returned (.bool (allTo (heatOk l) n)) ∧ Below w.heap.size w w' := by
 have hb1 := ex_alloc (Below.refl w.heap.size w) (.cells #[.func (.func 67) #[] #[]] 61)
 have hA1 := (hA.below hb1).up hb1.size
 go_enter Try.func68, Try.ntmps68
 go_wp2_with (go_at_call 78; refine (containsR_any _ _ _ _ l _ hl hA1 (by simp) (by simp [go_sem])).mono ?_; rintro e w2 ⟨rfl, hb2⟩)
 go_ret
 exact ⟨by simp, ex_trans hb1 hb2⟩

end Go.Proofs.Ytkaogjhnogkcdaa
end

section
namespace Go.Proofs.Ytkaogjhnogkcdaa
open Go.RowKit

theorem allR_is (A : Option Addr) (c n : Nat) (l : List Rg) (w : World) (r : Bool) (hl : n ≤ 1000000) (hA : SlAt w w.heap.size 2 A n (fR l)) (hr : Hid (allTo (heatOk l) n = r)) :
  Calls Try.prog 68 #[.slice A n c, .func (.func 67) #[] #[]] w fun e w' =>
   e = .returned (.bool r) ∧ Below w.heap.size w w' := by
 have h := allR_any A c n l w hl hA
 rwa [hr.out] at h

set_option maxHeartbeats 800000 in
theorem lived_no (g : Gl) (Ab Ad Ah : Option Addr) (cb cd ch : Nat) (h : List Rg) (w : World) (hg : GlIn w w.heap.size g Ab Ad) (hh : SlAt w w.heap.size 2 Ah h.length (fR h)) (hne : lived g h ≠ 0) :
  Calls Try.prog 58 #[.agg #[.int .i64 g.base, .slice Ab g.bands.length cb, .slice Ad g.depths.length cd, .int .i64 g.blo, .int .i64 g.bhi], .slice Ah h.length ch] w fun e w' =>
   e = .returned (.tuple #[.agg #[.int .i64 0, .slice none 0 0, .slice none 0 0, .int .i64 0, .int .i64 0, .slice none 0 0], .int .i64 (lived g h)]) ∧ Below w.heap.size w w' := by
 have hb1 := ex_alloc (ex_alloc (Below.refl w.heap.size w) (.cells #[.int .i64 g.base, .slice Ab g.bands.length cb, .slice Ad g.depths.length cd, .int .i64 g.blo, .int .i64 g.bhi] 30)) (.cells #[.int .i64 0, .slice none 0 0, .slice none 0 0, .int .i64 0, .int .i64 0, .slice none 0 0] 105)
 have hg1 := (hg.below hb1).up hb1.size
 have hh1 := (hh.below hb1).up hb1.size
 have HNE := Lib.hid hne
 clear hne
 by_cases hc : ckGlass g = 0
 ·
  have HC := Lib.hid hc
  clear hc
  by_cases hl : 16 < h.length
  ·
   have HR : Hid (lived g h = 3) := by unfold lived; rw [if_neg (by simp [HC.out]), if_pos hl]; exact Lib.hid rfl
   have hlb : decide (16 < h.length) = true := decide_eq_true hl
   go_enter Try.func58, Try.ntmps58
   go_wp2_with (go_at_call 31; refine (check_is g _ _ _ _ _ _ hg1 HC).mono ?_; rintro e w2 ⟨rfl, hb2⟩; obtain ⟨hcc, hff⟩ := bcell hb2; have hsz : w.heap.size + 1 < w2.heap.size := (by have := hb2.size; simp at this; omega); have hsy : w.heap.size < w2.heap.size := (by omega))
   exact bodyPost_ret (v := .tuple #[.agg #[.int .i64 0, .slice none 0 0, .slice none 0 0, .int .i64 0, .int .i64 0, .slice none 0 0], .int .i64 3]) (by simp [results, Try.results58, go_sem, hcc, hsz]) rfl ⟨by rw [HR.out], (by have HB := ex_trans hb1 hb2; repeat (first | with_reducible exact HB | with_reducible refine ex_set ?_ ?_ _ | simp))⟩
  have hlb : decide (16 < h.length) = false := decide_eq_false hl
  by_cases hz : h.length = 0
  ·
   have HR : Hid (lived g h = 2) := by unfold lived; rw [if_neg (by simp [HC.out]), if_neg hl, if_pos (.inl hz)]; exact Lib.hid rfl
   have hzb : (h.length == 0) = true := by simp [hz]
   have hzi : ((h.length : Int) == 0) = true := by simp [hz]
   have HZ := Lib.hid hz
   clear hz
   go_enter Try.func58, Try.ntmps58
   go_wp2_with (go_at_call 31; refine (check_is g _ _ _ _ _ _ hg1 HC).mono ?_; rintro e w2 ⟨rfl, hb2⟩; obtain ⟨hcc, hff⟩ := bcell hb2; have hsz : w.heap.size + 1 < w2.heap.size := (by have := hb2.size; simp at this; omega); have hsy : w.heap.size < w2.heap.size := (by omega))
   exact bodyPost_ret (v := .tuple #[.agg #[.int .i64 0, .slice none 0 0, .slice none 0 0, .int .i64 0, .int .i64 0, .slice none 0 0], .int .i64 2]) (by simp [results, Try.results58, go_sem, hcc, hsz]) rfl ⟨by rw [HR.out], (by have HB := ex_trans hb1 hb2; repeat (first | with_reducible exact HB | with_reducible refine ex_set ?_ ?_ _ | simp))⟩
  have hzb : (h.length == 0) = false := by simpa using hz
  have hzi : ((h.length : Int) == 0) = false := by simpa using hz
  cases ha : allTo (heatOk h) h.length
  ·
   have HA := Lib.hid ha
   have HR : Hid (lived g h = 2) := by unfold lived; rw [if_neg (by simp [HC.out]), if_neg hl, if_pos (.inr ha)]; exact Lib.hid rfl
   clear ha
   go_enter Try.func58, Try.ntmps58
   go_wp2_with (first | (go_at_call 31; refine (check_is g _ _ _ _ _ _ hg1 HC).mono ?_; rintro e w2 ⟨rfl, hb2⟩; obtain ⟨hcc, hff⟩ := bcell hb2; have hsz : w.heap.size + 1 < w2.heap.size := (by have := hb2.size; simp at this; omega); have hsy : w.heap.size < w2.heap.size := (by omega)) | (go_at_call 68; refine (allR_is _ _ _ h _ _ (by omega) ((hh1.below hb2).up hb2.size) HA).mono ?_; rintro e w3 ⟨rfl, hb3⟩; obtain ⟨hcc3, hff3⟩ := bcell hb3; have hsz3 : w.heap.size + 1 < w3.heap.size := (by have := hb3.size; omega); have hsy3 : w.heap.size < w3.heap.size := (by omega)))
   exact bodyPost_ret (v := .tuple #[.agg #[.int .i64 0, .slice none 0 0, .slice none 0 0, .int .i64 0, .int .i64 0, .slice none 0 0], .int .i64 2]) (by simp [results, Try.results58, go_sem, hcc, hsz, hcc3, hsz3]) rfl ⟨by rw [HR.out], (by have HB := ex_trans (ex_trans hb1 hb2) hb3; repeat (first | with_reducible exact HB | with_reducible refine ex_set ?_ ?_ _ | simp))⟩
  ·
   exact absurd (by unfold lived; rw [if_neg (by simp [HC.out]), if_neg hl, if_neg (by simp [hz, ha])]) HNE.out
 ·
  have HC := Lib.hid (show ckGlass g = ckGlass g from rfl)
  have HR : Hid (lived g h = ckGlass g) := by unfold lived; rw [if_pos hc]; exact Lib.hid rfl
  have hcb : (ckGlass g == 0) = false := by simpa using hc
  have hcb' : (ckGlass g != 0) = true := by simpa using hc
  clear hc
  go_enter Try.func58, Try.ntmps58
  go_wp2_with (go_at_call 31; refine (check_is g _ _ _ _ _ _ hg1 HC).mono ?_; rintro e w2 ⟨rfl, hb2⟩; obtain ⟨hcc, hff⟩ := bcell hb2; have hsz : w.heap.size + 1 < w2.heap.size := (by have := hb2.size; simp at this; omega); have hsy : w.heap.size < w2.heap.size := (by omega))
  exact bodyPost_ret (v := .tuple #[.agg #[.int .i64 0, .slice none 0 0, .slice none 0 0, .int .i64 0, .int .i64 0, .slice none 0 0], .int .i64 (ckGlass g)]) (by simp [results, Try.results58, go_sem, hcc, hsz]) rfl ⟨by rw [HR.out], (by have HB := ex_trans hb1 hb2; repeat (first | with_reducible exact HB | with_reducible refine ex_set ?_ ?_ _ | simp))⟩

set_option maxHeartbeats 800000 in
theorem lived_ok (g : Gl) (Ab Ad Ah : Option Addr) (cb cd ch : Nat) (h : List Rg) (w : World) (hg : GlIn w w.heap.size g Ab Ad) (hh : SlAt w w.heap.size 2 Ah h.length (fR h)) (heq : lived g h = 0) :
  Calls Try.prog 58 #[.agg #[.int .i64 g.base, .slice Ab g.bands.length cb, .slice Ad g.depths.length cd, .int .i64 g.blo, .int .i64 g.bhi], .slice Ah h.length ch] w fun e w' =>
   e = .returned (.tuple #[.agg #[.int .i64 g.base, .slice Ab g.bands.length cb, .slice Ad g.depths.length cd, .int .i64 g.blo, .int .i64 g.bhi, .slice Ah h.length ch], .int .i64 0]) ∧ Below w.heap.size w w' := by
 have hb1 := ex_alloc (ex_alloc (Below.refl w.heap.size w) (.cells #[.int .i64 g.base, .slice Ab g.bands.length cb, .slice Ad g.depths.length cd, .int .i64 g.blo, .int .i64 g.bhi] 30)) (.cells #[.int .i64 0, .slice none 0 0, .slice none 0 0, .int .i64 0, .int .i64 0, .slice none 0 0] 105)
 have hg1 := (hg.below hb1).up hb1.size
 have hh1 := (hh.below hb1).up hb1.size
 have HC : Hid (ckGlass g = 0) := by
  by_cases hc : ckGlass g = 0
  ·
   exact Lib.hid hc
  ·
   unfold lived at heq; rw [if_pos hc] at heq; exact absurd heq hc
 have hl : ¬ 16 < h.length := fun hl => by unfold lived at heq; rw [if_neg (by simp [HC.out]), if_pos hl] at heq; cases heq
 have hlb : decide (16 < h.length) = false := decide_eq_false hl
 have hza : ¬ (h.length = 0 ∨ allTo (heatOk h) h.length = false) := fun hz => by unfold lived at heq; rw [if_neg (by simp [HC.out]), if_neg hl, if_pos hz] at heq; cases heq
 have hz : ¬ h.length = 0 := fun e => hza (.inl e)
 have HA : Hid (allTo (heatOk h) h.length = true) := by
  cases ha : allTo (heatOk h) h.length
  ·
   exact absurd (.inr ha) hza
  ·
   exact Lib.hid rfl
 have hzb : (h.length == 0) = false := by simpa using hz
 have hzi : ((h.length : Int) == 0) = false := by simpa using hz
 clear hza heq
 go_enter Try.func58, Try.ntmps58
 go_wp2_with (first | (go_at_call 31; refine (check_is g _ _ _ _ _ _ hg1 HC).mono ?_; rintro e w2 ⟨rfl, hb2⟩; obtain ⟨hcc, hff⟩ := bcell hb2; have hsz : w.heap.size + 1 < w2.heap.size := (by have := hb2.size; simp at this; omega); have hsy : w.heap.size < w2.heap.size := (by omega)) | (go_at_call 68; refine (allR_is _ _ _ h _ _ (by omega) ((hh1.below hb2).up hb2.size) HA).mono ?_; rintro e w3 ⟨rfl, hb3⟩; obtain ⟨hcc3, hff3⟩ := bcell hb3; have hsz3 : w.heap.size + 1 < w3.heap.size := (by have := hb3.size; omega); have hsy3 : w.heap.size < w3.heap.size := (by omega)))
 exact bodyPost_ret (v := .tuple #[.agg #[.int .i64 g.base, .slice Ab g.bands.length cb, .slice Ad g.depths.length cd, .int .i64 g.blo, .int .i64 g.bhi, .slice Ah h.length ch], .int .i64 0]) (by simp [results, Try.results58, go_sem, hcc, hsz, hcc3, hsz3]) rfl ⟨rfl, (by have HB := ex_trans (ex_trans hb1 hb2) hb3; repeat (first | with_reducible exact HB | with_reducible refine ex_set ?_ ?_ _ | simp))⟩

end Go.Proofs.Ytkaogjhnogkcdaa
end

section
namespace Go.Proofs.Ytkaogjhnogkcdaa
open Go.RowKit

def iceB (nh : Nat) (day zero err : Int) : Bool := inB day 0 ((nh : Int) - 1) && (inB zero (-2000) 2000 && inB err 0 20)

set_option maxHeartbeats 400000 in
theorem iced1_any (day zero err : Int) (nh ph ch : Nat) (Ah : Option Addr) (w : World) (hnh : nh ≤ 1000000) (hph : ph < w.heap.size) (hhc : w.cell? ⟨ph, 0, none⟩ = some (.slice Ah nh ch)) :
  Calls Try.prog 59 #[.agg #[.int .i64 day, .int .i64 zero, .int .i64 err], .pointer (some ⟨ph, 0, none⟩)] w fun e w' => e = .returned (.bool (iceB nh day zero err)) ∧ Below w.heap.size w w' := by
 have hb1 := ex_alloc (Below.refl w.heap.size w) (.cells #[.int .i64 day, .int .i64 zero, .int .i64 err] 40)
 cases h1 : inB day 0 ((nh : Int) - 1)
 ·
  have HR : Hid (iceB nh day zero err = false) := by unfold iceB; rw [h1]; exact Lib.hid rfl
  go_enter Try.func59, Try.ntmps59
  go_wp2_with (go_at_call 46; refine (within_any _ _ _ _).mono ?_; rintro e w' ⟨rfl, rfl⟩)
  go_ret
  exact ⟨ret_bool HR.out.symm, hb1⟩
 cases h2 : inB zero (-2000) 2000
 ·
  have HR : Hid (iceB nh day zero err = false) := by unfold iceB; rw [h1, h2]; exact Lib.hid rfl
  go_enter Try.func59, Try.ntmps59
  go_wp2_with (go_at_call 46; refine (within_any _ _ _ _).mono ?_; rintro e w' ⟨rfl, rfl⟩)
  go_ret
  exact ⟨ret_bool HR.out.symm, hb1⟩
 ·
  have HR : Hid (iceB nh day zero err = inB err 0 20) := by unfold iceB; rw [h1, h2]; exact Lib.hid rfl
  go_enter Try.func59, Try.ntmps59
  go_wp2_with (go_at_call 46; refine (within_any _ _ _ _).mono ?_; rintro e w' ⟨rfl, rfl⟩)
  go_ret
  exact ⟨ret_bool HR.out.symm, hb1⟩

theorem allC1_any (day zero err : Int) (nh ph ch : Nat) (Ah : Option Addr) (pb : Nat) (w : World) (hnh : nh ≤ 1000000) (hph : ph < w.heap.size) (hhc : w.cell? ⟨ph, 0, none⟩ = some (.slice Ah nh ch)) (hp : pb < w.heap.size) (hc : w.cell? ⟨pb, 0, none⟩ = some (.func (.func 59) #[] #[.pointer (some ⟨ph, 0, none⟩)])) :
  Calls Try.prog 70 #[.agg #[.int .i64 day, .int .i64 zero, .int .i64 err], .pointer (some ⟨pb, 0, none⟩)] w fun e w' => e = .returned (.bool (!iceB nh day zero err)) ∧ Below w.heap.size w w' := by
 have hb1 := ex_alloc (Below.refl w.heap.size w) (.cells #[.int .i64 day, .int .i64 zero, .int .i64 err] 40)
 have hph1 := Nat.lt_of_lt_of_le hph hb1.size
 have hhc1 := (hb1.cell (p := ⟨ph, 0, none⟩) hph).trans hhc
 go_enter Try.func70, Try.ntmps70
 go_wp2_with (go_at_call 59; refine (iced1_any _ _ _ nh ph ch Ah _ hnh hph1 hhc1).mono ?_; rintro e w2 ⟨rfl, hb2⟩)
 go_ret
 exact ⟨rfl, ex_trans (ex_alloc (Below.refl _ _) _) hb2⟩

set_option maxHeartbeats 400000 in
theorem indexC_any (Ah A : Option Addr) (ph ch c n pb : Nat) (nh : Nat) (l : List Ic) (w : World) (hnh : nh ≤ 1000000) (hph : ph < w.heap.size) (hhc : w.cell? ⟨ph, 0, none⟩ = some (.slice Ah nh ch)) (hl : n ≤ 1000000) (hA : SlAt w w.heap.size 3 A n (fC l)) (hp : pb < w.heap.size) (hc : w.cell? ⟨pb, 0, none⟩ = some (.func (.func 59) #[] #[.pointer (some ⟨ph, 0, none⟩)])) :
  Calls Try.prog 80 #[.slice A n c, .func (.func 70) #[] #[.pointer (some ⟨pb, 0, none⟩)]] w fun e w' =>
   e = .returned (.int .i64 (firstOf (fun k => !iceOk nh l k) n)) ∧ Below w.heap.size w w' := by
 go_enter Try.func80, Try.ntmps80
 go_wp2
 go_loopw [8] (fun i wr => ∃ k : Nat, k ≤ n ∧ i = .int .i64 k ∧ (∀ j, j < k → iceOk nh l j = true) ∧ Below w.heap.size w wr)
  (fun i _ => n - (intOf i).toNat)
 case atStart => exact ⟨0, by omega, rfl, fun j hj => by omega, Below.refl _ _⟩
 case round =>
  obtain ⟨k, hk, rfl, hok, hbl⟩ := hrel
  by_cases hlt : k < n
  ·
   obtain ⟨b, off, rfl, hbB, h0, h1, h2⟩ := IsIcs.at_ (hA.below hbl) hlt
   have hcr : wr.cell? ⟨pb, 0, none⟩ = some (.func (.func 59) #[] #[.pointer (some ⟨ph, 0, none⟩)]) := (hbl.cell (p := ⟨pb, 0, none⟩) hp).trans hc
   have hhr : wr.cell? ⟨ph, 0, none⟩ = some (.slice Ah nh ch) := (hbl.cell (p := ⟨ph, 0, none⟩) hph).trans hhc
   have hpr' : ph < wr.heap.size := by have := hbl.size; omega
   have hpr : pb < wr.heap.size := by have := hbl.size; omega
   have hOK := Lib.hid (show iceOk nh l k = iceB nh (gC l k).day (gC l k).zero (gC l k).err from rfl)
   cases ht : iceB nh (gC l k).day (gC l k).zero (gC l k).err
   ·
    have HF : Hid (firstOf (fun k => !iceOk nh l k) n = (k : Int)) := Lib.hid (firstOf_at hlt (fun j hj => by rw [hok j hj]; rfl) (by rw [hOK.out, ht]; rfl))
    go_wp2_with (go_at_call 70; refine (allC1_any _ _ _ nh ph ch Ah _ _ hnh hpr' hhr hpr hcr).mono ?_; rintro e w2 ⟨rfl, hb2⟩)
    go_ret
    exact ⟨ret_int HF.out.symm, ex_trans hbl hb2⟩
   ·
    go_wp2_with (go_at_call 70; refine (allC1_any _ _ _ nh ph ch Ah _ _ hnh hpr' hhr hpr hcr).mono ?_; rintro e w2 ⟨rfl, hb2⟩)
    go_roundw
    case rel => exact ⟨k + 1, by omega, by go_num, fun j hj => by rcases Nat.lt_succ_iff_lt_or_eq.1 hj with h | h; exact hok j h; exact h ▸ hOK.out.trans ht, ex_trans hbl hb2⟩
    case measure => simp [intOf]; omega
  ·
   obtain rfl : k = n := by omega
   have HF : Hid (firstOf (fun k => !iceOk nh l k) k = -1) := Lib.hid (firstOf_neg fun j hj => by rw [hok j hj]; rfl)
   go_wp2
   go_ret
   exact ⟨ret_int HF.out.symm, hbl⟩

theorem containsC_any (Ah A : Option Addr) (ph ch c n pb : Nat) (nh : Nat) (l : List Ic) (w : World) (hnh : nh ≤ 1000000) (hph : ph < w.heap.size) (hhc : w.cell? ⟨ph, 0, none⟩ = some (.slice Ah nh ch)) (hl : n ≤ 1000000) (hA : SlAt w w.heap.size 3 A n (fC l)) (hp : pb < w.heap.size) (hc : w.cell? ⟨pb, 0, none⟩ = some (.func (.func 59) #[] #[.pointer (some ⟨ph, 0, none⟩)])) :
  Calls Try.prog 69 #[.slice A n c, .func (.func 70) #[] #[.pointer (some ⟨pb, 0, none⟩)]] w fun e w' =>
   e = .returned (.bool (!allTo (iceOk nh l) n)) ∧ Below w.heap.size w w' := by
 have HF : Hid (decide (0 ≤ firstOf (fun k => !iceOk nh l k) n) = !allTo (iceOk nh l) n) := Lib.hid (by rw [firstOf_nonneg]; simp)
 go_enter Try.func69, Try.ntmps69
 go_wp2_with (go_at_call 80; refine (indexC_any Ah _ ph ch _ _ _ nh l _ hnh hph hhc hl hA hp hc).mono ?_; rintro e w2 ⟨rfl, hb2⟩)
 go_ret
 exact ⟨ret_bool HF.out, hb2⟩

theorem allC_any (Ah A : Option Addr) (ph ch c n : Nat) (nh : Nat) (l : List Ic) (w : World) (hnh : nh ≤ 1000000) (hph : ph < w.heap.size) (hhc : w.cell? ⟨ph, 0, none⟩ = some (.slice Ah nh ch)) (hl : n ≤ 1000000) (hA : SlAt w w.heap.size 3 A n (fC l)) :
  Calls Try.prog 60 #[.slice A n c, .func (.func 59) #[] #[.pointer (some ⟨ph, 0, none⟩)]] w fun e w' =>
   e = .returned (.bool (allTo (iceOk nh l) n)) ∧ Below w.heap.size w w' := by
 have hb1 := ex_alloc (Below.refl w.heap.size w) (.cells #[.func (.func 59) #[] #[.pointer (some ⟨ph, 0, none⟩)]] 116)
 have hA1 := (hA.below hb1).up hb1.size
 have hph1 := Nat.lt_of_lt_of_le hph hb1.size
 have hhc1 := (hb1.cell (p := ⟨ph, 0, none⟩) hph).trans hhc
 go_enter Try.func60, Try.ntmps60
 go_wp2_with (go_at_call 69; refine (containsC_any Ah _ ph ch _ _ _ nh l _ hnh hph1 hhc1 hl hA1 (by simp) (by simp [go_sem])).mono ?_; rintro e w2 ⟨rfl, hb2⟩)
 go_ret
 exact ⟨by simp, ex_trans hb1 hb2⟩


theorem allC_is (Ah A : Option Addr) (ph ch c n : Nat) (nh : Nat) (l : List Ic) (w : World) (r : Bool) (hnh : nh ≤ 1000000) (hph : ph < w.heap.size) (hhc : w.cell? ⟨ph, 0, none⟩ = some (.slice Ah nh ch)) (hl : n ≤ 1000000) (hA : SlAt w w.heap.size 3 A n (fC l)) (hr : Hid (allTo (iceOk nh l) n = r)) :
  Calls Try.prog 60 #[.slice A n c, .func (.func 59) #[] #[.pointer (some ⟨ph, 0, none⟩)]] w fun e w' =>
   e = .returned (.bool r) ∧ Below w.heap.size w w' := by
 have h := allC_any Ah A ph ch c n nh l w hnh hph hhc hl hA
 rwa [hr.out] at h

end Go.Proofs.Ytkaogjhnogkcdaa
end

section
namespace Go.Proofs.Ytkaogjhnogkcdaa
open Go.RowKit

theorem iced_lived_ne {g : Gl} {h : List Rg} {l : List Ic} (hl : lived g h ≠ 0) : iced g h l = lived g h := by unfold iced; rw [if_pos hl]
theorem iced_eq {g : Gl} {h : List Rg} {l : List Ic} (hl : lived g h = 0) : iced g h l = if 8 < l.length then 3 else if allTo (iceOk h.length l) l.length = false then 2 else 0 := by unfold iced; rw [if_neg (by simp [hl])]
theorem lived_len {g : Gl} {h : List Rg} (hl : lived g h = 0) : h.length ≤ 16 := by
 unfold lived at hl
 by_cases hc : ckGlass g ≠ 0
 ·
  rw [if_pos hc] at hl; exact absurd hl hc
 ·
  rw [if_neg hc] at hl
  by_cases h16 : 16 < h.length
  ·
   rw [if_pos h16] at hl; cases hl
  ·
   omega
theorem iced_lived {g : Gl} {h : List Rg} {l : List Ic} (hl : iced g h l = 0) : lived g h = 0 := by
 by_cases hc : lived g h = 0
 ·
  exact hc
 ·
  rw [iced_lived_ne hc] at hl; exact hl
theorem iced_len {g : Gl} {h : List Rg} {l : List Ic} (hl : iced g h l = 0) : l.length ≤ 8 := by
 rw [iced_eq (iced_lived hl)] at hl
 by_cases h8 : 8 < l.length
 ·
  rw [if_pos h8] at hl; cases hl
 ·
  omega
theorem iced_all {g : Gl} {h : List Rg} {l : List Ic} (hl : iced g h l = 0) : allTo (iceOk h.length l) l.length = true := by
 have h8 := iced_len hl
 rw [iced_eq (iced_lived hl), if_neg (by omega)] at hl
 cases ha : allTo (iceOk h.length l) l.length
 ·
  rw [if_pos ha] at hl; cases hl
 ·
  rfl

set_option maxHeartbeats 800000 in
theorem iced_no (g : Gl) (Ab Ad Ah Ai : Option Addr) (cb cd ch ci : Nat) (h : List Rg) (l : List Ic) (w : World) (hg : GlIn w w.heap.size g Ab Ad) (hh : SlAt w w.heap.size 2 Ah h.length (fR h)) (hi : SlAt w w.heap.size 3 Ai l.length (fC l)) (hne : iced g h l ≠ 0) :
  Calls Try.prog 50 #[.agg #[.int .i64 g.base, .slice Ab g.bands.length cb, .slice Ad g.depths.length cd, .int .i64 g.blo, .int .i64 g.bhi], .slice Ah h.length ch, .slice Ai l.length ci] w fun e w' =>
   e = .returned (.tuple #[.agg #[.int .i64 0, .slice none 0 0, .slice none 0 0, .int .i64 0, .int .i64 0, .slice none 0 0, .slice none 0 0], .int .i64 (iced g h l)]) ∧ Below w.heap.size w w' := by
 have hb1 := ex_alloc (ex_alloc (ex_alloc (Below.refl w.heap.size w) (.cells #[.int .i64 g.base, .slice Ab g.bands.length cb, .slice Ad g.depths.length cd, .int .i64 g.blo, .int .i64 g.bhi] 30)) (.cells #[.slice Ah h.length ch] 34)) (.cells #[.int .i64 0, .slice none 0 0, .slice none 0 0, .int .i64 0, .int .i64 0, .slice none 0 0, .slice none 0 0] 107)
 have hg1 := (hg.below hb1).up hb1.size
 have hh1 := (hh.below hb1).up hb1.size
 have HNE := Lib.hid hne
 clear hne
 by_cases hc : lived g h = 0
 ·
  have HL := Lib.hid hc
  have hnh : h.length ≤ 1000000 := by have := lived_len hc; omega
  have HE := Lib.hid (iced_eq (l := l) hc)
  clear hc
  by_cases hl : 8 < l.length
  ·
   have HR : Hid (iced g h l = 3) := by rw [HE.out, if_pos hl]; exact Lib.hid rfl
   have hlb : decide (8 < l.length) = true := decide_eq_true hl
   go_enter Try.func50, Try.ntmps50
   go_wp2_with (go_at_call 58; refine (lived_ok g _ _ _ _ _ _ h _ hg1 hh1 HL.out).mono ?_; rintro e w2 ⟨rfl, hb2⟩; obtain ⟨hcc, hff⟩ := bcell hb2; have hsz : w.heap.size + 2 < w2.heap.size := (by have := hb2.size; simp at this; omega); have hsy : w.heap.size < w2.heap.size := (by omega); have hsx : w.heap.size + 1 < w2.heap.size := (by omega))
   exact bodyPost_ret (v := .tuple #[.agg #[.int .i64 0, .slice none 0 0, .slice none 0 0, .int .i64 0, .int .i64 0, .slice none 0 0, .slice none 0 0], .int .i64 3]) (by simp [results, Try.results50, go_sem, hcc, hsz]) rfl ⟨by rw [HR.out], (by have HB := ex_trans hb1 hb2; repeat (first | with_reducible exact HB | with_reducible refine ex_set ?_ ?_ _ | with_reducible refine ex_alloc ?_ _ | (simp; done) | (simp; omega)))⟩
  have hlb : decide (8 < l.length) = false := decide_eq_false hl
  cases ha : allTo (iceOk h.length l) l.length
  ·
   have HA := Lib.hid ha
   have HR : Hid (iced g h l = 2) := by rw [HE.out, if_neg hl, if_pos ha]; exact Lib.hid rfl
   clear ha
   go_enter Try.func50, Try.ntmps50
   have hl6 : l.length ≤ 1000000 := by omega
   go_wp2_with (first | (go_at_call 58; refine (lived_ok g _ _ _ _ _ _ h _ hg1 hh1 HL.out).mono ?_; rintro e w2 ⟨rfl, hb2⟩; obtain ⟨hcc, hff⟩ := bcell hb2; have hsz : w.heap.size + 2 < w2.heap.size := (by have := hb2.size; simp at this; omega); have hsy : w.heap.size < w2.heap.size := (by omega); have hsx : w.heap.size + 1 < w2.heap.size := (by omega)) | (go_at_call 60; have hb2a := ex_alloc (ex_trans hb1 hb2) (.cells #[.int .i64 g.base, .slice Ab g.bands.length cb, .slice Ad g.depths.length cd, .int .i64 g.blo, .int .i64 g.bhi, .slice Ah h.length ch] 105); have q1 : w.heap.size + 1 < (w2.alloc (.cells #[.int .i64 g.base, .slice Ab g.bands.length cb, .slice Ad g.depths.length cd, .int .i64 g.blo, .int .i64 g.bhi, .slice Ah h.length ch] 105)).heap.size := (by simp; omega); have q2 : (w2.alloc (.cells #[.int .i64 g.base, .slice Ab g.bands.length cb, .slice Ad g.depths.length cd, .int .i64 g.blo, .int .i64 g.bhi, .slice Ah h.length ch] 105)).cell? ⟨w.heap.size + 1, 0, none⟩ = some (.slice Ah h.length ch) := (by simp [go_sem, hcc, hsx]); refine (allC_is Ah Ai (w.heap.size + 1) ch ci _ h.length l _ _ hnh q1 q2 hl6 ((hi.below hb2a).up hb2a.size) HA).mono ?_; clear q1 q2; rintro e w3 ⟨rfl, hb3⟩; obtain ⟨hcc3, hff3⟩ := bcell hb3; have hsz3 : w2.heap.size < w3.heap.size := (by have := hb3.size; simp at this; omega); have hsy3 : w.heap.size + 2 < w3.heap.size := (by omega)))
   exact bodyPost_ret (v := .tuple #[.agg #[.int .i64 0, .slice none 0 0, .slice none 0 0, .int .i64 0, .int .i64 0, .slice none 0 0, .slice none 0 0], .int .i64 2]) (by simp [results, Try.results50, go_sem, hcc, hsz, hcc3, (show w.heap.size + 1 + 1 < w2.heap.size + 1 by omega), (show w.heap.size + 1 + 1 < w2.heap.size by omega)]) rfl ⟨by first | rw [HR.out] | rfl, (by have HB := ex_trans hb2a hb3; repeat (first | with_reducible exact HB | with_reducible refine ex_set ?_ ?_ _ | with_reducible refine ex_alloc ?_ _ | (simp; done) | (simp; omega)))⟩
  ·
   exact absurd (by rw [HE.out, if_neg hl, if_neg (by simp [ha])]) HNE.out
 ·
  have HR := Lib.hid (iced_lived_ne (l := l) hc)
  have HL := Lib.hid hc
  have hcb : (lived g h == 0) = false := by simpa using hc
  have hcb' : (lived g h != 0) = true := by simpa using hc
  clear hc
  go_enter Try.func50, Try.ntmps50
  go_wp2_with (go_at_call 58; refine (lived_no g _ _ _ _ _ _ h _ hg1 hh1 HL.out).mono ?_; rintro e w2 ⟨rfl, hb2⟩; obtain ⟨hcc, hff⟩ := bcell hb2; have hsz : w.heap.size + 2 < w2.heap.size := (by have := hb2.size; simp at this; omega); have hsy : w.heap.size < w2.heap.size := (by omega); have hsx : w.heap.size + 1 < w2.heap.size := (by omega))
  exact bodyPost_ret (v := .tuple #[.agg #[.int .i64 0, .slice none 0 0, .slice none 0 0, .int .i64 0, .int .i64 0, .slice none 0 0, .slice none 0 0], .int .i64 (lived g h)]) (by simp [results, Try.results50, go_sem, hcc, hsz]) rfl ⟨by rw [HR.out], (by have HB := ex_trans hb1 hb2; repeat (first | with_reducible exact HB | with_reducible refine ex_set ?_ ?_ _ | with_reducible refine ex_alloc ?_ _ | (simp; done) | (simp; omega)))⟩

set_option maxHeartbeats 800000 in
theorem iced_ok (g : Gl) (Ab Ad Ah Ai : Option Addr) (cb cd ch ci : Nat) (h : List Rg) (l : List Ic) (w : World) (hg : GlIn w w.heap.size g Ab Ad) (hh : SlAt w w.heap.size 2 Ah h.length (fR h)) (hi : SlAt w w.heap.size 3 Ai l.length (fC l)) (heq : iced g h l = 0) :
  Calls Try.prog 50 #[.agg #[.int .i64 g.base, .slice Ab g.bands.length cb, .slice Ad g.depths.length cd, .int .i64 g.blo, .int .i64 g.bhi], .slice Ah h.length ch, .slice Ai l.length ci] w fun e w' =>
   e = .returned (.tuple #[.agg #[.int .i64 g.base, .slice Ab g.bands.length cb, .slice Ad g.depths.length cd, .int .i64 g.blo, .int .i64 g.bhi, .slice Ah h.length ch, .slice Ai l.length ci], .int .i64 0]) ∧ Below w.heap.size w w' := by
 have hb1 := ex_alloc (ex_alloc (ex_alloc (Below.refl w.heap.size w) (.cells #[.int .i64 g.base, .slice Ab g.bands.length cb, .slice Ad g.depths.length cd, .int .i64 g.blo, .int .i64 g.bhi] 30)) (.cells #[.slice Ah h.length ch] 34)) (.cells #[.int .i64 0, .slice none 0 0, .slice none 0 0, .int .i64 0, .int .i64 0, .slice none 0 0, .slice none 0 0] 107)
 have hg1 := (hg.below hb1).up hb1.size
 have hh1 := (hh.below hb1).up hb1.size
 have HL := Lib.hid (iced_lived heq)
 have hnh : h.length ≤ 1000000 := by have := lived_len (iced_lived heq); omega
 have h8 := iced_len heq
 have hlb : decide (8 < l.length) = false := decide_eq_false (by omega)
 have hl6 : l.length ≤ 1000000 := by omega
 have HA := Lib.hid (iced_all heq)
 clear heq
 go_enter Try.func50, Try.ntmps50
 go_wp2_with (first | (go_at_call 58; refine (lived_ok g _ _ _ _ _ _ h _ hg1 hh1 HL.out).mono ?_; rintro e w2 ⟨rfl, hb2⟩; obtain ⟨hcc, hff⟩ := bcell hb2; have hsz : w.heap.size + 2 < w2.heap.size := (by have := hb2.size; simp at this; omega); have hsy : w.heap.size < w2.heap.size := (by omega); have hsx : w.heap.size + 1 < w2.heap.size := (by omega)) | (go_at_call 60; have hb2a := ex_alloc (ex_trans hb1 hb2) (.cells #[.int .i64 g.base, .slice Ab g.bands.length cb, .slice Ad g.depths.length cd, .int .i64 g.blo, .int .i64 g.bhi, .slice Ah h.length ch] 105); have q1 : w.heap.size + 1 < (w2.alloc (.cells #[.int .i64 g.base, .slice Ab g.bands.length cb, .slice Ad g.depths.length cd, .int .i64 g.blo, .int .i64 g.bhi, .slice Ah h.length ch] 105)).heap.size := (by simp; omega); have q2 : (w2.alloc (.cells #[.int .i64 g.base, .slice Ab g.bands.length cb, .slice Ad g.depths.length cd, .int .i64 g.blo, .int .i64 g.bhi, .slice Ah h.length ch] 105)).cell? ⟨w.heap.size + 1, 0, none⟩ = some (.slice Ah h.length ch) := (by simp [go_sem, hcc, hsx]); refine (allC_is Ah Ai (w.heap.size + 1) ch ci _ h.length l _ _ hnh q1 q2 hl6 ((hi.below hb2a).up hb2a.size) HA).mono ?_; clear q1 q2; rintro e w3 ⟨rfl, hb3⟩; obtain ⟨hcc3, hff3⟩ := bcell hb3; have hsz3 : w2.heap.size < w3.heap.size := (by have := hb3.size; simp at this; omega); have hsy3 : w.heap.size + 2 < w3.heap.size := (by omega)))
 exact bodyPost_ret (v := .tuple #[.agg #[.int .i64 g.base, .slice Ab g.bands.length cb, .slice Ad g.depths.length cd, .int .i64 g.blo, .int .i64 g.bhi, .slice Ah h.length ch, .slice Ai l.length ci], .int .i64 0]) (by simp [results, Try.results50, go_sem, hcc, hsz, hcc3, (show w.heap.size + 1 + 1 < w2.heap.size + 1 by omega), (show w.heap.size + 1 + 1 < w2.heap.size by omega)]) rfl ⟨by first | rw [HR.out] | rfl, (by have HB := ex_trans hb2a hb3; repeat (first | with_reducible exact HB | with_reducible refine ex_set ?_ ?_ _ | with_reducible refine ex_alloc ?_ _ | (simp; done) | (simp; omega)))⟩

end Go.Proofs.Ytkaogjhnogkcdaa
end

section
namespace Go.Proofs.Ytkaogjhnogkcdaa
open Go.RowKit

set_option maxHeartbeats 800000 in
theorem fits_any (base blo bhi day zero : Int) (vb vd vh : Value) (Ai : Option Addr) (ci : Nat) (l : List Ic) (o : Nat → Bool) (w : World) (hi : SlAt w w.heap.size 3 Ai l.length (fC l)) (h8 : l.length ≤ 8) (hbd : IcesBd l)
  (hz : -1000000 ≤ zero ∧ zero ≤ 1000000) :
  Calls Try.prog 71 #[.agg #[.int .i64 base, vb, vd, .int .i64 blo, .int .i64 bhi, vh, .slice Ai l.length ci], .int .i64 day, .int .i64 zero, .agg #[.bool (o 0), .bool (o 1), .bool (o 2), .bool (o 3), .bool (o 4), .bool (o 5), .bool (o 6), .bool (o 7)]] w fun e w' =>
   e = .returned (.bool (fitsB l o day zero)) ∧ Below w.heap.size w w' := by
 go_enter Try.func71, Try.ntmps71
 go_wp2
 go_loopw [15] (fun i wr => ∃ k : Nat, k ≤ l.length ∧ i = .int .i64 k ∧ (∀ j, j < k → fitOk l o day zero j = true) ∧ Below w.heap.size w wr ∧ Blk wr (w.heap.size + 1) 121 (offV o))
  (fun i _ => l.length - (intOf i).toNat)
 case atStart => exact ⟨0, by omega, rfl, fun j hj => by omega, ex_alloc (ex_alloc (Below.refl _ _) _) _, Blk.new' _ _ _ (by simp)⟩
 case round =>
  obtain ⟨k, hk, rfl, hok, hbl, hblk⟩ := hrel
  have hlt0 := hblk.lt
  by_cases hlt : k < l.length
  ·
   obtain ⟨b, off, rfl, hbB, h0, h1, h2⟩ := IsIcs.at_ (hi.below hbl) hlt
   have hk8 : k < 8 := by omega
   have hco := (hblk.cell k).trans (offV_at o hk8)
   have hF := Lib.hid (show fitOk l o day zero k = !(((gC l k).day == day) && (!o k && !inB (zero - (gC l k).zero) (-(gC l k).err) (gC l k).err)) from rfl)
   have hN : fitOk l o day zero k = false → Hid (fitsB l o day zero = false) := fun h => by unfold fitsB; rw [allTo_false hlt h]; exact Lib.hid rfl
   have hbd' := hbd k hlt
   obtain ⟨⟨e1, e2⟩, e3, e4⟩ := hbd'
   cases hd : ((gC l k).day == day)
   ·
    have hOK : Hid (fitOk l o day zero k = true) := by rw [hF.out, hd]; exact Lib.hid rfl
    go_wp2
    go_roundw
    case rel => exact ⟨k + 1, by omega, by go_num, fun j hj => by rcases Nat.lt_succ_iff_lt_or_eq.1 hj with h | h; exact hok j h; exact h ▸ hOK.out, ex_alloc hbl _, hblk.alloc _⟩
    case measure => simp [intOf]; omega
   cases ho : o k
   ·
    cases ha : inB (zero - (gC l k).zero) (-(gC l k).err) (gC l k).err
    ·
     replace hN := hN (by rw [hF.out, hd, ho, ha]; rfl)
     go_wp2_with (go_at_call 81; refine (agrees_any _ _ _ _ _ ⟨e1, e2⟩ hz ⟨e3, e4⟩).mono ?_; rintro e w2 ⟨rfl, hb2⟩)
     go_ret
     exact ⟨ret_bool hN.out.symm, ex_trans (ex_alloc hbl _) hb2⟩
    ·
     have hOK : Hid (fitOk l o day zero k = true) := by rw [hF.out, hd, ho, ha]; exact Lib.hid rfl
     go_wp2_with (go_at_call 81; refine (agrees_any _ _ _ _ _ ⟨e1, e2⟩ hz ⟨e3, e4⟩).mono ?_; rintro e w2 ⟨rfl, hb2⟩)
     go_roundw
     case rel => exact ⟨k + 1, by omega, by go_num, fun j hj => by rcases Nat.lt_succ_iff_lt_or_eq.1 hj with h | h; exact hok j h; exact h ▸ hOK.out, ex_trans (ex_alloc hbl _) hb2, (hblk.alloc _).below hb2 (by simp; omega)⟩
     case measure => simp [intOf]; omega
   ·
    have hOK : Hid (fitOk l o day zero k = true) := by rw [hF.out, hd, ho]; exact Lib.hid rfl
    go_wp2
    go_roundw
    case rel => exact ⟨k + 1, by omega, by go_num, fun j hj => by rcases Nat.lt_succ_iff_lt_or_eq.1 hj with h | h; exact hok j h; exact h ▸ hOK.out, ex_alloc hbl _, hblk.alloc _⟩
    case measure => simp [intOf]; omega
  ·
   have hkn : k = l.length := by omega
   have HF : Hid (fitsB l o day zero = true) := Lib.hid (allTo_iff.2 fun j hj => hok j (by omega))
   clear hkn
   go_wp2
   go_ret
   exact ⟨ret_bool HF.out.symm, hbl⟩

end Go.Proofs.Ytkaogjhnogkcdaa
end

section
namespace Go.Proofs.Ytkaogjhnogkcdaa
open Go.RowKit
attribute [local go_sem] Ex.cell?

theorem SlAt.ext {w : World} {B sz n : Nat} {A : Option Addr} {f : Nat → Nat → Value} (h : SlAt w B sz A n f) (hB : B ≤ w.heap.size) (x : Ex w) : SlAt x.W B sz A n f := h.below (x.h.mono hB)
def creep (g : Gl) (d : Nat) : Rg := creepTo g.bands (d : Int) g.bands.length
def sinks (g : Gl) (heat : Int) : Int := sinksTo g.depths heat g.depths.length
def dayOk (g : Gl) (h : List Rg) (t1 t2 t3 : List Int) (d : Nat) : Bool := inB (gI t1 d) (gR h d).lo (gR h d).hi && (inB (gI t2 d) (creep g d).lo (creep g d).hi && inB (gI t3 d) g.blo g.bhi)
def truthB (g : Gl) (h : List Rg) (t1 t2 t3 : List Int) : Bool := (decide (t1.length = h.length) && (decide (t2.length = h.length) && decide (t3.length = h.length))) && allTo (dayOk g h t1 t2 t3) h.length

end Go.Proofs.Ytkaogjhnogkcdaa
end

section
namespace Go.Proofs.Ytkaogjhnogkcdaa
open Go.RowKit

structure Ok (g : Gl) (h : List Rg) : Prop where
 base : -1000 ≤ g.base ∧ g.base ≤ 1000
 back : 0 ≤ g.blo ∧ g.blo ≤ g.bhi ∧ g.bhi ≤ 5
 nb : 0 < g.bands.length ∧ g.bands.length ≤ 3
 nd : 0 < g.depths.length ∧ g.depths.length ≤ 4
 bands : ∀ k, k < g.bands.length → bandOk g.bands k = true
 first : (gB g.bands 0).from_ = 0
 depths : ∀ k, k < g.depths.length → deepOk g.depths k = true
 nh : 0 < h.length ∧ h.length ≤ 16
 heats : ∀ k, k < h.length → 0 ≤ (gR h k).lo ∧ (gR h k).lo ≤ (gR h k).hi ∧ (gR h k).hi ≤ 500

theorem ok_of_lived {g : Gl} {h : List Rg} (hl : lived g h = 0) : Ok g h := by
 have h16 := lived_len hl
 unfold lived at hl
 by_cases hc : ckGlass g ≠ 0
 ·
  rw [if_pos hc] at hl; exact absurd hl hc
 rw [if_neg hc, if_neg (by omega)] at hl
 have hc : ckGlass g = 0 := by simpa using hc
 unfold ckGlass at hc
 by_cases hn : 3 < g.bands.length ∨ 4 < g.depths.length
 ·
  rw [if_pos hn] at hc; cases hc
 rw [if_neg hn] at hc
 have hk : ckOk g = true := by
  cases hh : ckOk g
  ·
   rw [hh] at hc; simp at hc
  ·
   rfl
 unfold ckOk at hk
 simp only [Bool.and_eq_true] at hk
 obtain ⟨k1, k2, k3, k4⟩ := hk
 unfold bandsB at k3
 unfold deepsB at k4
 simp only [Bool.and_eq_true, decide_eq_true_eq] at k3 k4
 have hx : ¬ (h.length = 0 ∨ allTo (heatOk h) h.length = false) := fun hx => by rw [if_pos hx] at hl; cases hl
 have hy : allTo (heatOk h) h.length = true := by
  cases hh : allTo (heatOk h) h.length
  ·
   exact absurd (.inr hh) hx
  ·
   rfl
 refine ⟨inB_iff.1 k1, toB_iff.1 k2, ⟨k3.2.1, by omega⟩, ⟨k4.2, by omega⟩, allTo_iff.1 k3.1, k3.2.2, allTo_iff.1 k4.1, ⟨by omega, h16⟩, fun k hk => ?_⟩
 have := allTo_iff.1 hy k hk
 exact toB_iff.1 this

theorem creepTo_bd {l : List Bd} {day : Int} {n : Nat} (h : ∀ k, k < n → bandOk l k = true) : 0 ≤ (creepTo l day n).lo ∧ (creepTo l day n).lo ≤ (creepTo l day n).hi ∧ (creepTo l day n).hi ≤ 3 := by
 induction n with
 | zero => simp [creepTo]
 | succ n ih =>
  rw [creepTo]
  split
  ·
   have := h n (by omega)
   unfold bandOk at this
   simp only [Bool.and_eq_true] at this
   exact toB_iff.1 this.2.1
  ·
   exact ih fun k hk => h k (by omega)
theorem sinksTo_bd {l : List Dp} {heat : Int} {n : Nat} (h : ∀ k, k < n → deepOk l k = true) : 0 ≤ sinksTo l heat n ∧ sinksTo l heat n ≤ 30 := by
 induction n with
 | zero => simp [sinksTo]
 | succ n ih =>
  rw [sinksTo]
  split
  ·
   have := h n (by omega)
   unfold deepOk at this
   simp only [Bool.and_eq_true] at this
   exact inB_iff.1 this.2.1
  ·
   exact ih fun k hk => h k (by omega)
theorem Ok.creep {g : Gl} {h : List Rg} (k : Ok g h) (d : Nat) : 0 ≤ (creep g d).lo ∧ (creep g d).lo ≤ (creep g d).hi ∧ (creep g d).hi ≤ 3 := creepTo_bd k.bands
theorem Ok.sinks {g : Gl} {h : List Rg} (k : Ok g h) (x : Int) : 0 ≤ sinks g x ∧ sinks g x ≤ 30 := sinksTo_bd k.depths

def riseTo (t2 : List Int) : Nat → Int
 | 0 => 0
 | d + 1 => riseTo t2 d + gI t2 d
def sinkTo (g : Gl) (t1 t3 : List Int) : Nat → Int
 | 0 => 0
 | d + 1 => mx3 (sinkTo g t1 t3 d - gI t3 d) 0 (sinks g (gI t1 d))
def zAt (g : Gl) (t1 t2 t3 : List Int) (d : Nat) : Int := g.base + riseTo t2 (d + 1) - sinkTo g t1 t3 (d + 1)
def playTo (g : Gl) (t1 t2 t3 : List Int) (n : Nat) : List Int := (List.range n).map (zAt g t1 t2 t3)
theorem dayOk_iff {g : Gl} {h : List Rg} {t1 t2 t3 : List Int} {d : Nat} : dayOk g h t1 t2 t3 d = true ↔
  ((gR h d).lo ≤ gI t1 d ∧ gI t1 d ≤ (gR h d).hi) ∧ ((creep g d).lo ≤ gI t2 d ∧ gI t2 d ≤ (creep g d).hi) ∧ (g.blo ≤ gI t3 d ∧ gI t3 d ≤ g.bhi) := by
 unfold dayOk; simp only [Bool.and_eq_true, inB_iff]
theorem truthB_iff {g : Gl} {h : List Rg} {t1 t2 t3 : List Int} : truthB g h t1 t2 t3 = true ↔ (t1.length = h.length ∧ t2.length = h.length ∧ t3.length = h.length) ∧ ∀ d, d < h.length → dayOk g h t1 t2 t3 d = true := by
 unfold truthB; simp only [Bool.and_eq_true, decide_eq_true_eq, allTo_iff]

theorem own_sl {w : World} {base : Nat} {e : TypeId} {v : Value} {l : List Int} (h : w.ownsRow base e 1 v l.length (l.map (Value.int .i64))) : ∃ A c, v = .slice A l.length c ∧ l.length ≤ c ∧ SlAt w w.heap.size 1 A l.length (fI l) := by
 rcases h.2 with ⟨rfl, h0⟩ | ⟨g, cap, cur, rfl, hb, hh, hn, hm, hs, hc⟩
 ·
  exact ⟨none, 0, by rw [h0], by omega, fun h1 => by omega⟩
 ·
  refine ⟨_, cap, rfl, hn, fun _ => ⟨g, 0, rfl, (Array.getElem?_eq_some_iff.1 hh).1, fun k j hk hj => ?_⟩⟩
  obtain rfl : j = 0 := by omega
  rw [cell_of_row w g _ cur e (0, 0) hh]
  simp only [Nat.mul_one, Nat.add_zero, Nat.zero_add]
  have := congrArg (fun x : List Value => x[k]?) hc
  simp only [List.getElem?_take, Nat.mul_one, hk, if_true, List.getElem?_map] at this
  rw [← Array.getElem?_toList, this, List.getElem?_eq_getElem hk]
  simp [fI, gI, List.getElem?_eq_getElem hk]

end Go.Proofs.Ytkaogjhnogkcdaa
end

section
namespace Go.Proofs.Ytkaogjhnogkcdaa
open Go.RowKit
theorem box1 {w : World} {K : World → Prop} {C1 : Array Value} {T1 : TypeId} (h : ∀ V, Below w.heap.size w V → Blk V w.heap.size T1 C1 → K V) : K (w.alloc (.cells C1 T1)) := h _ (ex_alloc (Below.refl _ _) _) (Blk.new _ _ _)
theorem box2 {w : World} {K : World → Prop} {C1 C2 : Array Value} {T1 T2 : TypeId} (h : ∀ V, Below w.heap.size w V → Blk V w.heap.size T1 C1 → Blk V (w.heap.size + 1) T2 C2 → K V) : K ((w.alloc (.cells C1 T1)).alloc (.cells C2 T2)) :=
 h _ (ex_alloc (ex_alloc (Below.refl _ _) _) _) ((Blk.new _ _ _).alloc _) (Blk.new' _ _ _ (by simp))
theorem box3 {w : World} {K : World → Prop} {C1 C2 C3 : Array Value} {T1 T2 T3 : TypeId} (h : ∀ V, Below w.heap.size w V → Blk V w.heap.size T1 C1 → Blk V (w.heap.size + 1) T2 C2 → Blk V (w.heap.size + 1 + 1) T3 C3 → K V) : K (((w.alloc (.cells C1 T1)).alloc (.cells C2 T2)).alloc (.cells C3 T3)) :=
 h _ (ex_alloc (ex_alloc (ex_alloc (Below.refl _ _) _) _) _) (((Blk.new _ _ _).alloc _).alloc _) ((Blk.new' _ _ _ (by simp)).alloc _) (Blk.new' _ _ _ (by simp))
theorem box4 {w : World} {K : World → Prop} {C1 C2 C3 C4 : Array Value} {T1 T2 T3 T4 : TypeId} (h : ∀ V, Below w.heap.size w V → Blk V w.heap.size T1 C1 → Blk V (w.heap.size + 1) T2 C2 → Blk V (w.heap.size + 1 + 1) T3 C3 → Blk V (w.heap.size + 1 + 1 + 1) T4 C4 → K V) : K ((((w.alloc (.cells C1 T1)).alloc (.cells C2 T2)).alloc (.cells C3 T3)).alloc (.cells C4 T4)) :=
 h _ (ex_alloc (ex_alloc (ex_alloc (ex_alloc (Below.refl _ _) _) _) _) _) ((((Blk.new _ _ _).alloc _).alloc _).alloc _) (((Blk.new' _ _ _ (by simp)).alloc _).alloc _) ((Blk.new' _ _ _ (by simp)).alloc _) (Blk.new' _ _ _ (by simp))
end Go.Proofs.Ytkaogjhnogkcdaa
end

section
namespace Go.Proofs.Ytkaogjhnogkcdaa
open Go.RowKit

theorem GlIn.go {w w' : World} {g : Gl} {Ab Ad : Option Addr} (h : GlIn w w.heap.size g Ab Ad) (hb : Below w.heap.size w w') : GlIn w' w'.heap.size g Ab Ad := (h.below hb).up hb.size
theorem SlAt.go {w w' : World} {sz n : Nat} {A : Option Addr} {f : Nat → Nat → Value} (h : SlAt w w.heap.size sz A n f) (hb : Below w.heap.size w w') : SlAt w' w'.heap.size sz A n f := (h.below hb).up hb.size
structure Tb where
  g : Gl
  k : Rg
  lag : Rg
  sq : Rg
  term : Int
structure Rd where
  day : Int
  shown : Int
  err : Int
  bare : Int
  air : Rg
  rate : Rg
  deep : Int
  broken : Bool
structure Ki where
  k : Int
  lag : Int
  sq : Int
  deriving DecidableEq, Inhabited
structure Tx where
  zero : Int
  k : Int
  lag : Int
  sq : Int
  air : Int
  rate : Int
  off : Int

def spB (a b lo hi : Int) : Bool := decide (lo ≤ a) && (decide (a ≤ b) && decide (b ≤ hi))
theorem spB_iff {a b lo hi : Int} : spB a b lo hi = true ↔ lo ≤ a ∧ a ≤ b ∧ b ≤ hi := by simp [spB]
def tbOk (t : Tb) : Bool := spB t.k.lo t.k.hi 0 20 && (spB t.lag.lo t.lag.hi 0 5 && (spB t.sq.lo t.sq.hi 0 3 && inB t.term 0 16))
def ckTube (t : Tb) : Int := if ckGlass t.g ≠ 0 then ckGlass t.g else if tbOk t = true then 0 else 1
def rdOk (d : Int) (r : Rd) : Bool := inB r.day 0 (d - 1) && (inB r.shown (-5000) 5000 && (inB r.err 0 20 && (inB r.bare 0 300 && (spB r.air.lo r.air.hi (-100) 100 && (spB r.rate.lo r.rate.hi (-20) 20 && inB r.deep 0 20)))))
def txOk (t : Tb) (r : Rd) (x : Tx) : Bool := inB x.k t.k.lo t.k.hi && (inB x.lag t.lag.lo t.lag.hi && (inB x.sq t.sq.lo t.sq.hi && (inB x.air r.air.lo r.air.hi && (inB x.rate r.rate.lo r.rate.hi && (inB x.off (-r.err) r.err && inB x.zero (-2000) 2000)))))

structure TbBd (t : Tb) : Prop where
  k : 0 ≤ t.k.lo ∧ t.k.lo ≤ t.k.hi ∧ t.k.hi ≤ 20
  lag : 0 ≤ t.lag.lo ∧ t.lag.lo ≤ t.lag.hi ∧ t.lag.hi ≤ 5
  sq : 0 ≤ t.sq.lo ∧ t.sq.lo ≤ t.sq.hi ∧ t.sq.hi ≤ 3
  term : 0 ≤ t.term ∧ t.term ≤ 16
theorem tbOk_iff {t : Tb} : tbOk t = true ↔ TbBd t := by
  unfold tbOk
  simp only [Bool.and_eq_true, spB_iff, inB_iff]
  exact ⟨fun ⟨a, b, c, d⟩ => ⟨a, b, c, d⟩, fun h => ⟨h.k, h.lag, h.sq, h.term⟩⟩
theorem ck_bd {t : Tb} (h : ckTube t = 0) : TbBd t := by
  unfold ckTube at h
  split at h
  · rename_i h1; exact absurd h h1
  · split at h
    · rename_i h2; exact tbOk_iff.1 h2
    · cases h
structure RdBd (r : Rd) : Prop where
  shown : -5000 ≤ r.shown ∧ r.shown ≤ 5000
  err : 0 ≤ r.err ∧ r.err ≤ 20
  bare : 0 ≤ r.bare ∧ r.bare ≤ 300
  air : -100 ≤ r.air.lo ∧ r.air.lo ≤ r.air.hi ∧ r.air.hi ≤ 100
  rate : -20 ≤ r.rate.lo ∧ r.rate.lo ≤ r.rate.hi ∧ r.rate.hi ≤ 20
  deep : 0 ≤ r.deep ∧ r.deep ≤ 20
theorem rdOk_iff {d : Int} {r : Rd} : rdOk d r = true ↔ (0 ≤ r.day ∧ r.day ≤ d - 1) ∧ RdBd r := by
  unfold rdOk
  simp only [Bool.and_eq_true, spB_iff, inB_iff]
  exact ⟨fun ⟨a, b, c, d, e, f, g⟩ => ⟨a, b, c, d, e, f, g⟩, fun ⟨a, h⟩ => ⟨a, h.shown, h.err, h.bare, h.air, h.rate, h.deep⟩⟩
structure KiBd (q : Ki) : Prop where
  k : 0 ≤ q.k ∧ q.k ≤ 20
  lag : 0 ≤ q.lag ∧ q.lag ≤ 5
  sq : 0 ≤ q.sq ∧ q.sq ≤ 3
structure KiIn (t : Tb) (q : Ki) : Prop where
  k : t.k.lo ≤ q.k ∧ q.k ≤ t.k.hi
  lag : t.lag.lo ≤ q.lag ∧ q.lag ≤ t.lag.hi
  sq : t.sq.lo ≤ q.sq ∧ q.sq ≤ t.sq.hi
theorem KiIn.bd {t : Tb} {q : Ki} (h : KiIn t q) (ht : TbBd t) : KiBd q := by
  have := ht.k; have := ht.lag; have := ht.sq; have := h.k; have := h.lag; have := h.sq
  exact ⟨by omega, by omega, by omega⟩

def stemP (r : Rd) (k air : Int) : Int := (k * r.bare * (r.shown - 10 * air)) / 100000
def woP (r : Rd) (q : Ki) (air rate off : Int) : Int := r.shown + off + stemP r q.k air + rate * q.lag + -(q.sq * r.deep)
theorem woP_off (r : Rd) (q : Ki) (air rate off : Int) : woP r q air rate off = woP r q air rate 0 + off := by unfold woP; omega

theorem mul_bd {a b A B : Int} (h0 : 0 ≤ a) (h1 : a ≤ A) (h2 : -B ≤ b) (h3 : b ≤ B) : -(A * B) ≤ a * b ∧ a * b ≤ A * B := by
  have hB : 0 ≤ B := by omega
  have e1 : a * b ≤ a * B := Int.mul_le_mul_of_nonneg_left h3 h0
  have e2 : a * B ≤ A * B := Int.mul_le_mul_of_nonneg_right h1 hB
  have e3 : a * -B ≤ a * b := Int.mul_le_mul_of_nonneg_left h2 h0
  rw [Int.mul_neg] at e3
  omega
theorem mul_nn {a b A B : Int} (h0 : 0 ≤ a) (h1 : a ≤ A) (h2 : 0 ≤ b) (h3 : b ≤ B) : 0 ≤ a * b ∧ a * b ≤ A * B := by
  have hA : 0 ≤ A := by omega
  exact ⟨Int.mul_nonneg h0 h2, Int.le_trans (Int.mul_le_mul_of_nonneg_left h3 h0) (Int.mul_le_mul_of_nonneg_right h1 (by omega))⟩
theorem stem_bd {r : Rd} (hr : RdBd r) {k air : Int} (hk : 0 ≤ k ∧ k ≤ 20) (ha : -100 ≤ air ∧ air ≤ 100) :
    (0 ≤ k * r.bare ∧ k * r.bare ≤ 6000) ∧ (-36000000 ≤ k * r.bare * (r.shown - 10 * air) ∧ k * r.bare * (r.shown - 10 * air) ≤ 36000000) ∧ (-360 ≤ stemP r k air ∧ stemP r k air ≤ 360) := by
  have h1 := mul_nn hk.1 hk.2 hr.bare.1 hr.bare.2
  have h2 := mul_bd (B := 6000) h1.1 h1.2 (b := r.shown - 10 * air) (by have := hr.shown; omega) (by have := hr.shown; omega)
  have h3 : -36000000 ≤ k * r.bare * (r.shown - 10 * air) ∧ k * r.bare * (r.shown - 10 * air) ≤ 36000000 := by omega
  refine ⟨by omega, h3, ?_⟩
  unfold stemP
  omega
theorem late_bd {q : Ki} (hq : KiBd q) {rate : Int} (hr : -20 ≤ rate ∧ rate ≤ 20) : -100 ≤ rate * q.lag ∧ rate * q.lag ≤ 100 := by
  have h := mul_bd (B := 20) hq.lag.1 hq.lag.2 hr.1 hr.2
  rw [Int.mul_comm q.lag rate] at h
  omega
theorem deep_bd {q : Ki} {r : Rd} (hq : KiBd q) (hr : RdBd r) : 0 ≤ q.sq * r.deep ∧ q.sq * r.deep ≤ 60 := by
  have := mul_nn hq.sq.1 hq.sq.2 hr.deep.1 hr.deep.2
  omega
theorem woP_bd {q : Ki} {r : Rd} (hq : KiBd q) (hr : RdBd r) {air rate off : Int} (ha : -100 ≤ air ∧ air ≤ 100) (hra : -20 ≤ rate ∧ rate ≤ 20) (ho : -20 ≤ off ∧ off ≤ 20) : -6000 ≤ woP r q air rate off ∧ woP r q air rate off ≤ 6000 := by
  have h1 := (stem_bd hr hq.k ha).2.2
  have h2 := late_bd hq hra
  have h3 := deep_bd hq hr
  have h4 := hr.shown
  unfold woP
  omega

def spanP (r : Rd) (q : Ki) (rate : Int) : Rg := ⟨min (woP r q r.air.lo rate 0) (woP r q r.air.hi rate 0) - r.err, max (woP r q r.air.lo rate 0) (woP r q r.air.hi rate 0) + r.err⟩
def endOf (r : Rg) (b : Nat) : Int := if b % 2 = 0 then r.lo else r.hi
theorem endOf_or (r : Rg) (b : Nat) : endOf r b = r.lo ∨ endOf r b = r.hi := by unfold endOf; split <;> simp
def enK (t : Tb) (n : Nat) : Ki := ⟨endOf t.k (n / 8), endOf t.lag (n / 4), endOf t.sq (n / 2)⟩
def spanAt (t : Tb) (r : Rd) (n : Nat) : Rg := spanP r (enK t n) (endOf r.rate n)
def accTo (f : Nat → Rg) : Nat → Rg
  | 0 => ⟨0, 0⟩
  | n + 1 => if n = 0 then f 0 else ⟨min (accTo f n).lo (f n).lo, max (accTo f n).hi (f n).hi⟩
def bndP (t : Tb) (r : Rd) : Rg := accTo (spanAt t r) 16

theorem accTo_bd {f : Nat → Rg} : ∀ {n : Nat}, 0 < n → (∃ i, i < n ∧ (accTo f n).lo = (f i).lo) ∧ (∃ i, i < n ∧ (accTo f n).hi = (f i).hi) ∧ ∀ i, i < n → (accTo f n).lo ≤ (f i).lo ∧ (f i).hi ≤ (accTo f n).hi
  | 0, h => by omega
  | n + 1, _ => by
    rcases Nat.eq_zero_or_pos n with h0 | h0
    · subst h0
      exact ⟨⟨0, by omega, rfl⟩, ⟨0, by omega, rfl⟩, fun i hi => by
        have e : i = 0 := by omega
        subst e
        exact ⟨Int.le_refl _, Int.le_refl _⟩⟩
    · obtain ⟨⟨i, hi, e1⟩, ⟨j, hj, e2⟩, h3⟩ := accTo_bd (f := f) h0
      rw [accTo, if_neg (by omega)]
      refine ⟨?_, ?_, fun m hm => ?_⟩
      · rcases Int.le_total (accTo f n).lo (f n).lo with h | h
        · exact ⟨i, by omega, by simp only; omega⟩
        · exact ⟨n, by omega, by simp only; omega⟩
      · rcases Int.le_total (accTo f n).hi (f n).hi with h | h
        · exact ⟨n, by omega, by simp only; omega⟩
        · exact ⟨j, by omega, by simp only; omega⟩
      · rcases Nat.lt_succ_iff_lt_or_eq.1 hm with h | h
        · have := h3 m h
          simp only; omega
        · subst h; simp only; omega

def SayP (t : Tb) (r : Rd) (z : Int) : Prop := ∃ q air rate off, KiIn t q ∧ (r.air.lo ≤ air ∧ air ≤ r.air.hi) ∧ (r.rate.lo ≤ rate ∧ rate ≤ r.rate.hi) ∧ (-r.err ≤ off ∧ off ≤ r.err) ∧ z = woP r q air rate off

theorem mul_lo {a b x c : Int} (h1 : a ≤ x) (h2 : x ≤ b) : a * c ≤ x * c ∨ b * c ≤ x * c := by
  rcases Int.le_total 0 c with h | h
  · exact .inl (Int.mul_le_mul_of_nonneg_right h1 h)
  · exact .inr (Int.mul_le_mul_of_nonpos_right h2 h)
theorem mul_hi {a b x c : Int} (h1 : a ≤ x) (h2 : x ≤ b) : x * c ≤ a * c ∨ x * c ≤ b * c := by
  rcases Int.le_total 0 c with h | h
  · exact .inr (Int.mul_le_mul_of_nonneg_right h2 h)
  · exact .inl (Int.mul_le_mul_of_nonpos_right h1 h)
theorem stem_mono {r : Rd} {k k' air air' : Int} (h : k * r.bare * (r.shown - 10 * air) ≤ k' * r.bare * (r.shown - 10 * air')) : stemP r k air ≤ stemP r k' air' := Int.ediv_le_ediv (by omega) h
theorem stem_air {r : Rd} (hb : 0 ≤ r.bare) {k air air' : Int} (hk : 0 ≤ k) (h : air ≤ air') : stemP r k air' ≤ stemP r k air := stem_mono (Int.mul_le_mul_of_nonneg_left (by omega) (Int.mul_nonneg hk hb))
theorem stem_lo {r : Rd} (hb : 0 ≤ r.bare) {k a b air top : Int} (h0 : 0 ≤ a) (h1 : a ≤ k) (h2 : k ≤ b) (h3 : air ≤ top) : stemP r a top ≤ stemP r k air ∨ stemP r b top ≤ stemP r k air := by
  rcases mul_lo (c := r.bare * (r.shown - 10 * air)) h1 h2 with h | h
  · exact .inl (Int.le_trans (stem_air hb h0 h3) (stem_mono (by rw [Int.mul_assoc, Int.mul_assoc]; exact h)))
  · exact .inr (Int.le_trans (stem_air hb (by omega) h3) (stem_mono (by rw [Int.mul_assoc, Int.mul_assoc]; exact h)))
theorem stem_hi {r : Rd} (hb : 0 ≤ r.bare) {k a b air low : Int} (h0 : 0 ≤ a) (h1 : a ≤ k) (h2 : k ≤ b) (h3 : low ≤ air) : stemP r k air ≤ stemP r a low ∨ stemP r k air ≤ stemP r b low := by
  rcases mul_hi (c := r.bare * (r.shown - 10 * air)) h1 h2 with h | h
  · exact .inl (Int.le_trans (stem_mono (by rw [Int.mul_assoc, Int.mul_assoc]; exact h)) (stem_air hb h0 h3))
  · exact .inr (Int.le_trans (stem_mono (by rw [Int.mul_assoc, Int.mul_assoc]; exact h)) (stem_air hb (by omega) h3))
theorem late_lo {a b lag c d rate : Int} (h0 : 0 ≤ a) (h1 : a ≤ lag) (h2 : lag ≤ b) (h3 : c ≤ rate) : c * a ≤ rate * lag ∨ c * b ≤ rate * lag := by
  have h4 : c * lag ≤ rate * lag := Int.mul_le_mul_of_nonneg_right h3 (by omega)
  rcases mul_lo (c := c) h1 h2 with h | h
  · exact .inl (by rw [Int.mul_comm c a]; exact Int.le_trans h (by rw [Int.mul_comm lag c]; exact h4))
  · exact .inr (by rw [Int.mul_comm c b]; exact Int.le_trans h (by rw [Int.mul_comm lag c]; exact h4))
theorem late_hi {a b lag d rate : Int} (h0 : 0 ≤ a) (h1 : a ≤ lag) (h2 : lag ≤ b) (h3 : rate ≤ d) : rate * lag ≤ d * a ∨ rate * lag ≤ d * b := by
  have h4 : rate * lag ≤ d * lag := Int.mul_le_mul_of_nonneg_right h3 (by omega)
  rcases mul_hi (c := d) h1 h2 with h | h
  · exact .inl (by rw [Int.mul_comm d a]; exact Int.le_trans (by rw [Int.mul_comm lag d]; exact h4) h)
  · exact .inr (by rw [Int.mul_comm d b]; exact Int.le_trans (by rw [Int.mul_comm lag d]; exact h4) h)

theorem end_num (t : Tb) (r : Rd) {k lag sq rate : Int} (hk : k = t.k.lo ∨ k = t.k.hi) (hl : lag = t.lag.lo ∨ lag = t.lag.hi) (hs : sq = t.sq.lo ∨ sq = t.sq.hi) (hr : rate = r.rate.lo ∨ rate = r.rate.hi) :
    ∃ n, n < 16 ∧ enK t n = ⟨k, lag, sq⟩ ∧ endOf r.rate n = rate := by
  rcases hk with rfl | rfl <;> rcases hl with rfl | rfl <;> rcases hs with rfl | rfl <;> rcases hr with rfl | rfl
  · exact ⟨0, by omega, rfl, rfl⟩
  · exact ⟨1, by omega, rfl, rfl⟩
  · exact ⟨2, by omega, rfl, rfl⟩
  · exact ⟨3, by omega, rfl, rfl⟩
  · exact ⟨4, by omega, rfl, rfl⟩
  · exact ⟨5, by omega, rfl, rfl⟩
  · exact ⟨6, by omega, rfl, rfl⟩
  · exact ⟨7, by omega, rfl, rfl⟩
  · exact ⟨8, by omega, rfl, rfl⟩
  · exact ⟨9, by omega, rfl, rfl⟩
  · exact ⟨10, by omega, rfl, rfl⟩
  · exact ⟨11, by omega, rfl, rfl⟩
  · exact ⟨12, by omega, rfl, rfl⟩
  · exact ⟨13, by omega, rfl, rfl⟩
  · exact ⟨14, by omega, rfl, rfl⟩
  · exact ⟨15, by omega, rfl, rfl⟩
theorem enK_in {t : Tb} (ht : TbBd t) (n : Nat) : KiIn t (enK t n) := by
  have h1 := ht.k; have h2 := ht.lag; have h3 := ht.sq
  refine ⟨?_, ?_, ?_⟩
  · show t.k.lo ≤ endOf t.k (n / 8) ∧ endOf t.k (n / 8) ≤ t.k.hi
    rcases endOf_or t.k (n / 8) with h | h <;> rw [h] <;> omega
  · show t.lag.lo ≤ endOf t.lag (n / 4) ∧ endOf t.lag (n / 4) ≤ t.lag.hi
    rcases endOf_or t.lag (n / 4) with h | h <;> rw [h] <;> omega
  · show t.sq.lo ≤ endOf t.sq (n / 2) ∧ endOf t.sq (n / 2) ≤ t.sq.hi
    rcases endOf_or t.sq (n / 2) with h | h <;> rw [h] <;> omega
theorem endR_in {r : Rd} (hr : RdBd r) (n : Nat) : r.rate.lo ≤ endOf r.rate n ∧ endOf r.rate n ≤ r.rate.hi := by
  have := hr.rate
  rcases endOf_or r.rate n with h | h <;> rw [h] <;> omega

theorem say_lo {t : Tb} {r : Rd} (ht : TbBd t) (hr : RdBd r) {z : Int} (hz : SayP t r z) : ∃ n, n < 16 ∧ (spanAt t r n).lo ≤ z := by
  obtain ⟨q, air, rate, off, hq, ha, hra, ho, rfl⟩ := hz
  have h1 : ∃ k, (k = t.k.lo ∨ k = t.k.hi) ∧ stemP r k r.air.hi ≤ stemP r q.k air := by
    rcases stem_lo hr.bare.1 ht.k.1 hq.k.1 hq.k.2 ha.2 with h | h
    · exact ⟨_, .inl rfl, h⟩
    · exact ⟨_, .inr rfl, h⟩
  have h2 : ∃ lag, (lag = t.lag.lo ∨ lag = t.lag.hi) ∧ r.rate.lo * lag ≤ rate * q.lag := by
    rcases late_lo (d := r.rate.hi) ht.lag.1 hq.lag.1 hq.lag.2 hra.1 with h | h
    · exact ⟨_, .inl rfl, h⟩
    · exact ⟨_, .inr rfl, h⟩
  obtain ⟨k, hk, e1⟩ := h1
  obtain ⟨lag, hl, e2⟩ := h2
  have e3 : q.sq * r.deep ≤ t.sq.hi * r.deep := Int.mul_le_mul_of_nonneg_right hq.sq.2 hr.deep.1
  obtain ⟨n, hn, n1, n2⟩ := end_num t r hk hl (.inr rfl : t.sq.hi = t.sq.lo ∨ t.sq.hi = t.sq.hi) (.inl rfl : r.rate.lo = r.rate.lo ∨ r.rate.lo = r.rate.hi)
  refine ⟨n, hn, ?_⟩
  unfold spanAt spanP
  rw [n1, n2]
  simp only
  have : woP r ⟨k, lag, t.sq.hi⟩ r.air.hi r.rate.lo 0 - r.err ≤ woP r q air rate off := by unfold woP; simp only; omega
  omega
theorem say_hi {t : Tb} {r : Rd} (ht : TbBd t) (hr : RdBd r) {z : Int} (hz : SayP t r z) : ∃ n, n < 16 ∧ z ≤ (spanAt t r n).hi := by
  obtain ⟨q, air, rate, off, hq, ha, hra, ho, rfl⟩ := hz
  have h1 : ∃ k, (k = t.k.lo ∨ k = t.k.hi) ∧ stemP r q.k air ≤ stemP r k r.air.lo := by
    rcases stem_hi hr.bare.1 ht.k.1 hq.k.1 hq.k.2 ha.1 with h | h
    · exact ⟨_, .inl rfl, h⟩
    · exact ⟨_, .inr rfl, h⟩
  have h2 : ∃ lag, (lag = t.lag.lo ∨ lag = t.lag.hi) ∧ rate * q.lag ≤ r.rate.hi * lag := by
    rcases late_hi ht.lag.1 hq.lag.1 hq.lag.2 hra.2 with h | h
    · exact ⟨_, .inl rfl, h⟩
    · exact ⟨_, .inr rfl, h⟩
  obtain ⟨k, hk, e1⟩ := h1
  obtain ⟨lag, hl, e2⟩ := h2
  have e3 : t.sq.lo * r.deep ≤ q.sq * r.deep := Int.mul_le_mul_of_nonneg_right hq.sq.1 hr.deep.1
  obtain ⟨n, hn, n1, n2⟩ := end_num t r hk hl (.inl rfl : t.sq.lo = t.sq.lo ∨ t.sq.lo = t.sq.hi) (.inr rfl : r.rate.hi = r.rate.lo ∨ r.rate.hi = r.rate.hi)
  refine ⟨n, hn, ?_⟩
  unfold spanAt spanP
  rw [n1, n2]
  simp only
  have : woP r q air rate off ≤ woP r ⟨k, lag, t.sq.lo⟩ r.air.lo r.rate.hi 0 + r.err := by unfold woP; simp only; omega
  omega
theorem span_say {t : Tb} {r : Rd} (hr : RdBd r) {q : Ki} (hq : KiIn t q) {rate : Int} (hra : r.rate.lo ≤ rate ∧ rate ≤ r.rate.hi) : SayP t r (spanP r q rate).lo ∧ SayP t r (spanP r q rate).hi := by
  have h1 := hr.air; have h2 := hr.err
  unfold spanP
  constructor
  · rcases Int.le_total (woP r q r.air.lo rate 0) (woP r q r.air.hi rate 0) with h | h
    · exact ⟨q, r.air.lo, rate, -r.err, hq, by omega, hra, by omega, by rw [woP_off r q r.air.lo rate (-r.err)]; simp only; omega⟩
    · exact ⟨q, r.air.hi, rate, -r.err, hq, by omega, hra, by omega, by rw [woP_off r q r.air.hi rate (-r.err)]; simp only; omega⟩
  · rcases Int.le_total (woP r q r.air.lo rate 0) (woP r q r.air.hi rate 0) with h | h
    · exact ⟨q, r.air.hi, rate, r.err, hq, by omega, hra, by omega, by rw [woP_off r q r.air.hi rate r.err]; simp only; omega⟩
    · exact ⟨q, r.air.lo, rate, r.err, hq, by omega, hra, by omega, by rw [woP_off r q r.air.lo rate r.err]; simp only; omega⟩
theorem bnd_say {t : Tb} {r : Rd} (ht : TbBd t) (hr : RdBd r) : SayP t r (bndP t r).lo ∧ SayP t r (bndP t r).hi ∧ ∀ z, SayP t r z → (bndP t r).lo ≤ z ∧ z ≤ (bndP t r).hi := by
  obtain ⟨⟨i, hi, e1⟩, ⟨j, hj, e2⟩, h3⟩ := accTo_bd (f := spanAt t r) (n := 16) (by omega)
  refine ⟨?_, ?_, fun z hz => ?_⟩
  · rw [bndP, e1]; exact (span_say hr (enK_in ht i) (endR_in hr i)).1
  · rw [bndP, e2]; exact (span_say hr (enK_in ht j) (endR_in hr j)).2
  · obtain ⟨n, hn, l1⟩ := say_lo ht hr hz
    obtain ⟨m, hm, l2⟩ := say_hi ht hr hz
    have l3 := (h3 n hn).1
    have l4 := (h3 m hm).2
    unfold bndP
    omega
theorem say_bd {t : Tb} {r : Rd} (ht : TbBd t) (hr : RdBd r) {z : Int} (hz : SayP t r z) : -6000 ≤ z ∧ z ≤ 6000 := by
  obtain ⟨q, air, rate, off, hq, ha, hra, ho, rfl⟩ := hz
  have h1 := hr.air; have h2 := hr.rate; have h3 := hr.err
  exact woP_bd (hq.bd ht) hr (by omega) (by omega) (by omega)
theorem bnd_bd {t : Tb} {r : Rd} (ht : TbBd t) (hr : RdBd r) : -6000 ≤ (bndP t r).lo ∧ (bndP t r).lo ≤ (bndP t r).hi ∧ (bndP t r).hi ≤ 6000 := by
  obtain ⟨h1, h2, h3⟩ := bnd_say ht hr
  have := say_bd ht hr h1
  have := say_bd ht hr h2
  have := h3 _ h1
  omega
end Go.Proofs.Ytkaogjhnogkcdaa
end

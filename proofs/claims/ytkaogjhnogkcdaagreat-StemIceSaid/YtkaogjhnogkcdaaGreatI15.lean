/- The reference's Ahead (walk). · Stem: bounds (walk). · Stem: Play (walk). · The reference's Agree (walk). · The reference's Zeros (plain): how far a day's loops have come. · The reference's leads: can a sink become another one? (walk). · The reference's Zeros (walk). -/
import Derived.Test.YtkaogjhnogkcdaaGreatI13
import Derived.Test.YtkaogjhnogkcdaaGreatI10
import Derived.Test.YtkaogjhnogkcdaaGreatI12
import Derived.Test.YtkaogjhnogkcdaaGreatI9
set_option linter.unusedVariables false
set_option linter.unusedSimpArgs false
set_option linter.unusedSectionVars false
section
namespace Go.Proofs.YtkaogjhnogkcdaaGreat
open Go.RowKit
attribute [local go_sem] Ex.cell? Ex.frozen?

structure Rel (p : Act → World → Prop) (a : Act) (W : World) : Prop where
 out : p a W
structure AS (gc : Array Value) (w : World) (M : Nat → Nat → Nat → Bool) (W : World) : Prop where
 bw : Below w.heap.size w W
 qg : Blk W w.heap.size 27 gc
 mp : MapAt W (w.heap.size + 1) M
theorem AS.below {gc : Array Value} {w : World} {M : Nat → Nat → Nat → Bool} {W W' : World} (h : AS gc w M W) (hb : Below W.heap.size W W') : AS gc w M W' := ⟨ex_trans h.bw hb, h.qg.below hb h.qg.lt, h.mp.below hb⟩
structure AD (gc : Array Value) (w : World) (M : Nat → Nat → Nat → Bool) (pc : Nat) (cl chi : Int) (v : Value) (D : List Int) (W : World) : Prop where
 ah : AS gc w M W
 qc : Blk W pc 25 #[.int .i64 cl, .int .i64 chi]
 ow : W.ownsRow (w.heap.size + 1 + 1) 3 1 v D.length (D.map (Value.int .i64))
section
variable {gc : Array Value} {w : World} {M : Nat → Nat → Nat → Bool} {pc : Nat} {cl chi : Int} {v : Value} {D : List Int} {W W' : World}
theorem AD.below (h : AD gc w M pc cl chi v D W) (hb : Below W.heap.size W W') : AD gc w M pc cl chi v D W' := ⟨h.ah.below hb, h.qc.below hb h.qc.lt, own_below h.ow hb⟩
theorem AD.set (h : AD gc w M pc cl chi v D W) {d r s : Nat} (hd : d < 17) (hr : r < 52) (hs : s < 31) : AD gc w (upd M d r s) pc cl chi v D (W.setCell ⟨w.heap.size + 1, d * 1612 + r * 31 + s, none⟩ (.bool true)) := by
 have hf : Fr (fun b => b = w.heap.size + 1) W (W.setCell ⟨w.heap.size + 1, d * 1612 + r * 31 + s, none⟩ (.bool true)) := (Fr.refl (fun b => b = w.heap.size + 1) W).andSet rfl
 obtain ⟨cs, hb, _⟩ := h.ah.mp
 exact ⟨⟨hf.toBelow h.ah.bw h.ah.bw.size (fun x hx => by omega), h.ah.qg.fr hf (by omega), h.ah.mp.set hd hr hs⟩, h.qc.fr hf (fun e => blk_ne h.qc hb (by decide) e), own_fr h.ow hf (fun b hb' e => own_blkne h.ow hb (by decide) (e ▸ hb'))⟩
end
set_option maxRecDepth 1000000 in
theorem zc_ok : chkF Tryz.zeroCells128.toList 27404 = true := by kernel_rfl
theorem MapAt.first (W : World) : MapAt (W.alloc (.cells (Tryz.zeroCells128.setIfInBounds 0 (.bool true)) 128)) W.heap.size (upd (fun _ _ _ => false) 0 0 0) := by
 obtain ⟨h1, h2⟩ := chkF_iff zc_ok
 have h1' : Tryz.zeroCells128.size = 27404 := by rw [← Array.length_toList]; exact h1
 generalize Tryz.zeroCells128 = zc at *
 refine ⟨_, Blk.new _ _ _, by simpa using h1', fun d r s hd hr hs => ?_⟩
 rw [Array.getElem?_setIfInBounds]
 by_cases he : d = 0 ∧ r = 0 ∧ s = 0
 ·
  obtain ⟨rfl, rfl, rfl⟩ := he
  rw [if_pos (by omega), if_pos (by omega), upd_self]
 ·
  rw [if_neg (by omega)]
  have hk : d * 1612 + r * 31 + s < zc.size := by omega
  have e := h2 zc[d * 1612 + r * 31 + s] (by simp)
  rw [Array.getElem?_eq_getElem hk, e]
  unfold upd
  rw [if_neg he]
set_option maxRecDepth 100000 in
def DQ (g : Gl) (Ab Ad Ah Ai Ao : Option Addr) (cb cd ch ci co : Nat) (h : List Rg) (l : List Ic) (out : List Int) (w : World) (d : Nat) (M : Nat → Nat → Nat → Bool) (e : Exit) (a' : Act) (W' : World) : Prop :=
 e = .normal ∧ ∃ pc Ad' cd' D, AD #[.int .i64 g.base, .slice Ab g.bands.length cb, .slice Ad g.depths.length cd, .int .i64 g.blo, .int .i64 g.bhi] w M pc (creepTo g.bands (d : Int) g.bands.length).lo (creepTo g.bands (d : Int) g.bands.length).hi (.slice Ad' (D : List Int).length cd') D W' ∧ Hid (DeepIs g (gR h d).lo ((gR h d).hi - (gR h d).lo + 1).toNat D) ∧ ∃ u : Nat → Value, a' = ⟨List.toArray (u 0 :: .slice Ah h.length ch :: .slice Ai l.length ci :: .slice Ao out.length co :: .pointer (some ⟨w.heap.size, 0, none⟩) :: u 5 :: u 6 :: u 7 :: u 8 :: .pointer (some ⟨w.heap.size + 1, 0, none⟩) :: .int .i64 (d : Int) :: .pointer (some ⟨pc, 0, none⟩) :: .slice Ad' D.length cd' :: u 13 :: u 14 :: u 15 :: u 16 :: u 17 :: u 18 :: u 19 :: u 20 :: u 21 :: u 22 :: u 23 :: u 24 :: u 25 :: u 26 :: u 27 :: u 28 :: u 29 :: u 30 :: u 31 :: u 32 :: u 33 :: u 34 :: u 35 :: u 36 :: u 37 :: u 38 :: u 39 :: u 40 :: u 41 :: u 42 :: u 43 :: u 44 :: u 45 :: u 46 :: u 47 :: u 48 :: u 49 :: u 50 :: u 51 :: u 52 :: u 53 :: u 54 :: u 55 :: u 56 :: u 57 :: u 58 :: u 59 :: u 60 :: u 61 :: u 62 :: u 63 :: u 64 :: u 65 :: u 66 :: u 67 :: u 68 :: u 69 :: u 70 :: u 71 :: u 72 :: u 73 :: u 74 :: u 75 :: u 76 :: u 77 :: u 78 :: u 79 :: u 80 :: u 81 :: u 82 :: u 83 :: u 84 :: u 85 :: u 86 :: u 87 :: u 88 :: u 89 :: u 90 :: u 91 :: u 92 :: u 93 :: u 94 :: u 95 :: u 96 :: u 97 :: u 98 :: u 99 :: u 100 :: u 101 :: u 102 :: u 103 :: u 104 :: u 105 :: u 106 :: []), []⟩
end Go.Proofs.YtkaogjhnogkcdaaGreat
end

section
namespace Go.Proofs.YtkaogjhnogkcdaaGreat
open Go.RowKit
attribute [local go_sem] Ex.cell? Ex.frozen?

theorem endOf_mod (r : Rg) (b c : Nat) (h : b % 2 = c % 2) : endOf r b = endOf r c := by unfold endOf; rw [h]
theorem enK_at (t : Tb) {i j k m : Nat} (hi : i < 2) (hj : j < 2) (hk : k < 2) (hm : m < 2) : enK t (8 * i + 4 * j + 2 * k + m) = ⟨endOf t.k i, endOf t.lag j, endOf t.sq k⟩ := by
 unfold enK
 rw [endOf_mod t.k _ i (by omega), endOf_mod t.lag _ j (by omega), endOf_mod t.sq _ k (by omega)]
theorem spanAt_at (t : Tb) (r : Rd) {i j k m : Nat} (hi : i < 2) (hj : j < 2) (hk : k < 2) (hm : m < 2) : spanAt t r (8 * i + 4 * j + 2 * k + m) = spanP r ⟨endOf t.k i, endOf t.lag j, endOf t.sq k⟩ (endOf r.rate m) := by
 unfold spanAt
 rw [enK_at t hi hj hk hm, endOf_mod r.rate _ m (by omega)]
theorem two_cell {W : World} {p : Nat} {x : Rg} (h : Blk W p 3 #[.int .i64 x.lo, .int .i64 x.hi]) {i : Nat} (hi : i < 2) : W.cell? ⟨p, i, none⟩ = some (.int .i64 (endOf x i)) := by
 rw [h.cell]
 rcases (show i = 0 ∨ i = 1 by omega) with rfl | rfl <;> rfl
structure BdW (lk : Array Value) (f : Nat → Rg) (w : World) (p1 pr pf po n : Nat) (W : World) : Prop where
 b : Below w.heap.size w W
 q1 : Blk W p1 170 lk
 qr : Blk W pr 41 #[.int .i64 0, .int .i64 0]
 qf : Blk W pf 4 #[.bool (decide (n = 0))]
 qo : Blk W po 41 #[.int .i64 (accTo f n).lo, .int .i64 (accTo f n).hi]
 of : w.heap.size ≤ pf
 oo : w.heap.size ≤ po
 ob : w.heap.size ≤ pr
 n1 : ¬ (p1 = pf ∨ p1 = po)
 n2 : ¬ (pr = pf ∨ pr = po)
 n3 : pf ≠ po
section
variable {lk : Array Value} {f : Nat → Rg} {w : World} {p1 pr pf po n : Nat} {W W1 W2 : World}
theorem BdW.go (h : BdW lk f w p1 pr pf po n W) (hb : Below W.heap.size W W1) : BdW lk f w p1 pr pf po n W1 := ⟨ex_trans h.b hb, h.q1.below hb h.q1.lt, h.qr.below hb h.qr.lt, h.qf.below hb h.qf.lt, h.qo.below hb h.qo.lt, h.of, h.oo, h.ob, h.n1, h.n2, h.n3⟩
theorem acc_step (f : Nat → Rg) (n : Nat) : min (fstI (decide (n = 0)) (f n).lo (accTo f n).lo) (f n).lo = (accTo f (n + 1)).lo ∧ max (fstI (decide (n = 0)) (f n).hi (accTo f n).hi) (f n).hi = (accTo f (n + 1)).hi := by
 rw [accTo]
 by_cases h : n = 0
 ·
  subst h; simp [fstI]
 ·
  simp [fstI, h]
theorem BdW.add (h : BdW lk f w p1 pr pf po n W) (x : Rg) (hx : x = f n) (h1 : Blk W2 pf 4 #[.bool false]) (h2 : Blk W2 po 41 #[.int .i64 (min (fstI (decide (n = 0)) x.lo (accTo f n).lo) x.lo), .int .i64 (max (fstI (decide (n = 0)) x.hi (accTo f n).hi) x.hi)])
  (hf : Fr (fun k => k = pf ∨ k = po) W W2) : BdW lk f w p1 pr pf po (n + 1) W2 := by
 subst hx
 obtain ⟨e1, e2⟩ := acc_step f n
 rw [e1, e2] at h2
 exact ⟨hf.toBelow h.b h.b.size (fun x hx => by rcases hx with rfl | rfl; exact h.of; exact h.oo), h.q1.fr hf h.n1, h.qr.fr hf h.n2, by rw [show decide (n + 1 = 0) = false by simp]; exact h1, h2, h.of, h.oo, h.ob, h.n1, h.n2, h.n3⟩
end
set_option maxRecDepth 100000 in
set_option maxHeartbeats 6400000 in
theorem sm_bounds (t : Tb) (Ab Ad : Option Addr) (cb cd : Nat) (r : Rd) (w : World) (ht : TbBd t) (hr : RdBd r) :
  Calls Tryz.prog 91 #[.agg #[.int .i64 t.g.base, .slice Ab t.g.bands.length cb, .slice Ad t.g.depths.length cd, .int .i64 t.g.blo, .int .i64 t.g.bhi, .int .i64 t.k.lo, .int .i64 t.k.hi, .int .i64 t.lag.lo, .int .i64 t.lag.hi, .int .i64 t.sq.lo, .int .i64 t.sq.hi, .int .i64 t.term, .int .i64 r.day, .int .i64 r.shown, .int .i64 r.err, .int .i64 r.bare, .int .i64 r.air.lo, .int .i64 r.air.hi, .int .i64 r.rate.lo, .int .i64 r.rate.hi, .int .i64 r.deep, .bool r.broken]] w fun e w' => e = .returned (.agg #[.int .i64 (bndP t r).lo, .int .i64 (bndP t r).hi]) ∧ Below w.heap.size w w' := by
 have HB : BdW #[.int .i64 t.g.base, .slice Ab t.g.bands.length cb, .slice Ad t.g.depths.length cd, .int .i64 t.g.blo, .int .i64 t.g.bhi, .int .i64 t.k.lo, .int .i64 t.k.hi, .int .i64 t.lag.lo, .int .i64 t.lag.hi, .int .i64 t.sq.lo, .int .i64 t.sq.hi, .int .i64 t.term, .int .i64 r.day, .int .i64 r.shown, .int .i64 r.err, .int .i64 r.bare, .int .i64 r.air.lo, .int .i64 r.air.hi, .int .i64 r.rate.lo, .int .i64 r.rate.hi, .int .i64 r.deep, .bool r.broken] (spanAt t r) w (w.heap.size) (w.heap.size + 1) (w.heap.size + 1 + 1) (w.heap.size + 1 + 1 + 1) 0 ((((w.alloc (.cells #[.int .i64 t.g.base, .slice Ab t.g.bands.length cb, .slice Ad t.g.depths.length cd, .int .i64 t.g.blo, .int .i64 t.g.bhi, .int .i64 t.k.lo, .int .i64 t.k.hi, .int .i64 t.lag.lo, .int .i64 t.lag.hi, .int .i64 t.sq.lo, .int .i64 t.sq.hi, .int .i64 t.term, .int .i64 r.day, .int .i64 r.shown, .int .i64 r.err, .int .i64 r.bare, .int .i64 r.air.lo, .int .i64 r.air.hi, .int .i64 r.rate.lo, .int .i64 r.rate.hi, .int .i64 r.deep, .bool r.broken] 170)).alloc (.cells #[.int .i64 0, .int .i64 0] 41)).alloc (.cells #[.bool true] 4)).alloc (.cells #[.int .i64 0, .int .i64 0] 41)) := ⟨ex_alloc (ex_alloc (ex_alloc (ex_alloc (Below.refl w.heap.size w) (.cells #[.int .i64 t.g.base, .slice Ab t.g.bands.length cb, .slice Ad t.g.depths.length cd, .int .i64 t.g.blo, .int .i64 t.g.bhi, .int .i64 t.k.lo, .int .i64 t.k.hi, .int .i64 t.lag.lo, .int .i64 t.lag.hi, .int .i64 t.sq.lo, .int .i64 t.sq.hi, .int .i64 t.term, .int .i64 r.day, .int .i64 r.shown, .int .i64 r.err, .int .i64 r.bare, .int .i64 r.air.lo, .int .i64 r.air.hi, .int .i64 r.rate.lo, .int .i64 r.rate.hi, .int .i64 r.deep, .bool r.broken] 170)) (.cells #[.int .i64 0, .int .i64 0] 41)) (.cells #[.bool true] 4)) (.cells #[.int .i64 0, .int .i64 0] 41), (show Blk ((((w.alloc (.cells #[.int .i64 t.g.base, .slice Ab t.g.bands.length cb, .slice Ad t.g.depths.length cd, .int .i64 t.g.blo, .int .i64 t.g.bhi, .int .i64 t.k.lo, .int .i64 t.k.hi, .int .i64 t.lag.lo, .int .i64 t.lag.hi, .int .i64 t.sq.lo, .int .i64 t.sq.hi, .int .i64 t.term, .int .i64 r.day, .int .i64 r.shown, .int .i64 r.err, .int .i64 r.bare, .int .i64 r.air.lo, .int .i64 r.air.hi, .int .i64 r.rate.lo, .int .i64 r.rate.hi, .int .i64 r.deep, .bool r.broken] 170)).alloc (.cells #[.int .i64 0, .int .i64 0] 41)).alloc (.cells #[.bool true] 4)).alloc (.cells #[.int .i64 0, .int .i64 0] 41)) (w.heap.size) 170 #[.int .i64 t.g.base, .slice Ab t.g.bands.length cb, .slice Ad t.g.depths.length cd, .int .i64 t.g.blo, .int .i64 t.g.bhi, .int .i64 t.k.lo, .int .i64 t.k.hi, .int .i64 t.lag.lo, .int .i64 t.lag.hi, .int .i64 t.sq.lo, .int .i64 t.sq.hi, .int .i64 t.term, .int .i64 r.day, .int .i64 r.shown, .int .i64 r.err, .int .i64 r.bare, .int .i64 r.air.lo, .int .i64 r.air.hi, .int .i64 r.rate.lo, .int .i64 r.rate.hi, .int .i64 r.deep, .bool r.broken] from (((Blk.new _ _ _).alloc _).alloc _).alloc _), (show Blk ((((w.alloc (.cells #[.int .i64 t.g.base, .slice Ab t.g.bands.length cb, .slice Ad t.g.depths.length cd, .int .i64 t.g.blo, .int .i64 t.g.bhi, .int .i64 t.k.lo, .int .i64 t.k.hi, .int .i64 t.lag.lo, .int .i64 t.lag.hi, .int .i64 t.sq.lo, .int .i64 t.sq.hi, .int .i64 t.term, .int .i64 r.day, .int .i64 r.shown, .int .i64 r.err, .int .i64 r.bare, .int .i64 r.air.lo, .int .i64 r.air.hi, .int .i64 r.rate.lo, .int .i64 r.rate.hi, .int .i64 r.deep, .bool r.broken] 170)).alloc (.cells #[.int .i64 0, .int .i64 0] 41)).alloc (.cells #[.bool true] 4)).alloc (.cells #[.int .i64 0, .int .i64 0] 41)) (w.heap.size + 1) 41 #[.int .i64 0, .int .i64 0] from ((Blk.new' _ _ _ (by simp)).alloc _).alloc _), (show Blk ((((w.alloc (.cells #[.int .i64 t.g.base, .slice Ab t.g.bands.length cb, .slice Ad t.g.depths.length cd, .int .i64 t.g.blo, .int .i64 t.g.bhi, .int .i64 t.k.lo, .int .i64 t.k.hi, .int .i64 t.lag.lo, .int .i64 t.lag.hi, .int .i64 t.sq.lo, .int .i64 t.sq.hi, .int .i64 t.term, .int .i64 r.day, .int .i64 r.shown, .int .i64 r.err, .int .i64 r.bare, .int .i64 r.air.lo, .int .i64 r.air.hi, .int .i64 r.rate.lo, .int .i64 r.rate.hi, .int .i64 r.deep, .bool r.broken] 170)).alloc (.cells #[.int .i64 0, .int .i64 0] 41)).alloc (.cells #[.bool true] 4)).alloc (.cells #[.int .i64 0, .int .i64 0] 41)) (w.heap.size + 1 + 1) 4 #[.bool true] from (Blk.new' _ _ _ (by simp)).alloc _), (show Blk ((((w.alloc (.cells #[.int .i64 t.g.base, .slice Ab t.g.bands.length cb, .slice Ad t.g.depths.length cd, .int .i64 t.g.blo, .int .i64 t.g.bhi, .int .i64 t.k.lo, .int .i64 t.k.hi, .int .i64 t.lag.lo, .int .i64 t.lag.hi, .int .i64 t.sq.lo, .int .i64 t.sq.hi, .int .i64 t.term, .int .i64 r.day, .int .i64 r.shown, .int .i64 r.err, .int .i64 r.bare, .int .i64 r.air.lo, .int .i64 r.air.hi, .int .i64 r.rate.lo, .int .i64 r.rate.hi, .int .i64 r.deep, .bool r.broken] 170)).alloc (.cells #[.int .i64 0, .int .i64 0] 41)).alloc (.cells #[.bool true] 4)).alloc (.cells #[.int .i64 0, .int .i64 0] 41)) (w.heap.size + 1 + 1 + 1) 41 #[.int .i64 0, .int .i64 0] from Blk.new' _ _ _ (by simp)), by omega, by omega, by omega, by omega, by omega, by omega⟩
 go_enter Tryz.func91, Tryz.ntmps91
 go_upto_region 3 with fail
 show Code.wp _ _ _ _ ((((w.alloc (.cells #[.int .i64 t.g.base, .slice Ab t.g.bands.length cb, .slice Ad t.g.depths.length cd, .int .i64 t.g.blo, .int .i64 t.g.bhi, .int .i64 t.k.lo, .int .i64 t.k.hi, .int .i64 t.lag.lo, .int .i64 t.lag.hi, .int .i64 t.sq.lo, .int .i64 t.sq.hi, .int .i64 t.term, .int .i64 r.day, .int .i64 r.shown, .int .i64 r.err, .int .i64 r.bare, .int .i64 r.air.lo, .int .i64 r.air.hi, .int .i64 r.rate.lo, .int .i64 r.rate.hi, .int .i64 r.deep, .bool r.broken] 170)).alloc (.cells #[.int .i64 0, .int .i64 0] 41)).alloc (.cells #[.bool true] 4)).alloc (.cells #[.int .i64 0, .int .i64 0] 41))
 obtain ⟨p1, hp1⟩ : ∃ p, w.heap.size = p := ⟨_, rfl⟩
 obtain ⟨pr, hpr⟩ : ∃ p, w.heap.size + 1 = p := ⟨_, rfl⟩
 obtain ⟨pf, hpf⟩ : ∃ p, w.heap.size + 1 + 1 = p := ⟨_, rfl⟩
 obtain ⟨po, hpo⟩ : ∃ p, w.heap.size + 1 + 1 + 1 = p := ⟨_, rfl⟩
 rw [hpo] at HB ⊢
 rw [hpf] at HB ⊢
 rw [hpr] at HB ⊢
 rw [hp1] at HB ⊢
 clear hpo hpf hpr hp1
 generalize (((w.alloc (.cells #[.int .i64 t.g.base, .slice Ab t.g.bands.length cb, .slice Ad t.g.depths.length cd, .int .i64 t.g.blo, .int .i64 t.g.bhi, .int .i64 t.k.lo, .int .i64 t.k.hi, .int .i64 t.lag.lo, .int .i64 t.lag.hi, .int .i64 t.sq.lo, .int .i64 t.sq.hi, .int .i64 t.term, .int .i64 r.day, .int .i64 r.shown, .int .i64 r.err, .int .i64 r.bare, .int .i64 r.air.lo, .int .i64 r.air.hi, .int .i64 r.rate.lo, .int .i64 r.rate.hi, .int .i64 r.deep, .bool r.broken] 170)).alloc (.cells #[.int .i64 0, .int .i64 0] 41)).alloc (.cells #[.bool true] 4)).alloc (.cells #[.int .i64 0, .int .i64 0] 41) = V at *
 have g5 := HB.q1.cell 5
 have g6 := HB.q1.cell 6
 have lg := HB.q1.lt
 simp at g5 g6
 have NB := ex_alloc (Below.refl V.heap.size V) (.cells #[.int .i64 t.k.lo, .int .i64 t.k.hi] 3)
 have z1 : Blk (V.alloc (.cells #[.int .i64 t.k.lo, .int .i64 t.k.hi] 3)) V.heap.size 3 #[.int .i64 t.k.lo, .int .i64 t.k.hi] := Blk.new _ _ _
 have hn1 : ¬ (V.heap.size = pf ∨ V.heap.size = po) := by have := HB.qf.lt; have := HB.qo.lt; omega
 replace HB := HB.go NB
 obtain ⟨s1, hs1⟩ : ∃ p, V.heap.size = p := ⟨_, rfl⟩
 rw [hs1] at z1 hn1
 go_wp2_with fail
 clear NB g5 g6 lg hs1
 generalize V.alloc (.cells #[.int .i64 t.k.lo, .int .i64 t.k.hi] 3) = V1 at *
 refine wp_loop (fun a W => Rel (fun a W => ∃ i : Nat, i ≤ 2 ∧ BdW #[.int .i64 t.g.base, .slice Ab t.g.bands.length cb, .slice Ad t.g.depths.length cd, .int .i64 t.g.blo, .int .i64 t.g.bhi, .int .i64 t.k.lo, .int .i64 t.k.hi, .int .i64 t.lag.lo, .int .i64 t.lag.hi, .int .i64 t.sq.lo, .int .i64 t.sq.hi, .int .i64 t.term, .int .i64 r.day, .int .i64 r.shown, .int .i64 r.err, .int .i64 r.bare, .int .i64 r.air.lo, .int .i64 r.air.hi, .int .i64 r.rate.lo, .int .i64 r.rate.hi, .int .i64 r.deep, .bool r.broken] (spanAt t r) w p1 pr pf po (8 * i) W ∧ Blk W s1 3 #[.int .i64 t.k.lo, .int .i64 t.k.hi] ∧ ∃ u : Nat → Value, a = ⟨List.toArray (u 0 :: .pointer (some ⟨p1, 0, none⟩) :: .pointer (some ⟨pr, 0, none⟩) :: .pointer (some ⟨pf, 0, none⟩) :: .pointer (some ⟨po, 0, none⟩) :: .func (.func 120) #[] #[.pointer (some ⟨pf, 0, none⟩), .pointer (some ⟨po, 0, none⟩)] :: u 6 :: u 7 :: u 8 :: u 9 :: u 10 :: u 11 :: u 12 :: u 13 :: u 14 :: u 15 :: u 16 :: u 17 :: u 18 :: u 19 :: u 20 :: .slice (some ⟨s1, 0, none⟩) 2 2 :: .int .i64 2 :: .int .i64 (i : Int) :: u 24 :: u 25 :: u 26 :: u 27 :: u 28 :: u 29 :: u 30 :: u 31 :: u 32 :: u 33 :: u 34 :: u 35 :: u 36 :: u 37 :: u 38 :: u 39 :: u 40 :: u 41 :: u 42 :: u 43 :: u 44 :: u 45 :: u 46 :: u 47 :: u 48 :: u 49 :: u 50 :: u 51 :: u 52 :: u 53 :: u 54 :: u 55 :: u 56 :: u 57 :: u 58 :: u 59 :: u 60 :: u 61 :: u 62 :: u 63 :: u 64 :: u 65 :: u 66 :: u 67 :: u 68 :: u 69 :: u 70 :: u 71 :: u 72 :: u 73 :: u 74 :: u 75 :: u 76 :: u 77 :: u 78 :: u 79 :: u 80 :: u 81 :: u 82 :: []), []⟩) a W)
  (fun a _ => 2 - (intOf (a.tmps.getD 23 undef)).toNat) ⟨⟨0, by omega, HB, z1, exFrame (by kernel_rfl)⟩⟩ ?_
 clear HB z1 V1
 rintro a W ⟨⟨i, hi, HB, z1, u, rfl⟩⟩
 by_cases hlt : i < 2
 ·
  have c1 := two_cell z1 hlt
  have g7 := HB.q1.cell 7
  have g8 := HB.q1.cell 8
  have lg := HB.q1.lt
  have ls := z1.lt
  simp at g7 g8
  have NB := ex_alloc (Below.refl W.heap.size W) (.cells #[.int .i64 t.lag.lo, .int .i64 t.lag.hi] 3)
  have z2 : Blk (W.alloc (.cells #[.int .i64 t.lag.lo, .int .i64 t.lag.hi] 3)) W.heap.size 3 #[.int .i64 t.lag.lo, .int .i64 t.lag.hi] := Blk.new _ _ _
  have hn2 : ¬ (W.heap.size = pf ∨ W.heap.size = po) := by have := HB.qf.lt; have := HB.qo.lt; omega
  replace HB := HB.go NB
  replace z1 := z1.below NB z1.lt
  obtain ⟨s2, hs2⟩ : ∃ p, W.heap.size = p := ⟨_, rfl⟩
  rw [hs2] at z2 hn2
  go_wp2_with fail
  clear NB g7 g8 lg hs2 c1 ls
  generalize W.alloc (.cells #[.int .i64 t.lag.lo, .int .i64 t.lag.hi] 3) = W1 at *
  refine wp_loop (fun a W => Rel (fun a W => ∃ j : Nat, j ≤ 2 ∧ BdW #[.int .i64 t.g.base, .slice Ab t.g.bands.length cb, .slice Ad t.g.depths.length cd, .int .i64 t.g.blo, .int .i64 t.g.bhi, .int .i64 t.k.lo, .int .i64 t.k.hi, .int .i64 t.lag.lo, .int .i64 t.lag.hi, .int .i64 t.sq.lo, .int .i64 t.sq.hi, .int .i64 t.term, .int .i64 r.day, .int .i64 r.shown, .int .i64 r.err, .int .i64 r.bare, .int .i64 r.air.lo, .int .i64 r.air.hi, .int .i64 r.rate.lo, .int .i64 r.rate.hi, .int .i64 r.deep, .bool r.broken] (spanAt t r) w p1 pr pf po (8 * i + 4 * j) W ∧ Blk W s1 3 #[.int .i64 t.k.lo, .int .i64 t.k.hi] ∧ Blk W s2 3 #[.int .i64 t.lag.lo, .int .i64 t.lag.hi] ∧ ∃ u : Nat → Value, a = ⟨List.toArray (u 0 :: .pointer (some ⟨p1, 0, none⟩) :: .pointer (some ⟨pr, 0, none⟩) :: .pointer (some ⟨pf, 0, none⟩) :: .pointer (some ⟨po, 0, none⟩) :: .func (.func 120) #[] #[.pointer (some ⟨pf, 0, none⟩), .pointer (some ⟨po, 0, none⟩)] :: u 6 :: .int .i64 (endOf t.k i) :: u 8 :: u 9 :: u 10 :: u 11 :: u 12 :: u 13 :: u 14 :: u 15 :: u 16 :: u 17 :: u 18 :: u 19 :: u 20 :: .slice (some ⟨s1, 0, none⟩) 2 2 :: .int .i64 2 :: .int .i64 (i : Int) :: u 24 :: u 25 :: u 26 :: u 27 :: u 28 :: u 29 :: u 30 :: u 31 :: u 32 :: u 33 :: u 34 :: .slice (some ⟨s2, 0, none⟩) 2 2 :: .int .i64 2 :: .int .i64 (j : Int) :: u 38 :: u 39 :: u 40 :: u 41 :: u 42 :: u 43 :: u 44 :: u 45 :: u 46 :: u 47 :: u 48 :: u 49 :: u 50 :: u 51 :: u 52 :: u 53 :: u 54 :: u 55 :: u 56 :: u 57 :: u 58 :: u 59 :: u 60 :: u 61 :: u 62 :: u 63 :: u 64 :: u 65 :: u 66 :: u 67 :: u 68 :: u 69 :: u 70 :: u 71 :: u 72 :: u 73 :: u 74 :: u 75 :: u 76 :: u 77 :: u 78 :: u 79 :: u 80 :: u 81 :: u 82 :: []), []⟩) a W)
   (fun a _ => 2 - (intOf (a.tmps.getD 37 undef)).toNat) ⟨⟨0, by omega, HB, z1, z2, exFrame (by kernel_rfl)⟩⟩ ?_
  clear HB z1 z2 W1
  rintro a W ⟨⟨j, hj, HB, z1, z2, u, rfl⟩⟩
  by_cases hlj : j < 2
  ·
   have c2 := two_cell z2 hlj
   have g9 := HB.q1.cell 9
   have g10 := HB.q1.cell 10
   have lg := HB.q1.lt
   have ls := z2.lt
   simp at g9 g10
   have NB := ex_alloc (Below.refl W.heap.size W) (.cells #[.int .i64 t.sq.lo, .int .i64 t.sq.hi] 3)
   have z3 : Blk (W.alloc (.cells #[.int .i64 t.sq.lo, .int .i64 t.sq.hi] 3)) W.heap.size 3 #[.int .i64 t.sq.lo, .int .i64 t.sq.hi] := Blk.new _ _ _
   have hn3 : ¬ (W.heap.size = pf ∨ W.heap.size = po) := by have := HB.qf.lt; have := HB.qo.lt; omega
   replace HB := HB.go NB
   replace z1 := z1.below NB z1.lt
   replace z2 := z2.below NB z2.lt
   obtain ⟨s3, hs3⟩ : ∃ p, W.heap.size = p := ⟨_, rfl⟩
   rw [hs3] at z3 hn3
   go_wp2_with fail
   clear NB g9 g10 lg hs3 c2 ls
   generalize W.alloc (.cells #[.int .i64 t.sq.lo, .int .i64 t.sq.hi] 3) = W1 at *
   refine wp_loop (fun a W => Rel (fun a W => ∃ k : Nat, k ≤ 2 ∧ BdW #[.int .i64 t.g.base, .slice Ab t.g.bands.length cb, .slice Ad t.g.depths.length cd, .int .i64 t.g.blo, .int .i64 t.g.bhi, .int .i64 t.k.lo, .int .i64 t.k.hi, .int .i64 t.lag.lo, .int .i64 t.lag.hi, .int .i64 t.sq.lo, .int .i64 t.sq.hi, .int .i64 t.term, .int .i64 r.day, .int .i64 r.shown, .int .i64 r.err, .int .i64 r.bare, .int .i64 r.air.lo, .int .i64 r.air.hi, .int .i64 r.rate.lo, .int .i64 r.rate.hi, .int .i64 r.deep, .bool r.broken] (spanAt t r) w p1 pr pf po (8 * i + 4 * j + 2 * k) W ∧ Blk W s1 3 #[.int .i64 t.k.lo, .int .i64 t.k.hi] ∧ Blk W s2 3 #[.int .i64 t.lag.lo, .int .i64 t.lag.hi] ∧ Blk W s3 3 #[.int .i64 t.sq.lo, .int .i64 t.sq.hi] ∧ ∃ u : Nat → Value, a = ⟨List.toArray (u 0 :: .pointer (some ⟨p1, 0, none⟩) :: .pointer (some ⟨pr, 0, none⟩) :: .pointer (some ⟨pf, 0, none⟩) :: .pointer (some ⟨po, 0, none⟩) :: .func (.func 120) #[] #[.pointer (some ⟨pf, 0, none⟩), .pointer (some ⟨po, 0, none⟩)] :: u 6 :: .int .i64 (endOf t.k i) :: u 8 :: .int .i64 (endOf t.lag j) :: u 10 :: u 11 :: u 12 :: u 13 :: u 14 :: u 15 :: u 16 :: u 17 :: u 18 :: u 19 :: u 20 :: .slice (some ⟨s1, 0, none⟩) 2 2 :: .int .i64 2 :: .int .i64 (i : Int) :: u 24 :: u 25 :: u 26 :: u 27 :: u 28 :: u 29 :: u 30 :: u 31 :: u 32 :: u 33 :: u 34 :: .slice (some ⟨s2, 0, none⟩) 2 2 :: .int .i64 2 :: .int .i64 (j : Int) :: u 38 :: u 39 :: u 40 :: u 41 :: u 42 :: u 43 :: u 44 :: u 45 :: u 46 :: u 47 :: u 48 :: .slice (some ⟨s3, 0, none⟩) 2 2 :: .int .i64 2 :: .int .i64 (k : Int) :: u 52 :: u 53 :: u 54 :: u 55 :: u 56 :: u 57 :: u 58 :: u 59 :: u 60 :: u 61 :: u 62 :: u 63 :: u 64 :: u 65 :: u 66 :: u 67 :: u 68 :: u 69 :: u 70 :: u 71 :: u 72 :: u 73 :: u 74 :: u 75 :: u 76 :: u 77 :: u 78 :: u 79 :: u 80 :: u 81 :: u 82 :: []), []⟩) a W)
    (fun a _ => 2 - (intOf (a.tmps.getD 51 undef)).toNat) ⟨⟨0, by omega, HB, z1, z2, z3, exFrame (by kernel_rfl)⟩⟩ ?_
   clear HB z1 z2 z3 W1
   rintro a W ⟨⟨k, hk, HB, z1, z2, z3, u, rfl⟩⟩
   by_cases hlk : k < 2
   ·
    have c3 := two_cell z3 hlk
    have g18 := HB.q1.cell 18
    have g19 := HB.q1.cell 19
    have lg := HB.q1.lt
    have ls := z3.lt
    simp at g18 g19
    have HK : KiBd ⟨endOf t.k i, endOf t.lag j, endOf t.sq k⟩ := by
     have := enK_in ht (8 * i + 4 * j + 2 * k + 0)
     rw [enK_at t hlt hlj hlk (by omega)] at this
     exact this.bd ht
    have hr1 : -20 ≤ r.rate.lo ∧ r.rate.lo ≤ 20 := by have := hr.rate; omega
    have hr2 : -20 ≤ r.rate.hi ∧ r.rate.hi ≤ 20 := by have := hr.rate; omega
    have E1 := (spanAt_at t r hlt hlj hlk (show 0 < 2 by omega)).symm
    have E2 := (spanAt_at t r hlt hlj hlk (show 1 < 2 by omega)).symm
    have HE1 := Lib.hid E1
    have HE2 := Lib.hid E2
    clear E1 E2
    go_wp2_with (refine pause_at 56 rfl ?_)
    refine Paused.mk ?_
    refine wpList_load_row rfl 170 _ rfl _ rfl 170 _ (0, 0) _ (HB.q1) Tryz.underlying170 rfl (by kernel_rfl) ?_
    go_wp2_with fail
    refine (sm_span t Ab Ad cb cd r ⟨endOf t.k i, endOf t.lag j, endOf t.sq k⟩ r.rate.lo _ hr HK hr1).mono ?_
    rintro e Y1 ⟨rfl, hY1⟩
    replace HB := HB.go hY1
    replace z1 := z1.below hY1 z1.lt
    replace z2 := z2.below hY1 z2.lt
    replace z3 := z3.below hY1 z3.lt
    go_wp2_with fail
    refine (sm_add _ _ _ _ _ pf po _ HB.n3 HB.qf HB.qo).mono ?_
    rintro e Z1 ⟨rfl, hf1, ho1, hF1⟩
    replace HB := HB.add _ HE1.out hf1 ho1 hF1
    replace z1 := z1.fr hF1 hn1
    replace z2 := z2.fr hF1 hn2
    replace z3 := z3.fr hF1 hn3
    clear hf1 ho1
    clear g18 g19 lg ls c3
    have g18 := HB.q1.cell 18
    have g19 := HB.q1.cell 19
    have lg := HB.q1.lt
    simp at g18 g19
    go_wp2_with (refine pause_at 68 rfl ?_)
    refine Paused.mk ?_
    refine wpList_load_row rfl 170 _ rfl _ rfl 170 _ (0, 0) _ (HB.q1) Tryz.underlying170 rfl (by kernel_rfl) ?_
    go_wp2_with fail
    refine (sm_span t Ab Ad cb cd r ⟨endOf t.k i, endOf t.lag j, endOf t.sq k⟩ r.rate.hi _ hr HK hr2).mono ?_
    rintro e Y2 ⟨rfl, hY2⟩
    replace HB := HB.go hY2
    replace z1 := z1.below hY2 z1.lt
    replace z2 := z2.below hY2 z2.lt
    replace z3 := z3.below hY2 z3.lt
    go_wp2_with fail
    refine (sm_add _ _ _ _ _ pf po _ HB.n3 HB.qf HB.qo).mono ?_
    rintro e Z2 ⟨rfl, hf1, ho1, hF1⟩
    replace HB := HB.add _ HE2.out hf1 ho1 hF1
    replace z1 := z1.fr hF1 hn1
    replace z2 := z2.fr hF1 hn2
    replace z3 := z3.fr hF1 hn3
    clear hf1 ho1
    go_wp2_with fail
    refine ⟨⟨⟨k + 1, by omega, HB, z1, z2, z3, exFrame (by kernel_rfl)⟩⟩, ?_⟩
    show 2 - (intOf (.int .i64 ((k : Int) + 1))).toNat < 2 - (intOf (.int .i64 (k : Int))).toNat
    simp [intOf]
    omega
   ·
    have hkk : k = 2 := by omega
    subst hkk
    go_wp2_with fail
    refine ⟨⟨⟨j + 1, by omega, HB, z1, z2, exFrame (by kernel_rfl)⟩⟩, ?_⟩
    show 2 - (intOf (.int .i64 ((j : Int) + 1))).toNat < 2 - (intOf (.int .i64 (j : Int))).toNat
    simp [intOf]
    omega
  ·
   have hjj : j = 2 := by omega
   subst hjj
   go_wp2_with fail
   refine ⟨⟨⟨i + 1, by omega, HB, z1, exFrame (by kernel_rfl)⟩⟩, ?_⟩
   show 2 - (intOf (.int .i64 ((i : Int) + 1))).toNat < 2 - (intOf (.int .i64 (i : Int))).toNat
   simp [intOf]
   omega
 ·
  have hii : i = 2 := by omega
  subst hii
  have o0 := HB.qo.cell 0
  have o1 := HB.qo.cell 1
  have r0 := HB.qr.cell 0
  have r1 := HB.qr.cell 1
  have fr := HB.qr.frozen0
  have lr := HB.qr.lt
  have lo' := HB.qo.lt
  simp at o0 o1 r0 r1
  skip
  have m3 := (HB.qr.set_ 0 (.int .i64 (accTo (spanAt t r) (8 * 2)).lo)).set_ 1 (.int .i64 (accTo (spanAt t r) (8 * 2)).hi)
  simp only [List.setIfInBounds_toArray, List.set_cons_zero, List.set_cons_succ] at m3
  go_wp2
  refine bodyPost_ret (results_cell_row rfl _ _ _ 41 #[.int .i64 (accTo (spanAt t r) (8 * 2)).lo, .int .i64 (accTo (spanAt t r) (8 * 2)).hi] (0, 0) _ rfl m3 rfl rfl rfl) rfl ?_
  exact ⟨rfl, ex_set (p := ⟨pr, 1, none⟩) (ex_set (p := ⟨pr, 0, none⟩) HB.b HB.ob _) HB.ob _⟩

end Go.Proofs.YtkaogjhnogkcdaaGreat
end

section
namespace Go.Proofs.YtkaogjhnogkcdaaGreat
open Go.RowKit
attribute [local go_sem] Ex.cell? Ex.frozen?

def playE (t : Tb) (r : Rd) (x : Tx) : Int := if ckTube t ≠ 0 then ckTube t else if (rdOk 16 r && txOk t r x) = true then 0 else 2
def Tx.ki (x : Tx) : Ki := ⟨x.k, x.lag, x.sq⟩
def playW (r : Rd) (x : Tx) : Int := woP r x.ki x.air x.rate x.off - x.zero
def playV (t : Tb) (r : Rd) (x : Tx) : Int := if playE t r x = 0 then playW r x else 0
theorem play_ck {t : Tb} {r : Rd} {x : Tx} (h : ckTube t ≠ 0) : playE t r x = ckTube t ∧ playV t r x = 0 := by
 have e : playE t r x = ckTube t := if_pos h
 exact ⟨e, by unfold playV; rw [e, if_neg h]⟩
theorem play_no {t : Tb} {r : Rd} {x : Tx} (h : ckTube t = 0) (h2 : (rdOk 16 r && txOk t r x) = false) : playE t r x = 2 ∧ playV t r x = 0 := by
 have e : playE t r x = 2 := by unfold playE; rw [if_neg (by simp [h]), h2]; rfl
 exact ⟨e, by unfold playV; rw [e]; rfl⟩
theorem play_ok {t : Tb} {r : Rd} {x : Tx} (h : ckTube t = 0) (h2 : (rdOk 16 r && txOk t r x) = true) : playE t r x = 0 ∧ playV t r x = playW r x := by
 have e : playE t r x = 0 := by unfold playE; rw [if_neg (by simp [h]), h2]; rfl
 exact ⟨e, by unfold playV; rw [e]; rfl⟩
structure TxBd (t : Tb) (r : Rd) (x : Tx) : Prop where
 ki : KiIn t x.ki
 air : r.air.lo ≤ x.air ∧ x.air ≤ r.air.hi
 rate : r.rate.lo ≤ x.rate ∧ x.rate ≤ r.rate.hi
 off : -r.err ≤ x.off ∧ x.off ≤ r.err
 zero : -2000 ≤ x.zero ∧ x.zero ≤ 2000
theorem txOk_iff {t : Tb} {r : Rd} {x : Tx} : txOk t r x = true ↔ TxBd t r x := by
 unfold txOk
 simp only [Bool.and_eq_true, inB_iff]
 exact ⟨fun ⟨a, b, c, d, e, f, g⟩ => ⟨⟨a, b, c⟩, d, e, f, g⟩, fun h => ⟨h.ki.k, h.ki.lag, h.ki.sq, h.air, h.rate, h.off, h.zero⟩⟩
set_option maxRecDepth 100000 in
set_option maxHeartbeats 6400000 in
theorem Play_stem (t : Tb) (Ab Ad : Option Addr) (cb cd : Nat) (r : Rd) (x : Tx) (w : World) (hg : GlIn w w.heap.size t.g Ab Ad) (he : -9223372036854775808 < r.err) (he2 : r.err ≤ 9223372036854775807) :
  Calls Tryz.prog 39 #[.agg #[.int .i64 t.g.base, .slice Ab t.g.bands.length cb, .slice Ad t.g.depths.length cd, .int .i64 t.g.blo, .int .i64 t.g.bhi, .int .i64 t.k.lo, .int .i64 t.k.hi, .int .i64 t.lag.lo, .int .i64 t.lag.hi, .int .i64 t.sq.lo, .int .i64 t.sq.hi, .int .i64 t.term], .agg #[.int .i64 r.day, .int .i64 r.shown, .int .i64 r.err, .int .i64 r.bare, .int .i64 r.air.lo, .int .i64 r.air.hi, .int .i64 r.rate.lo, .int .i64 r.rate.hi, .int .i64 r.deep, .bool r.broken], .agg #[.int .i64 x.zero, .int .i64 x.k, .int .i64 x.lag, .int .i64 x.sq, .int .i64 x.air, .int .i64 x.rate, .int .i64 x.off]] w fun e w' => e = .returned (.tuple #[.int .i64 (playV t r x), .int .i64 (playE t r x)]) ∧ Below w.heap.size w w' := by
 by_cases hc : ckTube t = 0
 ·
  have HC := Lib.hid hc
  clear hc
  cases t0 : rdOk 16 r
  ·
   have HR := Lib.hid (play_no (r := r) (x := x) HC.out (by rw [t0]; rfl))
   have T0 := Lib.hid t0
   clear t0
   go_enter Tryz.func39, Tryz.ntmps39
   go_upto_region 1 with fail
   show Code.wp _ _ _ _ _
   refine box3 (K := fun V => Code.wp _ _ _ _ V) ?_
   intro V hb1 q1 q2 q3
   replace hg := hg.go hb1
   obtain ⟨pq1, hpq1⟩ : ∃ p, w.heap.size = p := ⟨_, rfl⟩
   obtain ⟨pq2, hpq2⟩ : ∃ p, w.heap.size + 1 = p := ⟨_, rfl⟩
   obtain ⟨pq3, hpq3⟩ : ∃ p, w.heap.size + 1 + 1 = p := ⟨_, rfl⟩
   rw [hpq3] at q3 ⊢
   rw [hpq2] at q2 ⊢
   rw [hpq1] at q1 ⊢
   have hp1 : w.heap.size ≤ pq1 := by omega
   have hp2 : w.heap.size ≤ pq2 := by omega
   have hp3 : w.heap.size ≤ pq3 := by omega
   clear hpq1 hpq2 hpq3
   go_wp2_with (refine pause_at 9 rfl ?_)
   refine Paused.mk ?_
   refine wpList_load_row rfl 45 _ rfl _ rfl 45 _ (0, 0) _ (q1) Tryz.underlying45 rfl (by kernel_rfl) ?_
   go_wp2_with fail
   refine (CheckTube_any t Ab Ad cb cd _ hg).mono ?_
   rintro e V1 ⟨rfl, hV1⟩
   replace q1 := q1.below hV1 q1.lt
   replace q2 := q2.below hV1 q2.lt
   replace q3 := q3.below hV1 q3.lt
   replace hg := hg.go hV1
   have B_V1 := ex_trans hb1 hV1
   rw [HC.out]
   go_wp2_with (refine pause_at 14 rfl ?_)
   refine Paused.mk ?_
   refine wpList_load_row rfl 52 _ rfl _ rfl 52 _ (0, 0) _ (q2) Tryz.underlying52 rfl (by kernel_rfl) ?_
   go_wp2_with fail
   refine (reading_any 16 r _ (by omega)).mono ?_
   rintro e V2 ⟨rfl, hV2⟩
   replace q1 := q1.below hV2 q1.lt
   replace q2 := q2.below hV2 q2.lt
   replace q3 := q3.below hV2 q3.lt
   replace hg := hg.go hV2
   have B_V2 := ex_trans B_V1 hV2
   rw [T0.out]
   go_wp2
   go_ret2
   rw [HR.out.1, HR.out.2]
   exact ⟨rfl, B_V2⟩
  ·
   cases t1 : inB x.k t.k.lo t.k.hi
   ·
    have HR := Lib.hid (play_no (r := r) (x := x) HC.out (by unfold txOk; rw [t0, t1]; rfl))
    have T0 := Lib.hid t0
    have T1 := Lib.hid t1
    clear t0 t1
    go_enter Tryz.func39, Tryz.ntmps39
    go_upto_region 1 with fail
    show Code.wp _ _ _ _ _
    refine box3 (K := fun V => Code.wp _ _ _ _ V) ?_
    intro V hb1 q1 q2 q3
    replace hg := hg.go hb1
    obtain ⟨pq1, hpq1⟩ : ∃ p, w.heap.size = p := ⟨_, rfl⟩
    obtain ⟨pq2, hpq2⟩ : ∃ p, w.heap.size + 1 = p := ⟨_, rfl⟩
    obtain ⟨pq3, hpq3⟩ : ∃ p, w.heap.size + 1 + 1 = p := ⟨_, rfl⟩
    rw [hpq3] at q3 ⊢
    rw [hpq2] at q2 ⊢
    rw [hpq1] at q1 ⊢
    have hp1 : w.heap.size ≤ pq1 := by omega
    have hp2 : w.heap.size ≤ pq2 := by omega
    have hp3 : w.heap.size ≤ pq3 := by omega
    clear hpq1 hpq2 hpq3
    go_wp2_with (refine pause_at 9 rfl ?_)
    refine Paused.mk ?_
    refine wpList_load_row rfl 45 _ rfl _ rfl 45 _ (0, 0) _ (q1) Tryz.underlying45 rfl (by kernel_rfl) ?_
    go_wp2_with fail
    refine (CheckTube_any t Ab Ad cb cd _ hg).mono ?_
    rintro e V3 ⟨rfl, hV3⟩
    replace q1 := q1.below hV3 q1.lt
    replace q2 := q2.below hV3 q2.lt
    replace q3 := q3.below hV3 q3.lt
    replace hg := hg.go hV3
    have B_V3 := ex_trans hb1 hV3
    rw [HC.out]
    go_wp2_with (refine pause_at 14 rfl ?_)
    refine Paused.mk ?_
    refine wpList_load_row rfl 52 _ rfl _ rfl 52 _ (0, 0) _ (q2) Tryz.underlying52 rfl (by kernel_rfl) ?_
    go_wp2_with fail
    refine (reading_any 16 r _ (by omega)).mono ?_
    rintro e V4 ⟨rfl, hV4⟩
    replace q1 := q1.below hV4 q1.lt
    replace q2 := q2.below hV4 q2.lt
    replace q3 := q3.below hV4 q3.lt
    replace hg := hg.go hV4
    have B_V4 := ex_trans B_V3 hV4
    rw [T0.out]
    have a5 : V4.cell? ⟨pq1, 5, none⟩ = some (.int .i64 t.k.lo) := q1.cell 5
    have a6 : V4.cell? ⟨pq1, 6, none⟩ = some (.int .i64 t.k.hi) := q1.cell 6
    have la := q1.lt
    have c1 : V4.cell? ⟨pq3, 1, none⟩ = some (.int .i64 x.k) := q3.cell 1
    have lc := q3.lt
    go_wp2_with fail
    refine (sm_has _ _ _ _).mono ?_
    rintro e V5 ⟨rfl, hV5⟩
    replace q1 := q1.below hV5 q1.lt
    replace q2 := q2.below hV5 q2.lt
    replace q3 := q3.below hV5 q3.lt
    replace hg := hg.go hV5
    have B_V5 := ex_trans B_V4 hV5
    clear a5 a6 la
    clear c1 lc
    rw [T1.out]
    go_wp2
    go_ret2
    rw [HR.out.1, HR.out.2]
    exact ⟨rfl, B_V5⟩
   ·
    cases t2 : inB x.lag t.lag.lo t.lag.hi
    ·
     have HR := Lib.hid (play_no (r := r) (x := x) HC.out (by unfold txOk; rw [t0, t1, t2]; rfl))
     have T0 := Lib.hid t0
     have T1 := Lib.hid t1
     have T2 := Lib.hid t2
     clear t0 t1 t2
     go_enter Tryz.func39, Tryz.ntmps39
     go_upto_region 1 with fail
     show Code.wp _ _ _ _ _
     refine box3 (K := fun V => Code.wp _ _ _ _ V) ?_
     intro V hb1 q1 q2 q3
     replace hg := hg.go hb1
     obtain ⟨pq1, hpq1⟩ : ∃ p, w.heap.size = p := ⟨_, rfl⟩
     obtain ⟨pq2, hpq2⟩ : ∃ p, w.heap.size + 1 = p := ⟨_, rfl⟩
     obtain ⟨pq3, hpq3⟩ : ∃ p, w.heap.size + 1 + 1 = p := ⟨_, rfl⟩
     rw [hpq3] at q3 ⊢
     rw [hpq2] at q2 ⊢
     rw [hpq1] at q1 ⊢
     have hp1 : w.heap.size ≤ pq1 := by omega
     have hp2 : w.heap.size ≤ pq2 := by omega
     have hp3 : w.heap.size ≤ pq3 := by omega
     clear hpq1 hpq2 hpq3
     go_wp2_with (refine pause_at 9 rfl ?_)
     refine Paused.mk ?_
     refine wpList_load_row rfl 45 _ rfl _ rfl 45 _ (0, 0) _ (q1) Tryz.underlying45 rfl (by kernel_rfl) ?_
     go_wp2_with fail
     refine (CheckTube_any t Ab Ad cb cd _ hg).mono ?_
     rintro e V6 ⟨rfl, hV6⟩
     replace q1 := q1.below hV6 q1.lt
     replace q2 := q2.below hV6 q2.lt
     replace q3 := q3.below hV6 q3.lt
     replace hg := hg.go hV6
     have B_V6 := ex_trans hb1 hV6
     rw [HC.out]
     go_wp2_with (refine pause_at 14 rfl ?_)
     refine Paused.mk ?_
     refine wpList_load_row rfl 52 _ rfl _ rfl 52 _ (0, 0) _ (q2) Tryz.underlying52 rfl (by kernel_rfl) ?_
     go_wp2_with fail
     refine (reading_any 16 r _ (by omega)).mono ?_
     rintro e V7 ⟨rfl, hV7⟩
     replace q1 := q1.below hV7 q1.lt
     replace q2 := q2.below hV7 q2.lt
     replace q3 := q3.below hV7 q3.lt
     replace hg := hg.go hV7
     have B_V7 := ex_trans B_V6 hV7
     rw [T0.out]
     have a5 : V7.cell? ⟨pq1, 5, none⟩ = some (.int .i64 t.k.lo) := q1.cell 5
     have a6 : V7.cell? ⟨pq1, 6, none⟩ = some (.int .i64 t.k.hi) := q1.cell 6
     have la := q1.lt
     have c1 : V7.cell? ⟨pq3, 1, none⟩ = some (.int .i64 x.k) := q3.cell 1
     have lc := q3.lt
     go_wp2_with fail
     refine (sm_has _ _ _ _).mono ?_
     rintro e V8 ⟨rfl, hV8⟩
     replace q1 := q1.below hV8 q1.lt
     replace q2 := q2.below hV8 q2.lt
     replace q3 := q3.below hV8 q3.lt
     replace hg := hg.go hV8
     have B_V8 := ex_trans B_V7 hV8
     clear a5 a6 la
     clear c1 lc
     rw [T1.out]
     have a7 : V8.cell? ⟨pq1, 7, none⟩ = some (.int .i64 t.lag.lo) := q1.cell 7
     have a8 : V8.cell? ⟨pq1, 8, none⟩ = some (.int .i64 t.lag.hi) := q1.cell 8
     have la := q1.lt
     have c2 : V8.cell? ⟨pq3, 2, none⟩ = some (.int .i64 x.lag) := q3.cell 2
     have lc := q3.lt
     go_wp2_with fail
     refine (sm_has _ _ _ _).mono ?_
     rintro e V9 ⟨rfl, hV9⟩
     replace q1 := q1.below hV9 q1.lt
     replace q2 := q2.below hV9 q2.lt
     replace q3 := q3.below hV9 q3.lt
     replace hg := hg.go hV9
     have B_V9 := ex_trans B_V8 hV9
     clear c2 lc
     clear a7 a8 la
     rw [T2.out]
     go_wp2
     go_ret2
     rw [HR.out.1, HR.out.2]
     exact ⟨rfl, B_V9⟩
    ·
     cases t3 : inB x.sq t.sq.lo t.sq.hi
     ·
      have HR := Lib.hid (play_no (r := r) (x := x) HC.out (by unfold txOk; rw [t0, t1, t2, t3]; rfl))
      have T0 := Lib.hid t0
      have T1 := Lib.hid t1
      have T2 := Lib.hid t2
      have T3 := Lib.hid t3
      clear t0 t1 t2 t3
      go_enter Tryz.func39, Tryz.ntmps39
      go_upto_region 1 with fail
      show Code.wp _ _ _ _ _
      refine box3 (K := fun V => Code.wp _ _ _ _ V) ?_
      intro V hb1 q1 q2 q3
      replace hg := hg.go hb1
      obtain ⟨pq1, hpq1⟩ : ∃ p, w.heap.size = p := ⟨_, rfl⟩
      obtain ⟨pq2, hpq2⟩ : ∃ p, w.heap.size + 1 = p := ⟨_, rfl⟩
      obtain ⟨pq3, hpq3⟩ : ∃ p, w.heap.size + 1 + 1 = p := ⟨_, rfl⟩
      rw [hpq3] at q3 ⊢
      rw [hpq2] at q2 ⊢
      rw [hpq1] at q1 ⊢
      have hp1 : w.heap.size ≤ pq1 := by omega
      have hp2 : w.heap.size ≤ pq2 := by omega
      have hp3 : w.heap.size ≤ pq3 := by omega
      clear hpq1 hpq2 hpq3
      go_wp2_with (refine pause_at 9 rfl ?_)
      refine Paused.mk ?_
      refine wpList_load_row rfl 45 _ rfl _ rfl 45 _ (0, 0) _ (q1) Tryz.underlying45 rfl (by kernel_rfl) ?_
      go_wp2_with fail
      refine (CheckTube_any t Ab Ad cb cd _ hg).mono ?_
      rintro e V10 ⟨rfl, hV10⟩
      replace q1 := q1.below hV10 q1.lt
      replace q2 := q2.below hV10 q2.lt
      replace q3 := q3.below hV10 q3.lt
      replace hg := hg.go hV10
      have B_V10 := ex_trans hb1 hV10
      rw [HC.out]
      go_wp2_with (refine pause_at 14 rfl ?_)
      refine Paused.mk ?_
      refine wpList_load_row rfl 52 _ rfl _ rfl 52 _ (0, 0) _ (q2) Tryz.underlying52 rfl (by kernel_rfl) ?_
      go_wp2_with fail
      refine (reading_any 16 r _ (by omega)).mono ?_
      rintro e V11 ⟨rfl, hV11⟩
      replace q1 := q1.below hV11 q1.lt
      replace q2 := q2.below hV11 q2.lt
      replace q3 := q3.below hV11 q3.lt
      replace hg := hg.go hV11
      have B_V11 := ex_trans B_V10 hV11
      rw [T0.out]
      have a5 : V11.cell? ⟨pq1, 5, none⟩ = some (.int .i64 t.k.lo) := q1.cell 5
      have a6 : V11.cell? ⟨pq1, 6, none⟩ = some (.int .i64 t.k.hi) := q1.cell 6
      have la := q1.lt
      have c1 : V11.cell? ⟨pq3, 1, none⟩ = some (.int .i64 x.k) := q3.cell 1
      have lc := q3.lt
      go_wp2_with fail
      refine (sm_has _ _ _ _).mono ?_
      rintro e V12 ⟨rfl, hV12⟩
      replace q1 := q1.below hV12 q1.lt
      replace q2 := q2.below hV12 q2.lt
      replace q3 := q3.below hV12 q3.lt
      replace hg := hg.go hV12
      have B_V12 := ex_trans B_V11 hV12
      clear a5 a6 la
      clear c1 lc
      rw [T1.out]
      have a7 : V12.cell? ⟨pq1, 7, none⟩ = some (.int .i64 t.lag.lo) := q1.cell 7
      have a8 : V12.cell? ⟨pq1, 8, none⟩ = some (.int .i64 t.lag.hi) := q1.cell 8
      have la := q1.lt
      have c2 : V12.cell? ⟨pq3, 2, none⟩ = some (.int .i64 x.lag) := q3.cell 2
      have lc := q3.lt
      go_wp2_with fail
      refine (sm_has _ _ _ _).mono ?_
      rintro e V13 ⟨rfl, hV13⟩
      replace q1 := q1.below hV13 q1.lt
      replace q2 := q2.below hV13 q2.lt
      replace q3 := q3.below hV13 q3.lt
      replace hg := hg.go hV13
      have B_V13 := ex_trans B_V12 hV13
      clear c2 lc
      clear a7 a8 la
      rw [T2.out]
      have a9 : V13.cell? ⟨pq1, 9, none⟩ = some (.int .i64 t.sq.lo) := q1.cell 9
      have a10 : V13.cell? ⟨pq1, 10, none⟩ = some (.int .i64 t.sq.hi) := q1.cell 10
      have la := q1.lt
      have c3 : V13.cell? ⟨pq3, 3, none⟩ = some (.int .i64 x.sq) := q3.cell 3
      have lc := q3.lt
      go_wp2_with fail
      refine (sm_has _ _ _ _).mono ?_
      rintro e V14 ⟨rfl, hV14⟩
      replace q1 := q1.below hV14 q1.lt
      replace q2 := q2.below hV14 q2.lt
      replace q3 := q3.below hV14 q3.lt
      replace hg := hg.go hV14
      have B_V14 := ex_trans B_V13 hV14
      clear a9 a10 la
      clear c3 lc
      rw [T3.out]
      go_wp2
      go_ret2
      rw [HR.out.1, HR.out.2]
      exact ⟨rfl, B_V14⟩
     ·
      cases t4 : inB x.air r.air.lo r.air.hi
      ·
       have HR := Lib.hid (play_no (r := r) (x := x) HC.out (by unfold txOk; rw [t0, t1, t2, t3, t4]; rfl))
       have T0 := Lib.hid t0
       have T1 := Lib.hid t1
       have T2 := Lib.hid t2
       have T3 := Lib.hid t3
       have T4 := Lib.hid t4
       clear t0 t1 t2 t3 t4
       go_enter Tryz.func39, Tryz.ntmps39
       go_upto_region 1 with fail
       show Code.wp _ _ _ _ _
       refine box3 (K := fun V => Code.wp _ _ _ _ V) ?_
       intro V hb1 q1 q2 q3
       replace hg := hg.go hb1
       obtain ⟨pq1, hpq1⟩ : ∃ p, w.heap.size = p := ⟨_, rfl⟩
       obtain ⟨pq2, hpq2⟩ : ∃ p, w.heap.size + 1 = p := ⟨_, rfl⟩
       obtain ⟨pq3, hpq3⟩ : ∃ p, w.heap.size + 1 + 1 = p := ⟨_, rfl⟩
       rw [hpq3] at q3 ⊢
       rw [hpq2] at q2 ⊢
       rw [hpq1] at q1 ⊢
       have hp1 : w.heap.size ≤ pq1 := by omega
       have hp2 : w.heap.size ≤ pq2 := by omega
       have hp3 : w.heap.size ≤ pq3 := by omega
       clear hpq1 hpq2 hpq3
       go_wp2_with (refine pause_at 9 rfl ?_)
       refine Paused.mk ?_
       refine wpList_load_row rfl 45 _ rfl _ rfl 45 _ (0, 0) _ (q1) Tryz.underlying45 rfl (by kernel_rfl) ?_
       go_wp2_with fail
       refine (CheckTube_any t Ab Ad cb cd _ hg).mono ?_
       rintro e V15 ⟨rfl, hV15⟩
       replace q1 := q1.below hV15 q1.lt
       replace q2 := q2.below hV15 q2.lt
       replace q3 := q3.below hV15 q3.lt
       replace hg := hg.go hV15
       have B_V15 := ex_trans hb1 hV15
       rw [HC.out]
       go_wp2_with (refine pause_at 14 rfl ?_)
       refine Paused.mk ?_
       refine wpList_load_row rfl 52 _ rfl _ rfl 52 _ (0, 0) _ (q2) Tryz.underlying52 rfl (by kernel_rfl) ?_
       go_wp2_with fail
       refine (reading_any 16 r _ (by omega)).mono ?_
       rintro e V16 ⟨rfl, hV16⟩
       replace q1 := q1.below hV16 q1.lt
       replace q2 := q2.below hV16 q2.lt
       replace q3 := q3.below hV16 q3.lt
       replace hg := hg.go hV16
       have B_V16 := ex_trans B_V15 hV16
       rw [T0.out]
       have a5 : V16.cell? ⟨pq1, 5, none⟩ = some (.int .i64 t.k.lo) := q1.cell 5
       have a6 : V16.cell? ⟨pq1, 6, none⟩ = some (.int .i64 t.k.hi) := q1.cell 6
       have la := q1.lt
       have c1 : V16.cell? ⟨pq3, 1, none⟩ = some (.int .i64 x.k) := q3.cell 1
       have lc := q3.lt
       go_wp2_with fail
       refine (sm_has _ _ _ _).mono ?_
       rintro e V17 ⟨rfl, hV17⟩
       replace q1 := q1.below hV17 q1.lt
       replace q2 := q2.below hV17 q2.lt
       replace q3 := q3.below hV17 q3.lt
       replace hg := hg.go hV17
       have B_V17 := ex_trans B_V16 hV17
       clear a5 a6 la
       clear c1 lc
       rw [T1.out]
       have a7 : V17.cell? ⟨pq1, 7, none⟩ = some (.int .i64 t.lag.lo) := q1.cell 7
       have a8 : V17.cell? ⟨pq1, 8, none⟩ = some (.int .i64 t.lag.hi) := q1.cell 8
       have la := q1.lt
       have c2 : V17.cell? ⟨pq3, 2, none⟩ = some (.int .i64 x.lag) := q3.cell 2
       have lc := q3.lt
       go_wp2_with fail
       refine (sm_has _ _ _ _).mono ?_
       rintro e V18 ⟨rfl, hV18⟩
       replace q1 := q1.below hV18 q1.lt
       replace q2 := q2.below hV18 q2.lt
       replace q3 := q3.below hV18 q3.lt
       replace hg := hg.go hV18
       have B_V18 := ex_trans B_V17 hV18
       clear c2 lc
       clear a7 a8 la
       rw [T2.out]
       have a9 : V18.cell? ⟨pq1, 9, none⟩ = some (.int .i64 t.sq.lo) := q1.cell 9
       have a10 : V18.cell? ⟨pq1, 10, none⟩ = some (.int .i64 t.sq.hi) := q1.cell 10
       have la := q1.lt
       have c3 : V18.cell? ⟨pq3, 3, none⟩ = some (.int .i64 x.sq) := q3.cell 3
       have lc := q3.lt
       go_wp2_with fail
       refine (sm_has _ _ _ _).mono ?_
       rintro e V19 ⟨rfl, hV19⟩
       replace q1 := q1.below hV19 q1.lt
       replace q2 := q2.below hV19 q2.lt
       replace q3 := q3.below hV19 q3.lt
       replace hg := hg.go hV19
       have B_V19 := ex_trans B_V18 hV19
       clear a9 a10 la
       clear c3 lc
       rw [T3.out]
       have b4 : V19.cell? ⟨pq2, 4, none⟩ = some (.int .i64 r.air.lo) := q2.cell 4
       have b5 : V19.cell? ⟨pq2, 5, none⟩ = some (.int .i64 r.air.hi) := q2.cell 5
       have lb := q2.lt
       have c4 : V19.cell? ⟨pq3, 4, none⟩ = some (.int .i64 x.air) := q3.cell 4
       have lc := q3.lt
       go_wp2_with fail
       refine (sm_has _ _ _ _).mono ?_
       rintro e V20 ⟨rfl, hV20⟩
       replace q1 := q1.below hV20 q1.lt
       replace q2 := q2.below hV20 q2.lt
       replace q3 := q3.below hV20 q3.lt
       replace hg := hg.go hV20
       have B_V20 := ex_trans B_V19 hV20
       clear b4 b5 lb
       clear c4 lc
       rw [T4.out]
       go_wp2
       go_ret2
       rw [HR.out.1, HR.out.2]
       exact ⟨rfl, B_V20⟩
      ·
       cases t5 : inB x.rate r.rate.lo r.rate.hi
       ·
        have HR := Lib.hid (play_no (r := r) (x := x) HC.out (by unfold txOk; rw [t0, t1, t2, t3, t4, t5]; rfl))
        have T0 := Lib.hid t0
        have T1 := Lib.hid t1
        have T2 := Lib.hid t2
        have T3 := Lib.hid t3
        have T4 := Lib.hid t4
        have T5 := Lib.hid t5
        clear t0 t1 t2 t3 t4 t5
        go_enter Tryz.func39, Tryz.ntmps39
        go_upto_region 1 with fail
        show Code.wp _ _ _ _ _
        refine box3 (K := fun V => Code.wp _ _ _ _ V) ?_
        intro V hb1 q1 q2 q3
        replace hg := hg.go hb1
        obtain ⟨pq1, hpq1⟩ : ∃ p, w.heap.size = p := ⟨_, rfl⟩
        obtain ⟨pq2, hpq2⟩ : ∃ p, w.heap.size + 1 = p := ⟨_, rfl⟩
        obtain ⟨pq3, hpq3⟩ : ∃ p, w.heap.size + 1 + 1 = p := ⟨_, rfl⟩
        rw [hpq3] at q3 ⊢
        rw [hpq2] at q2 ⊢
        rw [hpq1] at q1 ⊢
        have hp1 : w.heap.size ≤ pq1 := by omega
        have hp2 : w.heap.size ≤ pq2 := by omega
        have hp3 : w.heap.size ≤ pq3 := by omega
        clear hpq1 hpq2 hpq3
        go_wp2_with (refine pause_at 9 rfl ?_)
        refine Paused.mk ?_
        refine wpList_load_row rfl 45 _ rfl _ rfl 45 _ (0, 0) _ (q1) Tryz.underlying45 rfl (by kernel_rfl) ?_
        go_wp2_with fail
        refine (CheckTube_any t Ab Ad cb cd _ hg).mono ?_
        rintro e V21 ⟨rfl, hV21⟩
        replace q1 := q1.below hV21 q1.lt
        replace q2 := q2.below hV21 q2.lt
        replace q3 := q3.below hV21 q3.lt
        replace hg := hg.go hV21
        have B_V21 := ex_trans hb1 hV21
        rw [HC.out]
        go_wp2_with (refine pause_at 14 rfl ?_)
        refine Paused.mk ?_
        refine wpList_load_row rfl 52 _ rfl _ rfl 52 _ (0, 0) _ (q2) Tryz.underlying52 rfl (by kernel_rfl) ?_
        go_wp2_with fail
        refine (reading_any 16 r _ (by omega)).mono ?_
        rintro e V22 ⟨rfl, hV22⟩
        replace q1 := q1.below hV22 q1.lt
        replace q2 := q2.below hV22 q2.lt
        replace q3 := q3.below hV22 q3.lt
        replace hg := hg.go hV22
        have B_V22 := ex_trans B_V21 hV22
        rw [T0.out]
        have a5 : V22.cell? ⟨pq1, 5, none⟩ = some (.int .i64 t.k.lo) := q1.cell 5
        have a6 : V22.cell? ⟨pq1, 6, none⟩ = some (.int .i64 t.k.hi) := q1.cell 6
        have la := q1.lt
        have c1 : V22.cell? ⟨pq3, 1, none⟩ = some (.int .i64 x.k) := q3.cell 1
        have lc := q3.lt
        go_wp2_with fail
        refine (sm_has _ _ _ _).mono ?_
        rintro e V23 ⟨rfl, hV23⟩
        replace q1 := q1.below hV23 q1.lt
        replace q2 := q2.below hV23 q2.lt
        replace q3 := q3.below hV23 q3.lt
        replace hg := hg.go hV23
        have B_V23 := ex_trans B_V22 hV23
        clear a5 a6 la
        clear c1 lc
        rw [T1.out]
        have a7 : V23.cell? ⟨pq1, 7, none⟩ = some (.int .i64 t.lag.lo) := q1.cell 7
        have a8 : V23.cell? ⟨pq1, 8, none⟩ = some (.int .i64 t.lag.hi) := q1.cell 8
        have la := q1.lt
        have c2 : V23.cell? ⟨pq3, 2, none⟩ = some (.int .i64 x.lag) := q3.cell 2
        have lc := q3.lt
        go_wp2_with fail
        refine (sm_has _ _ _ _).mono ?_
        rintro e V24 ⟨rfl, hV24⟩
        replace q1 := q1.below hV24 q1.lt
        replace q2 := q2.below hV24 q2.lt
        replace q3 := q3.below hV24 q3.lt
        replace hg := hg.go hV24
        have B_V24 := ex_trans B_V23 hV24
        clear c2 lc
        clear a7 a8 la
        rw [T2.out]
        have a9 : V24.cell? ⟨pq1, 9, none⟩ = some (.int .i64 t.sq.lo) := q1.cell 9
        have a10 : V24.cell? ⟨pq1, 10, none⟩ = some (.int .i64 t.sq.hi) := q1.cell 10
        have la := q1.lt
        have c3 : V24.cell? ⟨pq3, 3, none⟩ = some (.int .i64 x.sq) := q3.cell 3
        have lc := q3.lt
        go_wp2_with fail
        refine (sm_has _ _ _ _).mono ?_
        rintro e V25 ⟨rfl, hV25⟩
        replace q1 := q1.below hV25 q1.lt
        replace q2 := q2.below hV25 q2.lt
        replace q3 := q3.below hV25 q3.lt
        replace hg := hg.go hV25
        have B_V25 := ex_trans B_V24 hV25
        clear a9 a10 la
        clear c3 lc
        rw [T3.out]
        have b4 : V25.cell? ⟨pq2, 4, none⟩ = some (.int .i64 r.air.lo) := q2.cell 4
        have b5 : V25.cell? ⟨pq2, 5, none⟩ = some (.int .i64 r.air.hi) := q2.cell 5
        have lb := q2.lt
        have c4 : V25.cell? ⟨pq3, 4, none⟩ = some (.int .i64 x.air) := q3.cell 4
        have lc := q3.lt
        go_wp2_with fail
        refine (sm_has _ _ _ _).mono ?_
        rintro e V26 ⟨rfl, hV26⟩
        replace q1 := q1.below hV26 q1.lt
        replace q2 := q2.below hV26 q2.lt
        replace q3 := q3.below hV26 q3.lt
        replace hg := hg.go hV26
        have B_V26 := ex_trans B_V25 hV26
        clear b4 b5 lb
        clear c4 lc
        rw [T4.out]
        have b6 : V26.cell? ⟨pq2, 6, none⟩ = some (.int .i64 r.rate.lo) := q2.cell 6
        have b7 : V26.cell? ⟨pq2, 7, none⟩ = some (.int .i64 r.rate.hi) := q2.cell 7
        have lb := q2.lt
        have c5 : V26.cell? ⟨pq3, 5, none⟩ = some (.int .i64 x.rate) := q3.cell 5
        have lc := q3.lt
        go_wp2_with fail
        refine (sm_has _ _ _ _).mono ?_
        rintro e V27 ⟨rfl, hV27⟩
        replace q1 := q1.below hV27 q1.lt
        replace q2 := q2.below hV27 q2.lt
        replace q3 := q3.below hV27 q3.lt
        replace hg := hg.go hV27
        have B_V27 := ex_trans B_V26 hV27
        clear c5 lc
        clear b6 b7 lb
        rw [T5.out]
        go_wp2
        go_ret2
        rw [HR.out.1, HR.out.2]
        exact ⟨rfl, B_V27⟩
       ·
        cases t6 : inB x.off (-r.err) r.err
        ·
         have HR := Lib.hid (play_no (r := r) (x := x) HC.out (by unfold txOk; rw [t0, t1, t2, t3, t4, t5, t6]; rfl))
         have T0 := Lib.hid t0
         have T1 := Lib.hid t1
         have T2 := Lib.hid t2
         have T3 := Lib.hid t3
         have T4 := Lib.hid t4
         have T5 := Lib.hid t5
         have T6 := Lib.hid t6
         clear t0 t1 t2 t3 t4 t5 t6
         go_enter Tryz.func39, Tryz.ntmps39
         go_upto_region 1 with fail
         show Code.wp _ _ _ _ _
         refine box3 (K := fun V => Code.wp _ _ _ _ V) ?_
         intro V hb1 q1 q2 q3
         replace hg := hg.go hb1
         obtain ⟨pq1, hpq1⟩ : ∃ p, w.heap.size = p := ⟨_, rfl⟩
         obtain ⟨pq2, hpq2⟩ : ∃ p, w.heap.size + 1 = p := ⟨_, rfl⟩
         obtain ⟨pq3, hpq3⟩ : ∃ p, w.heap.size + 1 + 1 = p := ⟨_, rfl⟩
         rw [hpq3] at q3 ⊢
         rw [hpq2] at q2 ⊢
         rw [hpq1] at q1 ⊢
         have hp1 : w.heap.size ≤ pq1 := by omega
         have hp2 : w.heap.size ≤ pq2 := by omega
         have hp3 : w.heap.size ≤ pq3 := by omega
         clear hpq1 hpq2 hpq3
         go_wp2_with (refine pause_at 9 rfl ?_)
         refine Paused.mk ?_
         refine wpList_load_row rfl 45 _ rfl _ rfl 45 _ (0, 0) _ (q1) Tryz.underlying45 rfl (by kernel_rfl) ?_
         go_wp2_with fail
         refine (CheckTube_any t Ab Ad cb cd _ hg).mono ?_
         rintro e V28 ⟨rfl, hV28⟩
         replace q1 := q1.below hV28 q1.lt
         replace q2 := q2.below hV28 q2.lt
         replace q3 := q3.below hV28 q3.lt
         replace hg := hg.go hV28
         have B_V28 := ex_trans hb1 hV28
         rw [HC.out]
         go_wp2_with (refine pause_at 14 rfl ?_)
         refine Paused.mk ?_
         refine wpList_load_row rfl 52 _ rfl _ rfl 52 _ (0, 0) _ (q2) Tryz.underlying52 rfl (by kernel_rfl) ?_
         go_wp2_with fail
         refine (reading_any 16 r _ (by omega)).mono ?_
         rintro e V29 ⟨rfl, hV29⟩
         replace q1 := q1.below hV29 q1.lt
         replace q2 := q2.below hV29 q2.lt
         replace q3 := q3.below hV29 q3.lt
         replace hg := hg.go hV29
         have B_V29 := ex_trans B_V28 hV29
         rw [T0.out]
         have a5 : V29.cell? ⟨pq1, 5, none⟩ = some (.int .i64 t.k.lo) := q1.cell 5
         have a6 : V29.cell? ⟨pq1, 6, none⟩ = some (.int .i64 t.k.hi) := q1.cell 6
         have la := q1.lt
         have c1 : V29.cell? ⟨pq3, 1, none⟩ = some (.int .i64 x.k) := q3.cell 1
         have lc := q3.lt
         go_wp2_with fail
         refine (sm_has _ _ _ _).mono ?_
         rintro e V30 ⟨rfl, hV30⟩
         replace q1 := q1.below hV30 q1.lt
         replace q2 := q2.below hV30 q2.lt
         replace q3 := q3.below hV30 q3.lt
         replace hg := hg.go hV30
         have B_V30 := ex_trans B_V29 hV30
         clear a5 a6 la
         clear c1 lc
         rw [T1.out]
         have a7 : V30.cell? ⟨pq1, 7, none⟩ = some (.int .i64 t.lag.lo) := q1.cell 7
         have a8 : V30.cell? ⟨pq1, 8, none⟩ = some (.int .i64 t.lag.hi) := q1.cell 8
         have la := q1.lt
         have c2 : V30.cell? ⟨pq3, 2, none⟩ = some (.int .i64 x.lag) := q3.cell 2
         have lc := q3.lt
         go_wp2_with fail
         refine (sm_has _ _ _ _).mono ?_
         rintro e V31 ⟨rfl, hV31⟩
         replace q1 := q1.below hV31 q1.lt
         replace q2 := q2.below hV31 q2.lt
         replace q3 := q3.below hV31 q3.lt
         replace hg := hg.go hV31
         have B_V31 := ex_trans B_V30 hV31
         clear c2 lc
         clear a7 a8 la
         rw [T2.out]
         have a9 : V31.cell? ⟨pq1, 9, none⟩ = some (.int .i64 t.sq.lo) := q1.cell 9
         have a10 : V31.cell? ⟨pq1, 10, none⟩ = some (.int .i64 t.sq.hi) := q1.cell 10
         have la := q1.lt
         have c3 : V31.cell? ⟨pq3, 3, none⟩ = some (.int .i64 x.sq) := q3.cell 3
         have lc := q3.lt
         go_wp2_with fail
         refine (sm_has _ _ _ _).mono ?_
         rintro e V32 ⟨rfl, hV32⟩
         replace q1 := q1.below hV32 q1.lt
         replace q2 := q2.below hV32 q2.lt
         replace q3 := q3.below hV32 q3.lt
         replace hg := hg.go hV32
         have B_V32 := ex_trans B_V31 hV32
         clear a9 a10 la
         clear c3 lc
         rw [T3.out]
         have b4 : V32.cell? ⟨pq2, 4, none⟩ = some (.int .i64 r.air.lo) := q2.cell 4
         have b5 : V32.cell? ⟨pq2, 5, none⟩ = some (.int .i64 r.air.hi) := q2.cell 5
         have lb := q2.lt
         have c4 : V32.cell? ⟨pq3, 4, none⟩ = some (.int .i64 x.air) := q3.cell 4
         have lc := q3.lt
         go_wp2_with fail
         refine (sm_has _ _ _ _).mono ?_
         rintro e V33 ⟨rfl, hV33⟩
         replace q1 := q1.below hV33 q1.lt
         replace q2 := q2.below hV33 q2.lt
         replace q3 := q3.below hV33 q3.lt
         replace hg := hg.go hV33
         have B_V33 := ex_trans B_V32 hV33
         clear b4 b5 lb
         clear c4 lc
         rw [T4.out]
         have b6 : V33.cell? ⟨pq2, 6, none⟩ = some (.int .i64 r.rate.lo) := q2.cell 6
         have b7 : V33.cell? ⟨pq2, 7, none⟩ = some (.int .i64 r.rate.hi) := q2.cell 7
         have lb := q2.lt
         have c5 : V33.cell? ⟨pq3, 5, none⟩ = some (.int .i64 x.rate) := q3.cell 5
         have lc := q3.lt
         go_wp2_with fail
         refine (sm_has _ _ _ _).mono ?_
         rintro e V34 ⟨rfl, hV34⟩
         replace q1 := q1.below hV34 q1.lt
         replace q2 := q2.below hV34 q2.lt
         replace q3 := q3.below hV34 q3.lt
         replace hg := hg.go hV34
         have B_V34 := ex_trans B_V33 hV34
         clear c5 lc
         clear b6 b7 lb
         rw [T5.out]
         have b2 : V34.cell? ⟨pq2, 2, none⟩ = some (.int .i64 r.err) := q2.cell 2
         have lb := q2.lt
         have c6 : V34.cell? ⟨pq3, 6, none⟩ = some (.int .i64 x.off) := q3.cell 6
         have lc := q3.lt
         go_wp2_with fail
         refine (sm_within _ _ _ _).mono ?_
         rintro e w' ⟨rfl, rfl⟩
         clear b2 lb
         clear c6 lc
         rw [T6.out]
         go_wp2
         go_ret2
         rw [HR.out.1, HR.out.2]
         exact ⟨rfl, B_V34⟩
        ·
         cases t7 : inB x.zero (-2000) 2000
         ·
          have HR := Lib.hid (play_no (r := r) (x := x) HC.out (by unfold txOk; rw [t0, t1, t2, t3, t4, t5, t6, t7]; rfl))
          have T0 := Lib.hid t0
          have T1 := Lib.hid t1
          have T2 := Lib.hid t2
          have T3 := Lib.hid t3
          have T4 := Lib.hid t4
          have T5 := Lib.hid t5
          have T6 := Lib.hid t6
          have T7 := Lib.hid t7
          clear t0 t1 t2 t3 t4 t5 t6 t7
          go_enter Tryz.func39, Tryz.ntmps39
          go_upto_region 1 with fail
          show Code.wp _ _ _ _ _
          refine box3 (K := fun V => Code.wp _ _ _ _ V) ?_
          intro V hb1 q1 q2 q3
          replace hg := hg.go hb1
          obtain ⟨pq1, hpq1⟩ : ∃ p, w.heap.size = p := ⟨_, rfl⟩
          obtain ⟨pq2, hpq2⟩ : ∃ p, w.heap.size + 1 = p := ⟨_, rfl⟩
          obtain ⟨pq3, hpq3⟩ : ∃ p, w.heap.size + 1 + 1 = p := ⟨_, rfl⟩
          rw [hpq3] at q3 ⊢
          rw [hpq2] at q2 ⊢
          rw [hpq1] at q1 ⊢
          have hp1 : w.heap.size ≤ pq1 := by omega
          have hp2 : w.heap.size ≤ pq2 := by omega
          have hp3 : w.heap.size ≤ pq3 := by omega
          clear hpq1 hpq2 hpq3
          go_wp2_with (refine pause_at 9 rfl ?_)
          refine Paused.mk ?_
          refine wpList_load_row rfl 45 _ rfl _ rfl 45 _ (0, 0) _ (q1) Tryz.underlying45 rfl (by kernel_rfl) ?_
          go_wp2_with fail
          refine (CheckTube_any t Ab Ad cb cd _ hg).mono ?_
          rintro e V35 ⟨rfl, hV35⟩
          replace q1 := q1.below hV35 q1.lt
          replace q2 := q2.below hV35 q2.lt
          replace q3 := q3.below hV35 q3.lt
          replace hg := hg.go hV35
          have B_V35 := ex_trans hb1 hV35
          rw [HC.out]
          go_wp2_with (refine pause_at 14 rfl ?_)
          refine Paused.mk ?_
          refine wpList_load_row rfl 52 _ rfl _ rfl 52 _ (0, 0) _ (q2) Tryz.underlying52 rfl (by kernel_rfl) ?_
          go_wp2_with fail
          refine (reading_any 16 r _ (by omega)).mono ?_
          rintro e V36 ⟨rfl, hV36⟩
          replace q1 := q1.below hV36 q1.lt
          replace q2 := q2.below hV36 q2.lt
          replace q3 := q3.below hV36 q3.lt
          replace hg := hg.go hV36
          have B_V36 := ex_trans B_V35 hV36
          rw [T0.out]
          have a5 : V36.cell? ⟨pq1, 5, none⟩ = some (.int .i64 t.k.lo) := q1.cell 5
          have a6 : V36.cell? ⟨pq1, 6, none⟩ = some (.int .i64 t.k.hi) := q1.cell 6
          have la := q1.lt
          have c1 : V36.cell? ⟨pq3, 1, none⟩ = some (.int .i64 x.k) := q3.cell 1
          have lc := q3.lt
          go_wp2_with fail
          refine (sm_has _ _ _ _).mono ?_
          rintro e V37 ⟨rfl, hV37⟩
          replace q1 := q1.below hV37 q1.lt
          replace q2 := q2.below hV37 q2.lt
          replace q3 := q3.below hV37 q3.lt
          replace hg := hg.go hV37
          have B_V37 := ex_trans B_V36 hV37
          clear a5 a6 la
          clear c1 lc
          rw [T1.out]
          have a7 : V37.cell? ⟨pq1, 7, none⟩ = some (.int .i64 t.lag.lo) := q1.cell 7
          have a8 : V37.cell? ⟨pq1, 8, none⟩ = some (.int .i64 t.lag.hi) := q1.cell 8
          have la := q1.lt
          have c2 : V37.cell? ⟨pq3, 2, none⟩ = some (.int .i64 x.lag) := q3.cell 2
          have lc := q3.lt
          go_wp2_with fail
          refine (sm_has _ _ _ _).mono ?_
          rintro e V38 ⟨rfl, hV38⟩
          replace q1 := q1.below hV38 q1.lt
          replace q2 := q2.below hV38 q2.lt
          replace q3 := q3.below hV38 q3.lt
          replace hg := hg.go hV38
          have B_V38 := ex_trans B_V37 hV38
          clear c2 lc
          clear a7 a8 la
          rw [T2.out]
          have a9 : V38.cell? ⟨pq1, 9, none⟩ = some (.int .i64 t.sq.lo) := q1.cell 9
          have a10 : V38.cell? ⟨pq1, 10, none⟩ = some (.int .i64 t.sq.hi) := q1.cell 10
          have la := q1.lt
          have c3 : V38.cell? ⟨pq3, 3, none⟩ = some (.int .i64 x.sq) := q3.cell 3
          have lc := q3.lt
          go_wp2_with fail
          refine (sm_has _ _ _ _).mono ?_
          rintro e V39 ⟨rfl, hV39⟩
          replace q1 := q1.below hV39 q1.lt
          replace q2 := q2.below hV39 q2.lt
          replace q3 := q3.below hV39 q3.lt
          replace hg := hg.go hV39
          have B_V39 := ex_trans B_V38 hV39
          clear a9 a10 la
          clear c3 lc
          rw [T3.out]
          have b4 : V39.cell? ⟨pq2, 4, none⟩ = some (.int .i64 r.air.lo) := q2.cell 4
          have b5 : V39.cell? ⟨pq2, 5, none⟩ = some (.int .i64 r.air.hi) := q2.cell 5
          have lb := q2.lt
          have c4 : V39.cell? ⟨pq3, 4, none⟩ = some (.int .i64 x.air) := q3.cell 4
          have lc := q3.lt
          go_wp2_with fail
          refine (sm_has _ _ _ _).mono ?_
          rintro e V40 ⟨rfl, hV40⟩
          replace q1 := q1.below hV40 q1.lt
          replace q2 := q2.below hV40 q2.lt
          replace q3 := q3.below hV40 q3.lt
          replace hg := hg.go hV40
          have B_V40 := ex_trans B_V39 hV40
          clear b4 b5 lb
          clear c4 lc
          rw [T4.out]
          have b6 : V40.cell? ⟨pq2, 6, none⟩ = some (.int .i64 r.rate.lo) := q2.cell 6
          have b7 : V40.cell? ⟨pq2, 7, none⟩ = some (.int .i64 r.rate.hi) := q2.cell 7
          have lb := q2.lt
          have c5 : V40.cell? ⟨pq3, 5, none⟩ = some (.int .i64 x.rate) := q3.cell 5
          have lc := q3.lt
          go_wp2_with fail
          refine (sm_has _ _ _ _).mono ?_
          rintro e V41 ⟨rfl, hV41⟩
          replace q1 := q1.below hV41 q1.lt
          replace q2 := q2.below hV41 q2.lt
          replace q3 := q3.below hV41 q3.lt
          replace hg := hg.go hV41
          have B_V41 := ex_trans B_V40 hV41
          clear c5 lc
          clear b6 b7 lb
          rw [T5.out]
          have b2 : V41.cell? ⟨pq2, 2, none⟩ = some (.int .i64 r.err) := q2.cell 2
          have lb := q2.lt
          have c6 : V41.cell? ⟨pq3, 6, none⟩ = some (.int .i64 x.off) := q3.cell 6
          have lc := q3.lt
          go_wp2_with fail
          refine (sm_within _ _ _ _).mono ?_
          rintro e w' ⟨rfl, rfl⟩
          clear b2 lb
          clear c6 lc
          rw [T6.out]
          have c0 : V41.cell? ⟨pq3, 0, none⟩ = some (.int .i64 x.zero) := q3.cell 0
          have lc := q3.lt
          go_wp2_with fail
          refine (sm_within _ _ _ _).mono ?_
          rintro e w' ⟨rfl, rfl⟩
          clear c0 lc
          rw [T7.out]
          go_wp2
          go_ret2
          rw [HR.out.1, HR.out.2]
          exact ⟨rfl, B_V41⟩
         ·
          have HT : Hid ((rdOk 16 r && txOk t r x) = true) := Lib.hid (by unfold txOk; rw [t0, t1, t2, t3, t4, t5, t6, t7]; rfl)
          have HR := Lib.hid (play_ok HC.out HT.out)
          have HRD := Lib.hid (rdOk_iff.1 t0).2
          have T0 := Lib.hid t0
          have T1 := Lib.hid t1
          have T2 := Lib.hid t2
          have T3 := Lib.hid t3
          have T4 := Lib.hid t4
          have T5 := Lib.hid t5
          have T6 := Lib.hid t6
          have T7 := Lib.hid t7
          clear t0 t1 t2 t3 t4 t5 t6 t7
          go_enter Tryz.func39, Tryz.ntmps39
          go_upto_region 1 with fail
          show Code.wp _ _ _ _ _
          refine box3 (K := fun V => Code.wp _ _ _ _ V) ?_
          intro V hb1 q1 q2 q3
          replace hg := hg.go hb1
          obtain ⟨pq1, hpq1⟩ : ∃ p, w.heap.size = p := ⟨_, rfl⟩
          obtain ⟨pq2, hpq2⟩ : ∃ p, w.heap.size + 1 = p := ⟨_, rfl⟩
          obtain ⟨pq3, hpq3⟩ : ∃ p, w.heap.size + 1 + 1 = p := ⟨_, rfl⟩
          rw [hpq3] at q3 ⊢
          rw [hpq2] at q2 ⊢
          rw [hpq1] at q1 ⊢
          have hp1 : w.heap.size ≤ pq1 := by omega
          have hp2 : w.heap.size ≤ pq2 := by omega
          have hp3 : w.heap.size ≤ pq3 := by omega
          clear hpq1 hpq2 hpq3
          go_wp2_with (refine pause_at 9 rfl ?_)
          refine Paused.mk ?_
          refine wpList_load_row rfl 45 _ rfl _ rfl 45 _ (0, 0) _ (q1) Tryz.underlying45 rfl (by kernel_rfl) ?_
          go_wp2_with fail
          refine (CheckTube_any t Ab Ad cb cd _ hg).mono ?_
          rintro e V42 ⟨rfl, hV42⟩
          replace q1 := q1.below hV42 q1.lt
          replace q2 := q2.below hV42 q2.lt
          replace q3 := q3.below hV42 q3.lt
          replace hg := hg.go hV42
          have B_V42 := ex_trans hb1 hV42
          rw [HC.out]
          go_wp2_with (refine pause_at 14 rfl ?_)
          refine Paused.mk ?_
          refine wpList_load_row rfl 52 _ rfl _ rfl 52 _ (0, 0) _ (q2) Tryz.underlying52 rfl (by kernel_rfl) ?_
          go_wp2_with fail
          refine (reading_any 16 r _ (by omega)).mono ?_
          rintro e V43 ⟨rfl, hV43⟩
          replace q1 := q1.below hV43 q1.lt
          replace q2 := q2.below hV43 q2.lt
          replace q3 := q3.below hV43 q3.lt
          replace hg := hg.go hV43
          have B_V43 := ex_trans B_V42 hV43
          rw [T0.out]
          have a5 : V43.cell? ⟨pq1, 5, none⟩ = some (.int .i64 t.k.lo) := q1.cell 5
          have a6 : V43.cell? ⟨pq1, 6, none⟩ = some (.int .i64 t.k.hi) := q1.cell 6
          have la := q1.lt
          have c1 : V43.cell? ⟨pq3, 1, none⟩ = some (.int .i64 x.k) := q3.cell 1
          have lc := q3.lt
          go_wp2_with fail
          refine (sm_has _ _ _ _).mono ?_
          rintro e V44 ⟨rfl, hV44⟩
          replace q1 := q1.below hV44 q1.lt
          replace q2 := q2.below hV44 q2.lt
          replace q3 := q3.below hV44 q3.lt
          replace hg := hg.go hV44
          have B_V44 := ex_trans B_V43 hV44
          clear a5 a6 la
          clear c1 lc
          rw [T1.out]
          have a7 : V44.cell? ⟨pq1, 7, none⟩ = some (.int .i64 t.lag.lo) := q1.cell 7
          have a8 : V44.cell? ⟨pq1, 8, none⟩ = some (.int .i64 t.lag.hi) := q1.cell 8
          have la := q1.lt
          have c2 : V44.cell? ⟨pq3, 2, none⟩ = some (.int .i64 x.lag) := q3.cell 2
          have lc := q3.lt
          go_wp2_with fail
          refine (sm_has _ _ _ _).mono ?_
          rintro e V45 ⟨rfl, hV45⟩
          replace q1 := q1.below hV45 q1.lt
          replace q2 := q2.below hV45 q2.lt
          replace q3 := q3.below hV45 q3.lt
          replace hg := hg.go hV45
          have B_V45 := ex_trans B_V44 hV45
          clear c2 lc
          clear a7 a8 la
          rw [T2.out]
          have a9 : V45.cell? ⟨pq1, 9, none⟩ = some (.int .i64 t.sq.lo) := q1.cell 9
          have a10 : V45.cell? ⟨pq1, 10, none⟩ = some (.int .i64 t.sq.hi) := q1.cell 10
          have la := q1.lt
          have c3 : V45.cell? ⟨pq3, 3, none⟩ = some (.int .i64 x.sq) := q3.cell 3
          have lc := q3.lt
          go_wp2_with fail
          refine (sm_has _ _ _ _).mono ?_
          rintro e V46 ⟨rfl, hV46⟩
          replace q1 := q1.below hV46 q1.lt
          replace q2 := q2.below hV46 q2.lt
          replace q3 := q3.below hV46 q3.lt
          replace hg := hg.go hV46
          have B_V46 := ex_trans B_V45 hV46
          clear a9 a10 la
          clear c3 lc
          rw [T3.out]
          have b4 : V46.cell? ⟨pq2, 4, none⟩ = some (.int .i64 r.air.lo) := q2.cell 4
          have b5 : V46.cell? ⟨pq2, 5, none⟩ = some (.int .i64 r.air.hi) := q2.cell 5
          have lb := q2.lt
          have c4 : V46.cell? ⟨pq3, 4, none⟩ = some (.int .i64 x.air) := q3.cell 4
          have lc := q3.lt
          go_wp2_with fail
          refine (sm_has _ _ _ _).mono ?_
          rintro e V47 ⟨rfl, hV47⟩
          replace q1 := q1.below hV47 q1.lt
          replace q2 := q2.below hV47 q2.lt
          replace q3 := q3.below hV47 q3.lt
          replace hg := hg.go hV47
          have B_V47 := ex_trans B_V46 hV47
          clear b4 b5 lb
          clear c4 lc
          rw [T4.out]
          have b6 : V47.cell? ⟨pq2, 6, none⟩ = some (.int .i64 r.rate.lo) := q2.cell 6
          have b7 : V47.cell? ⟨pq2, 7, none⟩ = some (.int .i64 r.rate.hi) := q2.cell 7
          have lb := q2.lt
          have c5 : V47.cell? ⟨pq3, 5, none⟩ = some (.int .i64 x.rate) := q3.cell 5
          have lc := q3.lt
          go_wp2_with fail
          refine (sm_has _ _ _ _).mono ?_
          rintro e V48 ⟨rfl, hV48⟩
          replace q1 := q1.below hV48 q1.lt
          replace q2 := q2.below hV48 q2.lt
          replace q3 := q3.below hV48 q3.lt
          replace hg := hg.go hV48
          have B_V48 := ex_trans B_V47 hV48
          clear c5 lc
          clear b6 b7 lb
          rw [T5.out]
          have b2 : V48.cell? ⟨pq2, 2, none⟩ = some (.int .i64 r.err) := q2.cell 2
          have lb := q2.lt
          have c6 : V48.cell? ⟨pq3, 6, none⟩ = some (.int .i64 x.off) := q3.cell 6
          have lc := q3.lt
          go_wp2_with fail
          refine (sm_within _ _ _ _).mono ?_
          rintro e w' ⟨rfl, rfl⟩
          clear b2 lb
          clear c6 lc
          rw [T6.out]
          have c0 : V48.cell? ⟨pq3, 0, none⟩ = some (.int .i64 x.zero) := q3.cell 0
          have lc := q3.lt
          go_wp2_with fail
          refine (sm_within _ _ _ _).mono ?_
          rintro e w' ⟨rfl, rfl⟩
          clear c0 lc
          rw [T7.out]
          have ht := ck_bd HC.out
          have hx := txOk_iff.1 (by have h := HT.out; rw [Bool.and_eq_true] at h; exact h.2)
          have hq := hx.ki.bd ht
          have ha : -100 ≤ x.air ∧ x.air ≤ 100 := by have := hx.air; have := HRD.out.air; omega
          have hra : -20 ≤ x.rate ∧ x.rate ≤ 20 := by have := hx.rate; have := HRD.out.rate; omega
          have ho : -20 ≤ x.off ∧ x.off ≤ 20 := by have := hx.off; have := HRD.out.err; omega
          have hwb := woP_bd hq HRD.out ha hra ho
          have hz := hx.zero
          clear ht hx
          have c0 : V48.cell? ⟨pq3, 0, none⟩ = some (.int .i64 x.zero) := q3.cell 0
          have c1 : V48.cell? ⟨pq3, 1, none⟩ = some (.int .i64 x.k) := q3.cell 1
          have c2 : V48.cell? ⟨pq3, 2, none⟩ = some (.int .i64 x.lag) := q3.cell 2
          have c3 : V48.cell? ⟨pq3, 3, none⟩ = some (.int .i64 x.sq) := q3.cell 3
          have c4 : V48.cell? ⟨pq3, 4, none⟩ = some (.int .i64 x.air) := q3.cell 4
          have c5 : V48.cell? ⟨pq3, 5, none⟩ = some (.int .i64 x.rate) := q3.cell 5
          have c6 : V48.cell? ⟨pq3, 6, none⟩ = some (.int .i64 x.off) := q3.cell 6
          have lc := q3.lt
          go_wp2_with fail
          refine wp_region_ext (by kernel_rfl) (by kernel_rfl) ?_
          refine wpQuiet_load_row rfl 45 _ rfl _ rfl 45 _ (0, 0) _ q1.ex Tryz.underlying45 rfl (by kernel_rfl) ?_
          simp only [Act.put, List.setIfInBounds_toArray, List.set_cons_zero, List.set_cons_succ]
          refine wpQuiet_load_row rfl 52 _ rfl _ rfl 52 _ (0, 0) _ q2.ex Tryz.underlying52 rfl (by kernel_rfl) ?_
          simp only [Act.put, List.setIfInBounds_toArray, List.set_cons_zero, List.set_cons_succ]
          repeat (go_big_quiet_step ((go_at_call 88; exact Calls.ext_of (without_any t Ab Ad cb cd r x.ki _ _ _ _ HRD.out hq ha hra ho))))
          refine wpQuiet_nil ?_; intro _ hw'; obtain ⟨X, rfl⟩ := hw'
          go_wp2
          go_ret2
          rw [HR.out.1, HR.out.2]
          exact ⟨rfl, ex_trans B_V48 X.h⟩
 ·
  have HR := Lib.hid (play_ck (r := r) (x := x) hc)
  have e1 : (ckTube t != 0) = true := by simp [hc]
  clear hc
  go_enter Tryz.func39, Tryz.ntmps39
  go_upto_region 1 with fail
  show Code.wp _ _ _ _ _
  refine box3 (K := fun V => Code.wp _ _ _ _ V) ?_
  intro V hb1 q1 q2 q3
  replace hg := hg.go hb1
  obtain ⟨pq1, hpq1⟩ : ∃ p, w.heap.size = p := ⟨_, rfl⟩
  obtain ⟨pq2, hpq2⟩ : ∃ p, w.heap.size + 1 = p := ⟨_, rfl⟩
  obtain ⟨pq3, hpq3⟩ : ∃ p, w.heap.size + 1 + 1 = p := ⟨_, rfl⟩
  rw [hpq3] at q3 ⊢
  rw [hpq2] at q2 ⊢
  rw [hpq1] at q1 ⊢
  have hp1 : w.heap.size ≤ pq1 := by omega
  have hp2 : w.heap.size ≤ pq2 := by omega
  have hp3 : w.heap.size ≤ pq3 := by omega
  clear hpq1 hpq2 hpq3
  go_wp2_with (refine pause_at 9 rfl ?_)
  refine Paused.mk ?_
  refine wpList_load_row rfl 45 _ rfl _ rfl 45 _ (0, 0) _ (q1) Tryz.underlying45 rfl (by kernel_rfl) ?_
  go_wp2_with fail
  refine (CheckTube_any t Ab Ad cb cd _ hg).mono ?_
  rintro e V49 ⟨rfl, hV49⟩
  replace q1 := q1.below hV49 q1.lt
  replace q2 := q2.below hV49 q2.lt
  replace q3 := q3.below hV49 q3.lt
  replace hg := hg.go hV49
  have B_V49 := ex_trans hb1 hV49
  go_wp2
  go_ret2
  rw [HR.out.1, HR.out.2]
  exact ⟨rfl, B_V49⟩

end Go.Proofs.YtkaogjhnogkcdaaGreat
end

section
namespace Go.Proofs.YtkaogjhnogkcdaaGreat
open Go.RowKit
attribute [local go_sem] Ex.cell? Ex.frozen?

end Go.Proofs.YtkaogjhnogkcdaaGreat
end

section
namespace Go.Proofs.YtkaogjhnogkcdaaGreat

noncomputable def leadsB (blo bhi : Int) (D : List Int) (f t : Int) : Bool := @decide (∃ b, (blo ≤ b ∧ b ≤ bhi) ∧ ∃ k, k < D.length ∧ mx3 (f - b) 0 (gI D k) = t) (Classical.propDecidable _)
theorem leadsB_iff {blo bhi : Int} {D : List Int} {f t : Int} : leadsB blo bhi D f t = true ↔ ∃ b, (blo ≤ b ∧ b ≤ bhi) ∧ ∃ k, k < D.length ∧ mx3 (f - b) 0 (gI D k) = t := by
  unfold leadsB; letI := Classical.propDecidable (∃ b, (blo ≤ b ∧ b ≤ bhi) ∧ ∃ k, k < D.length ∧ mx3 (f - b) 0 (gI D k) = t)
  rw [decide_eq_true_iff]

section
variable (g : Gl) (h : List Rg) (l : List Ic) (o : Nat → Bool) (D : List Int) (M : Nat → Nat → Nat → Bool)
def Gone (G : Nat → Nat → Nat → Bool) (e : Nat) : Prop := ∀ e' r s : Nat, e ≤ e' → e' ≤ h.length → r < 52 → s < 31 → (G e' r s = true ↔ Goes g h l o (h.length - e') e' ((r : Int), (s : Int)))
def Void (G : Nat → Nat → Nat → Bool) (e : Nat) : Prop := ∀ e' r s : Nat, e' < e → G e' r s = false
def Lead (G : Nat → Nat → Nat → Bool) (e r s : Nat) (c : Int) (f : Nat) : Prop := M e ((r : Int) - c).toNat f = true → leadsB g.blo g.bhi D (f : Int) (s : Int) = true → G e ((r : Int) - c).toNat f = true
structure QQ (e n m : Nat) (c : Int) (f : Nat) (G : Nat → Nat → Nat → Bool) : Prop where
  known : Gone g h l o G (e + 1)
  blank : Void G e
  sound : ∀ r s : Nat, G e r s = true → Goes g h l o (h.length - e) e ((r : Int), (s : Int))
  p2 : ∀ r s : Nat, r < n → s < 31 → G (e + 1) r s = true → ∀ c : Int, (creep g e).lo ≤ c → c ≤ (creep g e).hi → c ≤ r → ∀ f, f < 31 → Lead g D M G e r s c f
  p3 : ∀ s : Nat, s < m → G (e + 1) n s = true → ∀ c : Int, (creep g e).lo ≤ c → c ≤ (creep g e).hi → c ≤ n → ∀ f, f < 31 → Lead g D M G e n s c f
  p4 : ∀ c' : Int, (creep g e).lo ≤ c' → c' < c → ∀ f, f < 31 → Lead g D M G e n m c' f
  p5 : ∀ f', f' < f → Lead g D M G e n m c f'
end
section
variable {g : Gl} {h : List Rg} {l : List Ic} {o : Nat → Bool} {D : List Int} {M : Nat → Nat → Nat → Bool} {e n m f : Nat} {c : Int} {G : Nat → Nat → Nat → Bool}
theorem Lead.mono {r s : Nat} {G' : Nat → Nat → Nat → Bool} (h : Lead g D M G e r s c f) (hm : ∀ x y, G e x y = true → G' e x y = true) : Lead g D M G' e r s c f := fun h1 h2 => hm _ _ (h h1 h2)
theorem QQ.no (p : QQ g h l o D M e n m c f G) (hf : ¬ (M e ((n : Int) - c).toNat f = true ∧ leadsB g.blo g.bhi D (f : Int) (m : Int) = true)) : QQ g h l o D M e n m c (f + 1) G :=
  ⟨p.known, p.blank, p.sound, p.p2, p.p3, p.p4, fun f' hf' => by
    rcases Nat.lt_succ_iff_lt_or_eq.1 hf' with h1 | h1
    · exact p.p5 f' h1
    · subst h1; intro a b; exact absurd ⟨a, b⟩ hf⟩
theorem QQ.creep (p : QQ g h l o D M e n m c 31 G) : QQ g h l o D M e n m (c + 1) 0 G :=
  ⟨p.known, p.blank, p.sound, p.p2, p.p3, fun c' h1 h2 f hf => by
    rcases Int.lt_or_eq_of_le (show c' ≤ c by omega) with h5 | h5
    · exact p.p4 c' h1 h5 f hf
    · subst h5; exact p.p5 f hf, fun f hf => by omega⟩
theorem QQ.sink (p : QQ g h l o D M e n m c 0 G) (hc : (Go.Proofs.YtkaogjhnogkcdaaGreat.creep g e).hi < c ∨ (n : Int) < c ∨ G (e + 1) n m = false) : QQ g h l o D M e n (m + 1) (Go.Proofs.YtkaogjhnogkcdaaGreat.creep g e).lo 0 G :=
  ⟨p.known, p.blank, p.sound, p.p2, fun s hs hM c' h1 h2 h3 f hf => by
    rcases Nat.lt_succ_iff_lt_or_eq.1 hs with h5 | h5
    · exact p.p3 s h5 hM c' h1 h2 h3 f hf
    · subst h5
      rcases hc with hc | hc | hc
      · exact p.p4 c' h1 (by omega) f hf
      · exact p.p4 c' h1 (by omega) f hf
      · rw [hc] at hM; exact absurd hM (by simp), fun c' h1 h2 => by omega, fun f hf => by omega⟩
theorem QQ.rise (p : QQ g h l o D M e n 31 c f G) : QQ g h l o D M e (n + 1) 0 (Go.Proofs.YtkaogjhnogkcdaaGreat.creep g e).lo 0 G :=
  ⟨p.known, p.blank, p.sound, fun r s hr hs hM => by
    rcases Nat.lt_succ_iff_lt_or_eq.1 hr with h5 | h5
    · exact p.p2 r s h5 hs hM
    · subst h5; exact p.p3 s hs hM, fun s hs => by omega, fun c' h1 h2 => by omega, fun f hf => by omega⟩
theorem goes_bd (hok : Ok g h) {k d : Nat} (hd : d + k ≤ h.length) {t : St} (ht : Goes g h l o k d t) : (0 ≤ t.1 ∧ t.1 ≤ 3 * d) ∧ (0 ≤ t.2 ∧ t.2 ≤ 30) := by
  obtain ⟨σ, p, _, e1⟩ := (can_iff hok (by omega)).1 (goes_can ht)
  have hb := path_bd hok p (d := d) (Nat.le_refl _)
  rw [e1] at hb
  exact hb
theorem QQ.day (hok : Ok g h) (he : e < h.length) (hD : ∀ y : Int, (∃ k, k < D.length ∧ gI D k = y) ↔ ∃ x, ((gR h e).lo ≤ x ∧ x ≤ (gR h e).hi) ∧ y = sinks g x) (hM : Known g h l o M h.length) (p : QQ g h l o D M e 52 0 c f G) : Gone g h l o G e ∧ Void G e := by
  have hnh := hok.nh
  refine ⟨fun e' r s h1 h2 hr hs => ?_, p.blank⟩
  rcases Nat.eq_or_lt_of_le h1 with rfl | hlt
  rotate_left
  · exact p.known e' r s (by omega) h2 hr hs
  refine ⟨p.sound r s, fun hg => ?_⟩
  have e1 : h.length - e = h.length - (e + 1) + 1 := by omega
  rw [e1] at hg
  obtain ⟨h3, ⟨a1, a2⟩, h4, h5⟩ := hg
  have hb := goes_bd hok (by omega) h5
  simp only at hb
  obtain ⟨y, b, c', hy, hb', hc', ht⟩ := (mem_nextL hok he).1 h4
  simp only [Prod.mk.injEq] at ht
  obtain ⟨t1, t2⟩ := ht
  have hcr := hok.creep e
  obtain ⟨k, hk1, hk2⟩ := (hD _).2 ⟨y, hy, rfl⟩
  have hG : G (e + 1) a1.toNat a2.toNat = true := (p.known (e + 1) a1.toNat a2.toNat (Nat.le_refl _) (by omega) (by omega) (by omega)).2 (by rw [Int.toNat_of_nonneg (by omega), Int.toNat_of_nonneg (by omega)]; exact h5)
  have hl := p.p2 a1.toNat a2.toNat (by omega) (by omega) hG c' hc'.1 hc'.2 (by omega) s hs
  unfold Lead at hl
  have e2 : (((a1.toNat : Nat) : Int) - c').toNat = r := by omega
  rw [e2] at hl
  refine hl ((hM e r s (by omega) hr hs).2 h3) (leadsB_iff.2 ⟨b, hb', k, hk1, ?_⟩)
  rw [hk2, Int.toNat_of_nonneg (by omega), t2]
end

def Seen (S : Nat → Nat → Bool) (n m r s : Nat) : Prop := ((r < n ∧ s < 31) ∨ (r = n ∧ s < m)) ∧ S r s = true
def ZR (g : Gl) (S : Nat → Nat → Bool) (n m : Nat) (is : Bool) (lo hi : Int) : Prop :=
  ((∀ r s, ¬ Seen S n m r s) ∧ lo = 5000 ∧ hi = -5000) ∨ (is = true ∧ EndsOf (fun z => ∃ r s : Nat, Seen S n m r s ∧ z = g.base + (r : Int) - (s : Int)) lo hi)
section
variable {g : Gl} {S : Nat → Nat → Bool} {n m : Nat} {is : Bool} {lo hi : Int}
theorem ZR.of {n' m' : Nat} (h : ∀ r s, Seen S n m r s ↔ Seen S n' m' r s) (p : ZR g S n m is lo hi) : ZR g S n' m' is lo hi := by
  rcases p with ⟨h1, h2⟩ | ⟨h1, h2, h3, h4⟩
  · exact .inl ⟨fun r s k => h1 r s ((h r s).2 k), h2⟩
  · refine .inr ⟨h1, ?_, ?_, fun z hz => h4 z ?_⟩
    · obtain ⟨r, s, k, e⟩ := h2; exact ⟨r, s, (h r s).1 k, e⟩
    · obtain ⟨r, s, k, e⟩ := h3; exact ⟨r, s, (h r s).1 k, e⟩
    · obtain ⟨r, s, k, e⟩ := hz; exact ⟨r, s, (h r s).2 k, e⟩
theorem ZR.skip (p : ZR g S n m is lo hi) (h : S n m = false) : ZR g S n (m + 1) is lo hi := p.of (fun r s => by
  unfold Seen
  constructor
  · rintro ⟨h1 | h1, h2⟩
    · exact ⟨.inl h1, h2⟩
    · exact ⟨.inr ⟨h1.1, by omega⟩, h2⟩
  · rintro ⟨h1 | h1, h2⟩
    · exact ⟨.inl h1, h2⟩
    · refine ⟨.inr ⟨h1.1, ?_⟩, h2⟩
      rcases Nat.lt_succ_iff_lt_or_eq.1 h1.2 with h3 | h3
      · exact h3
      · rw [h1.1, h3, h] at h2; cases h2)
theorem ZR.rise (p : ZR g S n 31 is lo hi) : ZR g S (n + 1) 0 is lo hi := p.of (fun r s => by
  unfold Seen
  refine and_congr_left fun _ => ?_
  omega)
theorem ZR.add (p : ZR g S n m is lo hi) (h : S n m = true) (hz : -5000 ≤ g.base + (n : Int) - (m : Int) ∧ g.base + (n : Int) - (m : Int) ≤ 5000) : ZR g S n (m + 1) true (min lo (g.base + (n : Int) - (m : Int))) (max hi (g.base + (n : Int) - (m : Int))) := by
  have hs : Seen S n (m + 1) n m := ⟨.inr ⟨rfl, by omega⟩, h⟩
  have hm : ∀ r s, Seen S n m r s → Seen S n (m + 1) r s := fun r s k => ⟨k.1.imp id (fun k => ⟨k.1, by omega⟩), k.2⟩
  have hi' : ∀ r s, Seen S n (m + 1) r s → Seen S n m r s ∨ (r = n ∧ s = m) := fun r s k => by
    rcases k.1 with h1 | h1
    · exact .inl ⟨.inl h1, k.2⟩
    · rcases Nat.lt_succ_iff_lt_or_eq.1 h1.2 with h3 | h3
      · exact .inl ⟨.inr ⟨h1.1, h3⟩, k.2⟩
      · exact .inr ⟨h1.1, h3⟩
  rcases p with ⟨h1, rfl, rfl⟩ | ⟨_, h2, h3, h4⟩
  · rw [Int.min_eq_right hz.2, Int.max_eq_right hz.1]
    refine .inr ⟨rfl, ⟨n, m, hs, rfl⟩, ⟨n, m, hs, rfl⟩, ?_⟩
    rintro z ⟨r, s, k, rfl⟩
    rcases hi' r s k with k | ⟨rfl, rfl⟩
    · exact absurd k (h1 r s)
    · omega
  · refine .inr ⟨rfl, ?_, ?_, ?_⟩
    · rcases Int.le_total lo (g.base + (n : Int) - (m : Int)) with h5 | h5
      · rw [Int.min_eq_left h5]; obtain ⟨r, s, k, e⟩ := h2; exact ⟨r, s, hm r s k, e⟩
      · rw [Int.min_eq_right h5]; exact ⟨n, m, hs, rfl⟩
    · rcases Int.le_total hi (g.base + (n : Int) - (m : Int)) with h5 | h5
      · rw [Int.max_eq_right h5]; exact ⟨n, m, hs, rfl⟩
      · rw [Int.max_eq_left h5]; obtain ⟨r, s, k, e⟩ := h3; exact ⟨r, s, hm r s k, e⟩
    · rintro z ⟨r, s, k, rfl⟩
      rcases hi' r s k with k | ⟨rfl, rfl⟩
      · have := h4 _ ⟨r, s, k, rfl⟩; omega
      · omega
end
theorem ZR.day {g : Gl} {h : List Rg} {l : List Ic} {o : Nat → Bool} (hok : Ok g h) {G : Nat → Nat → Nat → Bool} {e : Nat} (he : e < h.length) (hk : Gone g h l o G (e + 1)) {is : Bool} {lo hi : Int} (p : ZR g (G (e + 1)) 52 0 is lo hi) (ha : agreeB g h l o = true) :
    is = true ∧ EndsOf (fun z => ∃ s, Goes g h l o (h.length - 1 - e) (e + 1) s ∧ z = zero g s) lo hi := by
  have hnh := hok.nh
  have e1 : h.length - 1 - e = h.length - (e + 1) := by omega
  have hs : ∀ t : St, Goes g h l o (h.length - 1 - e) (e + 1) t ↔ ∃ r s : Nat, Seen (G (e + 1)) 52 0 r s ∧ t = ((r : Int), (s : Int)) := fun t => by
    rw [e1]
    constructor
    · intro hg
      have hb := goes_bd hok (by omega) hg
      obtain ⟨a, b⟩ := t
      simp only at hb
      refine ⟨a.toNat, b.toNat, ⟨.inl ⟨by omega, by omega⟩, (hk (e + 1) _ _ (Nat.le_refl _) (by omega) (by omega) (by omega)).2 ?_⟩, ?_⟩
      · rw [Int.toNat_of_nonneg (by omega), Int.toNat_of_nonneg (by omega)]; exact hg
      · rw [Int.toNat_of_nonneg (by omega), Int.toNat_of_nonneg (by omega)]
    · rintro ⟨r, s, h1, rfl⟩
      have : r < 52 ∧ s < 31 := by rcases h1.1 with h2 | h2 <;> omega
      exact (hk (e + 1) r s (Nat.le_refl _) (by omega) this.1 this.2).1 h1.2
  have hf : (fun z => ∃ s, Goes g h l o (h.length - 1 - e) (e + 1) s ∧ z = zero g s) = (fun z => ∃ r s : Nat, Seen (G (e + 1)) 52 0 r s ∧ z = g.base + (r : Int) - (s : Int)) := funext fun z => propext <| by
    constructor
    · rintro ⟨t, h1, rfl⟩
      obtain ⟨r, s, h2, rfl⟩ := (hs t).1 h1
      exact ⟨r, s, h2, rfl⟩
    · rintro ⟨r, s, h2, rfl⟩
      exact ⟨((r : Int), (s : Int)), (hs _).2 ⟨r, s, h2, rfl⟩, rfl⟩
  rw [hf]
  rcases p with ⟨h1, _⟩ | ⟨h1, h2⟩
  · obtain ⟨σ, p, f⟩ := (agree_iff hok).1 ha
    obtain ⟨r, s, h2, _⟩ := (hs (σ (e + 1))).1 ((goes_iff hok (by omega)).2 ⟨σ, by rw [show e + 1 + (h.length - 1 - e) = h.length by omega]; exact ⟨p, f, rfl⟩⟩)
    exact absurd h2 (h1 r s)
  · exact ⟨h1, h2⟩
end Go.Proofs.YtkaogjhnogkcdaaGreat
end

section
namespace Go.Proofs.YtkaogjhnogkcdaaGreat
open Go.RowKit
attribute [local go_sem] Ex.cell? Ex.frozen?

end Go.Proofs.YtkaogjhnogkcdaaGreat
end

section
namespace Go.Proofs.YtkaogjhnogkcdaaGreat
open Go.RowKit
attribute [local go_sem] Ex.cell? Ex.frozen?

def updv (M : Nat → Nat → Nat → Bool) (d r s : Nat) (b : Bool) : Nat → Nat → Nat → Bool := fun d' r' s' => if d' = d ∧ r' = r ∧ s' = s then b else M d' r' s'
theorem MapAt.zero (W : World) : MapAt (W.alloc (.cells Tryz.zeroCells128 128)) W.heap.size (fun _ _ _ => false) := by
 obtain ⟨h1, h2⟩ := chkF_iff zc_ok
 have h1' : Tryz.zeroCells128.size = 27404 := by rw [← Array.length_toList]; exact h1
 generalize Tryz.zeroCells128 = zc at *
 refine ⟨_, Blk.new _ _ _, h1', fun d r s hd hr hs => ?_⟩
 have hk : d * 1612 + r * 31 + s < zc.size := by omega
 rw [Array.getElem?_eq_getElem hk, h2 zc[d * 1612 + r * 31 + s] (by simp)]
theorem MapAt.fr {R : Nat → Prop} {W W' : World} {q : Nat} {M : Nat → Nat → Nat → Bool} (h : MapAt W q M) (hf : Fr R W W') (hn : ¬ R q) : MapAt W' q M := by
 obtain ⟨cs, h1, h2⟩ := h
 exact ⟨cs, h1.fr hf hn, h2⟩

def ZBl (W : World) (z n d : Nat) (zf : Nat → Rg) : Prop := ∃ oc, Blk W z 25 oc ∧ oc.size = n * 2 ∧ ∀ i, d ≤ i → i < n → oc[i * 2]? = some (.int .i64 (zf i).lo) ∧ oc[i * 2 + 1]? = some (.int .i64 (zf i).hi)
def updz (zf : Nat → Rg) (i : Nat) (r : Rg) : Nat → Rg := fun j => if j = i then r else zf j
theorem ZBl.lt {W : World} {z n d : Nat} {zf : Nat → Rg} (h : ZBl W z n d zf) : z < W.heap.size := by obtain ⟨_, h1, _⟩ := h; exact h1.lt
theorem ZBl.below {W W' : World} {z n d : Nat} {zf : Nat → Rg} (h : ZBl W z n d zf) (hb : Below W.heap.size W W') : ZBl W' z n d zf := by obtain ⟨oc, h1, h2⟩ := h; exact ⟨oc, h1.below hb h1.lt, h2⟩
theorem ZBl.fr {R : Nat → Prop} {W W' : World} {z n d : Nat} {zf : Nat → Rg} (h : ZBl W z n d zf) (hf : Fr R W W') (hn : ¬ R z) : ZBl W' z n d zf := by obtain ⟨oc, h1, h2⟩ := h; exact ⟨oc, h1.fr hf hn, h2⟩
theorem ZBl.frozen {W : World} {z n d : Nat} {zf : Nat → Rg} (h : ZBl W z n d zf) (i : Nat) : W.frozen? ⟨z, i, none⟩ = false := by obtain ⟨_, h1, _⟩ := h; exact h1.frozen i
theorem ZBl.cell {W : World} {z n d : Nat} {zf : Nat → Rg} (h : ZBl W z n d zf) {i : Nat} (h1 : d ≤ i) (h2 : i < n) : W.cell? ⟨z, i * 2, none⟩ = some (.int .i64 (zf i).lo) ∧ W.cell? ⟨z, i * 2 + 1, none⟩ = some (.int .i64 (zf i).hi) := by
 obtain ⟨oc, hb, _, hc⟩ := h
 rw [hb.cell, hb.cell]
 exact hc i h1 h2
theorem ZBl.set {W : World} {z n d : Nat} {zf : Nat → Rg} (h : ZBl W z n d zf) {i : Nat} (hi : i < n) (hd : d ≤ i + 1) (a b : Int) : ZBl ((W.setCell ⟨z, i * 2, none⟩ (.int .i64 a)).setCell ⟨z, i * 2 + 1, none⟩ (.int .i64 b)) z n (min d i) (updz zf i ⟨a, b⟩) := by
 obtain ⟨oc, h1, h2, h3⟩ := h
 refine ⟨_, (h1.set_ (i * 2) (.int .i64 a)).set_ (i * 2 + 1) (.int .i64 b), by simpa using h2, fun j hj hjn => ?_⟩
 simp only [Array.getElem?_setIfInBounds, Array.size_setIfInBounds]
 unfold updz
 by_cases hij : j = i
 ·
  subst hij
  rw [if_pos rfl, if_neg (by omega), if_pos rfl, if_pos (by omega), if_pos rfl, if_pos (by omega)]
  exact ⟨rfl, rfl⟩
 ·
  rw [if_neg hij, if_neg (by omega), if_neg (by omega), if_neg (by omega), if_neg (by omega)]
  exact h3 j (by omega) hjn
structure ZSt (gc : Array Value) (w : World) (q z gb n d : Nat) (M G : Nat → Nat → Nat → Bool) (zf : Nat → Rg) (W : World) : Prop where
 bw : Below w.heap.size w W
 qg : Blk W w.heap.size 27 gc
 mp : MapAt W q M
 gp : MapAt W gb G
 zp : ZBl W z n d zf
 o2 : q < z
 o3 : z < gb
 o1 : w.heap.size < z
section
variable {gc : Array Value} {w : World} {q z gb n d : Nat} {M G : Nat → Nat → Nat → Bool} {zf : Nat → Rg} {W W' : World}
theorem ZSt.below (h : ZSt gc w q z gb n d M G zf W) (hb : Below W.heap.size W W') : ZSt gc w q z gb n d M G zf W' := ⟨ex_trans h.bw hb, h.qg.below hb h.qg.lt, h.mp.below hb, h.gp.below hb, h.zp.below hb, h.o2, h.o3, h.o1⟩
end
def Copied (n : Nat) (M G : Nat → Nat → Nat → Bool) (r s : Nat) : Prop := (∀ e r' s', e ≠ n → G e r' s' = false) ∧ ∀ r' s', r' < r ∨ (r' = r ∧ s' < s) → s' < 31 → G n r' s' = M n r' s'
def bN (n : Nat) : Bool := n != 0
def DZ (g : Gl) (h : List Rg) (l : List Ic) (o : Nat → Bool) (d : Nat) (zf : Nat → Rg) (is : Bool) : Prop :=
 (is = true → agreeB g h l o = true) ∧ (agreeB g h l o = true → (d < h.length → is = true) ∧ ∀ i, d ≤ i → i < h.length → EndsOf (fun z => ∃ s, Goes g h l o (h.length - 1 - i) (i + 1) s ∧ z = zero g s) (zf i).lo (zf i).hi)

structure ZD (gc : Array Value) (w : World) (q z gb n d : Nat) (M G : Nat → Nat → Nat → Bool) (zf : Nat → Rg) (pc : Nat) (cl chi : Int) (v : Value) (D : List Int) (W : World) : Prop where
 zs : ZSt gc w q z gb n d M G zf W
 qc : Blk W pc 25 #[.int .i64 cl, .int .i64 chi]
 ow : W.ownsRow (gb + 1) 3 1 v D.length (D.map (Value.int .i64))
 op : gb < pc
section
variable {gc : Array Value} {w : World} {q z gb n d : Nat} {M G : Nat → Nat → Nat → Bool} {zf : Nat → Rg} {pc : Nat} {cl chi : Int} {v : Value} {D : List Int} {W W' : World}
theorem MapAt.blk {W : World} {q : Nat} {M : Nat → Nat → Nat → Bool} (h : MapAt W q M) : ∃ cs, Blk W q 128 cs := by obtain ⟨cs, h1, _⟩ := h; exact ⟨cs, h1⟩
theorem ZBl.blk {W : World} {z n d : Nat} {zf : Nat → Rg} (h : ZBl W z n d zf) : ∃ cs, Blk W z 25 cs := by obtain ⟨cs, h1, _⟩ := h; exact ⟨cs, h1⟩
theorem ZD.below (h : ZD gc w q z gb n d M G zf pc cl chi v D W) (hb : Below W.heap.size W W') : ZD gc w q z gb n d M G zf pc cl chi v D W' := ⟨h.zs.below hb, h.qc.below hb h.qc.lt, own_below h.ow hb, h.op⟩
end
set_option maxRecDepth 100000 in
def DQz (g : Gl) (Ab Ad Ah Ai Ao : Option Addr) (cb cd ch ci co : Nat) (h : List Rg) (l : List Ic) (out : List Int) (w : World) (q z gb d0 e : Nat) (M G : Nat → Nat → Nat → Bool) (zf : Nat → Rg) (is : Nat) (ex : Exit) (a' : Act) (W' : World) : Prop :=
 ex = .normal ∧ ∃ pc Ad' cd' D, ZD #[.int .i64 g.base, .slice Ab g.bands.length cb, .slice Ad g.depths.length cd, .int .i64 g.blo, .int .i64 g.bhi] w q z gb h.length d0 M G zf pc (creepTo g.bands (e : Int) g.bands.length).lo (creepTo g.bands (e : Int) g.bands.length).hi (.slice Ad' (D : List Int).length cd') D W' ∧ Hid (DeepIs g (gR h e).lo ((gR h e).hi - (gR h e).lo + 1).toNat D) ∧ ∃ u : Nat → Value, a' = ⟨List.toArray (u 0 :: .slice Ah h.length ch :: .slice Ai l.length ci :: .slice Ao out.length co :: .pointer (some ⟨w.heap.size, 0, none⟩) :: u 5 :: u 6 :: u 7 :: u 8 :: u 9 :: .pointer (some ⟨q, 0, none⟩) :: .int .i64 (h.length : Int) :: .slice (some ⟨z, 0, none⟩) h.length h.length :: .pointer (some ⟨gb, 0, none⟩) :: u 14 :: u 15 :: .bool (bN is) :: .int .i64 ((e : Int) + 1) :: .pointer (some ⟨pc, 0, none⟩) :: .slice Ad' D.length cd' :: u 20 :: u 21 :: u 22 :: u 23 :: u 24 :: u 25 :: u 26 :: u 27 :: u 28 :: u 29 :: u 30 :: u 31 :: u 32 :: u 33 :: u 34 :: u 35 :: u 36 :: u 37 :: u 38 :: u 39 :: u 40 :: u 41 :: u 42 :: u 43 :: u 44 :: u 45 :: u 46 :: u 47 :: u 48 :: u 49 :: u 50 :: u 51 :: u 52 :: u 53 :: u 54 :: u 55 :: u 56 :: u 57 :: u 58 :: u 59 :: u 60 :: u 61 :: u 62 :: u 63 :: u 64 :: u 65 :: u 66 :: u 67 :: u 68 :: u 69 :: u 70 :: u 71 :: u 72 :: u 73 :: u 74 :: u 75 :: u 76 :: u 77 :: u 78 :: u 79 :: u 80 :: u 81 :: u 82 :: u 83 :: u 84 :: u 85 :: u 86 :: u 87 :: u 88 :: u 89 :: u 90 :: u 91 :: u 92 :: u 93 :: u 94 :: u 95 :: u 96 :: u 97 :: u 98 :: u 99 :: u 100 :: u 101 :: u 102 :: u 103 :: u 104 :: u 105 :: u 106 :: u 107 :: u 108 :: u 109 :: u 110 :: u 111 :: u 112 :: u 113 :: u 114 :: u 115 :: u 116 :: u 117 :: u 118 :: u 119 :: u 120 :: u 121 :: u 122 :: u 123 :: u 124 :: u 125 :: u 126 :: u 127 :: u 128 :: u 129 :: u 130 :: u 131 :: u 132 :: u 133 :: u 134 :: u 135 :: u 136 :: u 137 :: u 138 :: u 139 :: u 140 :: u 141 :: u 142 :: u 143 :: u 144 :: u 145 :: u 146 :: u 147 :: u 148 :: u 149 :: u 150 :: u 151 :: u 152 :: u 153 :: u 154 :: u 155 :: u 156 :: u 157 :: u 158 :: u 159 :: u 160 :: u 161 :: u 162 :: u 163 :: u 164 :: u 165 :: u 166 :: u 167 :: u 168 :: []), []⟩

def ZrV (g : Gl) (h : List Rg) (l : List Ic) (o : Nat → Bool) (zs : List Rg) (is : Bool) : Prop :=
 is = agreeB g h l o ∧ zs.length = h.length ∧ (agreeB g h l o = true → ∀ i, i < h.length → EndsOf (fun z => ∃ s, Goes g h l o (h.length - 1 - i) (i + 1) s ∧ z = zero g s) (gR zs i).lo (gR zs i).hi)
theorem ZBl.list {W : World} {z n : Nat} {zf : Nat → Rg} (h : ZBl W z n 0 zf) : (((List.range n).map zf).length = n ∧ ∀ i, i < n → gR ((List.range n).map zf) i = zf i) ∧ SlAt W W.heap.size 2 (some ⟨z, 0, none⟩) n (fR ((List.range n).map zf)) := by
 have e : ∀ i, i < n → gR ((List.range n).map zf) i = zf i := fun i hi => by simp [gR, hi]
 refine ⟨⟨by simp, e⟩, fun h0 => ⟨z, 0, rfl, h.lt, fun k j hk hj => ?_⟩⟩
 obtain ⟨c0, c1⟩ := h.cell (i := k) (by omega) hk
 match j, hj with
 | 0, _ => simp only [Nat.zero_add, Nat.add_zero, fR, e k hk]; exact c0
 | 1, _ => simp only [Nat.zero_add, fR, e k hk]; exact c1

set_option maxRecDepth 100000 in
def DQw (P : World → Prop) (x1 x2 x3 x4 x10 x11 x12 x13 x16 x17 x18 x19 x20 x21 x22 : Value) (ex : Exit) (a' : Act) (W' : World) : Prop :=
 ex = .normal ∧ P W' ∧ ∃ u : Nat → Value, a' = ⟨List.toArray (u 0 :: x1 :: x2 :: x3 :: x4 :: u 5 :: u 6 :: u 7 :: u 8 :: u 9 :: x10 :: x11 :: x12 :: x13 :: u 14 :: u 15 :: x16 :: x17 :: x18 :: x19 :: x20 :: x21 :: x22 :: u 23 :: u 24 :: u 25 :: u 26 :: u 27 :: u 28 :: u 29 :: u 30 :: u 31 :: u 32 :: u 33 :: u 34 :: u 35 :: u 36 :: u 37 :: u 38 :: u 39 :: u 40 :: u 41 :: u 42 :: u 43 :: u 44 :: u 45 :: u 46 :: u 47 :: u 48 :: u 49 :: u 50 :: u 51 :: u 52 :: u 53 :: u 54 :: u 55 :: u 56 :: u 57 :: u 58 :: u 59 :: u 60 :: u 61 :: u 62 :: u 63 :: u 64 :: u 65 :: u 66 :: u 67 :: u 68 :: u 69 :: u 70 :: u 71 :: u 72 :: u 73 :: u 74 :: u 75 :: u 76 :: u 77 :: u 78 :: u 79 :: u 80 :: u 81 :: u 82 :: u 83 :: u 84 :: u 85 :: u 86 :: u 87 :: u 88 :: u 89 :: u 90 :: u 91 :: u 92 :: u 93 :: u 94 :: u 95 :: u 96 :: u 97 :: u 98 :: u 99 :: u 100 :: u 101 :: u 102 :: u 103 :: u 104 :: u 105 :: u 106 :: u 107 :: u 108 :: u 109 :: u 110 :: u 111 :: u 112 :: u 113 :: u 114 :: u 115 :: u 116 :: u 117 :: u 118 :: u 119 :: u 120 :: u 121 :: u 122 :: u 123 :: u 124 :: u 125 :: u 126 :: u 127 :: u 128 :: u 129 :: u 130 :: u 131 :: u 132 :: u 133 :: u 134 :: u 135 :: u 136 :: u 137 :: u 138 :: u 139 :: u 140 :: u 141 :: u 142 :: u 143 :: u 144 :: u 145 :: u 146 :: u 147 :: u 148 :: u 149 :: u 150 :: u 151 :: u 152 :: u 153 :: u 154 :: u 155 :: u 156 :: u 157 :: u 158 :: u 159 :: u 160 :: u 161 :: u 162 :: u 163 :: u 164 :: u 165 :: u 166 :: u 167 :: u 168 :: []), []⟩

end Go.Proofs.YtkaogjhnogkcdaaGreat
end

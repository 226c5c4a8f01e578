/- The reference's Ahead (walk). · Stem: bounds (walk). -/
import Derived.Test.YtkaogjhnogkcdaaGreatH13
import Derived.Test.YtkaogjhnogkcdaaGreatH10
import Derived.Test.YtkaogjhnogkcdaaGreatH12
import Derived.Test.YtkaogjhnogkcdaaGreatH9
set_option linter.unusedVariables false
set_option linter.unusedSimpArgs false
set_option linter.unusedSectionVars false
section
namespace Go.Proofs.YtkaogjhnogkcdaaGreat
open Go.RowKit
attribute [local go_sem] Ex.cell? Ex.frozen?

structure Rel (p : Act → World → Prop) (a : Act) (W : World) : Prop where
 out : p a W
structure AS (gc : Array Value) (w : World) (M : Nat → Nat → Nat → Bool) (W : World) : Prop where
 bw : Below w.heap.size w W
 qg : Blk W w.heap.size 27 gc
 mp : MapAt W (w.heap.size + 1) M
theorem AS.below {gc : Array Value} {w : World} {M : Nat → Nat → Nat → Bool} {W W' : World} (h : AS gc w M W) (hb : Below W.heap.size W W') : AS gc w M W' := ⟨ex_trans h.bw hb, h.qg.below hb h.qg.lt, h.mp.below hb⟩
structure AD (gc : Array Value) (w : World) (M : Nat → Nat → Nat → Bool) (pc : Nat) (cl chi : Int) (v : Value) (D : List Int) (W : World) : Prop where
 ah : AS gc w M W
 qc : Blk W pc 25 #[.int .i64 cl, .int .i64 chi]
 ow : W.ownsRow (w.heap.size + 1 + 1) 3 1 v D.length (D.map (Value.int .i64))
section
variable {gc : Array Value} {w : World} {M : Nat → Nat → Nat → Bool} {pc : Nat} {cl chi : Int} {v : Value} {D : List Int} {W W' : World}
theorem AD.below (h : AD gc w M pc cl chi v D W) (hb : Below W.heap.size W W') : AD gc w M pc cl chi v D W' := ⟨h.ah.below hb, h.qc.below hb h.qc.lt, own_below h.ow hb⟩
theorem AD.set (h : AD gc w M pc cl chi v D W) {d r s : Nat} (hd : d < 17) (hr : r < 52) (hs : s < 31) : AD gc w (upd M d r s) pc cl chi v D (W.setCell ⟨w.heap.size + 1, d * 1612 + r * 31 + s, none⟩ (.bool true)) := by
 have hf : Fr (fun b => b = w.heap.size + 1) W (W.setCell ⟨w.heap.size + 1, d * 1612 + r * 31 + s, none⟩ (.bool true)) := (Fr.refl (fun b => b = w.heap.size + 1) W).andSet rfl
 obtain ⟨cs, hb, _⟩ := h.ah.mp
 exact ⟨⟨hf.toBelow h.ah.bw h.ah.bw.size (fun x hx => by omega), h.ah.qg.fr hf (by omega), h.ah.mp.set hd hr hs⟩, h.qc.fr hf (fun e => blk_ne h.qc hb (by decide) e), own_fr h.ow hf (fun b hb' e => own_blkne h.ow hb (by decide) (e ▸ hb'))⟩
end
set_option maxRecDepth 1000000 in
theorem zc_ok : chkF Tryz.zeroCells128.toList 27404 = true := by kernel_rfl
theorem MapAt.first (W : World) : MapAt (W.alloc (.cells (Tryz.zeroCells128.setIfInBounds 0 (.bool true)) 128)) W.heap.size (upd (fun _ _ _ => false) 0 0 0) := by
 obtain ⟨h1, h2⟩ := chkF_iff zc_ok
 have h1' : Tryz.zeroCells128.size = 27404 := by rw [← Array.length_toList]; exact h1
 generalize Tryz.zeroCells128 = zc at *
 refine ⟨_, Blk.new _ _ _, by simpa using h1', fun d r s hd hr hs => ?_⟩
 rw [Array.getElem?_setIfInBounds]
 by_cases he : d = 0 ∧ r = 0 ∧ s = 0
 ·
  obtain ⟨rfl, rfl, rfl⟩ := he
  rw [if_pos (by omega), if_pos (by omega), upd_self]
 ·
  rw [if_neg (by omega)]
  have hk : d * 1612 + r * 31 + s < zc.size := by omega
  have e := h2 zc[d * 1612 + r * 31 + s] (by simp)
  rw [Array.getElem?_eq_getElem hk, e]
  unfold upd
  rw [if_neg he]
theorem AD.fill {gc : Array Value} {w : World} {M : Nat → Nat → Nat → Bool} {pc : Nat} {cl chi : Int} {v : Value} {D : List Int} {W : World} {c0 c1 : Value} (ha : AS gc w M W) (hc : Blk W pc 25 #[c0, c1]) (ho : W.ownsRow (w.heap.size + 1 + 1) 3 1 v D.length (D.map (Value.int .i64))) (hp : w.heap.size < pc) :
  AD gc w M pc cl chi v D ((W.setCell ⟨pc, 0, none⟩ (.int .i64 cl)).setCell ⟨pc, 1, none⟩ (.int .i64 chi)) := by
 have hf : Fr (fun b => b = pc) W ((W.setCell ⟨pc, 0, none⟩ (.int .i64 cl)).setCell ⟨pc, 1, none⟩ (.int .i64 chi)) := ((Fr.refl (fun b => b = pc) W).andSet rfl).andSet rfl
 obtain ⟨cs, hb, h2⟩ := ha.mp
 have hq := (hc.set_ 0 (.int .i64 cl)).set_ 1 (.int .i64 chi)
 simp only [List.setIfInBounds_toArray, List.set_cons_zero, List.set_cons_succ] at hq
 exact ⟨⟨hf.toBelow ha.bw ha.bw.size (fun x hx => by omega), ha.qg.fr hf (by omega), ⟨cs, hb.fr hf (fun e => blk_ne hb hc (by decide) e), h2⟩⟩, hq, own_fr ho hf (fun b hb' e => own_blkne ho hc (by decide) (e ▸ hb'))⟩
set_option maxRecDepth 100000 in
def DQ (g : Gl) (Ab Ad Ah Ai Ao : Option Addr) (cb cd ch ci co : Nat) (h : List Rg) (l : List Ic) (out : List Int) (w : World) (d : Nat) (M : Nat → Nat → Nat → Bool) (e : Exit) (a' : Act) (W' : World) : Prop :=
 e = .normal ∧ ∃ pc Ad' cd' D, AD #[.int .i64 g.base, .slice Ab g.bands.length cb, .slice Ad g.depths.length cd, .int .i64 g.blo, .int .i64 g.bhi] w M pc (creepTo g.bands (d : Int) g.bands.length).lo (creepTo g.bands (d : Int) g.bands.length).hi (.slice Ad' (D : List Int).length cd') D W' ∧ Hid (DeepIs g (gR h d).lo ((gR h d).hi - (gR h d).lo + 1).toNat D) ∧ ∃ u : Nat → Value, a' = ⟨List.toArray (u 0 :: .slice Ah h.length ch :: .slice Ai l.length ci :: .slice Ao out.length co :: .pointer (some ⟨w.heap.size, 0, none⟩) :: u 5 :: u 6 :: u 7 :: u 8 :: .pointer (some ⟨w.heap.size + 1, 0, none⟩) :: .int .i64 (d : Int) :: .pointer (some ⟨pc, 0, none⟩) :: .slice Ad' D.length cd' :: u 13 :: u 14 :: u 15 :: u 16 :: u 17 :: u 18 :: u 19 :: u 20 :: u 21 :: u 22 :: u 23 :: u 24 :: u 25 :: u 26 :: u 27 :: u 28 :: u 29 :: u 30 :: u 31 :: u 32 :: u 33 :: u 34 :: u 35 :: u 36 :: u 37 :: u 38 :: u 39 :: u 40 :: u 41 :: u 42 :: u 43 :: u 44 :: u 45 :: u 46 :: u 47 :: u 48 :: u 49 :: u 50 :: u 51 :: u 52 :: u 53 :: u 54 :: u 55 :: u 56 :: u 57 :: u 58 :: u 59 :: u 60 :: u 61 :: u 62 :: u 63 :: u 64 :: u 65 :: u 66 :: u 67 :: u 68 :: u 69 :: u 70 :: u 71 :: u 72 :: u 73 :: u 74 :: u 75 :: u 76 :: u 77 :: u 78 :: u 79 :: u 80 :: u 81 :: u 82 :: u 83 :: u 84 :: u 85 :: u 86 :: u 87 :: u 88 :: u 89 :: u 90 :: u 91 :: u 92 :: u 93 :: u 94 :: u 95 :: u 96 :: u 97 :: u 98 :: u 99 :: u 100 :: u 101 :: u 102 :: u 103 :: u 104 :: u 105 :: u 106 :: []), []⟩
theorem deep_at {g : Gl} {h : List Rg} {d : Nat} {D : List Int} (hr : (gR h d).lo ≤ (gR h d).hi) (hD : DeepIs g (gR h d).lo ((gR h d).hi - (gR h d).lo + 1).toNat D) : ∀ y : Int, (∃ k, k < D.length ∧ gI D k = y) ↔ ∃ x, ((gR h d).lo ≤ x ∧ x ≤ (gR h d).hi) ∧ y = sinks g x := fun y => by
 have e : (∃ k, k < D.length ∧ gI D k = y) ↔ y ∈ D := by
  constructor
  ·
   rintro ⟨k, hk, rfl⟩; simp [gI, hk]
  ·
   intro hm
   obtain ⟨k, hk, he⟩ := List.getElem_of_mem hm
   exact ⟨k, hk, by simp [gI, hk, he]⟩
 rw [e, hD.2]
 constructor
 ·
  rintro ⟨j, h1, h2⟩; exact ⟨(gR h d).lo + j, ⟨by omega, by omega⟩, h2⟩
 ·
  rintro ⟨x, ⟨h1, h2⟩, h3⟩
  exact ⟨(x - (gR h d).lo).toNat, by omega, by rw [h3]; congr 1; omega⟩

set_option maxRecDepth 100000 in
set_option maxHeartbeats 6400000 in
theorem Ahead_any (g : Gl) (Ab Ad Ah Ai Ao : Option Addr) (cb cd ch ci co : Nat) (h : List Rg) (l : List Ic) (out : List Int) (w : World) (hg : GlIn w w.heap.size g Ab Ad) (hh : SlAt w w.heap.size 2 Ah h.length (fR h)) (hi : SlAt w w.heap.size 3 Ai l.length (fC l)) (ho : SlAt w w.heap.size 1 Ao out.length (fI out))
  (hok : Ok g h) (hbd : IcesBd l) (hl : l.length ≤ 1000000) (hol : out.length ≤ 1000000) :
  Calls Tryz.prog 63 #[.agg #[.int .i64 g.base, .slice Ab g.bands.length cb, .slice Ad g.depths.length cd, .int .i64 g.blo, .int .i64 g.bhi], .slice Ah h.length ch, .slice Ai l.length ci, .slice Ao out.length co] w fun e w' => (∃ q M, e = .returned (.pointer (some ⟨q, 0, none⟩)) ∧ MapAt w' q M ∧ Known g h l (fun j => hasB out (j : Int)) M h.length) ∧ Below w.heap.size w w' := by
 have hb0 := ex_alloc (ex_alloc (Below.refl w.heap.size w) (.cells #[.int .i64 g.base, .slice Ab g.bands.length cb, .slice Ad g.depths.length cd, .int .i64 g.blo, .int .i64 g.bhi] 27)) (.cells (Tryz.zeroCells128.setIfInBounds 0 (.bool true)) 128)
 have q0 : Blk ((w.alloc (.cells #[.int .i64 g.base, .slice Ab g.bands.length cb, .slice Ad g.depths.length cd, .int .i64 g.blo, .int .i64 g.bhi] 27)).alloc (.cells (Tryz.zeroCells128.setIfInBounds 0 (.bool true)) 128)) w.heap.size 27 #[.int .i64 g.base, .slice Ab g.bands.length cb, .slice Ad g.depths.length cd, .int .i64 g.blo, .int .i64 g.bhi] := (Blk.new _ _ _).alloc _
 have m0 : MapAt ((w.alloc (.cells #[.int .i64 g.base, .slice Ab g.bands.length cb, .slice Ad g.depths.length cd, .int .i64 g.blo, .int .i64 g.bhi] 27)).alloc (.cells (Tryz.zeroCells128.setIfInBounds 0 (.bool true)) 128)) (w.heap.size + 1) (upd (fun _ _ _ => false) 0 0 0) := by
  have := MapAt.first (w.alloc (.cells #[.int .i64 g.base, .slice Ab g.bands.length cb, .slice Ad g.depths.length cd, .int .i64 g.blo, .int .i64 g.bhi] 27))
  simpa using this
 have hnh := hok.nh
 have HK := Lib.hid hok
 have hcr := fun d => hok.creep d
 have hbk := hok.back
 have hlb : g.bands.length ≤ 1000000 := by have := hok.nb; omega
 have hld : g.depths.length ≤ 1000000 := by have := hok.nd; omega
 go_enter Tryz.func63, Tryz.ntmps63
 go_wp2_with fail
 have A0 : AS #[.int .i64 g.base, .slice Ab g.bands.length cb, .slice Ad g.depths.length cd, .int .i64 g.blo, .int .i64 g.bhi] w _ _ := ⟨hb0, q0, m0⟩
 have k0 : Hid (Known g h l (fun j => hasB out (j : Int)) (upd (fun _ _ _ => false) 0 0 0) 0) := Lib.hid known0
 have b0 : Hid (Blank (upd (fun _ _ _ => false) 0 0 0) 0) := Lib.hid (fun e r s he => by unfold upd; rw [if_neg (by omega)])
 generalize (w.alloc (.cells #[.int .i64 g.base, .slice Ab g.bands.length cb, .slice Ad g.depths.length cd, .int .i64 g.blo, .int .i64 g.bhi] 27)).alloc (.cells (Tryz.zeroCells128.setIfInBounds 0 (.bool true)) 128) = V at *
 generalize (upd (fun _ _ _ => false) 0 0 0) = M0 at *
 refine wp_loop (fun a W => Rel (fun a W => ∃ d : Nat, d ≤ h.length ∧ ∃ M : Nat → Nat → Nat → Bool, AS #[.int .i64 g.base, .slice Ab g.bands.length cb, .slice Ad g.depths.length cd, .int .i64 g.blo, .int .i64 g.bhi] w M W ∧ Hid (Known g h l (fun j => hasB out (j : Int)) M d) ∧ Hid (Blank M d) ∧ ∃ u : Nat → Value, a = ⟨List.toArray (u 0 :: .slice Ah h.length ch :: .slice Ai l.length ci :: .slice Ao out.length co :: .pointer (some ⟨w.heap.size, 0, none⟩) :: u 5 :: u 6 :: u 7 :: u 8 :: .pointer (some ⟨w.heap.size + 1, 0, none⟩) :: .int .i64 (d : Int) :: u 11 :: u 12 :: u 13 :: u 14 :: u 15 :: u 16 :: u 17 :: u 18 :: u 19 :: u 20 :: u 21 :: u 22 :: u 23 :: u 24 :: u 25 :: u 26 :: u 27 :: u 28 :: u 29 :: u 30 :: u 31 :: u 32 :: u 33 :: u 34 :: u 35 :: u 36 :: u 37 :: u 38 :: u 39 :: u 40 :: u 41 :: u 42 :: u 43 :: u 44 :: u 45 :: u 46 :: u 47 :: u 48 :: u 49 :: u 50 :: u 51 :: u 52 :: u 53 :: u 54 :: u 55 :: u 56 :: u 57 :: u 58 :: u 59 :: u 60 :: u 61 :: u 62 :: u 63 :: u 64 :: u 65 :: u 66 :: u 67 :: u 68 :: u 69 :: u 70 :: u 71 :: u 72 :: u 73 :: u 74 :: u 75 :: u 76 :: u 77 :: u 78 :: u 79 :: u 80 :: u 81 :: u 82 :: u 83 :: u 84 :: u 85 :: u 86 :: u 87 :: u 88 :: u 89 :: u 90 :: u 91 :: u 92 :: u 93 :: u 94 :: u 95 :: u 96 :: u 97 :: u 98 :: u 99 :: u 100 :: u 101 :: u 102 :: u 103 :: u 104 :: u 105 :: u 106 :: []), []⟩) a W)
  (fun a _ => h.length - (intOf (a.tmps.getD 10 undef)).toNat) ⟨⟨0, by omega, M0, A0, k0, b0, exFrame (by kernel_rfl)⟩⟩ ?_
 rintro a wr ⟨⟨d, hd, M, A1, k1, b1, u, rfl⟩⟩
 clear A0 k0 b0 hb0 q0 m0
 by_cases hlt : d < h.length
 ·
  have r1 := HK.out.heats d hlt
  obtain ⟨bh, oh, rfl, hbh, s0, s1⟩ := IsRgs.at_ (hh.below A1.bw) hlt
  have hws := A1.bw.size
  have hbr : bh < wr.heap.size := by omega
  have a0 : wr.cell? ⟨w.heap.size, 0, none⟩ = some (.int .i64 g.base) := A1.qg.cell 0
  have a1 : wr.cell? ⟨w.heap.size, 1, none⟩ = some (.slice Ab g.bands.length cb) := A1.qg.cell 1
  have a2 : wr.cell? ⟨w.heap.size, 2, none⟩ = some (.slice Ad g.depths.length cd) := A1.qg.cell 2
  have a3 : wr.cell? ⟨w.heap.size, 3, none⟩ = some (.int .i64 g.blo) := A1.qg.cell 3
  have a4 : wr.cell? ⟨w.heap.size, 4, none⟩ = some (.int .i64 g.bhi) := A1.qg.cell 4
  have l1' := A1.qg.lt
  have l2' := A1.mp.lt
  have HA1 := Lib.hid A1
  have hB := A1.bw
  clear A1
  go_wp2_with fail
  refine Code.wp_mono (Q := DQ g Ab Ad (some ⟨bh, oh, none⟩) Ai Ao cb cd ch ci co h l out w d M) ?_ ?_
  rotate_left
  ·
   refine wp_region_ext_tq 10 (.quiet 0 (.quiet 1 (.quiet 3 (.quiet 4 (.quiet 5 (.quiet 6 (.quiet 7 (.fork 2 (.fork 8 (.loud 9 .done) 9 (.loud 8 .done)) 9 (.loud 2 (.loud 8 .done)))))))))) (by kernel_rfl) (by kernel_rfl) (by rintro d v c a w ⟨h, _⟩; cases h) ?_
   have hX0 := (Below.refl wr.heap.size wr).drew
   repeat (refine tq_quiet rfl ?_; go_big_quiet_step (fail); refine wpQuiet_nil ?_)
   refine tq_fork rfl rfl ?_ ?_
   ·
    go_wp2_with fail
    refine (CreepR_any g _ _ _ _ (d : Int) wr.drew ((hg.below (ex_trans hB hX0)).up (ex_trans hB hX0).size) hlb).mono ?_
    rintro e x1 ⟨rfl, hx1⟩
    have hX1 := ex_trans hX0 hx1
    go_wp2_with fail
    refine ⟨inEx hX1, ?_⟩
    refine tq_fork rfl rfl ?_ ?_
    ·
     go_wp2_with fail
     refine (deepR_any g _ _ _ _ (gR h d).lo (gR h d).hi x1 ((hg.below (ex_trans hB hX1)).up (ex_trans hB hX1).size) hld r1.1 r1.2.1 r1.2.2).mono ?_
     rintro e x2 ⟨⟨v, D, rfl, hv, hD⟩, hx2⟩
     have hX2 := ex_trans hX1 hx2
     obtain ⟨Ad', cd', rfl, _, _⟩ := own_sl hv
     go_wp2_with fail
     refine ⟨inEx hX2, ?_⟩
     refine tq_loud rfl ?_
     go_wp2_with fail
     refine ⟨inEx (ex_alloc hX2 _), ?_⟩
     refine tq_done (r := [_, _]) rfl ?_
     go_wp2
     exact ⟨rfl, x2.heap.size, Ad', cd', D, ⟨HA1.out.below (ex_alloc hX2 _), Blk.new _ _ _, own_base (hv.alloc _) (by have := hX1.size; omega)⟩, Lib.hid hD, exFrame' (by kernel_rfl)⟩
    ·
     have qa : Blk (x1.alloc (.cells #[.int .i64 0, .int .i64 0] 25)) x1.heap.size 25 _ := Blk.new _ _ _
     have hX1a := ex_alloc hX1 (.cells #[.int .i64 0, .int .i64 0] 25)
     go_wp2_with fail
     refine ⟨inEx hX1a, ?_⟩
     refine tq_loud rfl ?_
     go_wp2_with fail
     refine (deepR_any g _ _ _ _ (gR h d).lo (gR h d).hi (x1.alloc (.cells #[.int .i64 0, .int .i64 0] 25)) ((hg.below (ex_trans hB hX1a)).up (ex_trans hB hX1a).size) hld r1.1 r1.2.1 r1.2.2).mono ?_
     rintro e x2 ⟨⟨v, D, rfl, hv, hD⟩, hx2⟩
     have hX2 := ex_trans hX1a hx2
     obtain ⟨Ad', cd', rfl, _, _⟩ := own_sl hv
     go_wp2_with fail
     refine ⟨inEx hX2, ?_⟩
     refine tq_done (r := [_, _]) rfl ?_
     have qz := qa.below hx2 qa.lt
     have z0 := qz.cell 0
     have z1 := qz.cell 1
     have f0 := qz.frozen 0
     have f1 := qz.frozen 1
     have lz := qz.lt
     simp at z0 z1
     go_wp2
     exact ⟨rfl, x1.heap.size, Ad', cd', D, AD.fill (HA1.out.below hX2) qz (own_base hv (by have := (hX1a).size; simp at this ⊢; omega)) (by have := hX1.size; omega), Lib.hid hD, exFrame' (by kernel_rfl)⟩
   ·
    have qa : Blk (wr.alloc (.cells #[.int .i64 0, .int .i64 0] 25)).drew wr.heap.size 25 _ := Blk.new _ _ _
    have hX0a : Below wr.heap.size wr (wr.alloc (.cells #[.int .i64 0, .int .i64 0] 25)).drew := (ex_alloc (Below.refl _ _) _).drew
    go_wp2_with fail
    refine ⟨inEx hX0a, ?_⟩
    refine tq_loud rfl ?_
    go_wp2_with fail
    refine (CreepR_any g _ _ _ _ (d : Int) (wr.alloc (.cells #[.int .i64 0, .int .i64 0] 25)).drew ((hg.below (ex_trans hB hX0a)).up (ex_trans hB hX0a).size) hlb).mono ?_
    rintro e x1 ⟨rfl, hx1⟩
    have hX1 := ex_trans hX0a hx1
    go_wp2_with fail
    refine ⟨inEx hX1, ?_⟩
    refine tq_loud rfl ?_
    go_wp2_with fail
    refine (deepR_any g _ _ _ _ (gR h d).lo (gR h d).hi x1 ((hg.below (ex_trans hB hX1)).up (ex_trans hB hX1).size) hld r1.1 r1.2.1 r1.2.2).mono ?_
    rintro e x2 ⟨⟨v, D, rfl, hv, hD⟩, hx2⟩
    have hX2 := ex_trans hX1 hx2
    obtain ⟨Ad', cd', rfl, _, _⟩ := own_sl hv
    go_wp2_with fail
    refine ⟨inEx hX2, ?_⟩
    refine tq_done (r := [_, _]) rfl ?_
    have qz := (qa.below hx1 qa.lt).below hx2 (qa.below hx1 qa.lt).lt
    have z0 := qz.cell 0
    have z1 := qz.cell 1
    have f0 := qz.frozen 0
    have f1 := qz.frozen 1
    have lz := qz.lt
    simp at z0 z1
    go_wp2
    exact ⟨rfl, wr.heap.size, Ad', cd', D, AD.fill (HA1.out.below hX2) qz (own_base hv (by have := (hX1).size; simp at this ⊢; omega)) (by have := hX1.size; omega), Lib.hid hD, exFrame' (by kernel_rfl)⟩
  rintro e a' W1 ⟨rfl, pc, Ad', cd', D, hAD, hDD, u, rfl⟩
  clear a0 a1 a2 a3 a4 l1' l2' s0 s1 hbr HA1 hB
  obtain ⟨cl, hcl⟩ : ∃ cl, cl = (creepTo g.bands (d : Int) g.bands.length).lo := ⟨_, rfl⟩
  obtain ⟨chi, hch⟩ : ∃ chi, chi = (creepTo g.bands (d : Int) g.bands.length).hi := ⟨_, rfl⟩
  rw [← hcl, ← hch] at hAD
  have HCL : Hid (cl = (creep g d).lo) := Lib.hid hcl
  have HCH : Hid (chi = (creep g d).hi) := Lib.hid hch
  have hc3 : 0 ≤ cl ∧ cl ≤ chi ∧ chi ≤ 3 := by rw [HCL.out, HCH.out]; exact hcr d
  have hDl : D.length ≤ 501 := by have := hDD.out.1; omega
  have P0 : Hid (PP g h l (fun j => hasB out (j : Int)) D d 0 0 cl g.blo 0 M) := Lib.hid (by rw [HCL.out]; exact PP.start k1.out b1.out)
  have HDA := Lib.hid (deep_at r1.2.1 hDD.out)
  clear hcl hch k1 b1 hcr
  go_wp2_with fail
  refine wp_loop (fun a W => Rel (fun a W => ∃ n : Nat, n ≤ 49 ∧ ∃ M : Nat → Nat → Nat → Bool, AD #[.int .i64 g.base, .slice Ab g.bands.length cb, .slice Ad g.depths.length cd, .int .i64 g.blo, .int .i64 g.bhi] w M pc cl chi (.slice Ad' D.length cd') D W ∧ Hid (PP g h l (fun j => hasB out (j : Int)) D d n 0 cl g.blo 0 M) ∧ ∃ u : Nat → Value, a = ⟨List.toArray (u 0 :: .slice (some ⟨bh, oh, none⟩) h.length ch :: .slice Ai l.length ci :: .slice Ao out.length co :: .pointer (some ⟨w.heap.size, 0, none⟩) :: u 5 :: u 6 :: u 7 :: u 8 :: .pointer (some ⟨w.heap.size + 1, 0, none⟩) :: .int .i64 (d : Int) :: .pointer (some ⟨pc, 0, none⟩) :: .slice Ad' D.length cd' :: .int .i64 (n : Int) :: u 14 :: u 15 :: u 16 :: u 17 :: u 18 :: u 19 :: u 20 :: u 21 :: u 22 :: u 23 :: u 24 :: u 25 :: u 26 :: u 27 :: u 28 :: u 29 :: u 30 :: u 31 :: u 32 :: u 33 :: u 34 :: u 35 :: u 36 :: u 37 :: u 38 :: u 39 :: u 40 :: u 41 :: u 42 :: u 43 :: u 44 :: u 45 :: u 46 :: u 47 :: u 48 :: u 49 :: u 50 :: u 51 :: u 52 :: u 53 :: u 54 :: u 55 :: u 56 :: u 57 :: u 58 :: u 59 :: u 60 :: u 61 :: u 62 :: u 63 :: u 64 :: u 65 :: u 66 :: u 67 :: u 68 :: u 69 :: u 70 :: u 71 :: u 72 :: u 73 :: u 74 :: u 75 :: u 76 :: u 77 :: u 78 :: u 79 :: u 80 :: u 81 :: u 82 :: u 83 :: u 84 :: u 85 :: u 86 :: u 87 :: u 88 :: u 89 :: u 90 :: u 91 :: u 92 :: u 93 :: u 94 :: u 95 :: u 96 :: u 97 :: u 98 :: u 99 :: u 100 :: u 101 :: u 102 :: u 103 :: u 104 :: u 105 :: u 106 :: []), []⟩) a W)
   (fun a _ => 49 - (intOf (a.tmps.getD 13 undef)).toNat) ⟨⟨0, by omega, M, hAD, P0, exFrame (by kernel_rfl)⟩⟩ ?_
  clear hAD P0
  rintro a W2 ⟨⟨n, hn, M, hAD, PN, u, rfl⟩⟩
  by_cases hn49 : n < 49
  ·
   go_wp2_with fail
   refine wp_loop (fun a W => Rel (fun a W => ∃ m : Nat, m ≤ 31 ∧ ∃ M : Nat → Nat → Nat → Bool, AD #[.int .i64 g.base, .slice Ab g.bands.length cb, .slice Ad g.depths.length cd, .int .i64 g.blo, .int .i64 g.bhi] w M pc cl chi (.slice Ad' D.length cd') D W ∧ Hid (PP g h l (fun j => hasB out (j : Int)) D d n m cl g.blo 0 M) ∧ ∃ u : Nat → Value, a = ⟨List.toArray (u 0 :: .slice (some ⟨bh, oh, none⟩) h.length ch :: .slice Ai l.length ci :: .slice Ao out.length co :: .pointer (some ⟨w.heap.size, 0, none⟩) :: u 5 :: u 6 :: u 7 :: u 8 :: .pointer (some ⟨w.heap.size + 1, 0, none⟩) :: .int .i64 (d : Int) :: .pointer (some ⟨pc, 0, none⟩) :: .slice Ad' D.length cd' :: .int .i64 (n : Int) :: .int .i64 (m : Int) :: u 15 :: u 16 :: u 17 :: u 18 :: u 19 :: u 20 :: u 21 :: u 22 :: u 23 :: u 24 :: u 25 :: u 26 :: u 27 :: u 28 :: u 29 :: u 30 :: u 31 :: u 32 :: u 33 :: u 34 :: u 35 :: u 36 :: u 37 :: u 38 :: u 39 :: u 40 :: u 41 :: u 42 :: u 43 :: u 44 :: u 45 :: u 46 :: u 47 :: u 48 :: u 49 :: u 50 :: u 51 :: u 52 :: u 53 :: u 54 :: u 55 :: u 56 :: u 57 :: u 58 :: u 59 :: u 60 :: u 61 :: u 62 :: u 63 :: u 64 :: u 65 :: u 66 :: u 67 :: u 68 :: u 69 :: u 70 :: u 71 :: u 72 :: u 73 :: u 74 :: u 75 :: u 76 :: u 77 :: u 78 :: u 79 :: u 80 :: u 81 :: u 82 :: u 83 :: u 84 :: u 85 :: u 86 :: u 87 :: u 88 :: u 89 :: u 90 :: u 91 :: u 92 :: u 93 :: u 94 :: u 95 :: u 96 :: u 97 :: u 98 :: u 99 :: u 100 :: u 101 :: u 102 :: u 103 :: u 104 :: u 105 :: u 106 :: []), []⟩) a W)
    (fun a _ => 31 - (intOf (a.tmps.getD 14 undef)).toNat) ⟨⟨0, by omega, M, hAD, PN, exFrame (by kernel_rfl)⟩⟩ ?_
   clear hAD PN
   rintro a W3 ⟨⟨m, hm, M, hAD, PN, u, rfl⟩⟩
   by_cases hm31 : m < 31
   ·
    have c0 : W3.cell? ⟨pc, 0, none⟩ = some (.int .i64 cl) := hAD.qc.cell 0
    have lc := hAD.qc.lt
    go_wp2_with fail
    refine wp_loop (fun a W => Rel (fun a W => ∃ c : Int, cl ≤ c ∧ c ≤ chi + 1 ∧ ∃ M : Nat → Nat → Nat → Bool, AD #[.int .i64 g.base, .slice Ab g.bands.length cb, .slice Ad g.depths.length cd, .int .i64 g.blo, .int .i64 g.bhi] w M pc cl chi (.slice Ad' D.length cd') D W ∧ Hid (PP g h l (fun j => hasB out (j : Int)) D d n m c g.blo 0 M) ∧ ∃ u : Nat → Value, a = ⟨List.toArray (u 0 :: .slice (some ⟨bh, oh, none⟩) h.length ch :: .slice Ai l.length ci :: .slice Ao out.length co :: .pointer (some ⟨w.heap.size, 0, none⟩) :: u 5 :: u 6 :: u 7 :: u 8 :: .pointer (some ⟨w.heap.size + 1, 0, none⟩) :: .int .i64 (d : Int) :: .pointer (some ⟨pc, 0, none⟩) :: .slice Ad' D.length cd' :: .int .i64 (n : Int) :: .int .i64 (m : Int) :: .int .i64 c :: u 16 :: u 17 :: u 18 :: u 19 :: u 20 :: u 21 :: u 22 :: u 23 :: u 24 :: u 25 :: u 26 :: u 27 :: u 28 :: u 29 :: u 30 :: u 31 :: u 32 :: u 33 :: u 34 :: u 35 :: u 36 :: u 37 :: u 38 :: u 39 :: u 40 :: u 41 :: u 42 :: u 43 :: u 44 :: u 45 :: u 46 :: u 47 :: u 48 :: u 49 :: u 50 :: u 51 :: u 52 :: u 53 :: u 54 :: u 55 :: u 56 :: u 57 :: u 58 :: u 59 :: u 60 :: u 61 :: u 62 :: u 63 :: u 64 :: u 65 :: u 66 :: u 67 :: u 68 :: u 69 :: u 70 :: u 71 :: u 72 :: u 73 :: u 74 :: u 75 :: u 76 :: u 77 :: u 78 :: u 79 :: u 80 :: u 81 :: u 82 :: u 83 :: u 84 :: u 85 :: u 86 :: u 87 :: u 88 :: u 89 :: u 90 :: u 91 :: u 92 :: u 93 :: u 94 :: u 95 :: u 96 :: u 97 :: u 98 :: u 99 :: u 100 :: u 101 :: u 102 :: u 103 :: u 104 :: u 105 :: u 106 :: []), []⟩) a W)
     (fun a _ => (chi + 1 - intOf (a.tmps.getD 15 undef)).toNat) ⟨⟨cl, by omega, by omega, M, hAD, PN, exFrame (by kernel_rfl)⟩⟩ ?_
    clear hAD PN c0 lc
    rintro a W4 ⟨⟨c, hc, hc', M, hAD, PN, u, rfl⟩⟩
    have hd17 : d < 17 := by omega
    have hn52 : n < 52 := by omega
    have c1 : W4.cell? ⟨pc, 1, none⟩ = some (.int .i64 chi) := hAD.qc.cell 1
    have lc := hAD.qc.lt
    have mc := hAD.ah.mp.cell hd17 hn52 hm31
    have lm := hAD.ah.mp.lt
    have a3 : W4.cell? ⟨w.heap.size, 3, none⟩ = some (.int .i64 g.blo) := hAD.ah.qg.cell 3
    have lg := hAD.ah.qg.lt
    by_cases hcc : c ≤ chi
    ·
     have e1 : decide (c ≤ chi) = true := decide_eq_true hcc
     cases hM : M d n m
     ·
      rw [hM] at mc
      go_wp2_with fail
      refine ⟨⟨⟨m + 1, by omega, M, hAD, Lib.hid (by have := PN.out.sink (.inr hM); rw [← HCL.out] at this; exact this), exFrame (by kernel_rfl)⟩⟩, ?_⟩
      show 31 - (intOf (.int .i64 ((m : Int) + 1))).toNat < 31 - (intOf (.int .i64 (m : Int))).toNat
      simp [intOf]
      omega
     ·
      rw [hM] at mc
      have HM0 := Lib.hid hM
      clear hM
      go_wp2_with fail
      refine wp_loop (fun a W => Rel (fun a W => ∃ b : Int, g.blo ≤ b ∧ b ≤ g.bhi + 1 ∧ ∃ M : Nat → Nat → Nat → Bool, AD #[.int .i64 g.base, .slice Ab g.bands.length cb, .slice Ad g.depths.length cd, .int .i64 g.blo, .int .i64 g.bhi] w M pc cl chi (.slice Ad' D.length cd') D W ∧ Hid (PP g h l (fun j => hasB out (j : Int)) D d n m c b 0 M) ∧ Hid (M d n m = true) ∧ ∃ u : Nat → Value, a = ⟨List.toArray (u 0 :: .slice (some ⟨bh, oh, none⟩) h.length ch :: .slice Ai l.length ci :: .slice Ao out.length co :: .pointer (some ⟨w.heap.size, 0, none⟩) :: u 5 :: u 6 :: u 7 :: u 8 :: .pointer (some ⟨w.heap.size + 1, 0, none⟩) :: .int .i64 (d : Int) :: .pointer (some ⟨pc, 0, none⟩) :: .slice Ad' D.length cd' :: .int .i64 (n : Int) :: .int .i64 (m : Int) :: .int .i64 c :: .int .i64 b :: u 17 :: u 18 :: u 19 :: u 20 :: u 21 :: u 22 :: u 23 :: u 24 :: u 25 :: u 26 :: u 27 :: u 28 :: u 29 :: u 30 :: u 31 :: u 32 :: u 33 :: u 34 :: u 35 :: u 36 :: u 37 :: u 38 :: u 39 :: u 40 :: u 41 :: u 42 :: u 43 :: u 44 :: u 45 :: u 46 :: u 47 :: u 48 :: u 49 :: u 50 :: u 51 :: u 52 :: u 53 :: u 54 :: u 55 :: u 56 :: u 57 :: u 58 :: u 59 :: u 60 :: u 61 :: u 62 :: u 63 :: u 64 :: u 65 :: u 66 :: u 67 :: u 68 :: u 69 :: u 70 :: u 71 :: u 72 :: u 73 :: u 74 :: u 75 :: u 76 :: u 77 :: u 78 :: u 79 :: u 80 :: u 81 :: u 82 :: u 83 :: u 84 :: u 85 :: u 86 :: u 87 :: u 88 :: u 89 :: u 90 :: u 91 :: u 92 :: u 93 :: u 94 :: u 95 :: u 96 :: u 97 :: u 98 :: u 99 :: u 100 :: u 101 :: u 102 :: u 103 :: u 104 :: u 105 :: u 106 :: []), []⟩) a W)
       (fun a _ => (g.bhi + 1 - intOf (a.tmps.getD 16 undef)).toNat) ⟨⟨g.blo, by omega, by omega, M, hAD, PN, HM0, exFrame (by kernel_rfl)⟩⟩ ?_
      clear hAD PN c1 lc mc lm a3 lg HM0
      rintro a W5 ⟨⟨b, hb, hb', M, hAD, PN, HM, u, rfl⟩⟩
      have a4 : W5.cell? ⟨w.heap.size, 4, none⟩ = some (.int .i64 g.bhi) := hAD.ah.qg.cell 4
      have lg := hAD.ah.qg.lt
      by_cases hbb : b ≤ g.bhi
      ·
       have e2 : decide (b ≤ g.bhi) = true := decide_eq_true hbb
       go_wp2_with fail
       refine wp_loop (fun a W => Rel (fun a W => ∃ k : Nat, k ≤ D.length ∧ ∃ M : Nat → Nat → Nat → Bool, AD #[.int .i64 g.base, .slice Ab g.bands.length cb, .slice Ad g.depths.length cd, .int .i64 g.blo, .int .i64 g.bhi] w M pc cl chi (.slice Ad' D.length cd') D W ∧ Hid (PP g h l (fun j => hasB out (j : Int)) D d n m c b k M) ∧ Hid (M d n m = true) ∧ ∃ u : Nat → Value, a = ⟨List.toArray (u 0 :: .slice (some ⟨bh, oh, none⟩) h.length ch :: .slice Ai l.length ci :: .slice Ao out.length co :: .pointer (some ⟨w.heap.size, 0, none⟩) :: u 5 :: u 6 :: u 7 :: u 8 :: .pointer (some ⟨w.heap.size + 1, 0, none⟩) :: .int .i64 (d : Int) :: .pointer (some ⟨pc, 0, none⟩) :: .slice Ad' D.length cd' :: .int .i64 (n : Int) :: .int .i64 (m : Int) :: .int .i64 c :: .int .i64 b :: .int .i64 (k : Int) :: u 18 :: u 19 :: u 20 :: u 21 :: u 22 :: u 23 :: u 24 :: u 25 :: u 26 :: u 27 :: u 28 :: u 29 :: u 30 :: u 31 :: u 32 :: u 33 :: u 34 :: u 35 :: u 36 :: u 37 :: u 38 :: u 39 :: u 40 :: u 41 :: u 42 :: u 43 :: u 44 :: u 45 :: u 46 :: u 47 :: u 48 :: u 49 :: u 50 :: u 51 :: u 52 :: u 53 :: u 54 :: u 55 :: u 56 :: u 57 :: u 58 :: u 59 :: u 60 :: u 61 :: u 62 :: u 63 :: u 64 :: u 65 :: u 66 :: u 67 :: u 68 :: u 69 :: u 70 :: u 71 :: u 72 :: u 73 :: u 74 :: u 75 :: u 76 :: u 77 :: u 78 :: u 79 :: u 80 :: u 81 :: u 82 :: u 83 :: u 84 :: u 85 :: u 86 :: u 87 :: u 88 :: u 89 :: u 90 :: u 91 :: u 92 :: u 93 :: u 94 :: u 95 :: u 96 :: u 97 :: u 98 :: u 99 :: u 100 :: u 101 :: u 102 :: u 103 :: u 104 :: u 105 :: u 106 :: []), []⟩) a W)
        (fun a _ => D.length - (intOf (a.tmps.getD 17 undef)).toNat) ⟨⟨0, by omega, M, hAD, PN, HM, exFrame (by kernel_rfl)⟩⟩ ?_
       clear hAD PN a4 lg HM
       rintro a W6 ⟨⟨k, hk, M, hAD, PN, HM, u, rfl⟩⟩
       by_cases hkD : k < D.length
       ·
        have hd17 : d + 1 < 17 := by omega
        obtain ⟨gd, capd, hv, _, _, dc, _⟩ := ints_cell hAD.ow hkD
        injection hv with hva hvb hvc
        subst hva hvc
        clear hvb
        have a0 : W6.cell? ⟨w.heap.size, 0, none⟩ = some (.int .i64 g.base) := hAD.ah.qg.cell 0
        have lg := hAD.ah.qg.lt
        have lm := hAD.ah.mp.lt
        obtain ⟨yv, hyv⟩ : ∃ yv, yv = mx3 ((m : Int) - b) 0 (gI D k) := ⟨_, rfl⟩
        have hsk : 0 ≤ gI D k ∧ gI D k ≤ 30 := by
         obtain ⟨x, _, hx⟩ := (HDA.out _).1 ⟨k, hkD, rfl⟩
         rw [hx]; exact HK.out.sinks x
        have hyb := mx3_bd ((m : Int) - b) 0 (gI D k)
        rw [← hyv] at hyb
        obtain ⟨xn, hxn⟩ : ∃ xn : Nat, (n : Int) + c = (xn : Int) := ⟨((n : Int) + c).toNat, by omega⟩
        obtain ⟨yn, hyn⟩ : ∃ yn : Nat, yv = (yn : Int) := ⟨yv.toNat, by omega⟩
        have hx52 : xn < 52 := by omega
        have hy31 : yn < 31 := by omega
        have fm := hAD.ah.mp.frozen ((d + 1) * 1612 + xn * 31 + yn)
        have mc := hAD.ah.mp.cell hd17 hx52 hy31
        have w1 : IntKind.i64.wrap ((n : Int) + c) = (xn : Int) := by rw [hxn]; exact IntWalk.i64_in _ (by omega)
        have w2 : IntKind.i64.wrap ((m : Int) - b) = (m : Int) - b := IntWalk.i64_in _ (by omega)
        have hyv2 : max (max ((m : Int) - b) 0) (gI D k) = (yn : Int) := by rw [← hyn, hyv]; rfl
        have ab := HK.out.base
        have w3 : IntKind.i64.wrap (g.base + (xn : Int)) = g.base + (xn : Int) := IntWalk.i64_in _ (by omega)
        have w4 : IntKind.i64.wrap (g.base + (xn : Int) - (yn : Int)) = g.base + (xn : Int) - (yn : Int) := IntWalk.i64_in _ (by omega)
        have w5 : IntKind.i64.wrap ((d : Int) + 1) = (d : Int) + 1 := IntWalk.i64_in _ (by omega)
        have hHX := Lib.hid hxn
        have hHY := Lib.hid (hyv.symm.trans hyn)
        clear hxn hyv hyn hyb
        go_wp2_with fail
        refine wp_region_ext_mix 12 [(false, 0), (false, 1), (false, 2), (false, 3), (false, 4), (false, 5), (false, 6), (false, 7), (false, 8), (false, 9), (false, 11), (true, 10)] (by kernel_rfl) (by kernel_rfl) (by intro d _ _ _ _ h; cases d <;> exact h) ?_
        have hX0 := (Below.refl W6.heap.size W6).drew
        repeat (refine mix_quiet rfl ?_; go_big_quiet_step (fail); refine wpQuiet_nil ?_)
        refine mix_loud rfl ?_
        refine wpList_max3 _ rfl _ _ _ _ rfl ((m : Int) - b) 0 (gI D k) rfl rfl rfl ?_
        rw [hHY.out]
        go_wp2_with fail
        refine ⟨inEx hX0, ?_⟩
        refine mix_nil rfl ?_
        have hAX := hAD.below hX0
        have hBX := hAX.ah.bw
        have a0 : W6.drew.cell? ⟨w.heap.size, 0, none⟩ = some (.int .i64 g.base) := hAX.ah.qg.cell 0
        have lg := hAX.ah.qg.lt
        go_wp2_with fail
        refine (Fits_any Ai Ao ci co l out (d : Int) (g.base + (xn : Int) - (yn : Int)) W6.drew hl hol ((hi.below hBX).up hBX.size) ((ho.below hBX).up hBX.size) hbd (by omega)).mono ?_
        rintro e W7 ⟨rfl, h7⟩
        have hA7 := hAX.below h7
        have HM7 := HM.out
        cases hF : fitsB l (fun j => hasB out (j : Int)) (d : Int) (g.base + (xn : Int) - (yn : Int))
        ·
         have P7 := Lib.hid (PN.out.no (by rw [hHX.out, hHY.out]; exact hF))
         go_wp2_with fail
         refine ⟨⟨⟨k + 1, by omega, M, hA7, P7, Lib.hid HM7, exFrame (by kernel_rfl)⟩⟩, ?_⟩
         show D.length - (intOf (.int .i64 ((k : Int) + 1))).toNat < D.length - (intOf (.int .i64 (k : Int))).toNat
         simp [intOf]
         omega
        ·
         have hcan := item_can HK.out hlt HDA.out PN.out.known (r := n) (s := m) (by omega) hm31 HM7 (c := c) (b := b) (by rw [← HCL.out, ← HCH.out]; exact ⟨hc, hcc⟩) ⟨hb, hbb⟩ hkD (by rw [hHX.out, hHY.out]; exact hF)
         rw [hHX.out, hHY.out] at hcan
         have P7 := Lib.hid (PN.out.yes (x := xn) (y := yn) (by rw [hHX.out]; rfl) (by rw [hHY.out]; rfl) hcan)
         have hA8 := hA7.set hd17 hx52 hy31
         have fm := hA7.ah.mp.frozen ((d + 1) * 1612 + xn * 31 + yn)
         have mc := hA7.ah.mp.cell hd17 hx52 hy31
         have lm := hA7.ah.mp.lt
         go_wp2_with fail
         refine ⟨⟨⟨k + 1, by omega, _, hA8, P7, Lib.hid (upd_mono HM7), exFrame (by kernel_rfl)⟩⟩, ?_⟩
         show D.length - (intOf (.int .i64 ((k : Int) + 1))).toNat < D.length - (intOf (.int .i64 (k : Int))).toNat
         simp [intOf]
         omega
       ·
        have hkE : k = D.length := by omega
        subst hkE
        go_wp2_with fail
        refine ⟨⟨⟨b + 1, by omega, by omega, M, hAD, Lib.hid PN.out.back, HM, exFrame (by kernel_rfl)⟩⟩, ?_⟩
        show (g.bhi + 1 - intOf (.int .i64 (b + 1))).toNat < (g.bhi + 1 - intOf (.int .i64 b)).toNat
        simp [intOf]
        omega
      ·
       have e2 : decide (b ≤ g.bhi) = false := decide_eq_false hbb
       go_wp2_with fail
       refine ⟨⟨⟨c + 1, by omega, by omega, M, hAD, Lib.hid (PN.out.creep (by omega)), exFrame (by kernel_rfl)⟩⟩, ?_⟩
       first
       | (show (chi + 1 - intOf (.int .i64 (c + 1))).toNat < (chi + 1 - intOf (.int .i64 c)).toNat; simp [intOf]; omega)
       | (show max (chi + 1 - intOf (.int .i64 (c + 1))) 0 < chi + 1 - intOf (.int .i64 c); simp only [intOf]; omega)
    ·
     have e1 : decide (c ≤ chi) = false := decide_eq_false hcc
     go_wp2_with fail
     refine ⟨⟨⟨m + 1, by omega, M, hAD, Lib.hid (by have := PN.out.sink (.inl (by rw [← HCH.out]; omega)); rw [← HCL.out] at this; exact this), exFrame (by kernel_rfl)⟩⟩, ?_⟩
     show 31 - (intOf (.int .i64 ((m : Int) + 1))).toNat < 31 - (intOf (.int .i64 (m : Int))).toNat
     simp [intOf]
     omega
   ·
    have hmE : m = 31 := by omega
    subst hmE
    go_wp2_with fail
    refine ⟨⟨⟨n + 1, by omega, M, hAD, Lib.hid (by have := PN.out.rise; rw [← HCL.out] at this; exact this), exFrame (by kernel_rfl)⟩⟩, ?_⟩
    show 49 - (intOf (.int .i64 ((n : Int) + 1))).toNat < 49 - (intOf (.int .i64 (n : Int))).toNat
    simp [intOf]
    omega
  ·
   have hnE : n = 49 := by omega
   subst hnE
   obtain ⟨k2, b2⟩ := PN.out.day HK.out hlt HDA.out
   go_wp2_with fail
   refine ⟨⟨⟨d + 1, by omega, M, hAD.ah, Lib.hid k2, Lib.hid b2, exFrame (by kernel_rfl)⟩⟩, ?_⟩
   show h.length - (intOf (.int .i64 ((d : Int) + 1))).toNat < h.length - (intOf (.int .i64 (d : Int))).toNat
   simp [intOf]
   omega
 have hdE : d = h.length := by omega
 subst hdE
 go_wp2
 go_ret
 exact ⟨⟨_, M, rfl, A1.mp, k1.out⟩, A1.bw⟩
end Go.Proofs.YtkaogjhnogkcdaaGreat
end

section
namespace Go.Proofs.YtkaogjhnogkcdaaGreat
open Go.RowKit
attribute [local go_sem] Ex.cell? Ex.frozen?

theorem endOf_mod (r : Rg) (b c : Nat) (h : b % 2 = c % 2) : endOf r b = endOf r c := by unfold endOf; rw [h]
theorem enK_at (t : Tb) {i j k m : Nat} (hi : i < 2) (hj : j < 2) (hk : k < 2) (hm : m < 2) : enK t (8 * i + 4 * j + 2 * k + m) = ⟨endOf t.k i, endOf t.lag j, endOf t.sq k⟩ := by
 unfold enK
 rw [endOf_mod t.k _ i (by omega), endOf_mod t.lag _ j (by omega), endOf_mod t.sq _ k (by omega)]
theorem spanAt_at (t : Tb) (r : Rd) {i j k m : Nat} (hi : i < 2) (hj : j < 2) (hk : k < 2) (hm : m < 2) : spanAt t r (8 * i + 4 * j + 2 * k + m) = spanP r ⟨endOf t.k i, endOf t.lag j, endOf t.sq k⟩ (endOf r.rate m) := by
 unfold spanAt
 rw [enK_at t hi hj hk hm, endOf_mod r.rate _ m (by omega)]
theorem two_cell {W : World} {p : Nat} {x : Rg} (h : Blk W p 3 #[.int .i64 x.lo, .int .i64 x.hi]) {i : Nat} (hi : i < 2) : W.cell? ⟨p, i, none⟩ = some (.int .i64 (endOf x i)) := by
 rw [h.cell]
 rcases (show i = 0 ∨ i = 1 by omega) with rfl | rfl <;> rfl
structure BdW (lk : Array Value) (f : Nat → Rg) (w : World) (p1 pr pf po n : Nat) (W : World) : Prop where
 b : Below w.heap.size w W
 q1 : Blk W p1 170 lk
 qr : Blk W pr 41 #[.int .i64 0, .int .i64 0]
 qf : Blk W pf 4 #[.bool (decide (n = 0))]
 qo : Blk W po 41 #[.int .i64 (accTo f n).lo, .int .i64 (accTo f n).hi]
 of : w.heap.size ≤ pf
 oo : w.heap.size ≤ po
 ob : w.heap.size ≤ pr
 n1 : ¬ (p1 = pf ∨ p1 = po)
 n2 : ¬ (pr = pf ∨ pr = po)
 n3 : pf ≠ po
section
variable {lk : Array Value} {f : Nat → Rg} {w : World} {p1 pr pf po n : Nat} {W W1 W2 : World}
theorem BdW.go (h : BdW lk f w p1 pr pf po n W) (hb : Below W.heap.size W W1) : BdW lk f w p1 pr pf po n W1 := ⟨ex_trans h.b hb, h.q1.below hb h.q1.lt, h.qr.below hb h.qr.lt, h.qf.below hb h.qf.lt, h.qo.below hb h.qo.lt, h.of, h.oo, h.ob, h.n1, h.n2, h.n3⟩
theorem acc_step (f : Nat → Rg) (n : Nat) : min (fstI (decide (n = 0)) (f n).lo (accTo f n).lo) (f n).lo = (accTo f (n + 1)).lo ∧ max (fstI (decide (n = 0)) (f n).hi (accTo f n).hi) (f n).hi = (accTo f (n + 1)).hi := by
 rw [accTo]
 by_cases h : n = 0
 ·
  subst h; simp [fstI]
 ·
  simp [fstI, h]
theorem BdW.add (h : BdW lk f w p1 pr pf po n W) (x : Rg) (hx : x = f n) (h1 : Blk W2 pf 4 #[.bool false]) (h2 : Blk W2 po 41 #[.int .i64 (min (fstI (decide (n = 0)) x.lo (accTo f n).lo) x.lo), .int .i64 (max (fstI (decide (n = 0)) x.hi (accTo f n).hi) x.hi)])
  (hf : Fr (fun k => k = pf ∨ k = po) W W2) : BdW lk f w p1 pr pf po (n + 1) W2 := by
 subst hx
 obtain ⟨e1, e2⟩ := acc_step f n
 rw [e1, e2] at h2
 exact ⟨hf.toBelow h.b h.b.size (fun x hx => by rcases hx with rfl | rfl; exact h.of; exact h.oo), h.q1.fr hf h.n1, h.qr.fr hf h.n2, by rw [show decide (n + 1 = 0) = false by simp]; exact h1, h2, h.of, h.oo, h.ob, h.n1, h.n2, h.n3⟩
end
set_option maxRecDepth 100000 in
set_option maxHeartbeats 6400000 in
theorem sm_bounds (t : Tb) (Ab Ad : Option Addr) (cb cd : Nat) (r : Rd) (w : World) (ht : TbBd t) (hr : RdBd r) :
  Calls Tryz.prog 91 #[.agg #[.int .i64 t.g.base, .slice Ab t.g.bands.length cb, .slice Ad t.g.depths.length cd, .int .i64 t.g.blo, .int .i64 t.g.bhi, .int .i64 t.k.lo, .int .i64 t.k.hi, .int .i64 t.lag.lo, .int .i64 t.lag.hi, .int .i64 t.sq.lo, .int .i64 t.sq.hi, .int .i64 t.term, .int .i64 r.day, .int .i64 r.shown, .int .i64 r.err, .int .i64 r.bare, .int .i64 r.air.lo, .int .i64 r.air.hi, .int .i64 r.rate.lo, .int .i64 r.rate.hi, .int .i64 r.deep, .bool r.broken]] w fun e w' => e = .returned (.agg #[.int .i64 (bndP t r).lo, .int .i64 (bndP t r).hi]) ∧ Below w.heap.size w w' := by
 have HB : BdW #[.int .i64 t.g.base, .slice Ab t.g.bands.length cb, .slice Ad t.g.depths.length cd, .int .i64 t.g.blo, .int .i64 t.g.bhi, .int .i64 t.k.lo, .int .i64 t.k.hi, .int .i64 t.lag.lo, .int .i64 t.lag.hi, .int .i64 t.sq.lo, .int .i64 t.sq.hi, .int .i64 t.term, .int .i64 r.day, .int .i64 r.shown, .int .i64 r.err, .int .i64 r.bare, .int .i64 r.air.lo, .int .i64 r.air.hi, .int .i64 r.rate.lo, .int .i64 r.rate.hi, .int .i64 r.deep, .bool r.broken] (spanAt t r) w (w.heap.size) (w.heap.size + 1) (w.heap.size + 1 + 1) (w.heap.size + 1 + 1 + 1) 0 ((((w.alloc (.cells #[.int .i64 t.g.base, .slice Ab t.g.bands.length cb, .slice Ad t.g.depths.length cd, .int .i64 t.g.blo, .int .i64 t.g.bhi, .int .i64 t.k.lo, .int .i64 t.k.hi, .int .i64 t.lag.lo, .int .i64 t.lag.hi, .int .i64 t.sq.lo, .int .i64 t.sq.hi, .int .i64 t.term, .int .i64 r.day, .int .i64 r.shown, .int .i64 r.err, .int .i64 r.bare, .int .i64 r.air.lo, .int .i64 r.air.hi, .int .i64 r.rate.lo, .int .i64 r.rate.hi, .int .i64 r.deep, .bool r.broken] 170)).alloc (.cells #[.int .i64 0, .int .i64 0] 41)).alloc (.cells #[.bool true] 4)).alloc (.cells #[.int .i64 0, .int .i64 0] 41)) := ⟨ex_alloc (ex_alloc (ex_alloc (ex_alloc (Below.refl w.heap.size w) (.cells #[.int .i64 t.g.base, .slice Ab t.g.bands.length cb, .slice Ad t.g.depths.length cd, .int .i64 t.g.blo, .int .i64 t.g.bhi, .int .i64 t.k.lo, .int .i64 t.k.hi, .int .i64 t.lag.lo, .int .i64 t.lag.hi, .int .i64 t.sq.lo, .int .i64 t.sq.hi, .int .i64 t.term, .int .i64 r.day, .int .i64 r.shown, .int .i64 r.err, .int .i64 r.bare, .int .i64 r.air.lo, .int .i64 r.air.hi, .int .i64 r.rate.lo, .int .i64 r.rate.hi, .int .i64 r.deep, .bool r.broken] 170)) (.cells #[.int .i64 0, .int .i64 0] 41)) (.cells #[.bool true] 4)) (.cells #[.int .i64 0, .int .i64 0] 41), (show Blk ((((w.alloc (.cells #[.int .i64 t.g.base, .slice Ab t.g.bands.length cb, .slice Ad t.g.depths.length cd, .int .i64 t.g.blo, .int .i64 t.g.bhi, .int .i64 t.k.lo, .int .i64 t.k.hi, .int .i64 t.lag.lo, .int .i64 t.lag.hi, .int .i64 t.sq.lo, .int .i64 t.sq.hi, .int .i64 t.term, .int .i64 r.day, .int .i64 r.shown, .int .i64 r.err, .int .i64 r.bare, .int .i64 r.air.lo, .int .i64 r.air.hi, .int .i64 r.rate.lo, .int .i64 r.rate.hi, .int .i64 r.deep, .bool r.broken] 170)).alloc (.cells #[.int .i64 0, .int .i64 0] 41)).alloc (.cells #[.bool true] 4)).alloc (.cells #[.int .i64 0, .int .i64 0] 41)) (w.heap.size) 170 #[.int .i64 t.g.base, .slice Ab t.g.bands.length cb, .slice Ad t.g.depths.length cd, .int .i64 t.g.blo, .int .i64 t.g.bhi, .int .i64 t.k.lo, .int .i64 t.k.hi, .int .i64 t.lag.lo, .int .i64 t.lag.hi, .int .i64 t.sq.lo, .int .i64 t.sq.hi, .int .i64 t.term, .int .i64 r.day, .int .i64 r.shown, .int .i64 r.err, .int .i64 r.bare, .int .i64 r.air.lo, .int .i64 r.air.hi, .int .i64 r.rate.lo, .int .i64 r.rate.hi, .int .i64 r.deep, .bool r.broken] from (((Blk.new _ _ _).alloc _).alloc _).alloc _), (show Blk ((((w.alloc (.cells #[.int .i64 t.g.base, .slice Ab t.g.bands.length cb, .slice Ad t.g.depths.length cd, .int .i64 t.g.blo, .int .i64 t.g.bhi, .int .i64 t.k.lo, .int .i64 t.k.hi, .int .i64 t.lag.lo, .int .i64 t.lag.hi, .int .i64 t.sq.lo, .int .i64 t.sq.hi, .int .i64 t.term, .int .i64 r.day, .int .i64 r.shown, .int .i64 r.err, .int .i64 r.bare, .int .i64 r.air.lo, .int .i64 r.air.hi, .int .i64 r.rate.lo, .int .i64 r.rate.hi, .int .i64 r.deep, .bool r.broken] 170)).alloc (.cells #[.int .i64 0, .int .i64 0] 41)).alloc (.cells #[.bool true] 4)).alloc (.cells #[.int .i64 0, .int .i64 0] 41)) (w.heap.size + 1) 41 #[.int .i64 0, .int .i64 0] from ((Blk.new' _ _ _ (by simp)).alloc _).alloc _), (show Blk ((((w.alloc (.cells #[.int .i64 t.g.base, .slice Ab t.g.bands.length cb, .slice Ad t.g.depths.length cd, .int .i64 t.g.blo, .int .i64 t.g.bhi, .int .i64 t.k.lo, .int .i64 t.k.hi, .int .i64 t.lag.lo, .int .i64 t.lag.hi, .int .i64 t.sq.lo, .int .i64 t.sq.hi, .int .i64 t.term, .int .i64 r.day, .int .i64 r.shown, .int .i64 r.err, .int .i64 r.bare, .int .i64 r.air.lo, .int .i64 r.air.hi, .int .i64 r.rate.lo, .int .i64 r.rate.hi, .int .i64 r.deep, .bool r.broken] 170)).alloc (.cells #[.int .i64 0, .int .i64 0] 41)).alloc (.cells #[.bool true] 4)).alloc (.cells #[.int .i64 0, .int .i64 0] 41)) (w.heap.size + 1 + 1) 4 #[.bool true] from (Blk.new' _ _ _ (by simp)).alloc _), (show Blk ((((w.alloc (.cells #[.int .i64 t.g.base, .slice Ab t.g.bands.length cb, .slice Ad t.g.depths.length cd, .int .i64 t.g.blo, .int .i64 t.g.bhi, .int .i64 t.k.lo, .int .i64 t.k.hi, .int .i64 t.lag.lo, .int .i64 t.lag.hi, .int .i64 t.sq.lo, .int .i64 t.sq.hi, .int .i64 t.term, .int .i64 r.day, .int .i64 r.shown, .int .i64 r.err, .int .i64 r.bare, .int .i64 r.air.lo, .int .i64 r.air.hi, .int .i64 r.rate.lo, .int .i64 r.rate.hi, .int .i64 r.deep, .bool r.broken] 170)).alloc (.cells #[.int .i64 0, .int .i64 0] 41)).alloc (.cells #[.bool true] 4)).alloc (.cells #[.int .i64 0, .int .i64 0] 41)) (w.heap.size + 1 + 1 + 1) 41 #[.int .i64 0, .int .i64 0] from Blk.new' _ _ _ (by simp)), by omega, by omega, by omega, by omega, by omega, by omega⟩
 go_enter Tryz.func91, Tryz.ntmps91
 go_upto_region 3 with fail
 show Code.wp _ _ _ _ ((((w.alloc (.cells #[.int .i64 t.g.base, .slice Ab t.g.bands.length cb, .slice Ad t.g.depths.length cd, .int .i64 t.g.blo, .int .i64 t.g.bhi, .int .i64 t.k.lo, .int .i64 t.k.hi, .int .i64 t.lag.lo, .int .i64 t.lag.hi, .int .i64 t.sq.lo, .int .i64 t.sq.hi, .int .i64 t.term, .int .i64 r.day, .int .i64 r.shown, .int .i64 r.err, .int .i64 r.bare, .int .i64 r.air.lo, .int .i64 r.air.hi, .int .i64 r.rate.lo, .int .i64 r.rate.hi, .int .i64 r.deep, .bool r.broken] 170)).alloc (.cells #[.int .i64 0, .int .i64 0] 41)).alloc (.cells #[.bool true] 4)).alloc (.cells #[.int .i64 0, .int .i64 0] 41))
 obtain ⟨p1, hp1⟩ : ∃ p, w.heap.size = p := ⟨_, rfl⟩
 obtain ⟨pr, hpr⟩ : ∃ p, w.heap.size + 1 = p := ⟨_, rfl⟩
 obtain ⟨pf, hpf⟩ : ∃ p, w.heap.size + 1 + 1 = p := ⟨_, rfl⟩
 obtain ⟨po, hpo⟩ : ∃ p, w.heap.size + 1 + 1 + 1 = p := ⟨_, rfl⟩
 rw [hpo] at HB ⊢
 rw [hpf] at HB ⊢
 rw [hpr] at HB ⊢
 rw [hp1] at HB ⊢
 clear hpo hpf hpr hp1
 generalize (((w.alloc (.cells #[.int .i64 t.g.base, .slice Ab t.g.bands.length cb, .slice Ad t.g.depths.length cd, .int .i64 t.g.blo, .int .i64 t.g.bhi, .int .i64 t.k.lo, .int .i64 t.k.hi, .int .i64 t.lag.lo, .int .i64 t.lag.hi, .int .i64 t.sq.lo, .int .i64 t.sq.hi, .int .i64 t.term, .int .i64 r.day, .int .i64 r.shown, .int .i64 r.err, .int .i64 r.bare, .int .i64 r.air.lo, .int .i64 r.air.hi, .int .i64 r.rate.lo, .int .i64 r.rate.hi, .int .i64 r.deep, .bool r.broken] 170)).alloc (.cells #[.int .i64 0, .int .i64 0] 41)).alloc (.cells #[.bool true] 4)).alloc (.cells #[.int .i64 0, .int .i64 0] 41) = V at *
 have g5 := HB.q1.cell 5
 have g6 := HB.q1.cell 6
 have lg := HB.q1.lt
 simp at g5 g6
 have NB := ex_alloc (Below.refl V.heap.size V) (.cells #[.int .i64 t.k.lo, .int .i64 t.k.hi] 3)
 have z1 : Blk (V.alloc (.cells #[.int .i64 t.k.lo, .int .i64 t.k.hi] 3)) V.heap.size 3 #[.int .i64 t.k.lo, .int .i64 t.k.hi] := Blk.new _ _ _
 have hn1 : ¬ (V.heap.size = pf ∨ V.heap.size = po) := by have := HB.qf.lt; have := HB.qo.lt; omega
 replace HB := HB.go NB
 obtain ⟨s1, hs1⟩ : ∃ p, V.heap.size = p := ⟨_, rfl⟩
 rw [hs1] at z1 hn1
 go_wp2_with fail
 clear NB g5 g6 lg hs1
 generalize V.alloc (.cells #[.int .i64 t.k.lo, .int .i64 t.k.hi] 3) = V1 at *
 refine wp_loop (fun a W => Rel (fun a W => ∃ i : Nat, i ≤ 2 ∧ BdW #[.int .i64 t.g.base, .slice Ab t.g.bands.length cb, .slice Ad t.g.depths.length cd, .int .i64 t.g.blo, .int .i64 t.g.bhi, .int .i64 t.k.lo, .int .i64 t.k.hi, .int .i64 t.lag.lo, .int .i64 t.lag.hi, .int .i64 t.sq.lo, .int .i64 t.sq.hi, .int .i64 t.term, .int .i64 r.day, .int .i64 r.shown, .int .i64 r.err, .int .i64 r.bare, .int .i64 r.air.lo, .int .i64 r.air.hi, .int .i64 r.rate.lo, .int .i64 r.rate.hi, .int .i64 r.deep, .bool r.broken] (spanAt t r) w p1 pr pf po (8 * i) W ∧ Blk W s1 3 #[.int .i64 t.k.lo, .int .i64 t.k.hi] ∧ ∃ u : Nat → Value, a = ⟨List.toArray (u 0 :: .pointer (some ⟨p1, 0, none⟩) :: .pointer (some ⟨pr, 0, none⟩) :: .pointer (some ⟨pf, 0, none⟩) :: .pointer (some ⟨po, 0, none⟩) :: .func (.func 120) #[] #[.pointer (some ⟨pf, 0, none⟩), .pointer (some ⟨po, 0, none⟩)] :: u 6 :: u 7 :: u 8 :: u 9 :: u 10 :: u 11 :: u 12 :: u 13 :: u 14 :: u 15 :: u 16 :: u 17 :: u 18 :: u 19 :: u 20 :: .slice (some ⟨s1, 0, none⟩) 2 2 :: .int .i64 2 :: .int .i64 (i : Int) :: u 24 :: u 25 :: u 26 :: u 27 :: u 28 :: u 29 :: u 30 :: u 31 :: u 32 :: u 33 :: u 34 :: u 35 :: u 36 :: u 37 :: u 38 :: u 39 :: u 40 :: u 41 :: u 42 :: u 43 :: u 44 :: u 45 :: u 46 :: u 47 :: u 48 :: u 49 :: u 50 :: u 51 :: u 52 :: u 53 :: u 54 :: u 55 :: u 56 :: u 57 :: u 58 :: u 59 :: u 60 :: u 61 :: u 62 :: u 63 :: u 64 :: u 65 :: u 66 :: u 67 :: u 68 :: u 69 :: u 70 :: u 71 :: u 72 :: u 73 :: u 74 :: u 75 :: u 76 :: u 77 :: u 78 :: u 79 :: u 80 :: u 81 :: u 82 :: []), []⟩) a W)
  (fun a _ => 2 - (intOf (a.tmps.getD 23 undef)).toNat) ⟨⟨0, by omega, HB, z1, exFrame (by kernel_rfl)⟩⟩ ?_
 clear HB z1 V1
 rintro a W ⟨⟨i, hi, HB, z1, u, rfl⟩⟩
 by_cases hlt : i < 2
 ·
  have c1 := two_cell z1 hlt
  have g7 := HB.q1.cell 7
  have g8 := HB.q1.cell 8
  have lg := HB.q1.lt
  have ls := z1.lt
  simp at g7 g8
  have NB := ex_alloc (Below.refl W.heap.size W) (.cells #[.int .i64 t.lag.lo, .int .i64 t.lag.hi] 3)
  have z2 : Blk (W.alloc (.cells #[.int .i64 t.lag.lo, .int .i64 t.lag.hi] 3)) W.heap.size 3 #[.int .i64 t.lag.lo, .int .i64 t.lag.hi] := Blk.new _ _ _
  have hn2 : ¬ (W.heap.size = pf ∨ W.heap.size = po) := by have := HB.qf.lt; have := HB.qo.lt; omega
  replace HB := HB.go NB
  replace z1 := z1.below NB z1.lt
  obtain ⟨s2, hs2⟩ : ∃ p, W.heap.size = p := ⟨_, rfl⟩
  rw [hs2] at z2 hn2
  go_wp2_with fail
  clear NB g7 g8 lg hs2 c1 ls
  generalize W.alloc (.cells #[.int .i64 t.lag.lo, .int .i64 t.lag.hi] 3) = W1 at *
  refine wp_loop (fun a W => Rel (fun a W => ∃ j : Nat, j ≤ 2 ∧ BdW #[.int .i64 t.g.base, .slice Ab t.g.bands.length cb, .slice Ad t.g.depths.length cd, .int .i64 t.g.blo, .int .i64 t.g.bhi, .int .i64 t.k.lo, .int .i64 t.k.hi, .int .i64 t.lag.lo, .int .i64 t.lag.hi, .int .i64 t.sq.lo, .int .i64 t.sq.hi, .int .i64 t.term, .int .i64 r.day, .int .i64 r.shown, .int .i64 r.err, .int .i64 r.bare, .int .i64 r.air.lo, .int .i64 r.air.hi, .int .i64 r.rate.lo, .int .i64 r.rate.hi, .int .i64 r.deep, .bool r.broken] (spanAt t r) w p1 pr pf po (8 * i + 4 * j) W ∧ Blk W s1 3 #[.int .i64 t.k.lo, .int .i64 t.k.hi] ∧ Blk W s2 3 #[.int .i64 t.lag.lo, .int .i64 t.lag.hi] ∧ ∃ u : Nat → Value, a = ⟨List.toArray (u 0 :: .pointer (some ⟨p1, 0, none⟩) :: .pointer (some ⟨pr, 0, none⟩) :: .pointer (some ⟨pf, 0, none⟩) :: .pointer (some ⟨po, 0, none⟩) :: .func (.func 120) #[] #[.pointer (some ⟨pf, 0, none⟩), .pointer (some ⟨po, 0, none⟩)] :: u 6 :: .int .i64 (endOf t.k i) :: u 8 :: u 9 :: u 10 :: u 11 :: u 12 :: u 13 :: u 14 :: u 15 :: u 16 :: u 17 :: u 18 :: u 19 :: u 20 :: .slice (some ⟨s1, 0, none⟩) 2 2 :: .int .i64 2 :: .int .i64 (i : Int) :: u 24 :: u 25 :: u 26 :: u 27 :: u 28 :: u 29 :: u 30 :: u 31 :: u 32 :: u 33 :: u 34 :: .slice (some ⟨s2, 0, none⟩) 2 2 :: .int .i64 2 :: .int .i64 (j : Int) :: u 38 :: u 39 :: u 40 :: u 41 :: u 42 :: u 43 :: u 44 :: u 45 :: u 46 :: u 47 :: u 48 :: u 49 :: u 50 :: u 51 :: u 52 :: u 53 :: u 54 :: u 55 :: u 56 :: u 57 :: u 58 :: u 59 :: u 60 :: u 61 :: u 62 :: u 63 :: u 64 :: u 65 :: u 66 :: u 67 :: u 68 :: u 69 :: u 70 :: u 71 :: u 72 :: u 73 :: u 74 :: u 75 :: u 76 :: u 77 :: u 78 :: u 79 :: u 80 :: u 81 :: u 82 :: []), []⟩) a W)
   (fun a _ => 2 - (intOf (a.tmps.getD 37 undef)).toNat) ⟨⟨0, by omega, HB, z1, z2, exFrame (by kernel_rfl)⟩⟩ ?_
  clear HB z1 z2 W1
  rintro a W ⟨⟨j, hj, HB, z1, z2, u, rfl⟩⟩
  by_cases hlj : j < 2
  ·
   have c2 := two_cell z2 hlj
   have g9 := HB.q1.cell 9
   have g10 := HB.q1.cell 10
   have lg := HB.q1.lt
   have ls := z2.lt
   simp at g9 g10
   have NB := ex_alloc (Below.refl W.heap.size W) (.cells #[.int .i64 t.sq.lo, .int .i64 t.sq.hi] 3)
   have z3 : Blk (W.alloc (.cells #[.int .i64 t.sq.lo, .int .i64 t.sq.hi] 3)) W.heap.size 3 #[.int .i64 t.sq.lo, .int .i64 t.sq.hi] := Blk.new _ _ _
   have hn3 : ¬ (W.heap.size = pf ∨ W.heap.size = po) := by have := HB.qf.lt; have := HB.qo.lt; omega
   replace HB := HB.go NB
   replace z1 := z1.below NB z1.lt
   replace z2 := z2.below NB z2.lt
   obtain ⟨s3, hs3⟩ : ∃ p, W.heap.size = p := ⟨_, rfl⟩
   rw [hs3] at z3 hn3
   go_wp2_with fail
   clear NB g9 g10 lg hs3 c2 ls
   generalize W.alloc (.cells #[.int .i64 t.sq.lo, .int .i64 t.sq.hi] 3) = W1 at *
   refine wp_loop (fun a W => Rel (fun a W => ∃ k : Nat, k ≤ 2 ∧ BdW #[.int .i64 t.g.base, .slice Ab t.g.bands.length cb, .slice Ad t.g.depths.length cd, .int .i64 t.g.blo, .int .i64 t.g.bhi, .int .i64 t.k.lo, .int .i64 t.k.hi, .int .i64 t.lag.lo, .int .i64 t.lag.hi, .int .i64 t.sq.lo, .int .i64 t.sq.hi, .int .i64 t.term, .int .i64 r.day, .int .i64 r.shown, .int .i64 r.err, .int .i64 r.bare, .int .i64 r.air.lo, .int .i64 r.air.hi, .int .i64 r.rate.lo, .int .i64 r.rate.hi, .int .i64 r.deep, .bool r.broken] (spanAt t r) w p1 pr pf po (8 * i + 4 * j + 2 * k) W ∧ Blk W s1 3 #[.int .i64 t.k.lo, .int .i64 t.k.hi] ∧ Blk W s2 3 #[.int .i64 t.lag.lo, .int .i64 t.lag.hi] ∧ Blk W s3 3 #[.int .i64 t.sq.lo, .int .i64 t.sq.hi] ∧ ∃ u : Nat → Value, a = ⟨List.toArray (u 0 :: .pointer (some ⟨p1, 0, none⟩) :: .pointer (some ⟨pr, 0, none⟩) :: .pointer (some ⟨pf, 0, none⟩) :: .pointer (some ⟨po, 0, none⟩) :: .func (.func 120) #[] #[.pointer (some ⟨pf, 0, none⟩), .pointer (some ⟨po, 0, none⟩)] :: u 6 :: .int .i64 (endOf t.k i) :: u 8 :: .int .i64 (endOf t.lag j) :: u 10 :: u 11 :: u 12 :: u 13 :: u 14 :: u 15 :: u 16 :: u 17 :: u 18 :: u 19 :: u 20 :: .slice (some ⟨s1, 0, none⟩) 2 2 :: .int .i64 2 :: .int .i64 (i : Int) :: u 24 :: u 25 :: u 26 :: u 27 :: u 28 :: u 29 :: u 30 :: u 31 :: u 32 :: u 33 :: u 34 :: .slice (some ⟨s2, 0, none⟩) 2 2 :: .int .i64 2 :: .int .i64 (j : Int) :: u 38 :: u 39 :: u 40 :: u 41 :: u 42 :: u 43 :: u 44 :: u 45 :: u 46 :: u 47 :: u 48 :: .slice (some ⟨s3, 0, none⟩) 2 2 :: .int .i64 2 :: .int .i64 (k : Int) :: u 52 :: u 53 :: u 54 :: u 55 :: u 56 :: u 57 :: u 58 :: u 59 :: u 60 :: u 61 :: u 62 :: u 63 :: u 64 :: u 65 :: u 66 :: u 67 :: u 68 :: u 69 :: u 70 :: u 71 :: u 72 :: u 73 :: u 74 :: u 75 :: u 76 :: u 77 :: u 78 :: u 79 :: u 80 :: u 81 :: u 82 :: []), []⟩) a W)
    (fun a _ => 2 - (intOf (a.tmps.getD 51 undef)).toNat) ⟨⟨0, by omega, HB, z1, z2, z3, exFrame (by kernel_rfl)⟩⟩ ?_
   clear HB z1 z2 z3 W1
   rintro a W ⟨⟨k, hk, HB, z1, z2, z3, u, rfl⟩⟩
   by_cases hlk : k < 2
   ·
    have c3 := two_cell z3 hlk
    have g18 := HB.q1.cell 18
    have g19 := HB.q1.cell 19
    have lg := HB.q1.lt
    have ls := z3.lt
    simp at g18 g19
    have HK : KiBd ⟨endOf t.k i, endOf t.lag j, endOf t.sq k⟩ := by
     have := enK_in ht (8 * i + 4 * j + 2 * k + 0)
     rw [enK_at t hlt hlj hlk (by omega)] at this
     exact this.bd ht
    have hr1 : -20 ≤ r.rate.lo ∧ r.rate.lo ≤ 20 := by have := hr.rate; omega
    have hr2 : -20 ≤ r.rate.hi ∧ r.rate.hi ≤ 20 := by have := hr.rate; omega
    have E1 := (spanAt_at t r hlt hlj hlk (show 0 < 2 by omega)).symm
    have E2 := (spanAt_at t r hlt hlj hlk (show 1 < 2 by omega)).symm
    have HE1 := Lib.hid E1
    have HE2 := Lib.hid E2
    clear E1 E2
    go_wp2_with (refine pause_at 56 rfl ?_)
    refine Paused.mk ?_
    refine wpList_load_row rfl 170 _ rfl _ rfl 170 _ (0, 0) _ (HB.q1) Tryz.underlying170 rfl (by kernel_rfl) ?_
    go_wp2_with fail
    refine (sm_span t Ab Ad cb cd r ⟨endOf t.k i, endOf t.lag j, endOf t.sq k⟩ r.rate.lo _ hr HK hr1).mono ?_
    rintro e Y1 ⟨rfl, hY1⟩
    replace HB := HB.go hY1
    replace z1 := z1.below hY1 z1.lt
    replace z2 := z2.below hY1 z2.lt
    replace z3 := z3.below hY1 z3.lt
    go_wp2_with fail
    refine (sm_add _ _ _ _ _ pf po _ HB.n3 HB.qf HB.qo).mono ?_
    rintro e Z1 ⟨rfl, hf1, ho1, hF1⟩
    replace HB := HB.add _ HE1.out hf1 ho1 hF1
    replace z1 := z1.fr hF1 hn1
    replace z2 := z2.fr hF1 hn2
    replace z3 := z3.fr hF1 hn3
    clear hf1 ho1
    clear g18 g19 lg ls c3
    have g18 := HB.q1.cell 18
    have g19 := HB.q1.cell 19
    have lg := HB.q1.lt
    simp at g18 g19
    go_wp2_with (refine pause_at 68 rfl ?_)
    refine Paused.mk ?_
    refine wpList_load_row rfl 170 _ rfl _ rfl 170 _ (0, 0) _ (HB.q1) Tryz.underlying170 rfl (by kernel_rfl) ?_
    go_wp2_with fail
    refine (sm_span t Ab Ad cb cd r ⟨endOf t.k i, endOf t.lag j, endOf t.sq k⟩ r.rate.hi _ hr HK hr2).mono ?_
    rintro e Y2 ⟨rfl, hY2⟩
    replace HB := HB.go hY2
    replace z1 := z1.below hY2 z1.lt
    replace z2 := z2.below hY2 z2.lt
    replace z3 := z3.below hY2 z3.lt
    go_wp2_with fail
    refine (sm_add _ _ _ _ _ pf po _ HB.n3 HB.qf HB.qo).mono ?_
    rintro e Z2 ⟨rfl, hf1, ho1, hF1⟩
    replace HB := HB.add _ HE2.out hf1 ho1 hF1
    replace z1 := z1.fr hF1 hn1
    replace z2 := z2.fr hF1 hn2
    replace z3 := z3.fr hF1 hn3
    clear hf1 ho1
    go_wp2_with fail
    refine ⟨⟨⟨k + 1, by omega, HB, z1, z2, z3, exFrame (by kernel_rfl)⟩⟩, ?_⟩
    show 2 - (intOf (.int .i64 ((k : Int) + 1))).toNat < 2 - (intOf (.int .i64 (k : Int))).toNat
    simp [intOf]
    omega
   ·
    have hkk : k = 2 := by omega
    subst hkk
    go_wp2_with fail
    refine ⟨⟨⟨j + 1, by omega, HB, z1, z2, exFrame (by kernel_rfl)⟩⟩, ?_⟩
    show 2 - (intOf (.int .i64 ((j : Int) + 1))).toNat < 2 - (intOf (.int .i64 (j : Int))).toNat
    simp [intOf]
    omega
  ·
   have hjj : j = 2 := by omega
   subst hjj
   go_wp2_with fail
   refine ⟨⟨⟨i + 1, by omega, HB, z1, exFrame (by kernel_rfl)⟩⟩, ?_⟩
   show 2 - (intOf (.int .i64 ((i : Int) + 1))).toNat < 2 - (intOf (.int .i64 (i : Int))).toNat
   simp [intOf]
   omega
 ·
  have hii : i = 2 := by omega
  subst hii
  have o0 := HB.qo.cell 0
  have o1 := HB.qo.cell 1
  have r0 := HB.qr.cell 0
  have r1 := HB.qr.cell 1
  have fr := HB.qr.frozen0
  have lr := HB.qr.lt
  have lo' := HB.qo.lt
  simp at o0 o1 r0 r1
  skip
  have m3 := (HB.qr.set_ 0 (.int .i64 (accTo (spanAt t r) (8 * 2)).lo)).set_ 1 (.int .i64 (accTo (spanAt t r) (8 * 2)).hi)
  simp only [List.setIfInBounds_toArray, List.set_cons_zero, List.set_cons_succ] at m3
  go_wp2
  refine bodyPost_ret (results_cell_row rfl _ _ _ 41 #[.int .i64 (accTo (spanAt t r) (8 * 2)).lo, .int .i64 (accTo (spanAt t r) (8 * 2)).hi] (0, 0) _ rfl m3 rfl rfl rfl) rfl ?_
  exact ⟨rfl, ex_set (p := ⟨pr, 1, none⟩) (ex_set (p := ⟨pr, 0, none⟩) HB.b HB.ob _) HB.ob _⟩

end Go.Proofs.YtkaogjhnogkcdaaGreat
end

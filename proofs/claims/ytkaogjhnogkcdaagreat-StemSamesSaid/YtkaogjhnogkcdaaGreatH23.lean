/- The reference's Zeros (walk). · The law's ended (walk): the truth of the ends. · What Stem's walks go out from: Glass' base (this text stands in place of wip/kit's KC, so that the kit's texts lie on Glass' own). · Maps with keys of any one type, as the program makes them (no key is ever taken out or laid anew): the runs of their operations. · Maps by what is at each key: any key may be laid anew. · Maps whose keys are told apart once: a range over one. · Mixed regions in the body of a range over a function. · A tree of orders in the body of a range over a function. -/
import Derived.Test.YtkaogjhnogkcdaaGreatH22
import Derived.Test.YtkaogjhnogkcdaaGreatH13
import Derived.Test.YtkaogjhnogkcdaaGreatH12
import Derived.Test.YtkaogjhnogkcdaaGreatH9
import Derived.Test.YtkaogjhnogkcdaaGreatH11
import Derived.Test.YtkaogjhnogkcdaaGreatH15
import Derived.Test.YtkaogjhnogkcdaaGreatH6
set_option linter.unusedVariables false
set_option linter.unusedSimpArgs false
set_option linter.unusedSectionVars false
section
namespace Go.Proofs.YtkaogjhnogkcdaaGreat
open Go.RowKit
attribute [local go_sem] Ex.cell? Ex.frozen?

theorem run_build_rangeR (a b : Int) (W : World) : (Instr.build 25 #[(0, .int .i64 a), (1, .int .i64 b)]).run Tryz.prog W = .ok (.agg #[.int .i64 a, .int .i64 b]) W := by
  kernel_rfl
theorem rangeR_info : (Tryz.prog.info? 25).map (fun i => (i.zero, i.size, i.bytes)) = some (some (.agg #[.int .i64 0, .int .i64 0]), 2, 16) := by kernel_rfl
theorem run_make_rangesR (n : Nat) (hn : n ≤ 16) : ∃ oc : Array Value, oc.size = n * 2 ∧ ∀ W : World, (Instr.makeSlice 30 (.int .i64 (n : Int)) (.int .i64 (n : Int))).run Tryz.prog W = .ok (.slice (some ⟨W.heap.size, 0, none⟩) n n) (W.alloc (.cells oc 25)) := by
  obtain ⟨i0, hi0, hz0, hz1, hz2⟩ := info_parts rangeR_info
  refine ⟨_, ?_, fun W => by
    have := run_makeSlice (P := Tryz.prog) (w := W) 30 25 i0 _ Tryz.underlying30 hi0 hz0 .i64 .i64 (n : Int) (n : Int) (by omega) (by omega) (by rw [hz1, Int.toNat_natCast]; omega) (by rw [hz2]; omega) (by omega)
    rw [Int.toNat_natCast, hz1] at this
    exact this⟩
  simp [madeCells]

def updv (M : Nat → Nat → Nat → Bool) (d r s : Nat) (b : Bool) : Nat → Nat → Nat → Bool := fun d' r' s' => if d' = d ∧ r' = r ∧ s' = s then b else M d' r' s'
theorem MapAt.setv {W : World} {q : Nat} {M : Nat → Nat → Nat → Bool} (h : MapAt W q M) {d r s : Nat} (b : Bool) (hd : d < 17) (hr : r < 52) (hs : s < 31) : MapAt (W.setCell ⟨q, d * 1612 + r * 31 + s, none⟩ (.bool b)) q (updv M d r s b) := by
  obtain ⟨cs, h1, h2, h3⟩ := h
  refine ⟨cs.setIfInBounds (d * 1612 + r * 31 + s) (.bool b), h1.set_ _ _, by simpa using h2, fun d' r' s' hd' hr' hs' => ?_⟩
  rw [Array.getElem?_setIfInBounds]
  by_cases he : d' = d ∧ r' = r ∧ s' = s
  · obtain ⟨rfl, rfl, rfl⟩ := he
    rw [if_pos rfl, if_pos (by omega)]
    simp [updv]
  · rw [if_neg (by omega), h3 d' r' s' hd' hr' hs']
    simp [updv, he]
theorem MapAt.zero (W : World) : MapAt (W.alloc (.cells Tryz.zeroCells128 128)) W.heap.size (fun _ _ _ => false) := by
  obtain ⟨h1, h2⟩ := chkF_iff zc_ok
  have h1' : Tryz.zeroCells128.size = 27404 := by rw [← Array.length_toList]; exact h1
  generalize Tryz.zeroCells128 = zc at *
  refine ⟨_, Blk.new _ _ _, h1', fun d r s hd hr hs => ?_⟩
  have hk : d * 1612 + r * 31 + s < zc.size := by omega
  rw [Array.getElem?_eq_getElem hk, h2 zc[d * 1612 + r * 31 + s] (by simp)]
theorem MapAt.fr {R : Nat → Prop} {W W' : World} {q : Nat} {M : Nat → Nat → Nat → Bool} (h : MapAt W q M) (hf : Fr R W W') (hn : ¬ R q) : MapAt W' q M := by
  obtain ⟨cs, h1, h2⟩ := h
  exact ⟨cs, h1.fr hf hn, h2⟩

def ZBl (W : World) (z n d : Nat) (zf : Nat → Rg) : Prop := ∃ oc, Blk W z 25 oc ∧ oc.size = n * 2 ∧ ∀ i, d ≤ i → i < n → oc[i * 2]? = some (.int .i64 (zf i).lo) ∧ oc[i * 2 + 1]? = some (.int .i64 (zf i).hi)
def updz (zf : Nat → Rg) (i : Nat) (r : Rg) : Nat → Rg := fun j => if j = i then r else zf j
theorem ZBl.lt {W : World} {z n d : Nat} {zf : Nat → Rg} (h : ZBl W z n d zf) : z < W.heap.size := by obtain ⟨_, h1, _⟩ := h; exact h1.lt
theorem ZBl.below {W W' : World} {z n d : Nat} {zf : Nat → Rg} (h : ZBl W z n d zf) (hb : Below W.heap.size W W') : ZBl W' z n d zf := by obtain ⟨oc, h1, h2⟩ := h; exact ⟨oc, h1.below hb h1.lt, h2⟩
theorem ZBl.fr {R : Nat → Prop} {W W' : World} {z n d : Nat} {zf : Nat → Rg} (h : ZBl W z n d zf) (hf : Fr R W W') (hn : ¬ R z) : ZBl W' z n d zf := by obtain ⟨oc, h1, h2⟩ := h; exact ⟨oc, h1.fr hf hn, h2⟩
theorem ZBl.frozen {W : World} {z n d : Nat} {zf : Nat → Rg} (h : ZBl W z n d zf) (i : Nat) : W.frozen? ⟨z, i, none⟩ = false := by obtain ⟨_, h1, _⟩ := h; exact h1.frozen i
theorem ZBl.cell {W : World} {z n d : Nat} {zf : Nat → Rg} (h : ZBl W z n d zf) {i : Nat} (h1 : d ≤ i) (h2 : i < n) : W.cell? ⟨z, i * 2, none⟩ = some (.int .i64 (zf i).lo) ∧ W.cell? ⟨z, i * 2 + 1, none⟩ = some (.int .i64 (zf i).hi) := by
  obtain ⟨oc, hb, _, hc⟩ := h
  rw [hb.cell, hb.cell]
  exact hc i h1 h2
theorem ZBl.any2 {W : World} {z n d : Nat} {zf : Nat → Rg} (h : ZBl W z n d zf) {i : Nat} (h2 : i < n) : ∃ u v, W.cell? ⟨z, i * 2, none⟩ = some u ∧ W.cell? ⟨z, i * 2 + 1, none⟩ = some v := by
  obtain ⟨oc, hb, hs, hc⟩ := h
  rw [hb.cell, hb.cell]
  exact ⟨oc[i * 2]'(by omega), oc[i * 2 + 1]'(by omega), Array.getElem?_eq_getElem (by omega), Array.getElem?_eq_getElem (by omega)⟩
theorem ZBl.set {W : World} {z n d : Nat} {zf : Nat → Rg} (h : ZBl W z n d zf) {i : Nat} (hi : i < n) (hd : d ≤ i + 1) (a b : Int) : ZBl ((W.setCell ⟨z, i * 2, none⟩ (.int .i64 a)).setCell ⟨z, i * 2 + 1, none⟩ (.int .i64 b)) z n (min d i) (updz zf i ⟨a, b⟩) := by
  obtain ⟨oc, h1, h2, h3⟩ := h
  refine ⟨_, (h1.set_ (i * 2) (.int .i64 a)).set_ (i * 2 + 1) (.int .i64 b), by simpa using h2, fun j hj hjn => ?_⟩
  simp only [Array.getElem?_setIfInBounds, Array.size_setIfInBounds]
  unfold updz
  by_cases hij : j = i
  · subst hij
    rw [if_pos rfl, if_neg (by omega), if_pos rfl, if_pos (by omega), if_pos rfl, if_pos (by omega)]
    exact ⟨rfl, rfl⟩
  · rw [if_neg hij, if_neg (by omega), if_neg (by omega), if_neg (by omega), if_neg (by omega)]
    exact h3 j (by omega) hjn
structure ZSt (gc : Array Value) (w : World) (q z gb n d : Nat) (M G : Nat → Nat → Nat → Bool) (zf : Nat → Rg) (W : World) : Prop where
  bw : Below w.heap.size w W
  qg : Blk W w.heap.size 27 gc
  mp : MapAt W q M
  gp : MapAt W gb G
  zp : ZBl W z n d zf
  o2 : q < z
  o3 : z < gb
  o1 : w.heap.size < z
section
variable {gc : Array Value} {w : World} {q z gb n d : Nat} {M G : Nat → Nat → Nat → Bool} {zf : Nat → Rg} {W W' : World}
theorem ZSt.below (h : ZSt gc w q z gb n d M G zf W) (hb : Below W.heap.size W W') : ZSt gc w q z gb n d M G zf W' := ⟨ex_trans h.bw hb, h.qg.below hb h.qg.lt, h.mp.below hb, h.gp.below hb, h.zp.below hb, h.o2, h.o3, h.o1⟩
theorem ZSt.setG (h : ZSt gc w q z gb n d M G zf W) {e r s : Nat} (b : Bool) (hd : e < 17) (hr : r < 52) (hs : s < 31) : ZSt gc w q z gb n d M (updv G e r s b) zf (W.setCell ⟨gb, e * 1612 + r * 31 + s, none⟩ (.bool b)) := by
  have hf : Fr (fun b => b = gb) W (W.setCell ⟨gb, e * 1612 + r * 31 + s, none⟩ (.bool b)) := (Fr.refl (fun b => b = gb) W).andSet rfl
  have o1 := h.o1
  have o2 := h.o2
  have o3 := h.o3
  exact ⟨hf.toBelow h.bw h.bw.size (fun x hx => by omega), h.qg.fr hf (by omega), h.mp.fr hf (by omega), h.gp.setv b hd hr hs, h.zp.fr hf (by omega), o2, o3, o1⟩
theorem ZSt.setZ (h : ZSt gc w q z gb n d M G zf W) {i : Nat} (hi : i < n) (hd : d ≤ i + 1) (a b : Int) : ZSt gc w q z gb n (min d i) M G (updz zf i ⟨a, b⟩) ((W.setCell ⟨z, i * 2, none⟩ (.int .i64 a)).setCell ⟨z, i * 2 + 1, none⟩ (.int .i64 b)) := by
  have hf : Fr (fun b => b = z) W ((W.setCell ⟨z, i * 2, none⟩ (.int .i64 a)).setCell ⟨z, i * 2 + 1, none⟩ (.int .i64 b)) := ((Fr.refl (fun b => b = z) W).andSet rfl).andSet rfl
  have o1 := h.o1
  have o2 := h.o2
  have o3 := h.o3
  exact ⟨hf.toBelow h.bw h.bw.size (fun x hx => by omega), h.qg.fr hf (by omega), h.mp.fr hf (by omega), h.gp.fr hf (by omega), h.zp.set hi hd a b, o2, o3, o1⟩
end
def Copied (n : Nat) (M G : Nat → Nat → Nat → Bool) (r s : Nat) : Prop := (∀ e r' s', e ≠ n → G e r' s' = false) ∧ ∀ r' s', r' < r ∨ (r' = r ∧ s' < s) → s' < 31 → G n r' s' = M n r' s'
theorem copied_step {n r s : Nat} {M G : Nat → Nat → Nat → Bool} (h : Copied n M G r s) : Copied n M (updv G n r s (M n r s)) r (s + 1) := by
  refine ⟨fun e r' s' he => by unfold updv; rw [if_neg (fun k => he k.1)]; exact h.1 e r' s' he, fun r' s' hk hs => ?_⟩
  unfold updv
  by_cases he : r' = r ∧ s' = s
  · obtain ⟨rfl, rfl⟩ := he
    rw [if_pos ⟨rfl, rfl, rfl⟩]
  · rw [if_neg (fun k => he k.2)]
    exact h.2 r' s' (by omega) hs
theorem copied_row {n r : Nat} {M G : Nat → Nat → Nat → Bool} (h : Copied n M G r 31) : Copied n M G (r + 1) 0 := ⟨h.1, fun r' s' hk hs => h.2 r' s' (by omega) hs⟩
theorem gone_last {g : Gl} {h : List Rg} {l : List Ic} {o : Nat → Bool} {M G : Nat → Nat → Nat → Bool} (hM : Known g h l o M h.length) (hc : Copied h.length M G 52 0) : Gone g h l o G h.length ∧ Void G h.length := by
  refine ⟨fun e' r s h1 h2 hr hs => ?_, fun e' r s he => hc.1 e' r s (by omega)⟩
  obtain rfl : e' = h.length := by omega
  rw [hc.2 r s (.inl hr) hs, Nat.sub_self]
  exact hM h.length r s (Nat.le_refl _) hr hs
def bN (n : Nat) : Bool := n != 0
def DZ (g : Gl) (h : List Rg) (l : List Ic) (o : Nat → Bool) (d : Nat) (zf : Nat → Rg) (is : Bool) : Prop :=
  (is = true → agreeB g h l o = true) ∧ (agreeB g h l o = true → (d < h.length → is = true) ∧ ∀ i, d ≤ i → i < h.length → EndsOf (fun z => ∃ s, Goes g h l o (h.length - 1 - i) (i + 1) s ∧ z = zero g s) (zf i).lo (zf i).hi)

structure ZD (gc : Array Value) (w : World) (q z gb n d : Nat) (M G : Nat → Nat → Nat → Bool) (zf : Nat → Rg) (pc : Nat) (cl chi : Int) (v : Value) (D : List Int) (W : World) : Prop where
  zs : ZSt gc w q z gb n d M G zf W
  qc : Blk W pc 25 #[.int .i64 cl, .int .i64 chi]
  ow : W.ownsRow (gb + 1) 3 1 v D.length (D.map (Value.int .i64))
  op : gb < pc
section
variable {gc : Array Value} {w : World} {q z gb n d : Nat} {M G : Nat → Nat → Nat → Bool} {zf : Nat → Rg} {pc : Nat} {cl chi : Int} {v : Value} {D : List Int} {W W' : World}
theorem MapAt.blk {W : World} {q : Nat} {M : Nat → Nat → Nat → Bool} (h : MapAt W q M) : ∃ cs, Blk W q 128 cs := by obtain ⟨cs, h1, _⟩ := h; exact ⟨cs, h1⟩
theorem ZBl.blk {W : World} {z n d : Nat} {zf : Nat → Rg} (h : ZBl W z n d zf) : ∃ cs, Blk W z 25 cs := by obtain ⟨cs, h1, _⟩ := h; exact ⟨cs, h1⟩
theorem ZD.below (h : ZD gc w q z gb n d M G zf pc cl chi v D W) (hb : Below W.heap.size W W') : ZD gc w q z gb n d M G zf pc cl chi v D W' := ⟨h.zs.below hb, h.qc.below hb h.qc.lt, own_below h.ow hb, h.op⟩
theorem ZD.setG (h : ZD gc w q z gb n d M G zf pc cl chi v D W) {e r s : Nat} (hd : e < 17) (hr : r < 52) (hs : s < 31) : ZD gc w q z gb n d M (upd G e r s) zf pc cl chi v D (W.setCell ⟨gb, e * 1612 + r * 31 + s, none⟩ (.bool true)) := by
  have hf : Fr (fun b => b = gb) W (W.setCell ⟨gb, e * 1612 + r * 31 + s, none⟩ (.bool true)) := (Fr.refl (fun b => b = gb) W).andSet rfl
  have op := h.op
  obtain ⟨cs, hb⟩ := h.zs.gp.blk
  exact ⟨h.zs.setG true hd hr hs, h.qc.fr hf (by omega), own_fr h.ow hf (fun b hb' e => own_blkne h.ow hb (by decide) (e ▸ hb')), op⟩
theorem ZD.setZ (h : ZD gc w q z gb n d M G zf pc cl chi v D W) {i : Nat} (hi : i < n) (hd : d ≤ i + 1) (a b : Int) : ZD gc w q z gb n (min d i) M G (updz zf i ⟨a, b⟩) pc cl chi v D ((W.setCell ⟨z, i * 2, none⟩ (.int .i64 a)).setCell ⟨z, i * 2 + 1, none⟩ (.int .i64 b)) := by
  have hf : Fr (fun b => b = z) W ((W.setCell ⟨z, i * 2, none⟩ (.int .i64 a)).setCell ⟨z, i * 2 + 1, none⟩ (.int .i64 b)) := ((Fr.refl (fun b => b = z) W).andSet rfl).andSet rfl
  have op := h.op
  have o3 := h.zs.o3
  obtain ⟨cs, hb⟩ := h.zs.zp.blk
  exact ⟨h.zs.setZ hi hd a b, h.qc.fr hf (by omega), own_fr h.ow hf (fun b hb' e => own_blkne h.ow hb (by decide) (e ▸ hb')), op⟩
theorem ZD.fill {c0 c1 : Value} (ha : ZSt gc w q z gb n d M G zf W) (hc : Blk W pc 25 #[c0, c1]) (ho : W.ownsRow (gb + 1) 3 1 v D.length (D.map (Value.int .i64))) (hp : gb < pc) :
    ZD gc w q z gb n d M G zf pc cl chi v D ((W.setCell ⟨pc, 0, none⟩ (.int .i64 cl)).setCell ⟨pc, 1, none⟩ (.int .i64 chi)) := by
  have hf : Fr (fun b => b = pc) W ((W.setCell ⟨pc, 0, none⟩ (.int .i64 cl)).setCell ⟨pc, 1, none⟩ (.int .i64 chi)) := ((Fr.refl (fun b => b = pc) W).andSet rfl).andSet rfl
  have o1 := ha.o1
  have o2 := ha.o2
  have o3 := ha.o3
  have hq := (hc.set_ 0 (.int .i64 cl)).set_ 1 (.int .i64 chi)
  simp only [List.setIfInBounds_toArray, List.set_cons_zero, List.set_cons_succ] at hq
  exact ⟨⟨hf.toBelow ha.bw ha.bw.size (fun x hx => by omega), ha.qg.fr hf (by omega), ha.mp.fr hf (by omega), ha.gp.fr hf (by omega), ha.zp.fr hf (by omega), o2, o3, o1⟩, hq, own_fr ho hf (fun b hb' e => own_blkne ho hc (by decide) (e ▸ hb')), hp⟩
end
theorem updz_updz {zf : Nat → Rg} {i : Nat} {a b : Rg} : updz (updz zf i a) i b = updz zf i b := by
  funext j; unfold updz; split <;> rfl
theorem updz_self {zf : Nat → Rg} {i : Nat} {a : Rg} : updz zf i a i = a := by unfold updz; rw [if_pos rfl]
theorem upd_row {G : Nat → Nat → Nat → Bool} {e x y : Nat} : upd G e x y (e + 1) = G (e + 1) := by
  funext r s; exact upd_off (by omega)
theorem dz_day {g : Gl} {h : List Rg} {l : List Ic} {o : Nat → Bool} (hok : Ok g h) {G : Nat → Nat → Nat → Bool} {e : Nat} (he : e < h.length) (hk : Gone g h l o G (e + 1)) {zf : Nat → Rg} {is0 is : Bool} (hz : DZ g h l o (e + 1) zf is0) {lo hi : Int}
    (hs : is = true → agreeB g h l o = true) (p : ZR g (G (e + 1)) 52 0 is lo hi) : DZ g h l o e (updz zf e ⟨lo, hi⟩) is := by
  refine ⟨hs, fun ha => ?_⟩
  obtain ⟨h1, h2⟩ := p.day hok he hk ha
  refine ⟨fun _ => h1, fun i hi1 hi2 => ?_⟩
  rcases Nat.eq_or_lt_of_le hi1 with rfl | hlt
  · rw [updz_self]; exact h2
  · have : updz zf e ⟨lo, hi⟩ i = zf i := by unfold updz; rw [if_neg (by omega)]
    rw [this]
    exact (hz.2 ha).2 i (by omega) hi2
set_option maxRecDepth 100000 in
def DQz (g : Gl) (Ab Ad Ah Ai Ao : Option Addr) (cb cd ch ci co : Nat) (h : List Rg) (l : List Ic) (out : List Int) (w : World) (q z gb d0 e : Nat) (M G : Nat → Nat → Nat → Bool) (zf : Nat → Rg) (is : Nat) (ex : Exit) (a' : Act) (W' : World) : Prop :=
  ex = .normal ∧ ∃ pc Ad' cd' D, ZD #[.int .i64 g.base, .slice Ab g.bands.length cb, .slice Ad g.depths.length cd, .int .i64 g.blo, .int .i64 g.bhi] w q z gb h.length d0 M G zf pc (creepTo g.bands (e : Int) g.bands.length).lo (creepTo g.bands (e : Int) g.bands.length).hi (.slice Ad' (D : List Int).length cd') D W' ∧ Hid (DeepIs g (gR h e).lo ((gR h e).hi - (gR h e).lo + 1).toNat D) ∧ ∃ u : Nat → Value, a' = ⟨List.toArray (u 0 :: .slice Ah h.length ch :: .slice Ai l.length ci :: .slice Ao out.length co :: .pointer (some ⟨w.heap.size, 0, none⟩) :: u 5 :: u 6 :: u 7 :: u 8 :: u 9 :: .pointer (some ⟨q, 0, none⟩) :: .int .i64 (h.length : Int) :: .slice (some ⟨z, 0, none⟩) h.length h.length :: .pointer (some ⟨gb, 0, none⟩) :: u 14 :: u 15 :: .bool (bN is) :: .int .i64 ((e : Int) + 1) :: .pointer (some ⟨pc, 0, none⟩) :: .slice Ad' D.length cd' :: u 20 :: u 21 :: u 22 :: u 23 :: u 24 :: u 25 :: u 26 :: u 27 :: u 28 :: u 29 :: u 30 :: u 31 :: u 32 :: u 33 :: u 34 :: u 35 :: u 36 :: u 37 :: u 38 :: u 39 :: u 40 :: u 41 :: u 42 :: u 43 :: u 44 :: u 45 :: u 46 :: u 47 :: u 48 :: u 49 :: u 50 :: u 51 :: u 52 :: u 53 :: u 54 :: u 55 :: u 56 :: u 57 :: u 58 :: u 59 :: u 60 :: u 61 :: u 62 :: u 63 :: u 64 :: u 65 :: u 66 :: u 67 :: u 68 :: u 69 :: u 70 :: u 71 :: u 72 :: u 73 :: u 74 :: u 75 :: u 76 :: u 77 :: u 78 :: u 79 :: u 80 :: u 81 :: u 82 :: u 83 :: u 84 :: u 85 :: u 86 :: u 87 :: u 88 :: u 89 :: u 90 :: u 91 :: u 92 :: u 93 :: u 94 :: u 95 :: u 96 :: u 97 :: u 98 :: u 99 :: u 100 :: u 101 :: u 102 :: u 103 :: u 104 :: u 105 :: u 106 :: u 107 :: u 108 :: u 109 :: u 110 :: u 111 :: u 112 :: u 113 :: u 114 :: u 115 :: u 116 :: u 117 :: u 118 :: u 119 :: u 120 :: u 121 :: u 122 :: u 123 :: u 124 :: u 125 :: u 126 :: u 127 :: u 128 :: u 129 :: u 130 :: u 131 :: u 132 :: u 133 :: u 134 :: u 135 :: u 136 :: u 137 :: u 138 :: u 139 :: u 140 :: u 141 :: u 142 :: u 143 :: u 144 :: u 145 :: u 146 :: u 147 :: u 148 :: u 149 :: u 150 :: u 151 :: u 152 :: u 153 :: u 154 :: u 155 :: u 156 :: u 157 :: u 158 :: u 159 :: u 160 :: u 161 :: u 162 :: u 163 :: u 164 :: u 165 :: u 166 :: u 167 :: u 168 :: []), []⟩

def ZrV (g : Gl) (h : List Rg) (l : List Ic) (o : Nat → Bool) (zs : List Rg) (is : Bool) : Prop :=
  is = agreeB g h l o ∧ zs.length = h.length ∧ (agreeB g h l o = true → ∀ i, i < h.length → EndsOf (fun z => ∃ s, Goes g h l o (h.length - 1 - i) (i + 1) s ∧ z = zero g s) (gR zs i).lo (gR zs i).hi)
theorem zr_done {g : Gl} {h : List Rg} {l : List Ic} {o : Nat → Bool} {zf : Nat → Rg} {is : Bool} (hz : DZ g h l o 0 zf is) (hp : 0 < h.length) {zs : List Rg} (hs : zs.length = h.length ∧ ∀ i, i < h.length → gR zs i = zf i) : ZrV g h l o zs is := by
  refine ⟨?_, hs.1, fun ha i hi => ?_⟩
  · cases ha : agreeB g h l o
    · cases hi : is
      · rfl
      · have := hz.1 hi; rw [ha] at this; cases this
    · exact (hz.2 ha).1 hp
  · rw [hs.2 i hi]; exact (hz.2 ha).2 i (by omega) hi
theorem ZBl.list {W : World} {z n : Nat} {zf : Nat → Rg} (h : ZBl W z n 0 zf) : (((List.range n).map zf).length = n ∧ ∀ i, i < n → gR ((List.range n).map zf) i = zf i) ∧ SlAt W W.heap.size 2 (some ⟨z, 0, none⟩) n (fR ((List.range n).map zf)) := by
  have e : ∀ i, i < n → gR ((List.range n).map zf) i = zf i := fun i hi => by simp [gR, hi]
  refine ⟨⟨by simp, e⟩, fun h0 => ⟨z, 0, rfl, h.lt, fun k j hk hj => ?_⟩⟩
  obtain ⟨c0, c1⟩ := h.cell (i := k) (by omega) hk
  match j, hj with
  | 0, _ => simp only [Nat.zero_add, Nat.add_zero, fR, e k hk]; exact c0
  | 1, _ => simp only [Nat.zero_add, fR, e k hk]; exact c1

set_option maxRecDepth 100000 in
def DQw (P : World → Prop) (x1 x2 x3 x4 x10 x11 x12 x13 x16 x17 x18 x19 x20 x21 x22 : Value) (ex : Exit) (a' : Act) (W' : World) : Prop :=
  ex = .normal ∧ P W' ∧ ∃ u : Nat → Value, a' = ⟨List.toArray (u 0 :: x1 :: x2 :: x3 :: x4 :: u 5 :: u 6 :: u 7 :: u 8 :: u 9 :: x10 :: x11 :: x12 :: x13 :: u 14 :: u 15 :: x16 :: x17 :: x18 :: x19 :: x20 :: x21 :: x22 :: u 23 :: u 24 :: u 25 :: u 26 :: u 27 :: u 28 :: u 29 :: u 30 :: u 31 :: u 32 :: u 33 :: u 34 :: u 35 :: u 36 :: u 37 :: u 38 :: u 39 :: u 40 :: u 41 :: u 42 :: u 43 :: u 44 :: u 45 :: u 46 :: u 47 :: u 48 :: u 49 :: u 50 :: u 51 :: u 52 :: u 53 :: u 54 :: u 55 :: u 56 :: u 57 :: u 58 :: u 59 :: u 60 :: u 61 :: u 62 :: u 63 :: u 64 :: u 65 :: u 66 :: u 67 :: u 68 :: u 69 :: u 70 :: u 71 :: u 72 :: u 73 :: u 74 :: u 75 :: u 76 :: u 77 :: u 78 :: u 79 :: u 80 :: u 81 :: u 82 :: u 83 :: u 84 :: u 85 :: u 86 :: u 87 :: u 88 :: u 89 :: u 90 :: u 91 :: u 92 :: u 93 :: u 94 :: u 95 :: u 96 :: u 97 :: u 98 :: u 99 :: u 100 :: u 101 :: u 102 :: u 103 :: u 104 :: u 105 :: u 106 :: u 107 :: u 108 :: u 109 :: u 110 :: u 111 :: u 112 :: u 113 :: u 114 :: u 115 :: u 116 :: u 117 :: u 118 :: u 119 :: u 120 :: u 121 :: u 122 :: u 123 :: u 124 :: u 125 :: u 126 :: u 127 :: u 128 :: u 129 :: u 130 :: u 131 :: u 132 :: u 133 :: u 134 :: u 135 :: u 136 :: u 137 :: u 138 :: u 139 :: u 140 :: u 141 :: u 142 :: u 143 :: u 144 :: u 145 :: u 146 :: u 147 :: u 148 :: u 149 :: u 150 :: u 151 :: u 152 :: u 153 :: u 154 :: u 155 :: u 156 :: u 157 :: u 158 :: u 159 :: u 160 :: u 161 :: u 162 :: u 163 :: u 164 :: u 165 :: u 166 :: u 167 :: u 168 :: []), []⟩

set_option maxRecDepth 100000 in
set_option maxHeartbeats 6400000 in
theorem ZerosR_any (g : Gl) (Ab Ad Ah Ai Ao : Option Addr) (cb cd ch ci co : Nat) (h : List Rg) (l : List Ic) (out : List Int) (w : World) (hg : GlIn w w.heap.size g Ab Ad) (hh : SlAt w w.heap.size 2 Ah h.length (fR h)) (hi : SlAt w w.heap.size 3 Ai l.length (fC l)) (ho : SlAt w w.heap.size 1 Ao out.length (fI out))
    (hok : Ok g h) (hbd : IcesBd l) (hl : l.length ≤ 1000000) (hol : out.length ≤ 1000000) :
    Calls Tryz.prog 24 #[.agg #[.int .i64 g.base, .slice Ab g.bands.length cb, .slice Ad g.depths.length cd, .int .i64 g.blo, .int .i64 g.bhi], .slice Ah h.length ch, .slice Ai l.length ci, .slice Ao out.length co] w fun e w' => (∃ A zs is, e = .returned (.tuple #[.slice A h.length h.length, .bool is]) ∧ Hid (ZrV g h l (fun j => hasB out (j : Int)) zs is) ∧ SlAt w' w'.heap.size 2 A h.length (fR zs)) ∧ Below w.heap.size w w' := by
  have hb1 := ex_alloc (Below.refl w.heap.size w) (.cells #[.int .i64 g.base, .slice Ab g.bands.length cb, .slice Ad g.depths.length cd, .int .i64 g.blo, .int .i64 g.bhi] 27)
  have q1 : Blk (w.alloc (.cells #[.int .i64 g.base, .slice Ab g.bands.length cb, .slice Ad g.depths.length cd, .int .i64 g.blo, .int .i64 g.bhi] 27)) w.heap.size 27 #[.int .i64 g.base, .slice Ab g.bands.length cb, .slice Ad g.depths.length cd, .int .i64 g.blo, .int .i64 g.bhi] := Blk.new _ _ _
  have hnh := hok.nh
  have HK := Lib.hid hok
  have hcr := fun d => hok.creep d
  have hbk := hok.back
  have hlb : g.bands.length ≤ 1000000 := by have := hok.nb; omega
  have hld : g.depths.length ≤ 1000000 := by have := hok.nd; omega
  obtain ⟨oc0, hoc0, hmks⟩ := run_make_rangesR h.length hnh.2
  go_enter Tryz.func24, Tryz.ntmps24
  go_wp2_with fail
  refine (Ahead_any g _ _ _ _ _ _ _ _ _ _ h l out _ ((hg.below hb1).up hb1.size) ((hh.below hb1).up hb1.size) ((hi.below hb1).up hb1.size) ((ho.below hb1).up hb1.size) hok hbd hl hol).mono ?_
  rintro e w2 ⟨⟨q, M, rfl, hm, hk⟩, hb2⟩
  have HKN := Lib.hid hk
  have hB := ex_trans hb1 hb2
  have q2 := q1.below hb2 q1.lt
  have hq2 := q2.lt
  clear hk hok q1
  go_wp2_with fail
  clear hmks
  have S0 : ZSt #[.int .i64 g.base, .slice Ab g.bands.length cb, .slice Ad g.depths.length cd, .int .i64 g.blo, .int .i64 g.bhi] w q w2.heap.size (w2.heap.size + 1) h.length h.length M (fun _ _ _ => false) (fun _ => ⟨0, 0⟩) ((w2.alloc (.cells oc0 25)).alloc (.cells Tryz.zeroCells128 128)) := by
    have hx := ex_alloc (ex_alloc (Below.refl w2.heap.size w2) (.cells oc0 25)) (.cells Tryz.zeroCells128 128)
    refine ⟨ex_trans hB hx, q2.below hx q2.lt, hm.below hx, ?_, ⟨oc0, (Blk.new _ _ _).alloc _, hoc0, fun i h1 h2 => by omega⟩, hm.lt, by omega, q2.lt⟩
    have := MapAt.zero (w2.alloc (.cells oc0 25))
    simpa using this
  have C0 : Hid (Copied h.length M (fun _ _ _ => false) 0 0) := Lib.hid ⟨fun _ _ _ _ => rfl, fun r' s' hk => by omega⟩
  generalize (w2.alloc (.cells oc0 25)).alloc (.cells Tryz.zeroCells128 128) = V at *
  generalize (fun (_ _ _ : Nat) => false) = G0 at *
  generalize (fun _ : Nat => (⟨0, 0⟩ : Rg)) = z0 at *
  obtain ⟨gb, hgb⟩ : ∃ gb, w2.heap.size + 1 = gb := ⟨_, rfl⟩
  obtain ⟨z, hz⟩ : ∃ z, w2.heap.size = z := ⟨_, rfl⟩
  rw [hgb, hz] at S0
  rw [hgb, hz]
  clear hz hgb hb2 hB hm hb1 hq2 q2 hoc0
  refine wp_loop (fun a W => Rel (fun a W => ∃ r : Nat, r ≤ 52 ∧ ∃ G : Nat → Nat → Nat → Bool, ZSt #[.int .i64 g.base, .slice Ab g.bands.length cb, .slice Ad g.depths.length cd, .int .i64 g.blo, .int .i64 g.bhi] w q z gb h.length h.length M G z0 W ∧ Hid (Copied h.length M G r 0) ∧ ∃ u : Nat → Value, a = ⟨List.toArray (u 0 :: .slice Ah h.length ch :: .slice Ai l.length ci :: .slice Ao out.length co :: .pointer (some ⟨w.heap.size, 0, none⟩) :: u 5 :: u 6 :: u 7 :: u 8 :: u 9 :: .pointer (some ⟨q, 0, none⟩) :: .int .i64 (h.length : Int) :: .slice (some ⟨z, 0, none⟩) h.length h.length :: .pointer (some ⟨gb, 0, none⟩) :: .int .i64 (r : Int) :: u 15 :: u 16 :: u 17 :: u 18 :: u 19 :: u 20 :: u 21 :: u 22 :: u 23 :: u 24 :: u 25 :: u 26 :: u 27 :: u 28 :: u 29 :: u 30 :: u 31 :: u 32 :: u 33 :: u 34 :: u 35 :: u 36 :: u 37 :: u 38 :: u 39 :: u 40 :: u 41 :: u 42 :: u 43 :: u 44 :: u 45 :: u 46 :: u 47 :: u 48 :: u 49 :: u 50 :: u 51 :: u 52 :: u 53 :: u 54 :: u 55 :: u 56 :: u 57 :: u 58 :: u 59 :: u 60 :: u 61 :: u 62 :: u 63 :: u 64 :: u 65 :: u 66 :: u 67 :: u 68 :: u 69 :: u 70 :: u 71 :: u 72 :: u 73 :: u 74 :: u 75 :: u 76 :: u 77 :: u 78 :: u 79 :: u 80 :: u 81 :: u 82 :: u 83 :: u 84 :: u 85 :: u 86 :: u 87 :: u 88 :: u 89 :: u 90 :: u 91 :: u 92 :: u 93 :: u 94 :: u 95 :: u 96 :: u 97 :: u 98 :: u 99 :: u 100 :: u 101 :: u 102 :: u 103 :: u 104 :: u 105 :: u 106 :: u 107 :: u 108 :: u 109 :: u 110 :: u 111 :: u 112 :: u 113 :: u 114 :: u 115 :: u 116 :: u 117 :: u 118 :: u 119 :: u 120 :: u 121 :: u 122 :: u 123 :: u 124 :: u 125 :: u 126 :: u 127 :: u 128 :: u 129 :: u 130 :: u 131 :: u 132 :: u 133 :: u 134 :: u 135 :: u 136 :: u 137 :: u 138 :: u 139 :: u 140 :: u 141 :: u 142 :: u 143 :: u 144 :: u 145 :: u 146 :: u 147 :: u 148 :: u 149 :: u 150 :: u 151 :: u 152 :: u 153 :: u 154 :: u 155 :: u 156 :: u 157 :: u 158 :: u 159 :: u 160 :: u 161 :: u 162 :: u 163 :: u 164 :: u 165 :: u 166 :: u 167 :: u 168 :: []), []⟩) a W)
    (fun a _ => 52 - (intOf (a.tmps.getD 14 undef)).toNat) ⟨⟨0, by omega, G0, S0, C0, exFrame (by kernel_rfl)⟩⟩ ?_
  clear S0 C0
  rintro a W ⟨⟨r, hr, G, S1, C1, u, rfl⟩⟩
  by_cases hr52 : r < 52
  · go_wp2_with fail
    refine wp_loop (fun a W => Rel (fun a W => ∃ s : Nat, s ≤ 31 ∧ ∃ G : Nat → Nat → Nat → Bool, ZSt #[.int .i64 g.base, .slice Ab g.bands.length cb, .slice Ad g.depths.length cd, .int .i64 g.blo, .int .i64 g.bhi] w q z gb h.length h.length M G z0 W ∧ Hid (Copied h.length M G r s) ∧ ∃ u : Nat → Value, a = ⟨List.toArray (u 0 :: .slice Ah h.length ch :: .slice Ai l.length ci :: .slice Ao out.length co :: .pointer (some ⟨w.heap.size, 0, none⟩) :: u 5 :: u 6 :: u 7 :: u 8 :: u 9 :: .pointer (some ⟨q, 0, none⟩) :: .int .i64 (h.length : Int) :: .slice (some ⟨z, 0, none⟩) h.length h.length :: .pointer (some ⟨gb, 0, none⟩) :: .int .i64 (r : Int) :: .int .i64 (s : Int) :: u 16 :: u 17 :: u 18 :: u 19 :: u 20 :: u 21 :: u 22 :: u 23 :: u 24 :: u 25 :: u 26 :: u 27 :: u 28 :: u 29 :: u 30 :: u 31 :: u 32 :: u 33 :: u 34 :: u 35 :: u 36 :: u 37 :: u 38 :: u 39 :: u 40 :: u 41 :: u 42 :: u 43 :: u 44 :: u 45 :: u 46 :: u 47 :: u 48 :: u 49 :: u 50 :: u 51 :: u 52 :: u 53 :: u 54 :: u 55 :: u 56 :: u 57 :: u 58 :: u 59 :: u 60 :: u 61 :: u 62 :: u 63 :: u 64 :: u 65 :: u 66 :: u 67 :: u 68 :: u 69 :: u 70 :: u 71 :: u 72 :: u 73 :: u 74 :: u 75 :: u 76 :: u 77 :: u 78 :: u 79 :: u 80 :: u 81 :: u 82 :: u 83 :: u 84 :: u 85 :: u 86 :: u 87 :: u 88 :: u 89 :: u 90 :: u 91 :: u 92 :: u 93 :: u 94 :: u 95 :: u 96 :: u 97 :: u 98 :: u 99 :: u 100 :: u 101 :: u 102 :: u 103 :: u 104 :: u 105 :: u 106 :: u 107 :: u 108 :: u 109 :: u 110 :: u 111 :: u 112 :: u 113 :: u 114 :: u 115 :: u 116 :: u 117 :: u 118 :: u 119 :: u 120 :: u 121 :: u 122 :: u 123 :: u 124 :: u 125 :: u 126 :: u 127 :: u 128 :: u 129 :: u 130 :: u 131 :: u 132 :: u 133 :: u 134 :: u 135 :: u 136 :: u 137 :: u 138 :: u 139 :: u 140 :: u 141 :: u 142 :: u 143 :: u 144 :: u 145 :: u 146 :: u 147 :: u 148 :: u 149 :: u 150 :: u 151 :: u 152 :: u 153 :: u 154 :: u 155 :: u 156 :: u 157 :: u 158 :: u 159 :: u 160 :: u 161 :: u 162 :: u 163 :: u 164 :: u 165 :: u 166 :: u 167 :: u 168 :: []), []⟩) a W)
      (fun a _ => 31 - (intOf (a.tmps.getD 15 undef)).toNat) ⟨⟨0, by omega, G, S1, C1, exFrame (by kernel_rfl)⟩⟩ ?_
    clear S1 C1
    rintro a W2 ⟨⟨s, hs, G, S1, C1, u, rfl⟩⟩
    by_cases hs31 : s < 31
    · have hd17 : h.length < 17 := by omega
      have mc := S1.mp.cell hd17 hr52 hs31
      have lm := S1.mp.lt
      have gc := S1.gp.cell hd17 hr52 hs31
      have lg := S1.gp.lt
      have fg := S1.gp.frozen (h.length * 1612 + r * 31 + s)
      go_wp2_with fail
      refine wp_region_ext_mix 14 [(false, 0), (false, 1), (false, 2), (false, 3), (false, 4), (false, 5), (false, 6), (false, 12), (false, 13), (true, 7), (false, 8), (false, 9), (false, 10), (false, 11)] (by kernel_rfl) (by kernel_rfl) (by intro d _ _ _ _ h; cases d <;> exact h) ?_
      have hX0 := (Below.refl W2.heap.size W2).drew
      repeat (refine mix_quiet rfl ?_; go_big_quiet_step (fail); refine wpQuiet_nil ?_)
      refine mix_loud rfl ?_
      go_wp2_with fail
      refine ⟨inEx hX0, ?_⟩
      repeat (refine mix_quiet rfl ?_; go_big_quiet_step (fail); refine wpQuiet_nil ?_)
      refine mix_nil (r := [_, _]) rfl ?_
      have S2 := S1.below hX0
      have lg := S2.gp.lt
      have gc := S2.gp.cell hd17 hr52 hs31
      have fg := S2.gp.frozen (h.length * 1612 + r * 31 + s)
      go_wp2_with fail
      refine ⟨⟨⟨s + 1, by omega, _, S2.setG _ hd17 hr52 hs31, Lib.hid (copied_step C1.out), exFrame (by kernel_rfl)⟩⟩, ?_⟩
      show 31 - (intOf (.int .i64 ((s : Int) + 1))).toNat < 31 - (intOf (.int .i64 (s : Int))).toNat
      simp [intOf]
      omega
    · have hsE : s = 31 := by omega
      subst hsE
      go_wp2_with fail
      refine ⟨⟨⟨r + 1, by omega, G, S1, Lib.hid (copied_row C1.out), exFrame (by kernel_rfl)⟩⟩, ?_⟩
      show 52 - (intOf (.int .i64 ((r : Int) + 1))).toNat < 52 - (intOf (.int .i64 (r : Int))).toNat
      simp [intOf]
      omega
  have hrE : r = 52 := by omega
  subst hrE
  obtain ⟨g1, g2⟩ := gone_last HKN.out C1.out
  have K0 := Lib.hid g1
  have B0 := Lib.hid g2
  clear g1 g2 C1
  go_wp2_with fail
  refine wp_loop (fun a W => Rel (fun a W => ∃ d : Nat, d ≤ h.length ∧ ∃ (is : Nat), ∃ G zf, ZSt #[.int .i64 g.base, .slice Ab g.bands.length cb, .slice Ad g.depths.length cd, .int .i64 g.blo, .int .i64 g.bhi] w q z gb h.length d M G zf W ∧ Hid (Gone g h l (fun j => hasB out (j : Int)) G d) ∧ Hid (Void G d) ∧ Hid (DZ g h l (fun j => hasB out (j : Int)) d zf (bN is)) ∧ ∃ u : Nat → Value, a = ⟨List.toArray (u 0 :: .slice Ah h.length ch :: .slice Ai l.length ci :: .slice Ao out.length co :: .pointer (some ⟨w.heap.size, 0, none⟩) :: u 5 :: u 6 :: u 7 :: u 8 :: u 9 :: .pointer (some ⟨q, 0, none⟩) :: .int .i64 (h.length : Int) :: .slice (some ⟨z, 0, none⟩) h.length h.length :: .pointer (some ⟨gb, 0, none⟩) :: u 14 :: u 15 :: .bool (bN is) :: .int .i64 (d : Int) :: u 18 :: u 19 :: u 20 :: u 21 :: u 22 :: u 23 :: u 24 :: u 25 :: u 26 :: u 27 :: u 28 :: u 29 :: u 30 :: u 31 :: u 32 :: u 33 :: u 34 :: u 35 :: u 36 :: u 37 :: u 38 :: u 39 :: u 40 :: u 41 :: u 42 :: u 43 :: u 44 :: u 45 :: u 46 :: u 47 :: u 48 :: u 49 :: u 50 :: u 51 :: u 52 :: u 53 :: u 54 :: u 55 :: u 56 :: u 57 :: u 58 :: u 59 :: u 60 :: u 61 :: u 62 :: u 63 :: u 64 :: u 65 :: u 66 :: u 67 :: u 68 :: u 69 :: u 70 :: u 71 :: u 72 :: u 73 :: u 74 :: u 75 :: u 76 :: u 77 :: u 78 :: u 79 :: u 80 :: u 81 :: u 82 :: u 83 :: u 84 :: u 85 :: u 86 :: u 87 :: u 88 :: u 89 :: u 90 :: u 91 :: u 92 :: u 93 :: u 94 :: u 95 :: u 96 :: u 97 :: u 98 :: u 99 :: u 100 :: u 101 :: u 102 :: u 103 :: u 104 :: u 105 :: u 106 :: u 107 :: u 108 :: u 109 :: u 110 :: u 111 :: u 112 :: u 113 :: u 114 :: u 115 :: u 116 :: u 117 :: u 118 :: u 119 :: u 120 :: u 121 :: u 122 :: u 123 :: u 124 :: u 125 :: u 126 :: u 127 :: u 128 :: u 129 :: u 130 :: u 131 :: u 132 :: u 133 :: u 134 :: u 135 :: u 136 :: u 137 :: u 138 :: u 139 :: u 140 :: u 141 :: u 142 :: u 143 :: u 144 :: u 145 :: u 146 :: u 147 :: u 148 :: u 149 :: u 150 :: u 151 :: u 152 :: u 153 :: u 154 :: u 155 :: u 156 :: u 157 :: u 158 :: u 159 :: u 160 :: u 161 :: u 162 :: u 163 :: u 164 :: u 165 :: u 166 :: u 167 :: u 168 :: []), []⟩) a W)
    (fun a _ => (intOf (a.tmps.getD 17 undef)).toNat) ⟨⟨h.length, by omega, 0, G, z0, S1, K0, B0, Lib.hid ⟨fun h => absurd h (by decide), fun _ => ⟨fun h => by omega, fun i h1 h2 => by omega⟩⟩, exFrame (by kernel_rfl)⟩⟩ ?_
  clear S1 K0 B0
  rintro a wr ⟨⟨d, hd, is, G, zf, S1, K1, B1, Z1, u, rfl⟩⟩
  by_cases hd0 : 0 < d
  · obtain ⟨e, rfl⟩ : ∃ e, d = e + 1 := ⟨d - 1, by omega⟩
    have hlt : e < h.length := by omega
    have d0 : decide (((e + 1 : Nat) : Int) > 0) = true := decide_eq_true (by omega)
    have we : IntKind.i64.wrap (((e + 1 : Nat) : Int) - 1) = (e : Int) := by rw [show ((e + 1 : Nat) : Int) - 1 = (e : Int) by omega]; exact IntWalk.i64_in _ (by omega)
    obtain ⟨u0, u1, zc0, zc1⟩ := S1.zp.any2 hlt
    have zf0 := S1.zp.frozen (e * 2)
    have zf1 := S1.zp.frozen (e * 2 + 1)
    have lz := S1.zp.lt
    have hbr := run_build_rangeR
    have mn : min (e + 1) e = e := by omega
    go_wp2_with fail
    have S2 := S1.setZ hlt (Nat.le_refl _) 5000 (-5000)
    rw [mn] at S2
    generalize (wr.setCell ⟨z, e * 2, none⟩ (.int .i64 5000)).setCell ⟨z, e * 2 + 1, none⟩ (.int .i64 (-5000)) = wq at *
    have R0 : Hid (ZR g (G (e + 1)) 0 0 (bN is) 5000 (-5000)) := Lib.hid ZR.start
    clear zc0 zc1 zf0 zf1 lz hbr S1
    generalize (-5000 : Int) = hi0 at *
    generalize (5000 : Int) = lo0 at *
    have r1 := HK.out.heats e hlt
    obtain ⟨bh, oh, rfl, hbh, s0, s1⟩ := IsRgs.at_ (hh.below S2.bw) hlt
    have hws := S2.bw.size
    have hbr : bh < wq.heap.size := by omega
    have a0 : wq.cell? ⟨w.heap.size, 0, none⟩ = some (.int .i64 g.base) := S2.qg.cell 0
    have a1 : wq.cell? ⟨w.heap.size, 1, none⟩ = some (.slice Ab g.bands.length cb) := S2.qg.cell 1
    have a2 : wq.cell? ⟨w.heap.size, 2, none⟩ = some (.slice Ad g.depths.length cd) := S2.qg.cell 2
    have a3 : wq.cell? ⟨w.heap.size, 3, none⟩ = some (.int .i64 g.blo) := S2.qg.cell 3
    have a4 : wq.cell? ⟨w.heap.size, 4, none⟩ = some (.int .i64 g.bhi) := S2.qg.cell 4
    have l1' := S2.qg.lt
    have l2' := S2.gp.lt
    have HS2 := Lib.hid S2
    have hB := S2.bw
    clear S2
    go_wp2_with fail
    refine Code.wp_mono (Q := DQz g Ab Ad (some ⟨bh, oh, none⟩) Ai Ao cb cd ch ci co h l out w q z gb e e M G (updz zf e ⟨lo0, hi0⟩) is) ?_ ?_
    rotate_left
    · refine wp_region_ext_tq 12 (.quiet 0 (.quiet 1 (.quiet 2 (.quiet 4 (.quiet 5 (.quiet 6 (.quiet 7 (.quiet 8 (.quiet 9 (.fork 3 (.fork 10 (.loud 11 .done) 11 (.loud 10 .done)) 11 (.loud 3 (.loud 10 .done)))))))))))) (by kernel_rfl) (by kernel_rfl) (by rintro d v c a w ⟨h, _⟩; cases h) ?_
      have hX0 := (Below.refl wq.heap.size wq).drew
      repeat (refine tq_quiet rfl ?_; go_big_quiet_step (fail); refine wpQuiet_nil ?_)
      refine tq_fork rfl rfl ?_ ?_
      · go_wp2_with fail
        refine (CreepR_any g _ _ _ _ (e : Int) wq.drew ((hg.below (ex_trans hB hX0)).up (ex_trans hB hX0).size) hlb).mono ?_
        rintro e1 x1 ⟨rfl, hx1⟩
        have hX1 := ex_trans hX0 hx1
        go_wp2_with fail
        refine ⟨inEx hX1, ?_⟩
        refine tq_fork rfl rfl ?_ ?_
        · go_wp2_with fail
          refine (deepR_any g _ _ _ _ (gR h e).lo (gR h e).hi x1 ((hg.below (ex_trans hB hX1)).up (ex_trans hB hX1).size) hld r1.1 r1.2.1 r1.2.2).mono ?_
          rintro e2 x2 ⟨⟨v, D, rfl, hv, hD⟩, hx2⟩
          have hX2 := ex_trans hX1 hx2
          obtain ⟨Ad', cd', rfl, _, _⟩ := own_sl hv
          go_wp2_with fail
          refine ⟨inEx hX2, ?_⟩
          refine tq_loud rfl ?_
          go_wp2_with fail
          refine ⟨inEx (ex_alloc hX2 _), ?_⟩
          refine tq_done (r := [_, _]) rfl ?_
          go_wp2
          exact ⟨rfl, x2.heap.size, Ad', cd', D, ⟨HS2.out.below (ex_alloc hX2 _), Blk.new _ _ _, own_base (hv.alloc _) (by have := hX1.size; omega), by have := hX2.size; omega⟩, Lib.hid hD, exFrame' (by kernel_rfl)⟩
        · have qa : Blk (x1.alloc (.cells #[.int .i64 0, .int .i64 0] 25)) x1.heap.size 25 _ := Blk.new _ _ _
          have hX1a := ex_alloc hX1 (.cells #[.int .i64 0, .int .i64 0] 25)
          go_wp2_with fail
          refine ⟨inEx hX1a, ?_⟩
          refine tq_loud rfl ?_
          go_wp2_with fail
          refine (deepR_any g _ _ _ _ (gR h e).lo (gR h e).hi (x1.alloc (.cells #[.int .i64 0, .int .i64 0] 25)) ((hg.below (ex_trans hB hX1a)).up (ex_trans hB hX1a).size) hld r1.1 r1.2.1 r1.2.2).mono ?_
          rintro e2 x2 ⟨⟨v, D, rfl, hv, hD⟩, hx2⟩
          have hX2 := ex_trans hX1a hx2
          obtain ⟨Ad', cd', rfl, _, _⟩ := own_sl hv
          go_wp2_with fail
          refine ⟨inEx hX2, ?_⟩
          refine tq_done (r := [_, _]) rfl ?_
          have qz := qa.below hx2 qa.lt
          have z0 := qz.cell 0
          have z1 := qz.cell 1
          have f0 := qz.frozen 0
          have f1 := qz.frozen 1
          have lz := qz.lt
          simp at z0 z1
          go_wp2
          exact ⟨rfl, x1.heap.size, Ad', cd', D, ZD.fill (HS2.out.below hX2) qz (own_base hv (by have := (hX1a).size; simp at this ⊢; omega)) (by have := hX1.size; omega), Lib.hid hD, exFrame' (by kernel_rfl)⟩
      · have qa : Blk (wq.alloc (.cells #[.int .i64 0, .int .i64 0] 25)).drew wq.heap.size 25 _ := Blk.new _ _ _
        have hX0a : Below wq.heap.size wq (wq.alloc (.cells #[.int .i64 0, .int .i64 0] 25)).drew := (ex_alloc (Below.refl _ _) _).drew
        go_wp2_with fail
        refine ⟨inEx hX0a, ?_⟩
        refine tq_loud rfl ?_
        go_wp2_with fail
        refine (CreepR_any g _ _ _ _ (e : Int) (wq.alloc (.cells #[.int .i64 0, .int .i64 0] 25)).drew ((hg.below (ex_trans hB hX0a)).up (ex_trans hB hX0a).size) hlb).mono ?_
        rintro e1 x1 ⟨rfl, hx1⟩
        have hX1 := ex_trans hX0a hx1
        go_wp2_with fail
        refine ⟨inEx hX1, ?_⟩
        refine tq_loud rfl ?_
        go_wp2_with fail
        refine (deepR_any g _ _ _ _ (gR h e).lo (gR h e).hi x1 ((hg.below (ex_trans hB hX1)).up (ex_trans hB hX1).size) hld r1.1 r1.2.1 r1.2.2).mono ?_
        rintro e2 x2 ⟨⟨v, D, rfl, hv, hD⟩, hx2⟩
        have hX2 := ex_trans hX1 hx2
        obtain ⟨Ad', cd', rfl, _, _⟩ := own_sl hv
        go_wp2_with fail
        refine ⟨inEx hX2, ?_⟩
        refine tq_done (r := [_, _]) rfl ?_
        have qz := (qa.below hx1 qa.lt).below hx2 (qa.below hx1 qa.lt).lt
        have z0 := qz.cell 0
        have z1 := qz.cell 1
        have f0 := qz.frozen 0
        have f1 := qz.frozen 1
        have lz := qz.lt
        simp at z0 z1
        go_wp2
        exact ⟨rfl, wq.heap.size, Ad', cd', D, ZD.fill (HS2.out.below hX2) qz (own_base hv (by have := (hX1).size; simp at this ⊢; omega)) (by have := hX1.size; omega), Lib.hid hD, exFrame' (by kernel_rfl)⟩
    rintro ex a' W1 ⟨rfl, pc, Ad', cd', D, hAD, hDD, u, rfl⟩
    clear a0 a1 a2 a3 a4 l1' l2' s0 s1 hbr HS2 hB
    obtain ⟨cl, hcl⟩ : ∃ cl, cl = (creepTo g.bands (e : Int) g.bands.length).lo := ⟨_, rfl⟩
    obtain ⟨chi, hch⟩ : ∃ chi, chi = (creepTo g.bands (e : Int) g.bands.length).hi := ⟨_, rfl⟩
    rw [← hcl, ← hch] at hAD
    have HCL : Hid (cl = (creep g e).lo) := Lib.hid hcl
    have HCH : Hid (chi = (creep g e).hi) := Lib.hid hch
    have hc3 : 0 ≤ cl ∧ cl ≤ chi ∧ chi ≤ 3 := by rw [HCL.out, HCH.out]; exact hcr e
    have hDl : D.length ≤ 501 := by have := hDD.out.1; omega
    have P0 : Hid (QQ g h l (fun j => hasB out (j : Int)) D M e 0 0 cl 0 G) := Lib.hid (by rw [HCL.out]; exact QQ.start K1.out B1.out)
    have HDA := Lib.hid (deep_at r1.2.1 hDD.out)
    have I0 : Hid (bN is = true → agreeB g h l (fun j => hasB out (j : Int)) = true) := Lib.hid Z1.out.1
    clear hcl hch K1 B1 hcr
    go_wp2_with fail
    refine wp_loop (fun a W => Rel (fun a W => ∃ n : Nat, n ≤ 52 ∧ ∃ (is : Nat) (lw hw : Int), ∃ G, ZD #[.int .i64 g.base, .slice Ab g.bands.length cb, .slice Ad g.depths.length cd, .int .i64 g.blo, .int .i64 g.bhi] w q z gb h.length e M G (updz zf e ⟨lw, hw⟩) pc cl chi (.slice Ad' D.length cd') D W ∧ Hid (QQ g h l (fun j => hasB out (j : Int)) D M e n 0 cl 0 G) ∧ Hid (ZR g (G (e + 1)) n 0 (bN is) lw hw) ∧ Hid (bN is = true → agreeB g h l (fun j => hasB out (j : Int)) = true) ∧ ∃ u : Nat → Value, a = ⟨List.toArray (u 0 :: .slice (some ⟨bh, oh, none⟩) h.length ch :: .slice Ai l.length ci :: .slice Ao out.length co :: .pointer (some ⟨w.heap.size, 0, none⟩) :: u 5 :: u 6 :: u 7 :: u 8 :: u 9 :: .pointer (some ⟨q, 0, none⟩) :: .int .i64 (h.length : Int) :: .slice (some ⟨z, 0, none⟩) h.length h.length :: .pointer (some ⟨gb, 0, none⟩) :: u 14 :: u 15 :: .bool (bN is) :: .int .i64 ((e : Int) + 1) :: .pointer (some ⟨pc, 0, none⟩) :: .slice Ad' D.length cd' :: .int .i64 (n : Int) :: u 21 :: u 22 :: u 23 :: u 24 :: u 25 :: u 26 :: u 27 :: u 28 :: u 29 :: u 30 :: u 31 :: u 32 :: u 33 :: u 34 :: u 35 :: u 36 :: u 37 :: u 38 :: u 39 :: u 40 :: u 41 :: u 42 :: u 43 :: u 44 :: u 45 :: u 46 :: u 47 :: u 48 :: u 49 :: u 50 :: u 51 :: u 52 :: u 53 :: u 54 :: u 55 :: u 56 :: u 57 :: u 58 :: u 59 :: u 60 :: u 61 :: u 62 :: u 63 :: u 64 :: u 65 :: u 66 :: u 67 :: u 68 :: u 69 :: u 70 :: u 71 :: u 72 :: u 73 :: u 74 :: u 75 :: u 76 :: u 77 :: u 78 :: u 79 :: u 80 :: u 81 :: u 82 :: u 83 :: u 84 :: u 85 :: u 86 :: u 87 :: u 88 :: u 89 :: u 90 :: u 91 :: u 92 :: u 93 :: u 94 :: u 95 :: u 96 :: u 97 :: u 98 :: u 99 :: u 100 :: u 101 :: u 102 :: u 103 :: u 104 :: u 105 :: u 106 :: u 107 :: u 108 :: u 109 :: u 110 :: u 111 :: u 112 :: u 113 :: u 114 :: u 115 :: u 116 :: u 117 :: u 118 :: u 119 :: u 120 :: u 121 :: u 122 :: u 123 :: u 124 :: u 125 :: u 126 :: u 127 :: u 128 :: u 129 :: u 130 :: u 131 :: u 132 :: u 133 :: u 134 :: u 135 :: u 136 :: u 137 :: u 138 :: u 139 :: u 140 :: u 141 :: u 142 :: u 143 :: u 144 :: u 145 :: u 146 :: u 147 :: u 148 :: u 149 :: u 150 :: u 151 :: u 152 :: u 153 :: u 154 :: u 155 :: u 156 :: u 157 :: u 158 :: u 159 :: u 160 :: u 161 :: u 162 :: u 163 :: u 164 :: u 165 :: u 166 :: u 167 :: u 168 :: []), []⟩) a W)
      (fun a _ => 52 - (intOf (a.tmps.getD 20 undef)).toNat) ⟨⟨0, by omega, is, lo0, hi0, G, hAD, P0, R0, I0, exFrame (by kernel_rfl)⟩⟩ ?_
    clear hAD P0 R0 I0
    rintro a W2 ⟨⟨n, hn, is, lw, hw, G, hAD, PN, RN, IN, u, rfl⟩⟩
    by_cases hn52 : n < 52
    · go_wp2_with fail
      refine wp_loop (fun a W => Rel (fun a W => ∃ m : Nat, m ≤ 31 ∧ ∃ (is : Nat) (lw hw : Int), ∃ G, ZD #[.int .i64 g.base, .slice Ab g.bands.length cb, .slice Ad g.depths.length cd, .int .i64 g.blo, .int .i64 g.bhi] w q z gb h.length e M G (updz zf e ⟨lw, hw⟩) pc cl chi (.slice Ad' D.length cd') D W ∧ Hid (QQ g h l (fun j => hasB out (j : Int)) D M e n m cl 0 G) ∧ Hid (ZR g (G (e + 1)) n m (bN is) lw hw) ∧ Hid (bN is = true → agreeB g h l (fun j => hasB out (j : Int)) = true) ∧ ∃ u : Nat → Value, a = ⟨List.toArray (u 0 :: .slice (some ⟨bh, oh, none⟩) h.length ch :: .slice Ai l.length ci :: .slice Ao out.length co :: .pointer (some ⟨w.heap.size, 0, none⟩) :: u 5 :: u 6 :: u 7 :: u 8 :: u 9 :: .pointer (some ⟨q, 0, none⟩) :: .int .i64 (h.length : Int) :: .slice (some ⟨z, 0, none⟩) h.length h.length :: .pointer (some ⟨gb, 0, none⟩) :: u 14 :: u 15 :: .bool (bN is) :: .int .i64 ((e : Int) + 1) :: .pointer (some ⟨pc, 0, none⟩) :: .slice Ad' D.length cd' :: .int .i64 (n : Int) :: .int .i64 (m : Int) :: u 22 :: u 23 :: u 24 :: u 25 :: u 26 :: u 27 :: u 28 :: u 29 :: u 30 :: u 31 :: u 32 :: u 33 :: u 34 :: u 35 :: u 36 :: u 37 :: u 38 :: u 39 :: u 40 :: u 41 :: u 42 :: u 43 :: u 44 :: u 45 :: u 46 :: u 47 :: u 48 :: u 49 :: u 50 :: u 51 :: u 52 :: u 53 :: u 54 :: u 55 :: u 56 :: u 57 :: u 58 :: u 59 :: u 60 :: u 61 :: u 62 :: u 63 :: u 64 :: u 65 :: u 66 :: u 67 :: u 68 :: u 69 :: u 70 :: u 71 :: u 72 :: u 73 :: u 74 :: u 75 :: u 76 :: u 77 :: u 78 :: u 79 :: u 80 :: u 81 :: u 82 :: u 83 :: u 84 :: u 85 :: u 86 :: u 87 :: u 88 :: u 89 :: u 90 :: u 91 :: u 92 :: u 93 :: u 94 :: u 95 :: u 96 :: u 97 :: u 98 :: u 99 :: u 100 :: u 101 :: u 102 :: u 103 :: u 104 :: u 105 :: u 106 :: u 107 :: u 108 :: u 109 :: u 110 :: u 111 :: u 112 :: u 113 :: u 114 :: u 115 :: u 116 :: u 117 :: u 118 :: u 119 :: u 120 :: u 121 :: u 122 :: u 123 :: u 124 :: u 125 :: u 126 :: u 127 :: u 128 :: u 129 :: u 130 :: u 131 :: u 132 :: u 133 :: u 134 :: u 135 :: u 136 :: u 137 :: u 138 :: u 139 :: u 140 :: u 141 :: u 142 :: u 143 :: u 144 :: u 145 :: u 146 :: u 147 :: u 148 :: u 149 :: u 150 :: u 151 :: u 152 :: u 153 :: u 154 :: u 155 :: u 156 :: u 157 :: u 158 :: u 159 :: u 160 :: u 161 :: u 162 :: u 163 :: u 164 :: u 165 :: u 166 :: u 167 :: u 168 :: []), []⟩) a W)
        (fun a _ => 31 - (intOf (a.tmps.getD 21 undef)).toNat) ⟨⟨0, by omega, is, lw, hw, G, hAD, PN, RN, IN, exFrame (by kernel_rfl)⟩⟩ ?_
      clear hAD PN RN IN
      rintro a W3 ⟨⟨m, hm, is, lw, hw, G, hAD, PN, RN, IN, u, rfl⟩⟩
      by_cases hm31 : m < 31
      · have hd17 : e + 1 < 17 := by omega
        have gcl := hAD.zs.gp.cell hd17 hn52 hm31
        have lg := hAD.zs.gp.lt
        cases hG : G (e + 1) n m
        · rw [hG] at gcl
          have P2 := Lib.hid (show QQ g h l (fun j => hasB out (j : Int)) D M e n (m + 1) cl 0 G by have := PN.out.sink (.inr (.inr hG)); rw [← HCL.out] at this; exact this)
          have R2 := Lib.hid (RN.out.skip hG)
          clear hG
          go_wp2_with fail
          refine ⟨⟨⟨m + 1, by omega, is, lw, hw, G, hAD, P2, R2, IN, exFrame (by kernel_rfl)⟩⟩, ?_⟩
          show 31 - (intOf (.int .i64 ((m : Int) + 1))).toNat < 31 - (intOf (.int .i64 (m : Int))).toNat
          simp [intOf]
          omega
        rw [hG] at gcl
        have ab := HK.out.base
        have HAG := Lib.hid (goes_agree HK.out (by omega) ((PN.out.known (e + 1) n m (Nat.le_refl _) (by omega) hn52 hm31).1 hG))
        have R2 := Lib.hid (RN.out.add hG (by omega))
        obtain ⟨S, hS⟩ : ∃ S, G (e + 1) = S := ⟨_, rfl⟩
        have HS := Lib.hid hS
        have HSM := Lib.hid (show S n m = true by rw [← hS]; exact hG)
        rw [hS] at R2
        have a0 : W3.cell? ⟨w.heap.size, 0, none⟩ = some (.int .i64 g.base) := hAD.zs.qg.cell 0
        have l1 := hAD.zs.qg.lt
        obtain ⟨zc0, zc1⟩ := hAD.zs.zp.cell (i := e) (Nat.le_refl _) hlt
        rw [updz_self] at zc0 zc1
        simp only at zc0 zc1
        have lz := hAD.zs.zp.lt
        have w3 : IntKind.i64.wrap (g.base + (n : Int)) = g.base + (n : Int) := IntWalk.i64_in _ (by omega)
        have w4 : IntKind.i64.wrap (g.base + (n : Int) - (m : Int)) = g.base + (n : Int) - (m : Int) := IntWalk.i64_in _ (by omega)
        obtain ⟨zv, hzv⟩ : ∃ zv, g.base + (n : Int) - (m : Int) = zv := ⟨_, rfl⟩
        rw [hzv] at R2 w4
        have hbr := run_build_rangeR
        clear hG hS RN
        go_wp2_with fail
        try rw [hzv]
        refine Code.wp_mono (Q := DQw (fun W' => ZD #[.int .i64 g.base, .slice Ab g.bands.length cb, .slice Ad g.depths.length cd, .int .i64 g.blo, .int .i64 g.bhi] w q z gb h.length e M G (updz zf e ⟨min lw zv, max hw zv⟩) pc cl chi (.slice Ad' D.length cd') D W') (.slice (some ⟨bh, oh, none⟩) h.length ch) (.slice Ai l.length ci) (.slice Ao out.length co) (.pointer (some ⟨w.heap.size, 0, none⟩)) (.pointer (some ⟨q, 0, none⟩)) (.int .i64 (h.length : Int)) (.slice (some ⟨z, 0, none⟩) h.length h.length) (.pointer (some ⟨gb, 0, none⟩)) (.bool true) (.int .i64 ((e : Int) + 1)) (.pointer (some ⟨pc, 0, none⟩)) (.slice Ad' D.length cd') (.int .i64 (n : Int)) (.int .i64 (m : Int)) (.int .i64 zv)) ?_ ?_
        rotate_left
        · refine wp_region_ext_tq 20 (.quiet 0 (.quiet 1 (.quiet 2 (.quiet 3 (.quiet 4 (.quiet 5 (.quiet 6 (.quiet 7 (.quiet 8 (.quiet 9 (.quiet 11 (.quiet 12 (.quiet 13 (.quiet 14 (.quiet 15 (.quiet 16 (.quiet 17 (.fork 10 (.loud 18 (.quiet 19 .done)) 18 (.loud 10 (.quiet 19 .done)))))))))))))))))))) (by kernel_rfl) (by kernel_rfl) (by rintro d v c a w ⟨h, _⟩; cases h) ?_
          have hX0 := (Below.refl W3.heap.size W3).drew
          repeat (refine tq_quiet rfl ?_; go_big_quiet_step (fail); refine wpQuiet_nil ?_)
          refine tq_fork rfl rfl ?_ ?_
          · go_wp2_with fail
            refine ⟨inEx hX0, ?_⟩
            refine tq_loud rfl ?_
            go_wp2_with fail
            refine ⟨inEx hX0, ?_⟩
            refine tq_quiet rfl ?_
            go_big_quiet_step (fail)
            refine wpQuiet_nil ?_
            refine tq_done (r := [_, _]) rfl ?_
            have hAX := hAD.below hX0
            have zf0 := hAD.zs.zp.frozen (e * 2)
            have zf1 := hAD.zs.zp.frozen (e * 2 + 1)
            go_wp2
            refine ⟨rfl, ?_, exFrame' (by kernel_rfl)⟩
            have := hAX.setZ hlt (by omega) (min lw zv) (max hw zv)
            rw [updz_updz, Nat.min_self] at this
            exact this
          · go_wp2_with fail
            refine ⟨inEx hX0, ?_⟩
            refine tq_loud rfl ?_
            go_wp2_with fail
            refine ⟨inEx hX0, ?_⟩
            refine tq_quiet rfl ?_
            go_big_quiet_step (fail)
            refine wpQuiet_nil ?_
            refine tq_done (r := [_, _]) rfl ?_
            have hAX := hAD.below hX0
            have zf0 := hAD.zs.zp.frozen (e * 2)
            have zf1 := hAD.zs.zp.frozen (e * 2 + 1)
            go_wp2
            refine ⟨rfl, ?_, exFrame' (by kernel_rfl)⟩
            have := hAX.setZ hlt (by omega) (min lw zv) (max hw zv)
            rw [updz_updz, Nat.min_self] at this
            exact this
        rintro ex a' W4 ⟨rfl, hAD, u, rfl⟩
        have c0 : W4.cell? ⟨pc, 0, none⟩ = some (.int .i64 cl) := hAD.qc.cell 0
        have lc := hAD.qc.lt
        go_wp2_with fail
        clear c0 lc
        refine wp_loop (fun a W => Rel (fun a W => ∃ c : Int, cl ≤ c ∧ c ≤ chi + 1 ∧ ∃ G, ZD #[.int .i64 g.base, .slice Ab g.bands.length cb, .slice Ad g.depths.length cd, .int .i64 g.blo, .int .i64 g.bhi] w q z gb h.length e M G (updz zf e ⟨min lw zv, max hw zv⟩) pc cl chi (.slice Ad' D.length cd') D W ∧ Hid (QQ g h l (fun j => hasB out (j : Int)) D M e n m c 0 G) ∧ Hid (G (e + 1) = S) ∧ ∃ u : Nat → Value, a = ⟨List.toArray (u 0 :: .slice (some ⟨bh, oh, none⟩) h.length ch :: .slice Ai l.length ci :: .slice Ao out.length co :: .pointer (some ⟨w.heap.size, 0, none⟩) :: u 5 :: u 6 :: u 7 :: u 8 :: u 9 :: .pointer (some ⟨q, 0, none⟩) :: .int .i64 (h.length : Int) :: .slice (some ⟨z, 0, none⟩) h.length h.length :: .pointer (some ⟨gb, 0, none⟩) :: u 14 :: u 15 :: .bool true :: .int .i64 ((e : Int) + 1) :: .pointer (some ⟨pc, 0, none⟩) :: .slice Ad' D.length cd' :: .int .i64 (n : Int) :: .int .i64 (m : Int) :: .int .i64 zv :: .int .i64 c :: u 24 :: u 25 :: u 26 :: u 27 :: u 28 :: u 29 :: u 30 :: u 31 :: u 32 :: u 33 :: u 34 :: u 35 :: u 36 :: u 37 :: u 38 :: u 39 :: u 40 :: u 41 :: u 42 :: u 43 :: u 44 :: u 45 :: u 46 :: u 47 :: u 48 :: u 49 :: u 50 :: u 51 :: u 52 :: u 53 :: u 54 :: u 55 :: u 56 :: u 57 :: u 58 :: u 59 :: u 60 :: u 61 :: u 62 :: u 63 :: u 64 :: u 65 :: u 66 :: u 67 :: u 68 :: u 69 :: u 70 :: u 71 :: u 72 :: u 73 :: u 74 :: u 75 :: u 76 :: u 77 :: u 78 :: u 79 :: u 80 :: u 81 :: u 82 :: u 83 :: u 84 :: u 85 :: u 86 :: u 87 :: u 88 :: u 89 :: u 90 :: u 91 :: u 92 :: u 93 :: u 94 :: u 95 :: u 96 :: u 97 :: u 98 :: u 99 :: u 100 :: u 101 :: u 102 :: u 103 :: u 104 :: u 105 :: u 106 :: u 107 :: u 108 :: u 109 :: u 110 :: u 111 :: u 112 :: u 113 :: u 114 :: u 115 :: u 116 :: u 117 :: u 118 :: u 119 :: u 120 :: u 121 :: u 122 :: u 123 :: u 124 :: u 125 :: u 126 :: u 127 :: u 128 :: u 129 :: u 130 :: u 131 :: u 132 :: u 133 :: u 134 :: u 135 :: u 136 :: u 137 :: u 138 :: u 139 :: u 140 :: u 141 :: u 142 :: u 143 :: u 144 :: u 145 :: u 146 :: u 147 :: u 148 :: u 149 :: u 150 :: u 151 :: u 152 :: u 153 :: u 154 :: u 155 :: u 156 :: u 157 :: u 158 :: u 159 :: u 160 :: u 161 :: u 162 :: u 163 :: u 164 :: u 165 :: u 166 :: u 167 :: u 168 :: []), []⟩) a W)
          (fun a _ => (chi + 1 - intOf (a.tmps.getD 23 undef)).toNat) ⟨⟨cl, by omega, by omega, G, hAD, PN, HS, exFrame (by kernel_rfl)⟩⟩ ?_
        clear hAD PN HS
        rintro a W5 ⟨⟨c, hc, hc', G, hAD, PN, HS, u, rfl⟩⟩
        have c1 : W5.cell? ⟨pc, 1, none⟩ = some (.int .i64 chi) := hAD.qc.cell 1
        have lc := hAD.qc.lt
        have HEND : chi < c ∨ (n : Int) < c → Hid (QQ g h l (fun j => hasB out (j : Int)) D M e n (m + 1) cl 0 G) := fun hx => Lib.hid (by
          have := PN.out.sink (by rcases hx with hx | hx; exact .inl (by rw [← HCH.out]; exact hx); exact .inr (.inl hx))
          rw [← HCL.out] at this
          exact this)
        by_cases hcc : c ≤ chi
        · have e1 : decide (c ≤ chi) = true := decide_eq_true hcc
          by_cases hcn : c ≤ (n : Int)
          · have e2 : decide (c ≤ (n : Int)) = true := decide_eq_true hcn
            clear HEND
            go_wp2_with fail
            refine wp_loop (fun a W => Rel (fun a W => ∃ f : Nat, f ≤ 31 ∧ ∃ G, ZD #[.int .i64 g.base, .slice Ab g.bands.length cb, .slice Ad g.depths.length cd, .int .i64 g.blo, .int .i64 g.bhi] w q z gb h.length e M G (updz zf e ⟨min lw zv, max hw zv⟩) pc cl chi (.slice Ad' D.length cd') D W ∧ Hid (QQ g h l (fun j => hasB out (j : Int)) D M e n m c f G) ∧ Hid (G (e + 1) = S) ∧ ∃ u : Nat → Value, a = ⟨List.toArray (u 0 :: .slice (some ⟨bh, oh, none⟩) h.length ch :: .slice Ai l.length ci :: .slice Ao out.length co :: .pointer (some ⟨w.heap.size, 0, none⟩) :: u 5 :: u 6 :: u 7 :: u 8 :: u 9 :: .pointer (some ⟨q, 0, none⟩) :: .int .i64 (h.length : Int) :: .slice (some ⟨z, 0, none⟩) h.length h.length :: .pointer (some ⟨gb, 0, none⟩) :: u 14 :: u 15 :: .bool true :: .int .i64 ((e : Int) + 1) :: .pointer (some ⟨pc, 0, none⟩) :: .slice Ad' D.length cd' :: .int .i64 (n : Int) :: .int .i64 (m : Int) :: .int .i64 zv :: .int .i64 c :: .int .i64 (f : Int) :: u 25 :: u 26 :: u 27 :: u 28 :: u 29 :: u 30 :: u 31 :: u 32 :: u 33 :: u 34 :: u 35 :: u 36 :: u 37 :: u 38 :: u 39 :: u 40 :: u 41 :: u 42 :: u 43 :: u 44 :: u 45 :: u 46 :: u 47 :: u 48 :: u 49 :: u 50 :: u 51 :: u 52 :: u 53 :: u 54 :: u 55 :: u 56 :: u 57 :: u 58 :: u 59 :: u 60 :: u 61 :: u 62 :: u 63 :: u 64 :: u 65 :: u 66 :: u 67 :: u 68 :: u 69 :: u 70 :: u 71 :: u 72 :: u 73 :: u 74 :: u 75 :: u 76 :: u 77 :: u 78 :: u 79 :: u 80 :: u 81 :: u 82 :: u 83 :: u 84 :: u 85 :: u 86 :: u 87 :: u 88 :: u 89 :: u 90 :: u 91 :: u 92 :: u 93 :: u 94 :: u 95 :: u 96 :: u 97 :: u 98 :: u 99 :: u 100 :: u 101 :: u 102 :: u 103 :: u 104 :: u 105 :: u 106 :: u 107 :: u 108 :: u 109 :: u 110 :: u 111 :: u 112 :: u 113 :: u 114 :: u 115 :: u 116 :: u 117 :: u 118 :: u 119 :: u 120 :: u 121 :: u 122 :: u 123 :: u 124 :: u 125 :: u 126 :: u 127 :: u 128 :: u 129 :: u 130 :: u 131 :: u 132 :: u 133 :: u 134 :: u 135 :: u 136 :: u 137 :: u 138 :: u 139 :: u 140 :: u 141 :: u 142 :: u 143 :: u 144 :: u 145 :: u 146 :: u 147 :: u 148 :: u 149 :: u 150 :: u 151 :: u 152 :: u 153 :: u 154 :: u 155 :: u 156 :: u 157 :: u 158 :: u 159 :: u 160 :: u 161 :: u 162 :: u 163 :: u 164 :: u 165 :: u 166 :: u 167 :: u 168 :: []), []⟩) a W)
              (fun a _ => 31 - (intOf (a.tmps.getD 24 undef)).toNat) ⟨⟨0, by omega, G, hAD, PN, HS, exFrame (by kernel_rfl)⟩⟩ ?_
            clear hAD PN HS c1 lc
            rintro a W6 ⟨⟨f, hf, G, hAD, PN, HS, u, rfl⟩⟩
            by_cases hf31 : f < 31
            · obtain ⟨x, hx⟩ : ∃ x : Nat, (n : Int) - c = (x : Int) := ⟨((n : Int) - c).toNat, by omega⟩
              have hx52 : x < 52 := by omega
              have he17 : e < 17 := by omega
              have wx : IntKind.i64.wrap ((n : Int) - c) = (x : Int) := by rw [hx]; exact IntWalk.i64_in _ (by omega)
              have mc := hAD.zs.mp.cell he17 hx52 hf31
              have lm := hAD.zs.mp.lt
              have HX : Hid (x = ((n : Int) - c).toNat) := Lib.hid (by omega)
              have HX2 : Hid ((x : Int) = (n : Int) - c) := Lib.hid hx.symm
              clear hx
              have HNO : ¬ (M e x f = true ∧ leadsB g.blo g.bhi D (f : Int) (m : Int) = true) → Hid (QQ g h l (fun j => hasB out (j : Int)) D M e n m c (f + 1) G) := fun hno => Lib.hid (PN.out.no (by rw [← HX.out]; exact hno))
              cases hM : M e x f
              · rw [hM] at mc
                have P2 := HNO (by rw [hM]; rintro ⟨h1, _⟩; cases h1)
                clear hM HNO
                go_wp2_with fail
                refine ⟨⟨⟨f + 1, by omega, G, hAD, P2, HS, exFrame (by kernel_rfl)⟩⟩, ?_⟩
                show 31 - (intOf (.int .i64 ((f : Int) + 1))).toNat < 31 - (intOf (.int .i64 (f : Int))).toNat
                simp [intOf]
                omega
              rw [hM] at mc
              have HM := Lib.hid hM
              have a3 : W6.cell? ⟨w.heap.size, 3, none⟩ = some (.int .i64 g.blo) := hAD.zs.qg.cell 3
              have a4 : W6.cell? ⟨w.heap.size, 4, none⟩ = some (.int .i64 g.bhi) := hAD.zs.qg.cell 4
              have l1 := hAD.zs.qg.lt
              obtain ⟨Aq, cq, hvq, _, hsl⟩ := own_sl hAD.ow
              injection hvq with hv1 hv2 hv3
              subst hv1 hv3
              clear hv2
              cases hL : leadsB g.blo g.bhi D (f : Int) (m : Int)
              · have P2 := HNO (by rw [hL]; rintro ⟨_, h1⟩; cases h1)
                have HL := Lib.hid hL
                clear hM HNO hL
                go_wp2_with fail
                refine (leads_any g.blo g.bhi _ _ D (f : Int) (m : Int) W6 hsl hbk (by omega) (by omega)).mono ?_
                rintro e7 W7 ⟨rfl, h7⟩
                have hA7 := hAD.below h7
                rw [HL.out]
                go_wp2_with fail
                refine ⟨⟨⟨f + 1, by omega, G, hA7, P2, HS, exFrame (by kernel_rfl)⟩⟩, ?_⟩
                show 31 - (intOf (.int .i64 ((f : Int) + 1))).toNat < 31 - (intOf (.int .i64 (f : Int))).toNat
                simp [intOf]
                omega
              · have HL := Lib.hid hL
                clear hM HNO hL
                go_wp2_with fail
                refine (leads_any g.blo g.bhi _ _ D (f : Int) (m : Int) W6 hsl hbk (by omega) (by omega)).mono ?_
                rintro e7 W7 ⟨rfl, h7⟩
                have hA7 := hAD.below h7
                rw [HL.out]
                have fm := hA7.zs.gp.frozen (e * 1612 + x * 31 + f)
                have gcl2 := hA7.zs.gp.cell he17 hx52 hf31
                have lg2 := hA7.zs.gp.lt
                have hA8 := hA7.setG he17 hx52 hf31
                have P8 := Lib.hid (PN.out.yes HX.out (lead_goes HK.out hlt HDA.out HKN.out PN.out.known hn52 hm31 (by rw [HS.out]; exact HSM.out) (by rw [← HCL.out, ← HCH.out]; exact ⟨hc, hcc⟩) hcn hf31 HX2.out HM.out HL.out))
                have HS8 : Hid (upd G e x f (e + 1) = S) := Lib.hid (by rw [upd_row]; exact HS.out)
                go_wp2_with fail
                refine ⟨⟨⟨f + 1, by omega, _, hA8, P8, HS8, exFrame (by kernel_rfl)⟩⟩, ?_⟩
                show 31 - (intOf (.int .i64 ((f : Int) + 1))).toNat < 31 - (intOf (.int .i64 (f : Int))).toNat
                simp [intOf]
                omega
            · have hfE : f = 31 := by omega
              subst hfE
              have P2 := Lib.hid PN.out.creep
              go_wp2_with fail
              refine ⟨⟨⟨c + 1, by omega, by omega, G, hAD, P2, HS, exFrame (by kernel_rfl)⟩⟩, ?_⟩
              first
              | (show (chi + 1 - intOf (.int .i64 (c + 1))).toNat < (chi + 1 - intOf (.int .i64 c)).toNat; simp [intOf]; omega)
              | (show max (chi + 1 - intOf (.int .i64 (c + 1))) 0 < chi + 1 - intOf (.int .i64 c); simp only [intOf]; omega)
          · have e2 : decide (c ≤ (n : Int)) = false := decide_eq_false hcn
            have P2 := HEND (.inr (by omega))
            have R3 : Hid (ZR g (G (e + 1)) n (m + 1) (bN 1) (min lw zv) (max hw zv)) := Lib.hid (by rw [HS.out]; exact R2.out)
            clear HEND
            go_wp2_with fail
            refine ⟨⟨⟨m + 1, by omega, 1, min lw zv, max hw zv, G, hAD, P2, R3, Lib.hid (fun _ => HAG.out), exFrame (by kernel_rfl)⟩⟩, ?_⟩
            show 31 - (intOf (.int .i64 ((m : Int) + 1))).toNat < 31 - (intOf (.int .i64 (m : Int))).toNat
            simp [intOf]
            omega
        · have e1 : decide (c ≤ chi) = false := decide_eq_false hcc
          have P2 := HEND (.inl (by omega))
          have R3 : Hid (ZR g (G (e + 1)) n (m + 1) (bN 1) (min lw zv) (max hw zv)) := Lib.hid (by rw [HS.out]; exact R2.out)
          clear HEND
          go_wp2_with fail
          refine ⟨⟨⟨m + 1, by omega, 1, min lw zv, max hw zv, G, hAD, P2, R3, Lib.hid (fun _ => HAG.out), exFrame (by kernel_rfl)⟩⟩, ?_⟩
          show 31 - (intOf (.int .i64 ((m : Int) + 1))).toNat < 31 - (intOf (.int .i64 (m : Int))).toNat
          simp [intOf]
          omega
      · have hmE : m = 31 := by omega
        subst hmE
        have P2 := Lib.hid (show QQ g h l (fun j => hasB out (j : Int)) D M e (n + 1) 0 cl 0 G by have := PN.out.rise; rw [← HCL.out] at this; exact this)
        have R2 := Lib.hid RN.out.rise
        go_wp2_with fail
        refine ⟨⟨⟨n + 1, by omega, is, lw, hw, G, hAD, P2, R2, IN, exFrame (by kernel_rfl)⟩⟩, ?_⟩
        show 52 - (intOf (.int .i64 ((n : Int) + 1))).toNat < 52 - (intOf (.int .i64 (n : Int))).toNat
        simp [intOf]
        omega
    · have hnE : n = 52 := by omega
      subst hnE
      obtain ⟨k2, b2⟩ := PN.out.day HK.out hlt HDA.out HKN.out
      have Z2 := Lib.hid (dz_day HK.out hlt PN.out.known Z1.out IN.out RN.out)
      go_wp2_with fail
      refine ⟨⟨⟨e, by omega, is, G, _, hAD.zs, Lib.hid k2, Lib.hid b2, Z2, exFrame (by kernel_rfl)⟩⟩, ?_⟩
      show (intOf (.int .i64 (e : Int))).toNat < (intOf (.int .i64 ((e : Int) + 1))).toNat
      simp [intOf]
      try omega
  · have hd0' : d = 0 := by omega
    subst hd0'
    obtain ⟨ha, hs⟩ := S1.zp.list
    have HZR := Lib.hid (zr_done Z1.out hnh.1 ha)
    have hbw := S1.bw
    go_wp2
    go_ret2
    exact ⟨⟨_, _, _, rfl, HZR, hs⟩, hbw⟩
end Go.Proofs.YtkaogjhnogkcdaaGreat
end

section
namespace Go.Proofs.YtkaogjhnogkcdaaGreat
open Go.RowKit

structure Fx (w : World) (R : Nat → Prop) where
 W : World
 h : Fr R w W
instance (w : World) (R : Nat → Prop) : Nonempty (Fx w R) := ⟨⟨w, Fr.refl R w⟩⟩
theorem Fx.cell? {w : World} {R : Nat → Prop} (x : Fx w R) (b o : Nat) (hb : b < w.heap.size) (hne : ¬ R b) : x.W.cell? ⟨b, o, none⟩ = w.cell? ⟨b, o, none⟩ := World.cell?_of_block (x.h.block b hb hne)
theorem inFx {w w' : World} {R : Nat → Prop} (h : Fr R w w') : ∃ x : Fx w R, w' = x.W := ⟨⟨w', h⟩, rfl⟩
theorem Fr.drew {R : Nat → Prop} {w w' : World} (h : Fr R w w') : Fr R w w'.drew := ⟨h.os, h.tape, h.output, h.size, h.block⟩
theorem wp_region_fx_tq {P : Program} {Q : Exit → Act → World → Prop} {id : Nat} {a : Act} {w : World} {l : List Oper} (R : Nat → Prop) (n : Nat) (t : Tq) (hm : P.follows .mixedOrders = true)
  (hB : (tqeB .any l.toArray n t && decide (t.len = n)) = true) (hQ : ∀ d v c a w, Q (.panic c) (a.put d v) w → Q (.panic c) a w)
  (h : wqTree P l Q (fun w' => ∃ x : Fx w R, w' = x.W) n t a w.drew) : (Code.region id l.toArray true).wp P Q a w :=
 wp_region_tq n t _ hm hB hQ (inFx (Fr.refl R w).drew) h
attribute [local go_sem] Ex.cell? Ex.frozen? Fx.cell?

structure EN (b : Nat) (W0 : World) (R : Nat → Prop) (u1 u2 u3 : Value) (m1 m2 m3 : List Int) (W : World) : Prop where
 fr : Fr R W0 W
 o1 : W.ownsRow b 3 1 u1 m1.length (m1.map (Value.int .i64))
 o2 : W.ownsRow b 3 1 u2 m2.length (m2.map (Value.int .i64))
 o3 : W.ownsRow b 3 1 u3 m3.length (m3.map (Value.int .i64))
 n12 : ∀ x, u1.ownBlock = some x → u2.ownBlock ≠ some x
 n13 : ∀ x, u1.ownBlock = some x → u3.ownBlock ≠ some x
 n23 : ∀ x, u2.ownBlock = some x → u3.ownBlock ≠ some x
 r1 : ∀ x, u1.ownBlock = some x → R x ∨ W0.heap.size ≤ x
 r2 : ∀ x, u2.ownBlock = some x → R x ∨ W0.heap.size ≤ x
 r3 : ∀ x, u3.ownBlock = some x → R x ∨ W0.heap.size ≤ x
section
variable {b : Nat} {W0 : World} {R : Nat → Prop} {u1 u2 u3 : Value} {m1 m2 m3 : List Int} {W W' : World}
theorem EN.alloc (h : EN b W0 R u1 u2 u3 m1 m2 m3 W) (o : Obj) : EN b W0 R u1 u2 u3 m1 m2 m3 (W.alloc o) := by
 have hb : Below W.heap.size W (W.alloc o) := (Below.refl _ _).alloc (Nat.le_refl _) o
 exact ⟨h.fr.trans (Fr.below (R := fun _ => False) hb) (fun _ _ hx => hx.elim), own_below h.o1 hb, own_below h.o2 hb, own_below h.o3 hb, h.n12, h.n13, h.n23, h.r1, h.r2, h.r3⟩
theorem EN.app1 (h : EN b W0 R u1 u2 u3 m1 m2 m3 W) {gg cap : Nat} {x : Int} (hg : W.grownBy W' u1.ownBlock) (ho : W'.ownsRow b 3 1 (.slice (some ⟨gg, 0, none⟩) (m1.length + 1) cap) (m1.length + 1) (m1.map (Value.int .i64) ++ [.int .i64 x])) (hat : u1.ownBlock = some gg ∨ W.heap.size ≤ gg) :
  EN b W0 R (.slice (some ⟨gg, 0, none⟩) (m1.length + 1) cap) u2 u3 (m1 ++ [x]) m2 m3 W' := by
 have hf : Fr (fun y => u1.ownBlock = some y) W W' := Fr.grown hg (fun y hy => .inl hy)
 have hs := h.fr.size
 refine ⟨h.fr.trans hf (fun y hy hr => (h.r1 y hr).resolve_right (by omega)), own_snoc rfl ho, own_fr h.o2 hf (fun y hy hr => h.n12 y hr hy), own_fr h.o3 hf (fun y hy hr => h.n13 y hr hy), fun y hy hc => ?_, fun y hy hc => ?_, h.n23, fun y hy => ?_, h.r2, h.r3⟩
 all_goals
  have hy' : gg = y := by simpa [Value.ownBlock] using hy
  subst hy'
  rcases hat with hat | hat
 ·
  exact h.n12 gg hat hc
 ·
  have := own_lt h.o2 hc; omega
 ·
  exact h.n13 gg hat hc
 ·
  have := own_lt h.o3 hc; omega
 ·
  exact h.r1 gg hat
 ·
  exact .inr (by omega)
theorem EN.app2 (h : EN b W0 R u1 u2 u3 m1 m2 m3 W) {gg cap : Nat} {x : Int} (hg : W.grownBy W' u2.ownBlock) (ho : W'.ownsRow b 3 1 (.slice (some ⟨gg, 0, none⟩) (m2.length + 1) cap) (m2.length + 1) (m2.map (Value.int .i64) ++ [.int .i64 x])) (hat : u2.ownBlock = some gg ∨ W.heap.size ≤ gg) :
  EN b W0 R u1 (.slice (some ⟨gg, 0, none⟩) (m2.length + 1) cap) u3 m1 (m2 ++ [x]) m3 W' := by
 have hf : Fr (fun y => u2.ownBlock = some y) W W' := Fr.grown hg (fun y hy => .inl hy)
 have hs := h.fr.size
 refine ⟨h.fr.trans hf (fun y hy hr => (h.r2 y hr).resolve_right (by omega)), own_fr h.o1 hf (fun y hy hr => h.n12 y hy hr), own_snoc rfl ho, own_fr h.o3 hf (fun y hy hr => h.n23 y hr hy), fun y hc hy => ?_, h.n13, fun y hy hc => ?_, h.r1, fun y hy => ?_, h.r3⟩
 all_goals
  have hy' : gg = y := by simpa [Value.ownBlock] using hy
  subst hy'
  rcases hat with hat | hat
 ·
  exact h.n12 gg hc hat
 ·
  have := own_lt h.o1 hc; omega
 ·
  exact h.n23 gg hat hc
 ·
  have := own_lt h.o3 hc; omega
 ·
  exact h.r2 gg hat
 ·
  exact .inr (by omega)
end
theorem TR.leave {gc : Array Value} {w : World} {v1 v2 v3 u1 u2 u3 : Value} {l1 l2 l3 m1 m2 m3 : List Int} {W0 W : World} {R : Nat → Prop} (h : TR gc w v1 v2 v3 l1 l2 l3 W0) (hR : ∀ y, R y → w.heap.size + 1 + 1 < y) (e : EN (w.heap.size + 1 + 1) W0 R u1 u2 u3 m1 m2 m3 W) :
  TR gc w u1 u2 u3 m1 m2 m3 (((W.setCell ⟨w.heap.size + 1 + 1, 0, none⟩ u1).setCell ⟨w.heap.size + 1 + 1, 1, none⟩ u2).setCell ⟨w.heap.size + 1 + 1, 2, none⟩ u3) := by
 have hf : Fr (fun y => y = w.heap.size + 1 + 1) W (((W.setCell ⟨w.heap.size + 1 + 1, 0, none⟩ u1).setCell ⟨w.heap.size + 1 + 1, 1, none⟩ u2).setCell ⟨w.heap.size + 1 + 1, 2, none⟩ u3) := (((Fr.refl (fun y => y = w.heap.size + 1 + 1) W).andSet rfl).andSet rfl).andSet rfl
 have hn : ∀ x, x ≤ w.heap.size + 1 + 1 → ¬ R x := fun x hx hr => by have := hR x hr; omega
 have b1 := h.q1.fr e.fr (hn _ (by omega))
 have b2 := h.qr.fr e.fr (hn _ (by omega))
 have b3 := h.qp.fr e.fr (hn _ (by omega))
 have hq := ((b3.set_ 0 u1).set_ 1 u2).set_ 2 u3
 simp only [List.setIfInBounds_toArray, List.set_cons_zero, List.set_cons_succ] at hq
 have hW : Below w.heap.size w W := e.fr.toBelow h.bw h.bw.size (fun x hx => by have := hR x hx; omega)
 exact ⟨hf.toBelow hW hW.size (fun x hx => by omega), b1.fr hf (by omega), b2.fr hf (by omega), hq, own_fr e.o1 hf (fun y hy hr => own_blkne e.o1 b3 (by decide) (hr ▸ hy)), own_fr e.o2 hf (fun y hy hr => own_blkne e.o2 b3 (by decide) (hr ▸ hy)), own_fr e.o3 hf (fun y hy hr => own_blkne e.o3 b3 (by decide) (hr ▸ hy)), e.n12, e.n13, e.n23⟩

def endK (g : Gl) (h : List Rg) (high : Bool) (k : Nat) : List Int × List Int × List Int :=
 ((List.range k).map (fun d => if high then (gR h d).lo else (gR h d).hi), (List.range k).map (fun d => if high then (creep g d).hi else (creep g d).lo), (List.range k).map (fun _ => if high then g.bhi else g.blo))

end Go.Proofs.YtkaogjhnogkcdaaGreat
end

section

end

section
namespace Go.Proofs.YtkaogjhnogkcdaaGreat
open Go.RowKit

structure KeyOk {α : Type} [DecidableEq α] (t : TypeId) (kV : α → Value) : Prop where
 eq : ∀ (s u : α) (w : World), (Op.equal t (kV s) (kV u)).run Tryz.prog w = .ok (s == u) w
 check : ∀ (em : Bool) (s : α) (w : World), (Instr.checkKey em 10000 t (kV s)).run Tryz.prog w = .ok () w
 und : ∃ d, Tryz.prog.underlying t = some d ∧ ∀ (s : α) (e : MapEntry) (es : List MapEntry) (i : Nat), Instr.findNow d (kV s) (e :: es) i = none

section
variable {α β : Type} [DecidableEq α] {t : TypeId} {kV : α → Value} {vV : β → Value}
def mkE (kV : α → Value) (vV : β → Value) (L : List (α × β)) : Array MapEntry := (L.zipIdx.map fun p => { key := kV p.1.1, val := vV p.1.2, born := p.2 }).toArray
def IsMp (kV : α → Value) (vV : β → Value) (W : World) (b : Nat) (L : List (α × β)) : Prop := W.heap[b]? = some (.map (mkE kV vV L) L.length)
theorem mpGetObj {W : World} {b c : Nat} {es : Array MapEntry} (h : W.heap[b]? = some (.map es c)) : (getObj b).run Tryz.prog W = .ok (.map es c) W := by simp [getObj, Sem.run, h]
theorem mpSetObj {W : World} {b c : Nat} {es : Array MapEntry} (o' : Obj) (h : W.heap[b]? = some (.map es c)) : (setObj b o').run Tryz.prog W = .ok () (W.putObj b o') := by simp [setObj, Sem.run, h, World.putObj]
def mpAt (s : α) : List (α × β) → Nat → Option (Nat × β)
 | [], _ => none
 | p :: l, i => if p.1 = s then some (i, p.2) else mpAt s l (i + 1)
theorem mp_asking (hk : KeyOk t kV) (s : α) (w : World) : ∀ (l : List (α × β)) (k i : Nat),
  (Instr.findAsking t (kV s) (l.zipIdx k |>.map fun p => { key := kV p.1.1, val := vV p.1.2, born := p.2 }) i).run Tryz.prog w = .ok ((mpAt s l i).map fun x => (x.1, vV x.2)) w
 | [], _, _ => by simp [Instr.findAsking, mpAt]
 | p :: l, k, i => by
  simp only [List.zipIdx_cons, List.map_cons, Instr.findAsking, Sem.run_bind, hk.eq, Result.andThen_ok]
  by_cases h : p.1 = s
  ·
   have hb : (s == p.1) = true := by simp [h]
   simp [mpAt, h]
  ·
   have hb : (s == p.1) = false := by simpa using fun e => h e.symm
   simp only [hb, Bool.false_eq_true, if_false]
   rw [mp_asking hk s w l (k + 1) (i + 1), mpAt, if_neg h]
theorem mp_find (hk : KeyOk t kV) (s : α) (L : List (α × β)) (w : World) : (Instr.findKey t (kV s) (mkE kV vV L).toList).run Tryz.prog w = .ok ((mpAt s L 0).map fun x => (x.1, vV x.2)) w := by
 obtain ⟨d, hd, hn⟩ := hk.und
 unfold Instr.findKey
 simp only [Sem.run_bind, run_underlying hd, Result.andThen_ok]
 have h2 : (mkE kV vV L).toList = (L.zipIdx 0 |>.map fun p => { key := kV p.1.1, val := vV p.1.2, born := p.2 }) := by simp [mkE]
 rw [h2]
 cases L with
 | nil => simp [Instr.findNow, mpAt]
 | cons p l =>
  rw [List.zipIdx_cons, List.map_cons, hn]
  exact mp_asking hk s w (p :: l) 0 0
def mpGet (s : α) (L : List (α × β)) : Option β := (mpAt s L 0).map (·.2)
theorem mpAt_some {s : α} : ∀ {L : List (α × β)} {i : Nat}, ((mpAt s L i).map (·.2)) = ((mpAt s L 0).map (·.2))
 | [], _ => rfl
 | p :: l, i => by
  rw [mpAt, mpAt]
  split
  ·
   rfl
  ·
   rw [mpAt_some (L := l) (i := i + 1), mpAt_some (L := l) (i := 0 + 1)]
theorem mpGet_cons {s : α} {p : α × β} {L : List (α × β)} : mpGet s (p :: L) = if p.1 = s then some p.2 else mpGet s L := by
 unfold mpGet
 rw [mpAt]
 split
 ·
  rfl
 ·
  exact mpAt_some
theorem mpGet_mem {s : α} {v : β} : ∀ {L : List (α × β)}, mpGet s L = some v → (s, v) ∈ L
 | [], h => by cases h
 | q :: L, h => by
  rw [mpGet_cons] at h
  split at h
  ·
   rename_i e; injection h with h; rw [← e, ← h]; simp
  ·
   exact List.mem_cons_of_mem _ (mpGet_mem h)
theorem mpGet_none {s : α} {L : List (α × β)} (h : mpGet s L = none) : mpAt s L 0 = none := by
 unfold mpGet at h
 cases hm : mpAt s L 0 with
 | none => rfl
 | some x => rw [hm] at h; cases h
theorem mpGet_some {s : α} {L : List (α × β)} {v : β} (h : mpGet s L = some v) : ∃ i, mpAt s L 0 = some (i, v) := by
 unfold mpGet at h
 cases hm : mpAt s L 0 with
 | none => rw [hm] at h; cases h
 | some x =>
  rw [hm] at h
  obtain ⟨i, u⟩ := x
  injection h with h
  exact ⟨i, by rw [← h]⟩
theorem mkE_push (L : List (α × β)) (s : α) (v : β) : (mkE kV vV L).push { key := kV s, val := vV v, born := L.length } = mkE kV vV (L ++ [(s, v)]) := by
 simp [mkE, List.zipIdx_append]
theorem IsMp.lt {W : World} {b : Nat} {L : List (α × β)} (h : IsMp kV vV W b L) : b < W.heap.size := (Array.getElem?_eq_some_iff.1 h).1
theorem IsMp.of_block {W W' : World} {b : Nat} {L : List (α × β)} (h : IsMp kV vV W b L) (hb : W'.heap[b]? = W.heap[b]?) : IsMp kV vV W' b L := hb.trans h
theorem IsMp.below {W W' : World} {b : Nat} {L : List (α × β)} (h : IsMp kV vV W b L) (hb : Below W.heap.size W W') : IsMp kV vV W' b L := h.of_block (hb.block b h.lt)
theorem IsMp.fr {R : Nat → Prop} {W W' : World} {b : Nat} {L : List (α × β)} (h : IsMp kV vV W b L) (hf : Fr R W W') (hn : ¬ R b) : IsMp kV vV W' b L := h.of_block (hf.block b h.lt hn)
theorem IsMp.new (W : World) {g : Nat} (hg : W.heap.size = g) : IsMp kV vV (W.alloc (.map #[] 0)) g [] := by
 subst hg; exact World.alloc_heap_new W _
end
end Go.Proofs.YtkaogjhnogkcdaaGreat
end

section
namespace Go.Proofs.YtkaogjhnogkcdaaGreat
open Go.RowKit
structure KeyFd {α : Type} [DecidableEq α] (t : TypeId) (kV : α → Value) : Prop where
 find : ∀ {β : Type} (vV : β → Value) (s : α) (L : List (α × β)) (w : World), (Instr.findKey t (kV s) (mkE kV vV L).toList).run Tryz.prog w = .ok ((mpAt s L 0).map fun x => (x.1, vV x.2)) w
 check : ∀ (em : Bool) (s : α) (w : World), (Instr.checkKey em 10000 t (kV s)).run Tryz.prog w = .ok () w
 stays : ∀ (s : α) (w : World), (Instr.keyThatStays (kV s) (kV s)).run Tryz.prog w = .ok (kV s) w
theorem KeyFd.of {α : Type} [DecidableEq α] {t : TypeId} {kV : α → Value} (h : KeyOk t kV) (hs : ∀ s w, (Instr.keyThatStays (kV s) (kV s)).run Tryz.prog w = .ok (kV s) w) : KeyFd t kV := ⟨fun _ s L w => mp_find h s L w, h.check, hs⟩
section
variable {β : Type} {vV : β → Value}
def keyI (n : Int) : Value := .int .i64 n
end
section
variable {α β : Type} [DecidableEq α] {t : TypeId} {kV : α → Value} {vV : β → Value}
def MpIs (kV : α → Value) (vV : β → Value) (W : World) (b : Nat) (F : α → Option β) : Prop := ∃ L, IsMp kV vV W b L ∧ ∀ s, mpGet s L = F s
theorem MpIs.lt {W : World} {b : Nat} {F : α → Option β} (h : MpIs kV vV W b F) : b < W.heap.size := h.choose_spec.1.lt
theorem MpIs.of_block {W W' : World} {b : Nat} {F : α → Option β} (h : MpIs kV vV W b F) (hb : W'.heap[b]? = W.heap[b]?) : MpIs kV vV W' b F := by
 obtain ⟨L, h1, h2⟩ := h
 exact ⟨L, h1.of_block hb, h2⟩
theorem MpIs.below {W W' : World} {b : Nat} {F : α → Option β} (h : MpIs kV vV W b F) (hb : Below W.heap.size W W') : MpIs kV vV W' b F := h.of_block (hb.block b h.lt)
theorem MpIs.fr {R : Nat → Prop} {W W' : World} {b : Nat} {F : α → Option β} (h : MpIs kV vV W b F) (hf : Fr R W W') (hn : ¬ R b) : MpIs kV vV W' b F := h.of_block (hf.block b h.lt hn)
theorem MpIs.new (W : World) {g : Nat} (hg : W.heap.size = g) : MpIs kV vV (W.alloc (.map #[] 0)) g (fun _ => none) := ⟨[], IsMp.new W hg, fun _ => rfl⟩
theorem MpIs.congr {W : World} {b : Nat} {F F' : α → Option β} (h : MpIs kV vV W b F) (e : ∀ s, F s = F' s) : MpIs kV vV W b F' := by
 obtain ⟨L, h1, h2⟩ := h
 exact ⟨L, h1, fun s => (h2 s).trans (e s)⟩
theorem MpIs.at_ {mt et : TypeId} (hm : Tryz.prog.underlying mt = some (.map t et)) (hk : KeyFd t kV) {W : World} {b : Nat} {F : α → Option β} (h : MpIs kV vV W b F) (s : α) {v : β} (hs : F s = some v) :
  (Instr.lookup mt (.map (some b)) (kV s) false).run Tryz.prog W = .ok (vV v) W := by
 obtain ⟨L, h1, h2⟩ := h
 unfold Instr.lookup
 simp only [Sem.run_bind, run_underlying hm, Result.andThen_ok, mpGetObj h1, hk.check, hk.find, Sem.run_pure]
 obtain ⟨i, hi⟩ := mpGet_some ((h2 s).trans hs)
 rw [hi]
 simp
theorem MpIs.at2 {mt et : TypeId} (hm : Tryz.prog.underlying mt = some (.map t et)) {i0 : TypeInfo} {z : Value} (hi : Tryz.prog.info? et = some i0) (hz : i0.zero = some z) (hk : KeyFd t kV) {W : World} {b : Nat} {F : α → Option β} (h : MpIs kV vV W b F) (s : α) :
  (Instr.lookup mt (.map (some b)) (kV s) true).run Tryz.prog W = .ok (match F s with | some v => .tuple #[vV v, .bool true] | none => .tuple #[z, .bool false]) W := by
 obtain ⟨L, h1, h2⟩ := h
 unfold Instr.lookup
 simp only [Sem.run_bind, run_underlying hm, Result.andThen_ok, mpGetObj h1, hk.check, hk.find, Sem.run_pure]
 rw [← h2 s]
 cases hg : mpGet s L with
 | none =>
  rw [mpGet_none hg]
  simp [go_sem, zeroValue, typeInfo, hi, hz]
 | some v =>
  obtain ⟨i, hi⟩ := mpGet_some hg
  rw [hi]
  simp
theorem mpAt_at {s : α} {v : β} : ∀ {L : List (α × β)} {k i : Nat}, mpAt s L k = some (i, v) → k ≤ i ∧ L[i - k]? = some (s, v)
 | [], _, _, h => by cases h
 | p :: L, k, i, h => by
  rw [mpAt] at h
  split at h
  ·
   rename_i e
   simp only [Option.some.injEq, Prod.mk.injEq] at h
   obtain ⟨rfl, rfl⟩ := h
   exact ⟨Nat.le_refl _, by simp [← e]⟩
  ·
   obtain ⟨h1, h2⟩ := mpAt_at h
   refine ⟨by omega, ?_⟩
   rw [show i - k = (i - (k + 1)) + 1 by omega]
   simpa using h2
theorem mpGet_set {s : α} {v u : β} : ∀ {L : List (α × β)} {k i : Nat}, mpAt s L k = some (i, u) → ∀ x, mpGet x (L.set (i - k) (s, v)) = if x = s then some v else mpGet x L
 | [], _, _, h, _ => by cases h
 | p :: L, k, i, h, x => by
  rw [mpAt] at h
  split at h
  ·
   rename_i e
   simp only [Option.some.injEq, Prod.mk.injEq] at h
   obtain ⟨rfl, rfl⟩ := h
   rw [show k - k = 0 by omega, List.set_cons_zero, mpGet_cons, mpGet_cons]
   by_cases hx : x = s
   ·
    rw [if_pos hx.symm, if_pos hx]
   ·
    rw [if_neg (fun e => hx e.symm), if_neg hx, if_neg (fun e2 => hx (by rw [← e2, e]))]
  ·
   rename_i hne
   obtain ⟨h1, _⟩ := mpAt_at h
   rw [show i - k = (i - (k + 1)) + 1 by omega, List.set_cons_succ, mpGet_cons, mpGet_cons, mpGet_set h x]
   by_cases hx : p.1 = x
   ·
    rw [if_pos hx, if_pos hx, if_neg (fun e => hne (hx.trans e))]
   ·
    rw [if_neg hx, if_neg hx]
theorem mpGet_push {s x : α} {v : β} : ∀ {L : List (α × β)}, mpGet s L = none → mpGet x (L ++ [(s, v)]) = if x = s then some v else mpGet x L
 | [], _ => by
  rw [List.nil_append, mpGet_cons]
  by_cases h : x = s
  ·
   rw [if_pos h.symm, if_pos h]
  ·
   rw [if_neg (fun e => h e.symm), if_neg h]
 | p :: L, hn => by
  rw [mpGet_cons] at hn
  split at hn
  ·
   cases hn
  ·
   rename_i hne
   rw [List.cons_append, mpGet_cons, mpGet_cons, mpGet_push hn]
   by_cases hx : p.1 = x
   ·
    rw [if_pos hx, if_pos hx, if_neg (fun e => hne (hx.trans e))]
   ·
    rw [if_neg hx, if_neg hx]
theorem mkE_set (L : List (α × β)) (i : Nat) (s : α) (v : β) : (mkE kV vV L).modify i (fun e => { e with key := kV s, val := vV v }) = mkE kV vV (L.set i (s, v)) := by
 refine Array.ext (by simp [mkE]) (fun j h1 h2 => ?_)
 rw [Array.getElem_modify]
 simp only [mkE, List.getElem_toArray, List.getElem_map, List.getElem_zipIdx, Nat.zero_add]
 rw [List.getElem_set]
 split <;> rfl
theorem MpIs.put {mt et : TypeId} (hm : Tryz.prog.underlying mt = some (.map t et)) (hk : KeyFd t kV) {W : World} {b : Nat} {F : α → Option β} (h : MpIs kV vV W b F) (s : α) (v : β) :
  ∃ o, (Instr.mapUpdate mt (.map (some b)) (kV s) (vV v)).run Tryz.prog W = .ok () (W.putObj b o) ∧ MpIs kV vV (W.putObj b o) b (fun x => if x = s then some v else F x) := by
 obtain ⟨L, h1, h2⟩ := h
 cases hg : mpGet s L with
 | none =>
  refine ⟨.map (mkE kV vV (L ++ [(s, v)])) (L ++ [(s, v)]).length, ?_, L ++ [(s, v)], World.putObj_heap_same h1.lt, fun x => by rw [mpGet_push hg, h2]⟩
  unfold Instr.mapUpdate
  simp only [Sem.run_bind, run_underlying hm, Result.andThen_ok, mpGetObj h1, hk.check, hk.find, mpGet_none hg]
  simp only [Option.map_none]
  rw [mkE_push, mpSetObj _ h1]
  simp
 | some u =>
  obtain ⟨i, hi⟩ := mpGet_some hg
  obtain ⟨_, hL⟩ := mpAt_at hi
  have hset := mpGet_set (v := v) hi
  simp only [Nat.sub_zero] at hL hset
  refine ⟨.map (mkE kV vV (L.set i (s, v))) (L.set i (s, v)).length, ?_, L.set i (s, v), World.putObj_heap_same h1.lt, fun x => by rw [hset, h2]⟩
  unfold Instr.mapUpdate
  simp only [Sem.run_bind, run_underlying hm, Result.andThen_ok, mpGetObj h1, hk.check, hk.find, hi]
  simp only [Option.map_some]
  have hkey : (((mkE kV vV L)[i]?).map (·.key)).getD (kV s) = kV s := by
   have : (mkE kV vV L)[i]? = some { key := kV s, val := vV u, born := i } := by
    simp [mkE, List.getElem?_zipIdx, hL]
   rw [this]; rfl
  rw [hkey]
  simp only [Sem.run_bind, hk.stays, Result.andThen_ok]
  rw [mkE_set, mpSetObj _ h1]
  simp
theorem fr_putO (R : Nat → Prop) (W : World) (b : Nat) (o : Obj) (h : R b) : Fr R W (W.putObj b o) :=
 ⟨rfl, rfl, rfl, by simp, fun k _ hn => World.putObj_heap_other (fun e => hn (e ▸ h))⟩
end
end Go.Proofs.YtkaogjhnogkcdaaGreat
end

section
namespace Go.Proofs.YtkaogjhnogkcdaaGreat
open Go.RowKit
section
variable {α β : Type} [DecidableEq α] {t : TypeId} {kV : α → Value} {vV : β → Value}
def MpN (kV : α → Value) (vV : β → Value) (W : World) (b : Nat) (L : List (α × β)) (F : α → Option β) : Prop := IsMp kV vV W b L ∧ (L.map (·.1)).Nodup ∧ ∀ s, mpGet s L = F s
theorem MpN.is {W : World} {b : Nat} {L : List (α × β)} {F : α → Option β} (h : MpN kV vV W b L F) : MpIs kV vV W b F := ⟨L, h.1, h.2.2⟩
theorem MpN.new (W : World) {g : Nat} (hg : W.heap.size = g) : MpN kV vV (W.alloc (.map #[] 0)) g [] (fun _ => none) := ⟨IsMp.new W hg, by simp, fun _ => rfl⟩
theorem MpN.of_block {W W' : World} {b : Nat} {L : List (α × β)} {F : α → Option β} (h : MpN kV vV W b L F) (hb : W'.heap[b]? = W.heap[b]?) : MpN kV vV W' b L F := ⟨h.1.of_block hb, h.2⟩
theorem mpGet_nodup {s : α} {v : β} : ∀ {L : List (α × β)}, (L.map (·.1)).Nodup → (s, v) ∈ L → mpGet s L = some v
  | [], _, h => by cases h
  | p :: L, hn, h => by
    rw [List.map_cons, List.nodup_cons] at hn
    rw [mpGet_cons]
    rcases List.mem_cons.1 h with h | h
    · subst h; simp
    · rw [if_neg (fun e => hn.1 (by rw [e]; exact List.mem_map.2 ⟨_, h, rfl⟩))]
      exact mpGet_nodup hn.2 h
theorem MpN.mem {W : World} {b : Nat} {L : List (α × β)} {F : α → Option β} (h : MpN kV vV W b L F) {s : α} {v : β} : (s, v) ∈ L ↔ F s = some v := by
  rw [← h.2.2 s]
  exact ⟨mpGet_nodup h.2.1, mpGet_mem⟩
theorem mpGet_key {s : α} : ∀ {L : List (α × β)}, mpGet s L = none → s ∉ L.map (·.1)
  | [], _ => by simp
  | p :: L, h => by
    rw [mpGet_cons] at h
    split at h
    · cases h
    · rename_i hne
      rw [List.map_cons, List.mem_cons]
      rintro (e | e)
      · exact hne e.symm
      · exact mpGet_key h e
theorem MpN.put {mt et : TypeId} (hm : Tryz.prog.underlying mt = some (.map t et)) (hk : KeyFd t kV) {W : World} {b : Nat} {L : List (α × β)} {F : α → Option β} (h : MpN kV vV W b L F) (s : α) (v : β) :
    ∃ o L', (Instr.mapUpdate mt (.map (some b)) (kV s) (vV v)).run Tryz.prog W = .ok () (W.putObj b o) ∧ MpN kV vV (W.putObj b o) b L' (fun x => if x = s then some v else F x) := by
  obtain ⟨h1, hnd, h2⟩ := h
  cases hg : mpGet s L with
  | none =>
    refine ⟨.map (mkE kV vV (L ++ [(s, v)])) (L ++ [(s, v)]).length, L ++ [(s, v)], ?_, World.putObj_heap_same h1.lt, ?_, fun x => by rw [mpGet_push hg, h2]⟩
    · unfold Instr.mapUpdate
      simp only [Sem.run_bind, run_underlying hm, Result.andThen_ok, mpGetObj h1, hk.check, hk.find, mpGet_none hg]
      simp only [Option.map_none]
      rw [mkE_push, mpSetObj _ h1]
      simp
    · rw [List.map_append, List.nodup_append]
      refine ⟨hnd, by simp, fun a ha c hc => ?_⟩
      simp only [List.map_cons, List.map_nil, List.mem_singleton] at hc
      subst hc
      rintro rfl
      exact mpGet_key hg ha
  | some u =>
    obtain ⟨i, hi⟩ := mpGet_some hg
    obtain ⟨_, hL⟩ := mpAt_at hi
    have hset := mpGet_set (v := v) hi
    simp only [Nat.sub_zero] at hL hset
    refine ⟨.map (mkE kV vV (L.set i (s, v))) (L.set i (s, v)).length, L.set i (s, v), ?_, World.putObj_heap_same h1.lt, ?_, fun x => by rw [hset, h2]⟩
    · unfold Instr.mapUpdate
      simp only [Sem.run_bind, run_underlying hm, Result.andThen_ok, mpGetObj h1, hk.check, hk.find, hi]
      simp only [Option.map_some]
      have hkey : (((mkE kV vV L)[i]?).map (·.key)).getD (kV s) = kV s := by
        have : (mkE kV vV L)[i]? = some { key := kV s, val := vV u, born := i } := by
          simp [mkE, List.getElem?_zipIdx, hL]
        rw [this]; rfl
      rw [hkey]
      simp only [Sem.run_bind, hk.stays, Result.andThen_ok]
      rw [mkE_set, mpSetObj _ h1]
      simp
    · have : (L.set i (s, v)).map (·.1) = L.map (·.1) := by
        rw [List.map_set]
        refine List.ext_getElem? fun j => ?_
        rw [List.getElem?_set]
        split
        · rename_i e
          subst e
          split
          · simp [hL]
          · rename_i h'
            rw [List.getElem?_eq_none (by omega)]
        · rfl
      rw [this]; exact hnd

theorem run_range_mp {mt et : TypeId} (hm : Tryz.prog.underlying mt = some (.map t et)) {W : World} {b : Nat} {L : List (α × β)} (h : IsMp kV vV W b L) : (Instr.range mt (.map (some b))).run Tryz.prog W = .ok (.pointer (some ⟨W.heap.size, 0, none⟩)) (W.alloc (.mapIter (some b) L.length #[] L.length)) := by
  unfold Instr.range
  simp only [Sem.run_bind, run_underlying hm, Result.andThen_ok, mpGetObj h, Sem.run_pure, run_newObj_alloc]

def IterM (W : World) (r b : Nat) (n : Nat) (sn : List Nat) : Prop := W.heap[r]? = some (.mapIter (some b) n sn.toArray n) ∧ ∀ i ∈ sn, i < n
theorem IterM.lt {W : World} {r b n : Nat} {sn : List Nat} (h : IterM W r b n sn) : r < W.heap.size := (Array.getElem?_eq_some_iff.1 h.1).1
theorem IterM.of_block {W W' : World} {r b n : Nat} {sn : List Nat} (h : IterM W r b n sn) (hb : W'.heap[r]? = W.heap[r]?) : IterM W' r b n sn := ⟨hb.trans h.1, h.2⟩
theorem IterM.new (W : World) (b n : Nat) {r : Nat} (hr : W.heap.size = r) : IterM (W.alloc (.mapIter (some b) n #[] n)) r b n [] := by
  subst hr; exact ⟨World.alloc_heap_new W _, fun _ h => by cases h⟩
def leftM (n : Nat) (sn : List Nat) : Nat := ((List.range n).filter fun i => !sn.contains i).length
theorem leftM_lt {n : Nat} {sn : List Nat} {i : Nat} (hi : i < n) (hn : i ∉ sn) : leftM n (sn ++ [i]) < leftM n sn := by
  unfold leftM
  rw [← List.countP_eq_length_filter, ← List.countP_eq_length_filter]
  have h1 : (List.range n).countP (fun j => !(sn ++ [i]).contains j) + 1 ≤ (List.range n).countP (fun j => !sn.contains j) := by
    have hmem : i ∈ List.range n := List.mem_range.2 hi
    obtain ⟨a, b, hab⟩ := List.append_of_mem hmem
    rw [hab]
    simp only [List.countP_append, List.countP_cons]
    have m1 : ∀ l : List Nat, l.countP (fun j => !(sn ++ [i]).contains j) ≤ l.countP (fun j => !sn.contains j) := fun l => List.countP_mono_left fun j _ hj => by
      simp at hj ⊢; exact hj.1
    have q1 := m1 a
    have q2 := m1 b
    have e1 : (!(sn ++ [i]).contains i) = false := by simp
    have e2 : (!sn.contains i) = true := by simp [hn]
    simp only [e1, e2, if_true, Bool.false_eq_true, if_false]
    omega
  omega
theorem mkE_get {L : List (α × β)} {i : Nat} (hi : i < L.length) : (mkE kV vV L)[i]? = some { key := kV L[i].1, val := vV L[i].2, born := i } := by
  simp [mkE, List.getElem?_zipIdx, hi]

theorem next_mp {W : World} {r b : Nat} {L : List (α × β)} {sn : List Nat} (hm : IsMp kV vV W b L) (h : IterM W r b L.length sn) (ty : TypeId) :
    ((∀ i, i < L.length → i ∈ sn) ∧ (Instr.next (.pointer (some ⟨r, 0, none⟩)) false ty).run Tryz.prog W = .ok (.tuple #[.bool false]) W) ∨
    ∃ i, ∃ hi : i < L.length, i ∉ sn ∧ ∃ W1, IterM W1 r b L.length (sn ++ [i]) ∧ W.grownBy W1 (some r) ∧ W1.heap.size = W.heap.size ∧
      (Instr.next (.pointer (some ⟨r, 0, none⟩)) false ty).run Tryz.prog W = .ok (.tuple #[.bool true, kV L[i].1, vV L[i].2]) W1 ∧
      (Instr.entry (.pointer (some ⟨r, 0, none⟩))).run Tryz.prog W1 = .ok (.tuple #[kV L[i].1, vV L[i].2]) W1 := by
  have hborn : ∀ x ∈ (mkE kV vV L).toList, ∃ i, ∃ hi : i < L.length, x = { key := kV L[i].1, val := vV L[i].2, born := i } := by
    intro x hx
    obtain ⟨i, hi, e⟩ := List.getElem_of_mem hx
    have hi' : i < L.length := by simpa [mkE] using hi
    exact ⟨i, hi', by rw [← e]; simp [mkE]⟩
  rcases run_next_at (P := Tryz.prog) W ty r b L.length L.length sn.toArray (mkE kV vV L) L.length h.1 hm (fun x hx => by obtain ⟨i, hi, e⟩ := hborn x hx; rw [e]; exact hi) (Nat.le_refl _) with ⟨h0, hrun⟩ | ⟨e, he, w1, hw1, hrun⟩
  · left
    refine ⟨fun i hi => ?_, hrun⟩
    by_cases hc : i ∈ sn
    · exact hc
    · have : ({ key := kV L[i].1, val := vV L[i].2, born := i } : MapEntry) ∈ (leftOf (mkE kV vV L) sn.toArray).toList := by
        unfold leftOf
        simp only [Array.toList_filter, List.mem_filter]
        refine ⟨?_, by simpa using hc⟩
        have := mkE_get (kV := kV) (vV := vV) hi
        exact Array.mem_toList_iff.2 (Array.mem_of_getElem? this)
      have hl : (leftOf (mkE kV vV L) sn.toArray).toList.length = 0 := by simpa using h0
      rw [List.length_eq_zero_iff.1 hl] at this
      cases this
  · right
    have he' : e ∈ (mkE kV vV L).toList ∧ sn.contains e.born = false := by
      unfold leftOf at he
      simp only [Array.toList_filter, List.mem_filter] at he
      exact ⟨he.1, by simpa using he.2⟩
    obtain ⟨i, hi, hee⟩ := hborn e he'.1
    have hni : i ∉ sn := by have := he'.2; rw [hee] at this; simpa using this
    have hr1 : w1.heap[r]? = W.heap[r]? ∧ w1.heap = W.heap ∧ w1.os = W.os ∧ w1.tape = W.tape ∧ w1.output = W.output := by rcases hw1 with rfl | rfl <;> exact ⟨rfl, rfl, rfl, rfl, rfl⟩
    refine ⟨i, hi, hni, Go.ChangeMaps.setBlock w1 r (.mapIter (some b) L.length (sn.toArray.push e.born) L.length), ⟨?_, ?_⟩, ⟨?_, ?_, ?_, ?_, ?_⟩, ?_, ?_, ?_⟩
    · have hlt := h.lt
      subst hee
      simp [Go.ChangeMaps.setBlock, hr1.2.1, hlt]
    · intro j hj
      rcases List.mem_append.1 hj with hj | hj
      · exact h.2 j hj
      · rw [List.mem_singleton.1 hj]; exact hi
    · exact hr1.2.2.1
    · exact hr1.2.2.2.1
    · exact hr1.2.2.2.2
    · simp [Go.ChangeMaps.setBlock, hr1.2.1]
    · intro k hk hne
      have : r ≠ k := fun e => hne (by rw [e])
      simp [Go.ChangeMaps.setBlock, hr1.2.1, Array.getElem?_setIfInBounds, this]
    · simp [Go.ChangeMaps.setBlock, hr1.2.1]
    · rw [hrun, hee]
    · have hb1 : (Go.ChangeMaps.setBlock w1 r (.mapIter (some b) L.length (sn.toArray.push e.born) L.length)).heap[b]? = some (.map (mkE kV vV L) L.length) := by
        have hne : r ≠ b := fun e => by
          have h1 := h.1; rw [e] at h1
          have h2 : W.heap[b]? = some (.map (mkE kV vV L) L.length) := hm
          rw [h2] at h1; cases h1
        simp [Go.ChangeMaps.setBlock, hr1.2.1, Array.getElem?_setIfInBounds, hne]
        exact hm
      have hr2 : (Go.ChangeMaps.setBlock w1 r (.mapIter (some b) L.length (sn.toArray.push e.born) L.length)).heap[r]? = some (.mapIter (some b) L.length (sn.toArray.push e.born) L.length) := by
        have hlt := h.lt
        simp [Go.ChangeMaps.setBlock, hr1.2.1, hlt]
      have := run_entry_at (P := Tryz.prog) _ r b L.length sn.toArray (mkE kV vV L) L.length e hr2 hb1 he'.1 (by
        have : (mkE kV vV L).toList.map (·.born) = List.range L.length := by
          apply List.ext_getElem
          · simp [mkE]
          · intro j h1 h2; simp [mkE]
        rw [this]; exact List.nodup_range)
      rw [this, hee]
end
end Go.Proofs.YtkaogjhnogkcdaaGreat
end

section
namespace Go.Proofs.YtkaogjhnogkcdaaGreat
open Go.RowKit
end Go.Proofs.YtkaogjhnogkcdaaGreat
end

section
namespace Go.Proofs.YtkaogjhnogkcdaaGreat
open Go.RowKit
theorem wpIn_region_tq {P : Program} {Q : Exit → Act → World → Prop} {id l0 nn : Nat} {a : Act} {w : World} {l : List Oper} (n : Nat) (t : Tq) (S : World → Prop) (hm : P.follows .mixedOrders = true)
    (hB : (tqeB .any l.toArray n t && decide (t.len = n)) = true) (hnd : noDefer l = true) (hout : ¬ LetsOut Q) (hQ : ∀ d v c a w, Q (.panic c) (a.put d v) w → Q (.panic c) a w)
    (hS : S w.drew) (h : wqTree P l Q S n t a w.drew) : (Code.region id l.toArray true).wpIn (Fence.wide.inRound l0) nn P Q a w := by
  simp only [tqeB, Bool.and_eq_true, decide_eq_true_eq] at hB
  obtain ⟨⟨⟨⟨⟨hsel, hn⟩, hs⟩, hc⟩, hlex⟩, hlen⟩ := hB
  have hdl : (l.drop n).length = l.toArray.size - n := by simp
  have inv0 : HeadInv .any l.toArray n (Array.replicate l.toArray.size false) :=
    ⟨by simp, fun j oj _ hl => (by rw [getD_replicate_false] at hl; cases hl), fun t _ ht => getD_in (by simpa using ht) (getD_replicate_false _ _)⟩
  have H := tq_head (md := .any) (g := l.toArray.size - n) (T := fun a'' w'' => wpList P l.toArray Q (l.drop n) a'' w'') hsel hQ hs hc hn t _ a _ inv0 hlex hS h
  refine wpIn_region_any hm (wpAnyIn_of_wpAny hout (noDefer_spec hnd) _ _ _ _ ?_)
  have := wpAny_of_headH (g := l.toArray.size - n) (fun listed' a' w' hL => by
    have := wpAny_of_seq (md := .any) (l.drop n) n listed' a' w' (fun j => by simp [List.getElem?_drop]) (by rw [hdl]; exact hL.1) hL.2
    rwa [hdl] at this) _ _ _ _ H
  rw [hlen, show n + (l.toArray.size - n) = l.toArray.size by omega] at this
  exact this
theorem wpIn_region_ext_tq {P : Program} {Q : Exit → Act → World → Prop} {id l0 nn : Nat} {a : Act} {w : World} {l : List Oper} (n : Nat) (t : Tq) (hm : P.follows .mixedOrders = true)
    (hB : (tqeB .any l.toArray n t && decide (t.len = n)) = true) (hnd : noDefer l = true) (hout : ¬ LetsOut Q) (hQ : ∀ d v c a w, Q (.panic c) (a.put d v) w → Q (.panic c) a w)
    (h : wqTree P l Q (fun w' => ∃ x : Ex w, w' = x.W) n t a w.drew) : (Code.region id l.toArray true).wpIn (Fence.wide.inRound l0) nn P Q a w :=
  wpIn_region_tq n t _ hm hB hnd hout hQ (inEx (Below.refl w.heap.size w).drew) h
end Go.Proofs.YtkaogjhnogkcdaaGreat
end

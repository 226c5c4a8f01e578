/- Glass: Holds (walk). · Glass: ProveTruth (walk). · Glass: lists of ices (plain), rows of rows, and worlds that have grown but for one block. · Glass: pick, the function within lists (walk). · A region that draws its order, gone through in one order: quiet operations (they neither write nor call) taken as soon as they may be, loud ones where each is the only one that may come; behind all a tail whose order is fixed. · A region that draws its order, where at one place two loud operations may come in either order (after XMX). · Glass: what one day does, by its truth (plain). · Glass: paths through the days (plain). · A region that draws its order, gone through as a tree: where two loud operations may come in either order, both ways are walked (after XMX and XMF). · A region that draws its order, gone through as a tree with forks of two and of three (after XMT). -/
import Derived.Outline
import Derived.Deep.LoopGhost
import Derived.Test.YtkaogjhnogkcdaaK8
set_option linter.unusedVariables false
set_option linter.unusedSimpArgs false
set_option linter.unusedSectionVars false
section
namespace Go.Proofs.Ytkaogjhnogkcdaa
open Go.RowKit

def ZsOf (g : Gl) (h : List Rg) (l : List Ic) (zs : List Rg) : Prop :=
 zs.length = h.length ∧ ∀ i, i < h.length → EndsOf (fun z => ∃ s, Goes g h l off0 (h.length - 1 - i) (i + 1) s ∧ z = zero g s) (gR zs i).lo (gR zs i).hi
theorem ends_list {n : Nat} {P : Nat → Int → Int → Prop} {oc : Array Value} (h : ∀ i, i < n → ∃ a b : Int, oc[2 * i]? = some (.int .i64 a) ∧ oc[2 * i + 1]? = some (.int .i64 b) ∧ P i a b) :
  ∃ zs : List Rg, zs.length = n ∧ (∀ i, i < n → P i (gR zs i).lo (gR zs i).hi) ∧ ∀ (W : World) (go : Nat) (t : TypeId), Blk W go t oc → SlAt W W.heap.size 2 (some ⟨go, 0, none⟩) n (fR zs) := by
 refine ⟨(List.range n).map fun i => ⟨intOf (oc.getD (2 * i) undef), intOf (oc.getD (2 * i + 1) undef)⟩, by simp, fun i hi => ?_, fun W go t hb h0 => ⟨go, 0, rfl, hb.lt, fun k j hk hj => ?_⟩⟩
 ·
  obtain ⟨a, b, h1, h2, h3⟩ := h i hi
  simp [gR, hi, h1, h2, intOf]
  exact h3
 ·
  obtain ⟨a, b, h1, h2, h3⟩ := h k hk
  rw [hb.cell]
  match j, hj with
  | 0, _ => simp [fR, gR, hk, h1, intOf, Nat.mul_comm k 2]
  | 1, _ => simp [fR, gR, hk, h2, intOf, Nat.mul_comm k 2]

def heldR (zs : List Rg) (low high : Int) (i : Nat) : Bool := decide (low ≤ (gR zs i).lo) && decide ((gR zs i).hi ≤ high)
def HoldsIs (zs : List Rg) (low high : Int) (n : Nat) (e : Ending) : Prop :=
 ∃ d, d ≤ n ∧ (∀ i, i < d → heldR zs low high i = true) ∧ (d < n → heldR zs low high d = false) ∧ ((d = 0 ∧ e = .returned (.tuple #[.int .i64 0, .int .i64 10])) ∨ (0 < d ∧ e = .returned (.tuple #[.int .i64 ((d : Int) - 1), .int .i64 0])))

end Go.Proofs.Ytkaogjhnogkcdaa
end

section
namespace Go.Proofs.Ytkaogjhnogkcdaa
open Go.RowKit

def proveB (g : Gl) (h : List Rg) (l : List Ic) (t1 t2 t3 : List Int) : Bool := decide (iced g h l = 0) && (truthB g h t1 t2 t3 && allTo (fun d => fitsB l off0 (d : Int) (zAt g t1 t2 t3 d)) h.length)

end Go.Proofs.Ytkaogjhnogkcdaa
end

section
namespace Go.Proofs.Ytkaogjhnogkcdaa
open Go.RowKit

def setO (o : Nat → Bool) (n : Nat) : Nat → Bool := fun k => if k = n then true else o k
def loopL (A : (Nat → Bool) → Bool) (many : Nat) : Nat → List Int → (Nat → Bool) → Nat → List (List Int)
 | 0, _, _, _ => []
 | f + 1, lv, o, n => (if (lv ++ [(n : Int)]).length = many then (if A (setO o n) then [lv ++ [(n : Int)]] else []) else loopL A many f (lv ++ [(n : Int)]) (setO o n) (n + 1)) ++ loopL A many f lv o (n + 1)
def pickL (A : (Nat → Bool) → Bool) (many f : Nat) (lv : List Int) (o : Nat → Bool) (n : Nat) : List (List Int) :=
 if lv.length = many then (if A o then [lv] else []) else loopL A many f lv o n
def wt : Nat → Nat
 | 0 => 1
 | n + 1 => wt n + wt n
structure Gx (w : World) (row : Option Nat) where
 W : World
 h : w.grownBy W row
instance (w : World) (row : Option Nat) : Nonempty (Gx w row) := ⟨⟨w, World.grownBy.refl w row⟩⟩
theorem Gx.cell? {w : World} {row : Option Nat} (x : Gx w row) (b o : Nat) (hb : b < w.heap.size) (hne : ¬ some b = row) : x.W.cell? ⟨b, o, none⟩ = w.cell? ⟨b, o, none⟩ := World.cell?_of_block (x.h.block b hb hne)
structure Fr (R : Nat → Prop) (w w' : World) : Prop where
 os : w'.os = w.os
 tape : w'.tape = w.tape
 output : w'.output = w.output
 size : w.heap.size ≤ w'.heap.size
 block : ∀ k, k < w.heap.size → ¬ R k → w'.heap[k]? = w.heap[k]?
theorem Fr.refl (R : Nat → Prop) (w : World) : Fr R w w := ⟨rfl, rfl, rfl, Nat.le_refl _, fun _ _ _ => rfl⟩
theorem Fr.below {R : Nat → Prop} {w w' : World} (h : Below w.heap.size w w') : Fr R w w' := ⟨h.os, h.tape, h.output, h.size, fun k hk _ => h.block k hk⟩
theorem Fr.grown {R : Nat → Prop} {w w' : World} {row : Option Nat} (h : w.grownBy w' row) (hr : ∀ b, row = some b → R b ∨ w.heap.size ≤ b) : Fr R w w' := ⟨h.os, h.tape, h.output, h.size, fun k hk hn => h.block k hk (fun e => by rcases hr k e.symm with h | h; exact hn h; omega)⟩
theorem Fr.set {R : Nat → Prop} (w : World) (b i : Nat) (v : Value) (hb : R b) : Fr R w (w.setCell ⟨b, i, none⟩ v) := Fr.grown (grown_set w b i v) (fun _ e => .inl (by injection e with e; exact e ▸ hb))
theorem Fr.trans {R R' : Nat → Prop} {a b c : World} (h : Fr R a b) (k : Fr R' b c) (hR : ∀ x, x < a.heap.size → R' x → R x) : Fr R a c :=
 ⟨k.os.trans h.os, k.tape.trans h.tape, k.output.trans h.output, Nat.le_trans h.size k.size, fun x hx hn => (k.block x (Nat.lt_of_lt_of_le hx h.size) (fun h' => hn (hR x hx h'))).trans (h.block x hx hn)⟩
theorem Fr.toBelow {R : Nat → Prop} {B : Nat} {w0 w w' : World} (h : Fr R w w') (hb : Below B w0 w) (hB : B ≤ w.heap.size) (hR : ∀ x, R x → B ≤ x) : Below B w0 w' :=
 ⟨h.os.trans hb.os, h.tape.trans hb.tape, h.output.trans hb.output, Nat.le_trans hb.size h.size, fun x hx => (h.block x (Nat.lt_of_lt_of_le hx hB) (fun hr => by have := hR x hr; omega)).trans (hb.block x hx)⟩
theorem Blk.fr {R : Nat → Prop} {w w' : World} {g : Nat} {t : TypeId} {cs : Array Value} (h : Blk w g t cs) (hf : Fr R w w') (hn : ¬ R g) : Blk w' g t cs := (hf.block g h.lt hn).trans h
theorem own_fr {R : Nat → Prop} {w w' : World} {base : Nat} {e : TypeId} {sz n : Nat} {v : Value} {xs : List Value} (h : w.ownsRow base e sz v n xs) (hf : Fr R w w') (hn : ∀ b, v.ownBlock = some b → ¬ R b) : w'.ownsRow base e sz v n xs := by
 refine ⟨h.1, h.2.imp id ?_⟩
 rintro ⟨g, cap, cur, rfl, hb, hh, rest⟩
 exact ⟨g, cap, cur, rfl, hb, (hf.block g (Array.getElem?_eq_some_iff.1 hh).1 (hn g rfl)).trans hh, rest⟩
theorem own_blkne {w : World} {base : Nat} {e t : TypeId} {size n : Nat} {v : Value} {xs : List Value} {g : Nat} {cs : Array Value} (h : w.ownsRow base e size v n xs) (hg : Blk w g t cs) (hne : e ≠ t) : v.ownBlock ≠ some g := by
 rcases h.2 with ⟨rfl, _⟩ | ⟨g', cap, cur, rfl, _, hh, _⟩
 ·
  simp [Value.ownBlock]
 ·
  intro he
  have : g' = g := by simpa [Value.ownBlock] using he
  subst this
  exact blk_ne (t := e) hh hg hne rfl
theorem own_ownne {w : World} {base base' : Nat} {e t : TypeId} {size n size' n' : Nat} {v v' : Value} {xs xs' : List Value} (h : w.ownsRow base e size v n xs) (h' : w.ownsRow base' t size' v' n' xs') (hne : e ≠ t) {b : Nat} (hb : v.ownBlock = some b) : v'.ownBlock ≠ some b := by
 rcases h'.2 with ⟨rfl, _⟩ | ⟨g', cap, cur, rfl, _, hh, _⟩
 ·
  simp [Value.ownBlock]
 ·
  intro he
  have : g' = b := by simpa [Value.ownBlock] using he
  subst this
  exact own_blkne (cs := cur) h hh hne hb
theorem own_lt {w : World} {base : Nat} {e : TypeId} {sz n : Nat} {v : Value} {xs : List Value} (h : w.ownsRow base e sz v n xs) {b : Nat} (hb : v.ownBlock = some b) : base ≤ b ∧ b < w.heap.size := by
 rcases h.2 with ⟨rfl, _⟩ | ⟨g', cap, cur, rfl, hge, hh, _⟩
 ·
  simp [Value.ownBlock] at hb
 ·
  have : g' = b := by simpa [Value.ownBlock] using hb
  subst this
  exact ⟨hge, (Array.getElem?_eq_some_iff.1 hh).1⟩

def RowsAre (w : World) (base : Nat) : List Value → List (List Int) → Prop
 | [], [] => True
 | v :: vs, l :: ls => w.ownsRow base 3 1 v l.length (l.map (Value.int .i64)) ∧ RowsAre w base vs ls
 | _, _ => False
theorem RowsAre.fr {R : Nat → Prop} {w w' : World} {base : Nat} (hf : Fr R w w') : ∀ {vs : List Value} {ls : List (List Int)}, RowsAre w base vs ls → (∀ v ∈ vs, ∀ b, v.ownBlock = some b → ¬ R b) → RowsAre w' base vs ls
 | [], [], _, _ => trivial
 | v :: vs, l :: ls, h, hn => ⟨own_fr h.1 hf (hn v (by simp)), RowsAre.fr hf h.2 (fun u hu => hn u (by simp [hu]))⟩
theorem RowsAre.len {w : World} {base : Nat} : ∀ {vs : List Value} {ls : List (List Int)}, RowsAre w base vs ls → vs.length = ls.length
 | [], [], _ => rfl
 | _ :: _, _ :: _, h => by simp [RowsAre.len h.2]
theorem RowsAre.lt {w : World} {base : Nat} : ∀ {vs : List Value} {ls : List (List Int)}, RowsAre w base vs ls → ∀ v ∈ vs, ∀ b, v.ownBlock = some b → base ≤ b ∧ b < w.heap.size
 | [], [], _, v, hv, _, _ => by cases hv
 | _ :: _, _ :: _, h, v, hv, b, hb => by
  rcases List.mem_cons.1 hv with rfl | hv
  ·
   exact own_lt h.1 hb
  ·
   exact RowsAre.lt h.2 v hv b hb
theorem RowsAre.ne {w : World} {base base' : Nat} {t : TypeId} {size n : Nat} {u : Value} {xs : List Value} (hu : w.ownsRow base' t size u n xs) (ht : (3 : TypeId) ≠ t) : ∀ {vs : List Value} {ls : List (List Int)}, RowsAre w base vs ls → ∀ v ∈ vs, ∀ b, v.ownBlock = some b → u.ownBlock ≠ some b
 | [], [], _, v, hv, _, _ => by cases hv
 | _ :: _, _ :: _, h, v, hv, b, hb => by
  rcases List.mem_cons.1 hv with rfl | hv
  ·
   exact own_ownne h.1 hu ht hb
  ·
   exact RowsAre.ne hu ht h.2 v hv b hb

end Go.Proofs.Ytkaogjhnogkcdaa
end

section
namespace Go.Proofs.Ytkaogjhnogkcdaa
open Go.RowKit
attribute [local go_sem] Ex.cell? Ex.frozen? Gx.cell?

def PR (po : Nat) (vl vout : Value) (b : Nat) : Prop := b = po ∨ vl.ownBlock = some b ∨ vout.ownBlock = some b
def oneL (r : Bool) (lv : List Int) : List (List Int) := if r then [lv] else []

end Go.Proofs.Ytkaogjhnogkcdaa
end

section
namespace Go.Proofs.Ytkaogjhnogkcdaa
open Go.RowKit
section
variable {P : Program} {ops : Array Oper} {md : Region.Mode} {S : World → Prop} {Q : Exit → Act → World → Prop}

def wpMixO (P : Program) (ops : Array Oper) (Q : Exit → Act → World → Prop) (S : World → Prop) (T : Act → World → Prop) : List (Bool × Nat) → Act → World → Prop
  | [], a, w => T a w
  | (loud, k) :: ks, a, w => ∀ o, ops[k]? = some o → if loud = true then wpList P ops (fun e a' w' => match e with | .normal => S w' ∧ wpMixO P ops Q S T ks a' w' | e => Q e a' w') [o] a w else wpQuiet P ops S (fun a' => wpMixO P ops Q S T ks a' w) [o] a

def mixB (md : Region.Mode) (ops : Array Oper) (n g : Nat) : List (Bool × Nat) → Array Bool → Bool
  | [], listed => Region.seqB md ops g n listed
  | (loud, k) :: ks, listed =>
    decide (k < n) && (if loud = true then decide (Region.ready md ops listed = [k]) else (Region.ready md ops listed).contains k && Region.free md ops listed k && (match ops[k]? with | some o => mute o.op | none => false)) && mixB md ops n g ks (listed.setIfInBounds k true)

def mixedB (md : Region.Mode) (ops : Array Oper) (n : Nat) (ks : List (Bool × Nat)) : Bool :=
  Region.noSelect ops && decide (n < ops.size) && Region.sinkB md ops n && Region.chainB md ops n && mixB md ops n (ops.size - n) ks (Array.replicate ops.size false)

theorem mix_head {n g : Nat} {T : Act → World → Prop} (hsel : Region.noSelect ops = true) (hQ : ∀ d v c a w, Q (.panic c) (a.put d v) w → Q (.panic c) a w)
    (hs : Region.sinkB md ops n = true) (hc : Region.chainB md ops n = true) (hn : n < ops.size) :
    ∀ (ks : List (Bool × Nat)) (listed : Array Bool) (a : Act) (w : World), HeadInv md ops n listed → mixB md ops n g ks listed = true → S w →
      wpMixO P ops Q S T ks a w → wpAnyLH P md ops Q S n (fun listed' a' w' => Region.seqB md ops g n listed' = true ∧ T a' w') ks.length listed a w
  | [], listed, a, w, _, hB, _, h => ⟨hB, h⟩
  | (true, k) :: ks, listed, a, w, inv, hB, hS, h => by
    simp only [mixB, Bool.and_eq_true, decide_eq_true_eq, if_true] at hB
    obtain ⟨⟨hk, hr⟩, hB'⟩ := hB
    obtain ⟨o, hk0⟩ : ∃ o, ops[k]? = some o := ⟨ops[k]'(by omega), by simp [show k < ops.size by omega]⟩
    have h' := h o hk0
    rw [if_pos rfl] at h'
    refine ⟨by rw [hr]; simp, fun i hi => ?_⟩
    rw [hr] at hi
    have hik : i = k := by simpa using hi
    subst hik
    refine ⟨hk, ?_⟩
    refine wpOp_mono (fun a' w' h' => ⟨h'.1, mix_head hsel hQ hs hc hn ks _ a' w' (inv.set (by rw [hr]; simp) hk) hB' h'.1 h'.2⟩) (K := fun a' w' => S w' ∧ wpMixO P ops Q S T ks a' w') ?_
    unfold wpOp
    simp only [hk0]
    simp only [wpList] at h'
    split
    · rename_i hw
      rw [if_pos hw] at h'
      refine h'.imp (fun h => ?_) (fun h => ⟨h.1, ?_⟩)
      · unfold Oper.wp at *
        generalize (execOp a.eval o).run P w = r at *
        cases r with
        | ok n w' =>
          cases n <;> simp only [Oper.upon] at h ⊢ <;> first | exact h | refine Calls.mono h fun e w'' he => ?_
          all_goals
            cases e with
            | returned u => exact he
            | panicked c => exact he
            | outgrown => obtain ⟨x, y, hxy⟩ := he; exact ⟨x, y, hxy⟩
        | halt x w' => cases x <;> simp only [Oper.upon] at h ⊢ <;> first | exact h | skip
      · obtain ⟨x, y, hxy⟩ := h.2; exact ⟨x, y, hxy⟩
    · rename_i hw
      rw [if_neg hw] at h'
      exact h'
  | (false, k) :: ks, listed, a, w, inv, hB, hS, h => by
    simp only [mixB, Bool.and_eq_true, decide_eq_true_eq, if_false, Bool.false_eq_true] at hB
    obtain ⟨⟨hk, ⟨hr, hf⟩, hm⟩, hB'⟩ := hB
    obtain ⟨o, hk0⟩ : ∃ o, ops[k]? = some o := ⟨ops[k]'(by omega), by simp [show k < ops.size by omega]⟩
    simp only [hk0] at hm
    have h' := h o hk0
    rw [if_neg (by simp)] at h'
    have hr' : k ∈ Region.ready md ops listed := by simpa using hr
    have hst : qOp P ops S k (wpQuiet P ops S (fun a' => wpMixO P ops Q S T ks a' w) []) a := by unfold qOp; simp only [hk0]; exact h'
    obtain ⟨v, hy, hK⟩ := yieldsIn_of_qOp hk0 hst
    exact wpAnyLH_first hk0 (Region.noSelect_spec hsel) (hQ _ _) hs hc hn hk (fun listed' a' w' hL => seqB_ready hL.1) ks.length listed a w inv (Region.free_spec hk0 hf) hr' (mute_if hm hy) hS
      (mix_head hsel hQ hs hc hn ks _ _ w (inv.set hr' hk) hB' hS hK)

theorem wp_region_mixed_tail {id : Nat} {a : Act} {w : World} {l : List Oper} (n : Nat) (ks : List (Bool × Nat)) (S : World → Prop) (hm : P.follows .mixedOrders = true)
    (hB : (mixedB .any l.toArray n ks && decide (ks.length = n)) = true) (hQ : ∀ d v c a w, Q (.panic c) (a.put d v) w → Q (.panic c) a w)
    (hS : S { w with drawn := w.drawn + 1 })
    (h : wpMixO P l.toArray Q S (fun a'' w'' => wpList P l.toArray Q (l.drop n) a'' w'') ks a { w with drawn := w.drawn + 1 }) :
    (Code.region id l.toArray true).wp P Q a w := by
  simp only [mixedB, Bool.and_eq_true, decide_eq_true_eq] at hB
  obtain ⟨⟨⟨⟨⟨hsel, hn⟩, hs⟩, hc⟩, hlex⟩, hlen⟩ := hB
  have hdl : (l.drop n).length = l.toArray.size - n := by simp
  have inv0 : HeadInv .any l.toArray n (Array.replicate l.toArray.size false) :=
    ⟨by simp, fun j oj _ hl => (by rw [getD_replicate_false] at hl; cases hl), fun t _ ht => getD_in (by simpa using ht) (getD_replicate_false _ _)⟩
  have H := mix_head (md := .any) (g := l.toArray.size - n) (T := fun a'' w'' => wpList P l.toArray Q (l.drop n) a'' w'') hsel hQ hs hc hn ks _ a _ inv0 hlex hS h
  refine wp_region_any hm ?_
  have := wpAny_of_headH (g := l.toArray.size - n) (fun listed' a' w' hL => by
    have := wpAny_of_seq (md := .any) (l.drop n) n listed' a' w' (fun j => by simp [List.getElem?_drop]) (by rw [hdl]; exact hL.1) hL.2
    rwa [hdl] at this) _ _ _ _ H
  rw [hlen, show n + (l.toArray.size - n) = l.toArray.size by omega] at this
  exact this

def wpMix (P : Program) (l : List Oper) (Q : Exit → Act → World → Prop) (S : World → Prop) (n : Nat) (ks : List (Bool × Nat)) (a : Act) (w : World) : Prop :=
  wpMixO P l.toArray Q S (fun a'' w'' => wpList P l.toArray Q (l.drop n) a'' w'') ks a w
theorem mix_nil {l r : List Oper} {n : Nat} {a : Act} {w : World} (hr : l.drop n = r) (h : wpList P l.toArray Q r a w) : wpMix P l Q S n [] a w := by subst hr; exact h
theorem mix_loud {l : List Oper} {n k : Nat} {ks : List (Bool × Nat)} {o : Oper} {a : Act} {w : World} (ho : l[k]? = some o)
    (h : wpList P l.toArray (fun e a' w' => match e with | .normal => S w' ∧ wpMix P l Q S n ks a' w' | e => Q e a' w') [o] a w) : wpMix P l Q S n ((true, k) :: ks) a w := by
  intro o' ho'
  rw [if_pos rfl]
  have : o' = o := by rw [List.getElem?_toArray, ho] at ho'; exact (Option.some.inj ho').symm
  subst this
  exact h
theorem mix_quiet {l : List Oper} {n k : Nat} {ks : List (Bool × Nat)} {o : Oper} {a : Act} {w : World} (ho : l[k]? = some o)
    (h : wpQuiet P l.toArray S (fun a' => wpMix P l Q S n ks a' w) [o] a) : wpMix P l Q S n ((false, k) :: ks) a w := by
  intro o' ho'
  rw [if_neg (by simp)]
  have : o' = o := by rw [List.getElem?_toArray, ho] at ho'; exact (Option.some.inj ho').symm
  subst this
  exact h
theorem wp_region_ext_mix {id : Nat} {a : Act} {w : World} {l : List Oper} (n : Nat) (ks : List (Bool × Nat)) (hm : P.follows .mixedOrders = true)
    (hB : (mixedB .any l.toArray n ks && decide (ks.length = n)) = true) (hQ : ∀ d v c a w, Q (.panic c) (a.put d v) w → Q (.panic c) a w)
    (h : wpMix P l Q (fun w' => ∃ x : Ex w, w' = x.W) n ks a w.drew) : (Code.region id l.toArray true).wp P Q a w :=
  wp_region_mixed_tail n ks _ hm hB hQ ⟨⟨_, (Below.refl w.heap.size w).drew⟩, rfl⟩ h
theorem inEx {w w' : World} (h : Below w.heap.size w w') : ∃ x : Ex w, w' = x.W := ⟨⟨w', h⟩, rfl⟩
end
end Go.Proofs.Ytkaogjhnogkcdaa
end

section
namespace Go.Proofs.Ytkaogjhnogkcdaa
open Go.RowKit
section
variable {P : Program} {ops : Array Oper} {md : Region.Mode} {S : World → Prop} {Q : Exit → Act → World → Prop}

def wpOne (P : Program) (ops : Array Oper) (Q : Exit → Act → World → Prop) (k : Nat) (K : Act → World → Prop) (a : Act) (w : World) : Prop :=
 ∀ o, ops[k]? = some o → wpList P ops (fun e a' w' => match e with | .normal => K a' w' | e => Q e a' w') [o] a w
theorem wpOp_one {k n : Nat} {K : Act → World → Prop} {a : Act} {w : World} (hn : n < ops.size) (hk : k < n) (h : wpOne P ops Q k K a w) : wpOp P ops Q k K a w := by
 obtain ⟨o, hk0⟩ : ∃ o, ops[k]? = some o := ⟨ops[k]'(by omega), by simp [show k < ops.size by omega]⟩
 have h' := h o hk0
 unfold wpOp
 simp only [hk0]
 simp only [wpList] at h'
 split
 ·
  rename_i hw
  rw [if_pos hw] at h'
  refine h'.imp (fun h => ?_) (fun h => ⟨h.1, ?_⟩)
  ·
   unfold Oper.wp at *
   generalize (execOp a.eval o).run P w = r at *
   cases r with
   | ok n w' =>
    cases n <;> simp only [Oper.upon] at h ⊢ <;> first | exact h | refine Calls.mono h fun e w'' he => ?_
    all_goals
     cases e with
     | returned u => exact he
     | panicked c => exact he
     | outgrown => obtain ⟨x, y, hxy⟩ := he; exact ⟨x, y, hxy⟩
   | halt x w' => cases x <;> simp only [Oper.upon] at h ⊢ <;> first | exact h | skip
  ·
   obtain ⟨x, y, hxy⟩ := h.2; exact ⟨x, y, hxy⟩
 ·
  rename_i hw
  rw [if_neg hw] at h'
  exact h'

def wpFork (P : Program) (ops : Array Oper) (Q : Exit → Act → World → Prop) (S : World → Prop) (T : Act → World → Prop) (i j : Nat) (kA kB : List (Bool × Nat)) : List (Bool × Nat) → Act → World → Prop
 | [], a, w => wpOne P ops Q i (fun a' w' => S w' ∧ wpMixO P ops Q S T kA a' w') a w ∧ wpOne P ops Q j (fun a' w' => S w' ∧ wpMixO P ops Q S T kB a' w') a w
 | (loud, k) :: ks, a, w => if loud = true then wpOne P ops Q k (fun a' w' => S w' ∧ wpFork P ops Q S T i j kA kB ks a' w') a w else ∀ o, ops[k]? = some o → wpQuiet P ops S (fun a' => wpFork P ops Q S T i j kA kB ks a' w) [o] a

def forkB (md : Region.Mode) (ops : Array Oper) (n g i j : Nat) (kA kB : List (Bool × Nat)) : List (Bool × Nat) → Array Bool → Bool
 | [], listed => decide (Region.ready md ops listed = [i, j]) && decide (i < n) && decide (j < n) && decide (kA.length = kB.length) && mixB md ops n g kA (listed.setIfInBounds i true) && mixB md ops n g kB (listed.setIfInBounds j true)
 | (loud, k) :: ks, listed =>
  decide (k < n) && (if loud = true then decide (Region.ready md ops listed = [k]) else (Region.ready md ops listed).contains k && Region.free md ops listed k && (match ops[k]? with | some o => mute o.op | none => false)) && forkB md ops n g i j kA kB ks (listed.setIfInBounds k true)

def forkedB (md : Region.Mode) (ops : Array Oper) (n i j : Nat) (kA kB ks : List (Bool × Nat)) : Bool :=
 Region.noSelect ops && decide (n < ops.size) && Region.sinkB md ops n && Region.chainB md ops n && forkB md ops n (ops.size - n) i j kA kB ks (Array.replicate ops.size false)

def wpFk (P : Program) (l : List Oper) (Q : Exit → Act → World → Prop) (S : World → Prop) (n i j : Nat) (kA kB ks : List (Bool × Nat)) (a : Act) (w : World) : Prop :=
 wpFork P l.toArray Q S (fun a'' w'' => wpList P l.toArray Q (l.drop n) a'' w'') i j kA kB ks a w
end
end Go.Proofs.Ytkaogjhnogkcdaa
end

section
namespace Go.Proofs.Ytkaogjhnogkcdaa

theorem mem_compact {l : List Int} {x : Int} : x ∈ Lib.compact l ↔ x ∈ l := by
 constructor
 ·
  exact compact_mem
 ·
  intro hx
  obtain ⟨i, hi, rfl⟩ := List.getElem_of_mem hx
  have key : ∀ i (hi : i < l.length), l[i] ∈ Lib.compact l := by
   intro i
   induction i with
   | zero =>
    intro hi
    unfold Lib.compact Lib.compactUpTo
    refine List.mem_map.2 ⟨0, List.mem_filter.2 ⟨List.mem_range.2 hi, ?_⟩, by simp [hi]⟩
    simp [Lib.keeps]
   | succ i ih =>
    intro hi
    by_cases he : l[i + 1] = l[i]'(by omega)
    ·
     rw [he]; exact ih (by omega)
    ·
     unfold Lib.compact Lib.compactUpTo
     refine List.mem_map.2 ⟨i + 1, List.mem_filter.2 ⟨List.mem_range.2 hi, ?_⟩, by simp [hi]⟩
     simp [Lib.keeps, hi, show i < l.length by omega, he]
  exact key i hi

theorem deep_inc {g : Gl} {h : List Rg} (hok : Ok g h) {i : Nat} (h0 : 0 < i) (hi : i < g.depths.length) : (gD g.depths (i - 1)).from_ < (gD g.depths i).from_ ∧ (gD g.depths (i - 1)).sink ≤ (gD g.depths i).sink := by
 have := hok.depths i hi
 unfold deepOk at this
 simp only [Bool.and_eq_true, Bool.not_eq_true', Bool.and_eq_false_iff, Bool.or_eq_false_iff, decide_eq_false_iff_not] at this
 obtain ⟨_, _, h3⟩ := this
 rcases h3 with h3 | ⟨h3, h4⟩
 ·
  omega
 ·
  exact ⟨by omega, by omega⟩
theorem deep_lt {g : Gl} {h : List Rg} (hok : Ok g h) {k : Nat} : ∀ {m : Nat}, k < m → m < g.depths.length → (gD g.depths k).from_ < (gD g.depths m).from_ ∧ (gD g.depths k).sink ≤ (gD g.depths m).sink
 | 0, h1, _ => by omega
 | m + 1, h1, h2 => by
  have hs := deep_inc hok (i := m + 1) (by omega) h2
  rw [Nat.add_sub_cancel] at hs
  rcases Nat.lt_succ_iff_lt_or_eq.1 h1 with h | h
  ·
   have := deep_lt hok h (by omega)
   omega
  ·
   subst h; exact hs
theorem sinks_from {g : Gl} {h : List Rg} (hok : Ok g h) {k : Nat} : ∀ {m : Nat}, k < m → m ≤ g.depths.length → sinksTo g.depths (gD g.depths k).from_ m = (gD g.depths k).sink
 | 0, h1, _ => by omega
 | m + 1, h1, h2 => by
  rcases Nat.lt_succ_iff_lt_or_eq.1 h1 with h | h
  ·
   have := deep_lt hok h (by omega)
   rw [sinksTo, if_neg (by omega)]
   exact sinks_from hok h (by omega)
  ·
   subst h; rw [sinksTo, if_pos (Int.le_refl _)]
theorem sinks_or {l : List Dp} {lo x : Int} (hx : lo ≤ x) : ∀ {k : Nat}, sinksTo l x k = sinksTo l lo k ∨ ∃ j, j < k ∧ lo < (gD l j).from_ ∧ (gD l j).from_ ≤ x ∧ sinksTo l x k = (gD l j).sink
 | 0 => .inl rfl
 | k + 1 => by
  by_cases h1 : (gD l k).from_ ≤ x
  ·
   by_cases h2 : (gD l k).from_ ≤ lo
   ·
    exact .inl (by rw [sinksTo, sinksTo, if_pos h1, if_pos h2])
   ·
    exact .inr ⟨k, by omega, by omega, h1, by rw [sinksTo, if_pos h1]⟩
  ·
   rw [sinksTo, sinksTo, if_neg h1, if_neg (by omega)]
   rcases sinks_or hx (k := k) with h | ⟨j, h2, h3⟩
   ·
    exact .inl h
   ·
    exact .inr ⟨j, by omega, h3⟩
theorem mem_depTo {g : Gl} {lo hi y : Int} : ∀ {k : Nat}, y ∈ depTo g lo hi k ↔ y = sinks g lo ∨ ∃ j, j < k ∧ lo < (gD g.depths j).from_ ∧ (gD g.depths j).from_ ≤ hi ∧ y = (gD g.depths j).sink
 | 0 => by simp [depTo]
 | k + 1 => by
  rw [depTo]
  split
  ·
   rename_i hc
   rw [List.mem_append, mem_depTo, List.mem_singleton]
   constructor
   ·
    rintro ((h | ⟨j, h1, h2⟩) | h)
    ·
     exact .inl h
    ·
     exact .inr ⟨j, by omega, h2⟩
    ·
     exact .inr ⟨k, by omega, hc.1, hc.2, h⟩
   ·
    rintro (h | ⟨j, h1, h2, h3, h4⟩)
    ·
     exact .inl (.inl h)
    ·
     rcases Nat.lt_succ_iff_lt_or_eq.1 h1 with h | h
     ·
      exact .inl (.inr ⟨j, h, h2, h3, h4⟩)
     ·
      subst h; exact .inr h4
  ·
   rename_i hc
   rw [mem_depTo]
   constructor
   ·
    rintro (h | ⟨j, h1, h2⟩)
    ·
     exact .inl h
    ·
     exact .inr ⟨j, by omega, h2⟩
   ·
    rintro (h | ⟨j, h1, h2, h3, h4⟩)
    ·
     exact .inl h
    ·
     rcases Nat.lt_succ_iff_lt_or_eq.1 h1 with h | h
     ·
      exact .inr ⟨j, h, h2, h3, h4⟩
     ·
      subst h; exact absurd ⟨h2, h3⟩ hc
theorem mem_depL {g : Gl} {h : List Rg} (hok : Ok g h) {d : Nat} (hd : d < h.length) {y : Int} : y ∈ depL g h d ↔ ∃ x, ((gR h d).lo ≤ x ∧ x ≤ (gR h d).hi) ∧ y = sinks g x := by
 have hr := hok.heats d hd
 rw [depL, mem_compact, mem_depTo]
 constructor
 ·
  rintro (h | ⟨j, h1, h2, h3, h4⟩)
  ·
   exact ⟨_, ⟨Int.le_refl _, hr.2.1⟩, h⟩
  ·
   exact ⟨_, ⟨by omega, h3⟩, by rw [h4]; exact (sinks_from hok h1 (Nat.le_refl _)).symm⟩
 ·
  rintro ⟨x, ⟨h1, h2⟩, rfl⟩
  rcases sinks_or (l := g.depths) h1 (k := g.depths.length) with h | ⟨j, h3, h4, h5, h6⟩
  ·
   exact .inl h
  ·
   exact .inr ⟨j, h3, h4, by omega, h6⟩

def Step (g : Gl) (h : List Rg) (d : Nat) (s t : St) : Prop :=
 ∃ x b c : Int, ((gR h d).lo ≤ x ∧ x ≤ (gR h d).hi) ∧ (g.blo ≤ b ∧ b ≤ g.bhi) ∧ ((creep g d).lo ≤ c ∧ c ≤ (creep g d).hi) ∧ t = (s.1 + c, mx3 (s.2 - b) 0 (sinks g x))
theorem mem_nextL {g : Gl} {h : List Rg} (hok : Ok g h) {d : Nat} (hd : d < h.length) {s t : St} : t ∈ nextL g h d s ↔ Step g h d s t := by
 have k1 := hok.creep d
 have k2 := hok.back
 unfold nextL
 rw [mem_deps]
 constructor
 ·
  rintro ⟨m, hm, b, c, h1, h2, h3, h4, rfl⟩
  obtain ⟨x, hx, he⟩ := (mem_depL hok hd).1 (gI_mem hm)
  exact ⟨x, b, c, hx, ⟨h1, by omega⟩, ⟨h3, by omega⟩, by rw [he]⟩
 ·
  rintro ⟨x, b, c, hx, hb, hc, rfl⟩
  obtain ⟨m, hm, he⟩ := List.getElem_of_mem ((mem_depL hok hd).2 ⟨x, hx, rfl⟩)
  exact ⟨m, hm, b, c, hb.1, by omega, hc.1, by omega, by simp [gI, hm, he]⟩

def stAt (g : Gl) (t1 t2 t3 : List Int) (d : Nat) : St := (riseTo t2 d, sinkTo g t1 t3 d)
theorem zero_st {g : Gl} {t1 t2 t3 : List Int} {d : Nat} : zero g (stAt g t1 t2 t3 (d + 1)) = zAt g t1 t2 t3 d := rfl
theorem step_st {g : Gl} {h : List Rg} {t1 t2 t3 : List Int} {d : Nat} (hd : dayOk g h t1 t2 t3 d = true) : Step g h d (stAt g t1 t2 t3 d) (stAt g t1 t2 t3 (d + 1)) := by
 obtain ⟨h1, h2, h3⟩ := dayOk_iff.1 hd
 exact ⟨gI t1 d, gI t3 d, gI t2 d, h1, h3, h2, rfl⟩
theorem can_st {g : Gl} {h : List Rg} {t1 t2 t3 : List Int} {l : List Ic} {o : Nat → Bool} (hok : Ok g h) (hd : ∀ d, d < h.length → dayOk g h t1 t2 t3 d = true) (hf : ∀ d, d < h.length → fitsB l o (d : Int) (zAt g t1 t2 t3 d) = true) : ∀ {d : Nat}, d ≤ h.length → Can g h l o d (stAt g t1 t2 t3 d)
 | 0, _ => rfl
 | d + 1, h1 => ⟨_, can_st hok hd hf (by omega), (mem_nextL hok (by omega)).2 (step_st (hd d (by omega))), by rw [zero_st]; exact hf d (by omega)⟩
theorem goes_st {g : Gl} {h : List Rg} {t1 t2 t3 : List Int} {l : List Ic} {o : Nat → Bool} (hok : Ok g h) (hd : ∀ d, d < h.length → dayOk g h t1 t2 t3 d = true) (hf : ∀ d, d < h.length → fitsB l o (d : Int) (zAt g t1 t2 t3 d) = true) : ∀ {k d : Nat}, d + k = h.length → Goes g h l o k d (stAt g t1 t2 t3 d)
 | 0, d, h1 => can_st hok hd hf (by omega)
 | k + 1, d, h1 => ⟨can_st hok hd hf (by omega), _, (mem_nextL hok (by omega)).2 (step_st (hd d (by omega))), goes_st hok hd hf (by omega)⟩

end Go.Proofs.Ytkaogjhnogkcdaa
end

section
namespace Go.Proofs.Ytkaogjhnogkcdaa

def Path (g : Gl) (h : List Rg) (σ : Nat → St) (n : Nat) : Prop := σ 0 = (0, 0) ∧ ∀ d, d < n → Step g h d (σ d) (σ (d + 1))
def Fits (g : Gl) (l : List Ic) (o : Nat → Bool) (σ : Nat → St) (n : Nat) : Prop := ∀ d, d < n → fitsB l o (d : Int) (zero g (σ (d + 1))) = true

theorem Path.to {g : Gl} {h : List Rg} {σ : Nat → St} {n m : Nat} (p : Path g h σ n) (hm : m ≤ n) : Path g h σ m := ⟨p.1, fun d hd => p.2 d (by omega)⟩
theorem Fits.to {g : Gl} {l : List Ic} {o : Nat → Bool} {σ : Nat → St} {n m : Nat} (p : Fits g l o σ n) (hm : m ≤ n) : Fits g l o σ m := fun d hd => p d (by omega)

section
variable {g : Gl} {h : List Rg} {l : List Ic} {o : Nat → Bool}
theorem can_iff (hok : Ok g h) : ∀ {d : Nat} {s : St}, d ≤ h.length → (Can g h l o d s ↔ ∃ σ, Path g h σ d ∧ Fits g l o σ d ∧ σ d = s)
 | 0, s, _ => by
  constructor
  ·
   intro hs
   have hs' : s = (0, 0) := hs
   exact ⟨fun _ => (0, 0), ⟨rfl, fun d hd => by omega⟩, fun d hd => by omega, hs'.symm⟩
  ·
   rintro ⟨σ, p, _, rfl⟩
   exact p.1
 | d + 1, t, hd => by
  constructor
  ·
   rintro ⟨s, h1, h2, h3⟩
   obtain ⟨σ, p, f, e⟩ := (can_iff hok (by omega)).1 h1
   refine ⟨fun j => if j ≤ d then σ j else t, ⟨by simpa using p.1, fun j hj => ?_⟩, fun j hj => ?_, if_neg (by omega)⟩
   ·
    rcases Nat.lt_succ_iff_lt_or_eq.1 hj with hj | hj
    ·
     simp only [show j ≤ d by omega, show j + 1 ≤ d by omega, if_true]
     exact p.2 j hj
    ·
     subst hj
     simp only [Nat.le_refl, if_true, show ¬ (j + 1 ≤ j) by omega, if_false]
     rw [e]; exact (mem_nextL hok (by omega)).1 h2
   ·
    rcases Nat.lt_succ_iff_lt_or_eq.1 hj with hj | hj
    ·
     simp only [show j + 1 ≤ d by omega, if_true]
     exact f j hj
    ·
     subst hj
     simp only [show ¬ (j + 1 ≤ j) by omega, if_false]
     exact h3
  ·
   rintro ⟨σ, p, f, rfl⟩
   exact ⟨σ d, (can_iff hok (by omega)).2 ⟨σ, p.to (by omega), f.to (by omega), rfl⟩, (mem_nextL hok (by omega)).2 (p.2 d (by omega)), f d (by omega)⟩
theorem goes_iff (hok : Ok g h) : ∀ {k d : Nat} {s : St}, d + k ≤ h.length → (Goes g h l o k d s ↔ ∃ σ, Path g h σ (d + k) ∧ Fits g l o σ (d + k) ∧ σ d = s)
 | 0, d, s, hd => can_iff hok hd
 | k + 1, d, s, hd => by
  constructor
  ·
   rintro ⟨h1, t, h2, h3⟩
   obtain ⟨σ, p, f, e⟩ := (can_iff hok (by omega)).1 h1
   obtain ⟨τ, q, f2, e2⟩ := (goes_iff hok (show d + 1 + k ≤ h.length by omega)).1 h3
   refine ⟨fun j => if j ≤ d then σ j else τ j, ⟨by simpa using p.1, fun j hj => ?_⟩, fun j hj => ?_, by simp [e]⟩
   ·
    rcases Nat.lt_trichotomy j d with hj' | hj' | hj'
    ·
     simp only [show j ≤ d by omega, show j + 1 ≤ d by omega, if_true]
     exact p.2 j hj'
    ·
     subst hj'
     simp only [Nat.le_refl, if_true, show ¬ (j + 1 ≤ j) by omega, if_false]
     rw [e, e2]; exact (mem_nextL hok (by omega)).1 h2
    ·
     simp only [show ¬ (j ≤ d) by omega, show ¬ (j + 1 ≤ d) by omega, if_false]
     exact q.2 j (by omega)
   ·
    by_cases hj' : j < d
    ·
     simp only [show j + 1 ≤ d by omega, if_true]
     exact f j hj'
    ·
     simp only [show ¬ (j + 1 ≤ d) by omega, if_false]
     exact f2 j (by omega)
  ·
   rintro ⟨σ, p, f, rfl⟩
   refine ⟨(can_iff hok (by omega)).2 ⟨σ, p.to (by omega), f.to (by omega), rfl⟩, σ (d + 1), (mem_nextL hok (by omega)).2 (p.2 d (by omega)), (goes_iff hok (by omega)).2 ⟨σ, p.to (by omega), f.to (by omega), rfl⟩⟩
def ZAt (g : Gl) (h : List Rg) (l : List Ic) (i : Nat) (z : Int) : Prop := ∃ σ, Path g h σ h.length ∧ Fits g l off0 σ h.length ∧ z = zero g (σ (i + 1))
theorem zat_iff (hok : Ok g h) {i : Nat} (hi : i < h.length) {z : Int} : (∃ s, Goes g h l off0 (h.length - 1 - i) (i + 1) s ∧ z = zero g s) ↔ ZAt g h l i z := by
 have e : i + 1 + (h.length - 1 - i) = h.length := by omega
 constructor
 ·
  rintro ⟨s, hs, rfl⟩
  obtain ⟨σ, p, f, rfl⟩ := (goes_iff hok (by omega)).1 hs
  rw [e] at p f
  exact ⟨σ, p, f, rfl⟩
 ·
  rintro ⟨σ, p, f, rfl⟩
  exact ⟨_, (goes_iff hok (by omega)).2 ⟨σ, by rwa [e], by rwa [e], rfl⟩, rfl⟩
theorem zs_iff (hok : Ok g h) {zs : List Rg} : ZsOf g h l zs ↔ zs.length = h.length ∧ ∀ i, i < h.length → EndsOf (ZAt g h l i) (gR zs i).lo (gR zs i).hi := by
 unfold ZsOf
 refine and_congr_right fun _ => forall_congr' fun i => forall_congr' fun hi => ?_
 have : (fun z => ∃ s, Goes g h l off0 (h.length - 1 - i) (i + 1) s ∧ z = zero g s) = ZAt g h l i := funext fun z => propext (zat_iff hok hi)
 rw [this]
end
end Go.Proofs.Ytkaogjhnogkcdaa
end

section
namespace Go.Proofs.Ytkaogjhnogkcdaa
open Go.RowKit
inductive Tr where
 | done : Tr
 | quiet : Nat → Tr → Tr
 | loud : Nat → Tr → Tr
 | fork : Nat → Tr → Nat → Tr → Tr
def Tr.len : Tr → Nat
 | .done => 0
 | .quiet _ t => t.len + 1
 | .loud _ t => t.len + 1
 | .fork _ t _ _ => t.len + 1
section
variable {P : Program} {ops : Array Oper} {md : Region.Mode} {S : World → Prop} {Q : Exit → Act → World → Prop}

def wpTr (P : Program) (ops : Array Oper) (Q : Exit → Act → World → Prop) (S : World → Prop) (T : Act → World → Prop) : Tr → Act → World → Prop
 | .done, a, w => T a w
 | .quiet k t, a, w => ∀ o, ops[k]? = some o → wpQuiet P ops S (fun a' => wpTr P ops Q S T t a' w) [o] a
 | .loud k t, a, w => wpOne P ops Q k (fun a' w' => S w' ∧ wpTr P ops Q S T t a' w') a w
 | .fork i t j u, a, w => wpOne P ops Q i (fun a' w' => S w' ∧ wpTr P ops Q S T t a' w') a w ∧ wpOne P ops Q j (fun a' w' => S w' ∧ wpTr P ops Q S T u a' w') a w

def trB (md : Region.Mode) (ops : Array Oper) (n g : Nat) : Tr → Array Bool → Bool
 | .done, listed => Region.seqB md ops g n listed
 | .quiet k t, listed => decide (k < n) && ((Region.ready md ops listed).contains k && Region.free md ops listed k && (match ops[k]? with | some o => mute o.op | none => false)) && trB md ops n g t (listed.setIfInBounds k true)
 | .loud k t, listed => decide (k < n) && decide (Region.ready md ops listed = [k]) && trB md ops n g t (listed.setIfInBounds k true)
 | .fork i t j u, listed => decide (Region.ready md ops listed = [i, j]) && decide (i < n) && decide (j < n) && decide (t.len = u.len) && trB md ops n g t (listed.setIfInBounds i true) && trB md ops n g u (listed.setIfInBounds j true)

def treeB (md : Region.Mode) (ops : Array Oper) (n : Nat) (t : Tr) : Bool :=
 Region.noSelect ops && decide (n < ops.size) && Region.sinkB md ops n && Region.chainB md ops n && trB md ops n (ops.size - n) t (Array.replicate ops.size false)

def wpTree (P : Program) (l : List Oper) (Q : Exit → Act → World → Prop) (S : World → Prop) (n : Nat) (t : Tr) (a : Act) (w : World) : Prop :=
 wpTr P l.toArray Q S (fun a'' w'' => wpList P l.toArray Q (l.drop n) a'' w'') t a w
end
end Go.Proofs.Ytkaogjhnogkcdaa
end

section
namespace Go.Proofs.Ytkaogjhnogkcdaa
open Go.RowKit
inductive Tq where
  | done : Tq
  | quiet : Nat → Tq → Tq
  | loud : Nat → Tq → Tq
  | fork : Nat → Tq → Nat → Tq → Tq
  | fork3 : Nat → Tq → Nat → Tq → Nat → Tq → Tq
def Tq.len : Tq → Nat
  | .done => 0
  | .quiet _ t => t.len + 1
  | .loud _ t => t.len + 1
  | .fork _ t _ _ => t.len + 1
  | .fork3 _ t _ _ _ _ => t.len + 1
section
variable {P : Program} {ops : Array Oper} {md : Region.Mode} {S : World → Prop} {Q : Exit → Act → World → Prop}

def wqTr (P : Program) (ops : Array Oper) (Q : Exit → Act → World → Prop) (S : World → Prop) (T : Act → World → Prop) : Tq → Act → World → Prop
  | .done, a, w => T a w
  | .quiet k t, a, w => ∀ o, ops[k]? = some o → wpQuiet P ops S (fun a' => wqTr P ops Q S T t a' w) [o] a
  | .loud k t, a, w => wpOne P ops Q k (fun a' w' => S w' ∧ wqTr P ops Q S T t a' w') a w
  | .fork i t j u, a, w => wpOne P ops Q i (fun a' w' => S w' ∧ wqTr P ops Q S T t a' w') a w ∧ wpOne P ops Q j (fun a' w' => S w' ∧ wqTr P ops Q S T u a' w') a w
  | .fork3 i t j u k v, a, w => wpOne P ops Q i (fun a' w' => S w' ∧ wqTr P ops Q S T t a' w') a w ∧ wpOne P ops Q j (fun a' w' => S w' ∧ wqTr P ops Q S T u a' w') a w ∧ wpOne P ops Q k (fun a' w' => S w' ∧ wqTr P ops Q S T v a' w') a w

def tqB (md : Region.Mode) (ops : Array Oper) (n g : Nat) : Tq → Array Bool → Bool
  | .done, listed => Region.seqB md ops g n listed
  | .quiet k t, listed => decide (k < n) && ((Region.ready md ops listed).contains k && Region.free md ops listed k && (match ops[k]? with | some o => mute o.op | none => false)) && tqB md ops n g t (listed.setIfInBounds k true)
  | .loud k t, listed => decide (k < n) && decide (Region.ready md ops listed = [k]) && tqB md ops n g t (listed.setIfInBounds k true)
  | .fork i t j u, listed => decide (Region.ready md ops listed = [i, j]) && decide (i < n) && decide (j < n) && decide (t.len = u.len) && tqB md ops n g t (listed.setIfInBounds i true) && tqB md ops n g u (listed.setIfInBounds j true)
  | .fork3 i t j u k v, listed => decide (Region.ready md ops listed = [i, j, k]) && decide (i < n) && decide (j < n) && decide (k < n) && decide (t.len = u.len) && decide (t.len = v.len) && tqB md ops n g t (listed.setIfInBounds i true) && tqB md ops n g u (listed.setIfInBounds j true) && tqB md ops n g v (listed.setIfInBounds k true)

def tqeB (md : Region.Mode) (ops : Array Oper) (n : Nat) (t : Tq) : Bool :=
  Region.noSelect ops && decide (n < ops.size) && Region.sinkB md ops n && Region.chainB md ops n && tqB md ops n (ops.size - n) t (Array.replicate ops.size false)

theorem tq_head {n g : Nat} {T : Act → World → Prop} (hsel : Region.noSelect ops = true) (hQ : ∀ d v c a w, Q (.panic c) (a.put d v) w → Q (.panic c) a w)
    (hs : Region.sinkB md ops n = true) (hc : Region.chainB md ops n = true) (hn : n < ops.size) :
    ∀ (t : Tq) (listed : Array Bool) (a : Act) (w : World), HeadInv md ops n listed → tqB md ops n g t listed = true → S w →
      wqTr P ops Q S T t a w → wpAnyLH P md ops Q S n (fun listed' a' w' => Region.seqB md ops g n listed' = true ∧ T a' w') t.len listed a w
  | .done, listed, a, w, _, hB, _, h => ⟨hB, h⟩
  | .fork i t j u, listed, a, w, inv, hB, hS, h => by
    simp only [tqB, Bool.and_eq_true, decide_eq_true_eq] at hB
    obtain ⟨⟨⟨⟨⟨hr, hi⟩, hj⟩, hl⟩, hA⟩, hBB⟩ := hB
    refine ⟨by rw [hr]; simp, fun k hk => ?_⟩
    rw [hr] at hk
    rcases List.mem_cons.1 hk with rfl | hk
    · exact ⟨hi, wpOp_mono (fun a' w' h' => ⟨h'.1, tq_head hsel hQ hs hc hn t _ a' w' (inv.set (by rw [hr]; simp) hi) hA h'.1 h'.2⟩) (wpOp_one hn hi h.1)⟩
    · obtain rfl := List.mem_singleton.1 hk
      refine ⟨hj, wpOp_mono (fun a' w' h' => ⟨h'.1, ?_⟩) (wpOp_one hn hj h.2)⟩
      rw [hl]
      exact tq_head hsel hQ hs hc hn u _ a' w' (inv.set (by rw [hr]; simp) hj) hBB h'.1 h'.2
  | .fork3 i t j u l v, listed, a, w, inv, hB, hS, h => by
    simp only [tqB, Bool.and_eq_true, decide_eq_true_eq] at hB
    obtain ⟨⟨⟨⟨⟨⟨⟨⟨hr, hi⟩, hj⟩, hl⟩, hl1⟩, hl2⟩, hA⟩, hBB⟩, hC⟩ := hB
    refine ⟨by rw [hr]; simp, fun k hk => ?_⟩
    rw [hr] at hk
    rcases List.mem_cons.1 hk with rfl | hk
    · exact ⟨hi, wpOp_mono (fun a' w' h' => ⟨h'.1, tq_head hsel hQ hs hc hn t _ a' w' (inv.set (by rw [hr]; simp) hi) hA h'.1 h'.2⟩) (wpOp_one hn hi h.1)⟩
    · rcases List.mem_cons.1 hk with rfl | hk
      · refine ⟨hj, wpOp_mono (fun a' w' h' => ⟨h'.1, ?_⟩) (wpOp_one hn hj h.2.1)⟩
        show wpAnyLH P md ops Q S n _ t.len _ _ _
        rw [hl1]
        exact tq_head hsel hQ hs hc hn u _ a' w' (inv.set (by rw [hr]; simp) hj) hBB h'.1 h'.2
      · obtain rfl := List.mem_singleton.1 hk
        refine ⟨hl, wpOp_mono (fun a' w' h' => ⟨h'.1, ?_⟩) (wpOp_one hn hl h.2.2)⟩
        show wpAnyLH P md ops Q S n _ t.len _ _ _
        rw [hl2]
        exact tq_head hsel hQ hs hc hn v _ a' w' (inv.set (by rw [hr]; simp) hl) hC h'.1 h'.2
  | .loud k t, listed, a, w, inv, hB, hS, h => by
    simp only [tqB, Bool.and_eq_true, decide_eq_true_eq] at hB
    obtain ⟨⟨hk, hr⟩, hB'⟩ := hB
    have h' : wpOne P ops Q k (fun a' w' => S w' ∧ wqTr P ops Q S T t a' w') a w := h
    refine ⟨by rw [hr]; simp, fun x hx => ?_⟩
    rw [hr] at hx
    have hik : x = k := by simpa using hx
    subst hik
    exact ⟨hk, wpOp_mono (fun a' w' h' => ⟨h'.1, tq_head hsel hQ hs hc hn t _ a' w' (inv.set (by rw [hr]; simp) hk) hB' h'.1 h'.2⟩) (wpOp_one hn hk h')⟩
  | .quiet k t, listed, a, w, inv, hB, hS, h => by
    simp only [tqB, Bool.and_eq_true, decide_eq_true_eq] at hB
    obtain ⟨⟨hk, ⟨hr, hf⟩, hm⟩, hB'⟩ := hB
    obtain ⟨o, hk0⟩ : ∃ o, ops[k]? = some o := ⟨ops[k]'(by omega), by simp [show k < ops.size by omega]⟩
    simp only [hk0] at hm
    have h' : wpQuiet P ops S (fun a' => wqTr P ops Q S T t a' w) [o] a := h o hk0
    have hr' : k ∈ Region.ready md ops listed := by simpa using hr
    have hst : qOp P ops S k (wpQuiet P ops S (fun a' => wqTr P ops Q S T t a' w) []) a := by unfold qOp; simp only [hk0]; exact h'
    obtain ⟨v, hy, hK⟩ := yieldsIn_of_qOp hk0 hst
    exact wpAnyLH_first hk0 (Region.noSelect_spec hsel) (hQ _ _) hs hc hn hk (fun listed' a' w' hL => seqB_ready hL.1) t.len listed a w inv (Region.free_spec hk0 hf) hr' (mute_if hm hy) hS
      (tq_head hsel hQ hs hc hn t _ _ w (inv.set hr' hk) hB' hS hK)

def wqTree (P : Program) (l : List Oper) (Q : Exit → Act → World → Prop) (S : World → Prop) (n : Nat) (t : Tq) (a : Act) (w : World) : Prop :=
  wqTr P l.toArray Q S (fun a'' w'' => wpList P l.toArray Q (l.drop n) a'' w'') t a w
theorem tq_done {l r : List Oper} {n : Nat} {a : Act} {w : World} (hr : l.drop n = r) (h : wpList P l.toArray Q r a w) : wqTree P l Q S n .done a w := by subst hr; exact h
theorem tq_loud {l : List Oper} {n k : Nat} {t : Tq} {o : Oper} {a : Act} {w : World} (ho : l[k]? = some o)
    (h : wpList P l.toArray (fun e a' w' => match e with | .normal => S w' ∧ wqTree P l Q S n t a' w' | e => Q e a' w') [o] a w) : wqTree P l Q S n (.loud k t) a w := by
  show wpOne P l.toArray Q k _ a w
  intro o' ho'
  have : o' = o := by rw [List.getElem?_toArray, ho] at ho'; exact (Option.some.inj ho').symm
  subst this
  exact h
theorem tq_quiet {l : List Oper} {n k : Nat} {t : Tq} {o : Oper} {a : Act} {w : World} (ho : l[k]? = some o)
    (h : wpQuiet P l.toArray S (fun a' => wqTree P l Q S n t a' w) [o] a) : wqTree P l Q S n (.quiet k t) a w := by
  intro o' ho'
  have : o' = o := by rw [List.getElem?_toArray, ho] at ho'; exact (Option.some.inj ho').symm
  subst this
  exact h
theorem tq_fork {l : List Oper} {n i j : Nat} {t u : Tq} {oi oj : Oper} {a : Act} {w : World} (hi : l[i]? = some oi) (hj : l[j]? = some oj)
    (h1 : wpList P l.toArray (fun e a' w' => match e with | .normal => S w' ∧ wqTree P l Q S n t a' w' | e => Q e a' w') [oi] a w)
    (h2 : wpList P l.toArray (fun e a' w' => match e with | .normal => S w' ∧ wqTree P l Q S n u a' w' | e => Q e a' w') [oj] a w) : wqTree P l Q S n (.fork i t j u) a w := by
  refine ⟨fun o' ho' => ?_, fun o' ho' => ?_⟩
  · have : o' = oi := by rw [List.getElem?_toArray, hi] at ho'; exact (Option.some.inj ho').symm
    subst this
    exact h1
  · have : o' = oj := by rw [List.getElem?_toArray, hj] at ho'; exact (Option.some.inj ho').symm
    subst this
    exact h2
theorem tq_fork3 {l : List Oper} {n i j k : Nat} {t u v : Tq} {oi oj ok : Oper} {a : Act} {w : World} (hi : l[i]? = some oi) (hj : l[j]? = some oj) (hk : l[k]? = some ok)
    (h1 : wpList P l.toArray (fun e a' w' => match e with | .normal => S w' ∧ wqTree P l Q S n t a' w' | e => Q e a' w') [oi] a w)
    (h2 : wpList P l.toArray (fun e a' w' => match e with | .normal => S w' ∧ wqTree P l Q S n u a' w' | e => Q e a' w') [oj] a w)
    (h3 : wpList P l.toArray (fun e a' w' => match e with | .normal => S w' ∧ wqTree P l Q S n v a' w' | e => Q e a' w') [ok] a w) : wqTree P l Q S n (.fork3 i t j u k v) a w := by
  refine ⟨fun o' ho' => ?_, fun o' ho' => ?_, fun o' ho' => ?_⟩
  · have : o' = oi := by rw [List.getElem?_toArray, hi] at ho'; exact (Option.some.inj ho').symm
    subst this
    exact h1
  · have : o' = oj := by rw [List.getElem?_toArray, hj] at ho'; exact (Option.some.inj ho').symm
    subst this
    exact h2
  · have : o' = ok := by rw [List.getElem?_toArray, hk] at ho'; exact (Option.some.inj ho').symm
    subst this
    exact h3
theorem wp_region_tq {id : Nat} {a : Act} {w : World} {l : List Oper} (n : Nat) (t : Tq) (S : World → Prop) (hm : P.follows .mixedOrders = true)
    (hB : (tqeB .any l.toArray n t && decide (t.len = n)) = true) (hQ : ∀ d v c a w, Q (.panic c) (a.put d v) w → Q (.panic c) a w)
    (hS : S w.drew) (h : wqTree P l Q S n t a w.drew) : (Code.region id l.toArray true).wp P Q a w := by
  simp only [tqeB, Bool.and_eq_true, decide_eq_true_eq] at hB
  obtain ⟨⟨⟨⟨⟨hsel, hn⟩, hs⟩, hc⟩, hlex⟩, hlen⟩ := hB
  have hdl : (l.drop n).length = l.toArray.size - n := by simp
  have inv0 : HeadInv .any l.toArray n (Array.replicate l.toArray.size false) :=
    ⟨by simp, fun j oj _ hl => (by rw [getD_replicate_false] at hl; cases hl), fun t _ ht => getD_in (by simpa using ht) (getD_replicate_false _ _)⟩
  have H := tq_head (md := .any) (g := l.toArray.size - n) (T := fun a'' w'' => wpList P l.toArray Q (l.drop n) a'' w'') hsel hQ hs hc hn t _ a _ inv0 hlex hS h
  refine wp_region_any hm ?_
  have := wpAny_of_headH (g := l.toArray.size - n) (fun listed' a' w' hL => by
    have := wpAny_of_seq (md := .any) (l.drop n) n listed' a' w' (fun j => by simp [List.getElem?_drop]) (by rw [hdl]; exact hL.1) hL.2
    rwa [hdl] at this) _ _ _ _ H
  rw [hlen, show n + (l.toArray.size - n) = l.toArray.size by omega] at this
  exact this
theorem wp_region_ext_tq {id : Nat} {a : Act} {w : World} {l : List Oper} (n : Nat) (t : Tq) (hm : P.follows .mixedOrders = true)
    (hB : (tqeB .any l.toArray n t && decide (t.len = n)) = true) (hQ : ∀ d v c a w, Q (.panic c) (a.put d v) w → Q (.panic c) a w)
    (h : wqTree P l Q (fun w' => ∃ x : Ex w, w' = x.W) n t a w.drew) : (Code.region id l.toArray true).wp P Q a w :=
  wp_region_tq n t _ hm hB hQ (inEx (Below.refl w.heap.size w).drew) h
end
end Go.Proofs.Ytkaogjhnogkcdaa
end

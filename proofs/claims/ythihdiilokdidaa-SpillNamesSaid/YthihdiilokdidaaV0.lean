/- What no chapter's walk goes without (cut out of the glass texts by mkbase.py). · What no chapter's walk goes without (cut out of the glass texts by mkbase.py). · What no chapter's walk goes without (cut out of the glass texts by mkbase.py). · Readings of arguments whose slices' elements hold slices. -/
import Derived.WalkKit
import Derived.Lib.Hide
import Derived.Below
import Derived.Laws.OwnMore
import Derived.Deep.Draws
import Derived.Laws.Rows
import Derived.Deep.RegionHeld3
import Derived.Deep.QuietTactic
import Derived.Deep.DeepCutAuto
import Derived.BigQuiet
import Derived.StillTail
import Derived.OrdersHeld
import Derived.Deep.AppendLies
import Derived.RangeFuncNested
import Derived.RangeFuncBound
import Derived.RangeFuncCalls
import Derived.RangeFuncLeaves
import Derived.Shelf.Abstract
import Derived.Shelf.RegionOpen
import Derived.OwnWalkIn
import Derived.TacticsInMore
import Derived.LoopNIn
import Derived.LoopIn
import Derived.ArgAppend
import Derived.Deep.Fields
import Derived.Carry
import Derived.ProofKit
import Derived.OpenShut
import Derived.ChangeSame
import Derived.Laws.Cover1
import Derived.Test.YthihdiilokdidaaProg
import Derived.Test.YthihdiilokdidaaRows
set_option linter.unusedVariables false
set_option linter.unusedSimpArgs false
set_option linter.unusedSectionVars false
section
namespace Go.Proofs.Ythihdiilokdidaa
section
open Go.RowKit
theorem ret_int {k : IntKind} {a b : Int} (h : a = b) : Ending.returned (.int k a) = .returned (.int k b) := by rw [h]
theorem ret_bool {a b : Bool} (h : a = b) : Ending.returned (.bool a) = .returned (.bool b) := by rw [h]

def gI (l : List Int) (k : Nat) : Int := l.getD k 0

structure Rg where
  lo : Int
  hi : Int
  deriving DecidableEq, Inhabited
def gR (l : List Rg) (k : Nat) : Rg := l.getD k ⟨0, 0⟩
def SlAt (w : World) (B : Nat) (sz : Nat) (A : Option Addr) (n : Nat) (f : Nat → Nat → Value) : Prop :=
  0 < n → ∃ b off, A = some ⟨b, off, none⟩ ∧ b < B ∧ ∀ k j, k < n → j < sz → w.cell? ⟨b, off + (k * sz + j), none⟩ = some (f k j)

theorem SlAt.keep {w w' : World} {B B' sz n : Nat} {A : Option Addr} {f : Nat → Nat → Value} (h : SlAt w B sz A n f) (hB : B ≤ B') (hk : ∀ p : Addr, p.block < B → w'.cell? p = w.cell? p) : SlAt w' B' sz A n f :=
  fun hn => let ⟨b, off, e, hb, hc⟩ := h hn; ⟨b, off, e, by omega, fun k j hk' hj => (hk _ hb).trans (hc k j hk' hj)⟩
theorem SlAt.below {w w' : World} {B sz n : Nat} {A : Option Addr} {f : Nat → Nat → Value} (h : SlAt w B sz A n f) (hb : Below B w w') : SlAt w' B sz A n f := h.keep (Nat.le_refl _) fun _ hp => hb.cell hp
theorem SlAt.up {w : World} {B B' sz n : Nat} {A : Option Addr} {f : Nat → Nat → Value} (h : SlAt w B sz A n f) (hB : B ≤ B') : SlAt w B' sz A n f := h.keep hB fun _ _ => rfl
def fI (l : List Int) : Nat → Nat → Value := fun k _ => .int .i64 (gI l k)
def fR (l : List Rg) : Nat → Nat → Value := fun k j => match j with | 0 => .int .i64 (gR l k).lo | _ => .int .i64 (gR l k).hi
section
variable {w : World} {B n : Nat} {A : Option Addr} {k : Nat}
theorem IsInts.at_ {l : List Int} (h : SlAt w B 1 A n (fI l)) (hk : k < n) :
    ∃ b off, A = some ⟨b, off, none⟩ ∧ b < B ∧ w.cell? ⟨b, off + k, none⟩ = some (.int .i64 (gI l k)) := by
  obtain ⟨b, off, e, hb, hc⟩ := h (by omega)
  exact ⟨b, off, e, hb, by simpa [fI] using hc k 0 hk (by omega)⟩
theorem IsRgs.at_ {l : List Rg} (h : SlAt w B 2 A n (fR l)) (hk : k < n) :
    ∃ b off, A = some ⟨b, off, none⟩ ∧ b < B ∧ w.cell? ⟨b, off + k * 2, none⟩ = some (.int .i64 (gR l k).lo) ∧ w.cell? ⟨b, off + k * 2 + 1, none⟩ = some (.int .i64 (gR l k).hi) := by
  obtain ⟨b, off, e, hb, hc⟩ := h (by omega)
  exact ⟨b, off, e, hb, hc k 0 hk (by omega), hc k 1 hk (by omega)⟩
end
def Blk (w : World) (g : Nat) (t : TypeId) (cs : Array Value) : Prop := w.heap[g]? = some (.cells cs t (0, 0))
section
variable {w w' : World} {g : Nat} {t : TypeId} {cs : Array Value}
theorem Blk.lt (h : Blk w g t cs) : g < w.heap.size := by
  rcases Nat.lt_or_ge g w.heap.size with hlt | hge
  · exact hlt
  · unfold Blk at h; rw [Array.getElem?_eq_none hge] at h; cases h
theorem Blk.cell (h : Blk w g t cs) (i : Nat) : w.cell? ⟨g, i, none⟩ = cs[i]? := cell_of_row w g i cs t (0, 0) h
theorem Blk.frozen (h : Blk w g t cs) (i : Nat) : w.frozen? ⟨g, i, none⟩ = false := by
  unfold Blk at h
  simp [World.frozen?, h]
theorem Blk.new (w : World) (t : TypeId) (cs : Array Value) : Blk (w.alloc (.cells cs t)) w.heap.size t cs := heap_alloc_new w _
theorem Blk.new' (w : World) (t : TypeId) (cs : Array Value) {g : Nat} (hg : w.heap.size = g) : Blk (w.alloc (.cells cs t)) g t cs := hg ▸ heap_alloc_new w _
theorem Blk.drew (h : Blk w g t cs) : Blk w.drew g t cs := h
theorem Blk.alloc (h : Blk w g t cs) (o : Obj) : Blk (w.alloc o) g t cs := (Below.heap_alloc w o g h.lt).trans h
theorem Blk.set_ (h : Blk w g t cs) (i : Nat) (u : Value) : Blk (w.setCell ⟨g, i, none⟩ u) g t (cs.setIfInBounds i u) := by
  unfold Blk at h ⊢
  simp [World.setCell, Array.getElem?_modify, h]
theorem Blk.far (h : Blk w g t cs) {p : Addr} (hp : g ≠ p.block) (u : Value) : Blk (w.setCell p u) g t cs := (Below.heap_setCell w p u g hp).trans h
theorem Blk.below {B : Nat} (h : Blk w g t cs) (hb : Below B w w') (hg : g < B) : Blk w' g t cs := (hb.block g hg).trans h
theorem Blk.grown {row : Option Nat} (h : Blk w g t cs) (hb : w.grownBy w' row) (hg : some g ≠ row) : Blk w' g t cs := (hb.block g h.lt hg).trans h
end
def mxTo (xs : List Int) : Nat → Int
  | 0 => gI xs 0
  | k + 1 => max (mxTo xs k) (gI xs k)

def mx3 (x y z : Int) : Int := max (max x y) z
def inB (n lo hi : Int) : Bool := decide (lo ≤ n) && decide (n ≤ hi)
def toB (lo hi high : Int) : Bool := decide (0 ≤ lo) && (decide (lo ≤ hi) && decide (hi ≤ high))
theorem inB_iff {n lo hi : Int} : inB n lo hi = true ↔ lo ≤ n ∧ n ≤ hi := by simp [inB]
theorem toB_iff {lo hi high : Int} : toB lo hi high = true ↔ 0 ≤ lo ∧ lo ≤ hi ∧ hi ≤ high := by simp [toB]

def allTo (f : Nat → Bool) : Nat → Bool
  | 0 => true
  | k + 1 => allTo f k && f k
theorem allTo_iff {f : Nat → Bool} {n : Nat} : allTo f n = true ↔ ∀ k, k < n → f k = true := by
  induction n with
  | zero => simp [allTo]
  | succ n ih =>
    simp only [allTo, Bool.and_eq_true, ih]
    constructor
    · rintro ⟨h1, h2⟩ k hk
      rcases Nat.lt_succ_iff_lt_or_eq.1 hk with h | h
      · exact h1 k h
      · exact h ▸ h2
    · intro h
      exact ⟨fun k hk => h k (by omega), h n (by omega)⟩
theorem allTo_false {f : Nat → Bool} {n k : Nat} (hk : k < n) (h : f k = false) : allTo f n = false := by
  cases hh : allTo f n
  · rfl
  · rw [allTo_iff.1 hh k hk] at h; cases h

def firstOf (f : Nat → Bool) : Nat → Int
  | 0 => -1
  | k + 1 => if firstOf f k < 0 then (if f k then (k : Int) else -1) else firstOf f k
theorem firstOf_neg {f : Nat → Bool} {n : Nat} (h : ∀ k, k < n → f k = false) : firstOf f n = -1 := by
  induction n with
  | zero => rfl
  | succ n ih => rw [firstOf, ih fun k hk => h k (by omega), if_pos (by omega), h n (by omega)]; simp
theorem firstOf_at {f : Nat → Bool} {n k : Nat} (hk : k < n) (h : ∀ j, j < k → f j = false) (hf : f k = true) : firstOf f n = (k : Int) := by
  induction n with
  | zero => omega
  | succ n ih =>
    rcases Nat.lt_succ_iff_lt_or_eq.1 hk with h' | h'
    · rw [firstOf, ih h', if_neg (by omega)]
    · subst h'
      rw [firstOf, firstOf_neg h, if_pos (by omega), hf]; simp
theorem firstOf_nonneg {f : Nat → Bool} {n : Nat} : decide (0 ≤ firstOf f n) = !(allTo (fun k => !f k) n) := by
  induction n with
  | zero => rfl
  | succ n ih =>
    rw [firstOf, allTo]
    by_cases h : firstOf f n < 0
    · rw [if_pos h]
      have : decide (0 ≤ firstOf f n) = false := decide_eq_false (by omega)
      rw [this] at ih
      have h2 : allTo (fun k => !f k) n = true := by
        cases hh : allTo (fun k => !f k) n
        · rw [hh] at ih; cases ih
        · rfl
      rw [h2]
      cases f n <;> simp <;> omega
    · rw [if_neg h, ih]
      have : decide (0 ≤ firstOf f n) = true := decide_eq_true (by omega)
      rw [this] at ih
      rw [show allTo (fun k => !f k) n = false from by
        cases hh : allTo (fun k => !f k) n
        · rfl
        · rw [hh] at ih; cases ih]
      rfl
end

section
open Go.RowKit
structure Ex (w : World) where
  W : World
  h : Below w.heap.size w W

theorem ex_alloc {w w1 : World} (h : Below w.heap.size w w1) (o : Obj) : Below w.heap.size w (w1.alloc o) := h.alloc h.size o
theorem ex_set {w w1 : World} (h : Below w.heap.size w w1) {p : Addr} (hp : w.heap.size ≤ p.block) (u : Value) : Below w.heap.size w (w1.setCell p u) := h.setCell hp u
theorem ex_trans {w w1 w2 : World} (h : Below w.heap.size w w1) (k : Below w1.heap.size w1 w2) : Below w.heap.size w w2 := h.trans (k.mono h.size)
theorem Ex.cell {w : World} (x : Ex w) {b o : Nat} {v : Value} (h : w.cell? ⟨b, o, none⟩ = some v) : x.W.cell? ⟨b, o, none⟩ = some v := by
  have hb : b < w.heap.size := by
    rcases Nat.lt_or_ge b w.heap.size with h' | h'
    · exact h'
    · simp [World.cell?, Array.getElem?_eq_none h'] at h
  exact (x.h.cell (p := ⟨b, o, none⟩) hb).trans h

instance (w : World) : Nonempty (Ex w) := ⟨⟨w, Below.refl _ _⟩⟩
theorem Ex.cell? {w : World} (x : Ex w) (b o : Nat) (hb : b < w.heap.size) : x.W.cell? ⟨b, o, none⟩ = w.cell? ⟨b, o, none⟩ := x.h.cell (p := ⟨b, o, none⟩) hb

end

section
open Go.RowKit
section
variable {P : Program} {ops : Array Oper} {md : Region.Mode} {C : World → Prop}
def wpAnyLQ (P : Program) (md : Region.Mode) (ops : Array Oper) (C : World → Prop) (n : Nat) (L : Array Bool → Act → Prop) : Nat → Array Bool → Act → Prop
  | 0, listed, a => L listed a
  | f + 1, listed, a =>
    Region.ready md ops listed ≠ [] ∧ ∀ i ∈ Region.ready md ops listed, i < n ∧ qOp P ops C i (wpAnyLQ P md ops C n L f (listed.setIfInBounds i true)) a

theorem Ex.frozen? {w : World} (x : Ex w) (b o : Nat) (hb : b < w.heap.size) : x.W.frozen? ⟨b, o, none⟩ = w.frozen? ⟨b, o, none⟩ := x.h.frozen (p := ⟨b, o, none⟩) hb
theorem Ex.size {w : World} (x : Ex w) : w.heap.size ≤ x.W.heap.size := x.h.size

end
end

section
open Go.RowKit
section
variable {P : Program} {ops : Array Oper} {md : Region.Mode} {S : World → Prop} {Q : Exit → Act → World → Prop}
def mute : Op → Bool
  | .move _ | .assign _ | .load _ _ | .fieldAddr _ _ _ | .field _ _ _ | .indexAddr _ _ _ | .index _ _ _ | .binOp _ _ _ _ _ | .unOp _ _ _ | .convert _ _ _ | .build _ _ | .pick _ _ _ | .extract _ _ | .lookup _ _ _ _ | .slice _ _ _ _ _ => true
  | .call c => match c.callee with | .builtin .len => true | _ => false
  | .nilCheck _ => true
  | _ => false

theorem run_v {s : Sem Value} {P : Program} {w w' : World} {n : Next} (h : (do pure (Next.value (← s)) : Sem Next).run P w = .ok n w') : ∃ u, n = .value u := by
  rw [Sem.run_bind] at h
  generalize s.run P w = r at h
  cases r with
  | ok v w1 => rw [Result.andThen_ok, Sem.run_pure] at h; cases h; exact ⟨v, rfl⟩
  | halt x w1 => cases h

theorem mute_value {ρ : Operand → Value} {o : Oper} (hm : mute o.op = true) {w w' : World} {n : Next} (h : (execOp ρ o).run P w = .ok n w') : ∃ u, n = .value u := by
  obtain ⟨dst, op, ty, after, x1, x2⟩ := o
  cases op <;> simp [mute] at hm
  case move x => simp only [execOp, go_sem] at h; cases h; exact ⟨_, rfl⟩
  case assign x => simp only [execOp, go_sem] at h; cases h; exact ⟨_, rfl⟩
  case call c =>
    cases hc : c.callee <;> simp [hc] at hm
    case builtin b =>
      cases b <;> simp at hm
      simp only [execOp, resolve, hc, Sem.run_bind, Sem.run_pure, Result.andThen_ok] at h
      exact run_v (s := Builtin.len_ c.argTypes ty (c.args.map ρ)) h
  case nilCheck x =>
    simp only [execOp] at h
    have hp : ∀ {u : Value} {w0 w1 : World}, (pure (Next.value u) : Sem Next).run P w0 = .ok n w1 → ∃ u, n = .value u := fun {u w0 w1} h => by rw [Sem.run_pure] at h; cases h; exact ⟨_, rfl⟩
    split at h
    all_goals try exact hp h
    all_goals try (simp [go_sem] at h; done)
    split at h
    all_goals try exact hp h
    all_goals try (simp [go_sem] at h; done)
    have hb : ∀ {α : Type} {s : Sem α} {f : α → Sem Next} {w0 : World}, (s >>= f).run P w0 = .ok n w' → ∃ v w1, (f v).run P w1 = .ok n w' := fun {α s f w0} h => by
      rw [Sem.run_bind] at h
      cases hr : s.run P w0 with
      | ok v w1 => rw [hr, Result.andThen_ok] at h; exact ⟨v, w1, h⟩
      | halt x w1 => rw [hr] at h; cases h
    obtain ⟨v1, w1, h⟩ := hb h
    obtain ⟨v2, w2, h⟩ := hb h
    split at h
    · obtain ⟨_, w3, h⟩ := hb h
      exact hp h
    · exact hp h
  case pick c x y =>
    simp only [execOp] at h
    rw [Sem.run_bind] at h
    generalize (asBool (ρ c)).run P w = r at h
    cases r with
    | ok v w1 => rw [Result.andThen_ok, Sem.run_pure] at h; cases h; exact ⟨_, rfl⟩
    | halt x w1 => cases h
  all_goals exact run_v h

theorem mute_if {o : Oper} {v : Value} {a : Act} (hm : mute o.op = true) (h : YieldsIn P ops S o v a) : YieldsIf P ops S o v a := by
  rcases h with ⟨hw, h⟩ | h
  · refine .inl ⟨hw, fun w hS => ?_⟩
    have h1 := h w hS
    unfold Oper.quietAt at h1
    cases hr : (execOp a.eval o).run P w with
    | ok n w' =>
      rw [hr] at h1
      obtain ⟨u, rfl⟩ := mute_value hm hr
      obtain ⟨h2, h3⟩ := h1
      rw [h2, h3]
    | halt x w' => rw [hr] at h1; exact h1.elim
  · exact .inr h

def wpAnyLH (P : Program) (md : Region.Mode) (ops : Array Oper) (Q : Exit → Act → World → Prop) (S : World → Prop) (n : Nat) (L : Array Bool → Act → World → Prop) : Nat → Array Bool → Act → World → Prop
  | 0, listed, a, w => L listed a w
  | f + 1, listed, a, w =>
    Region.ready md ops listed ≠ [] ∧ ∀ i ∈ Region.ready md ops listed, i < n ∧ wpOp P ops Q i (fun a' w' => S w' ∧ wpAnyLH P md ops Q S n L f (listed.setIfInBounds i true) a' w') a w

theorem wpAny_of_headH {n g : Nat} {L : Array Bool → Act → World → Prop} (hL : ∀ listed a w, L listed a w → wpAny P md ops Q g listed a w) :
    ∀ (f : Nat) (listed : Array Bool) (a : Act) (w : World), wpAnyLH P md ops Q S n L f listed a w → wpAny P md ops Q (f + g) listed a w
  | 0, listed, a, w, h => by rw [Nat.zero_add]; exact hL _ _ _ h
  | f + 1, listed, a, w, h => by
    rw [show f + 1 + g = (f + g) + 1 by omega]
    exact ⟨fun h0 => absurd h0 h.1, fun i hi => wpOp_mono (fun a' w' h' => wpAny_of_headH hL f _ a' w' h'.2) (h.2 i hi).2⟩

theorem wpAnyLH_first {n i : Nat} {oi : Oper} {v : Value} {L : Array Bool → Act → World → Prop} (hi : ops[i]? = some oi) (hsel : ∀ (j : Nat) (o : Oper) cs b, ops[j]? = some o → o.op ≠ .select cs b)
    (hQ : ∀ c a w, Q (.panic c) (a.put oi.dst v) w → Q (.panic c) a w)
    (hs : Region.sinkB md ops n = true) (hc : Region.chainB md ops n = true) (hn : n < ops.size) (hin : i < n)
    (hdone : ∀ listed a w, L listed a w → ∀ j ∈ Region.ready md ops listed, n ≤ j) :
    ∀ (f : Nat) (listed : Array Bool) (a : Act) (w : World), HeadInv md ops n listed →
      (∀ j oj, ops[j]? = some oj → j ≠ i → listed.getD j true = false → (∀ e ∈ oj.after, Region.binds md e = true → e.on ≠ i) → oi.apart ops oj = true) →
      i ∈ Region.ready md ops listed → YieldsIf P ops S oi v a → S w →
      wpAnyLH P md ops Q S n L f (listed.setIfInBounds i true) (a.put oi.dst v) w → wpAnyLH P md ops Q S n L (f + 1) listed a w := by
  intro f
  induction f with
  | zero =>
    intro listed a w inv _ hr hy hS H
    have hun := (mem_ready.1 hr).1
    refine ⟨fun h => (by rw [h] at hr; cases hr), fun j hj => ?_⟩
    have hjn : j < n := by
      rcases Nat.lt_or_ge j n with h | h
      · exact h
      · exact absurd hj (tail_waits hs hc hn inv _ i rfl hin hun j h)
    refine ⟨hjn, ?_⟩
    by_cases hji : j = i
    · subst hji; exact hy.wpOp hi hS ⟨hS, H⟩
    · have := hdone _ _ _ H j (ready_mono hj hji)
      omega
  | succ f ih =>
    intro listed a w inv hfree hr hy hS H
    have hun := (mem_ready.1 hr).1
    refine ⟨fun h => (by rw [h] at hr; cases hr), fun j hj => ?_⟩
    have hjn : j < n := by
      rcases Nat.lt_or_ge j n with h | h
      · exact h
      · exact absurd hj (tail_waits hs hc hn inv _ i rfl hin hun j h)
    refine ⟨hjn, ?_⟩
    by_cases hji : j = i
    · subst hji; exact hy.wpOp hi hS ⟨hS, H⟩
    · have h1 := (H.2 j (ready_mono hj hji)).2
      obtain ⟨hjun, oj, hoj, hall⟩ := mem_ready.1 hj
      have hnot : ∀ e ∈ oj.after, Region.binds md e = true → e.on ≠ i := fun e he hb heq => by
        have h1 := hall e he hb
        rw [heq, getD_both hun] at h1
        cases h1
      have h2 := wpOp_putIf hoj (hfree j oj hoj hji hjun hnot) (fun cs b => hsel i oi cs b hi) (fun cs b => hsel j oj cs b hoj) hQ hy h1
      have hfree' : ∀ k ok, ops[k]? = some ok → k ≠ i → (listed.setIfInBounds j true).getD k true = false →
          (∀ e ∈ ok.after, Region.binds md e = true → e.on ≠ i) → oi.apart ops ok = true := fun k ok hk hki hun hno => by
        refine hfree k ok hk hki ?_ hno
        by_cases hjk : j = k
        · subst hjk; exact hjun
        · rw [getD_set_ne true hjk] at hun; exact hun
      refine wpOp_mono (fun a' w' h3 => ⟨h3.2.1, ih (listed.setIfInBounds j true) a' w' (inv.set hj hjn) hfree' (ready_mono hr (Ne.symm hji)) h3.1 h3.2.1 ?_⟩) h2
      rw [Array.setIfInBounds_comm _ _ hji]
      exact h3.2.2

def wpLoud (P : Program) (ops : Array Oper) (Q : Exit → Act → World → Prop) (S : World → Prop) (T : Act → World → Prop) : List Oper → Act → World → Prop
  | [], a, w => T a w
  | o :: ks, a, w => wpList P ops (fun e a' w' => match e with | .normal => S w' ∧ wpLoud P ops Q S T ks a' w' | e => Q e a' w') [o] a w

def loudB (md : Region.Mode) (ops : Array Oper) (n g : Nat) : List Nat → Array Bool → Bool
  | [], listed => Region.seqB md ops g n listed
  | k :: ks, listed => decide (Region.ready md ops listed = [k]) && decide (k < n) && loudB md ops n g ks (listed.setIfInBounds k true)

def preB (md : Region.Mode) (ops : Array Oper) (n g : Nat) (loud : List Nat) : List Nat → Array Bool → Bool
  | [], listed => loudB md ops n g loud listed
  | k :: ks, listed => (Region.ready md ops listed).contains k && decide (k < n) && Region.free md ops listed k && (match ops[k]? with | some o => mute o.op | none => false) && preB md ops n g loud ks (listed.setIfInBounds k true)

def heldB (md : Region.Mode) (ops : Array Oper) (n : Nat) (pre loud : List Nat) : Bool :=
  Region.noSelect ops && decide (n < ops.size) && Region.sinkB md ops n && Region.chainB md ops n && preB md ops n (ops.size - n) loud pre (Array.replicate ops.size false)

theorem loud_head {n g : Nat} {T : Act → World → Prop} :
    ∀ (loud : List Nat) (os : List Oper) (listed : Array Bool) (a : Act) (w : World), os = loud.filterMap (ops[·]?) → n < ops.size → loudB md ops n g loud listed = true →
      wpLoud P ops Q S T os a w → wpAnyLH P md ops Q S n (fun listed' a' w' => Region.seqB md ops g n listed' = true ∧ T a' w') loud.length listed a w
  | [], os, listed, a, w, ho, _, hB, h => by
    subst ho
    exact ⟨hB, h⟩
  | k :: ks, os, listed, a, w, ho, hn, hB, h => by
    simp only [loudB, Bool.and_eq_true, decide_eq_true_eq] at hB
    obtain ⟨⟨hr, hk⟩, hB'⟩ := hB
    obtain ⟨o, hk0⟩ : ∃ o, ops[k]? = some o := ⟨ops[k]'(by omega), by simp [show k < ops.size by omega]⟩
    simp only [List.filterMap_cons, hk0] at ho
    subst ho
    refine ⟨by rw [hr]; simp, fun i hi => ?_⟩
    rw [hr] at hi
    have hik : i = k := by simpa using hi
    subst hik
    refine ⟨hk, ?_⟩
    refine wpOp_mono (fun a' w' h' => ⟨h'.1, loud_head ks _ _ a' w' rfl hn hB' h'.2⟩) (K := fun a' w' => S w' ∧ wpLoud P ops Q S T (ks.filterMap (ops[·]?)) a' w') ?_
    unfold wpOp
    simp only [hk0]
    simp only [wpLoud, wpList] at h
    split
    · rename_i hw
      rw [if_pos hw] at h
      refine h.imp (fun h => ?_) (fun h => ⟨h.1, ?_⟩)
      · unfold Oper.wp at *
        generalize (execOp a.eval o).run P w = r at *
        cases r with
        | ok n w' =>
          cases n <;> simp only [Oper.upon] at h ⊢ <;> first | exact h | refine Calls.mono h fun e w'' he => ?_
          all_goals
            cases e with
            | returned u => exact he
            | panicked c => exact he
            | outgrown => obtain ⟨x, y, hxy⟩ := he; exact ⟨x, y, hxy⟩
        | halt x w' => cases x <;> simp only [Oper.upon] at h ⊢ <;> first | exact h | skip
      · obtain ⟨x, y, hxy⟩ := h.2; exact ⟨x, y, hxy⟩
    · rename_i hw
      rw [if_neg hw] at h
      exact h

theorem pre_head {n g : Nat} {T : Act → World → Prop} {loud : List Nat} {los : List Oper} (hlos : los = loud.filterMap (ops[·]?)) (hsel : Region.noSelect ops = true)
    (hQ : ∀ d v c a w, Q (.panic c) (a.put d v) w → Q (.panic c) a w)
    (hs : Region.sinkB md ops n = true) (hc : Region.chainB md ops n = true) (hn : n < ops.size) :
    ∀ (pre : List Nat) (os : List Oper) (listed : Array Bool) (a : Act) (w : World), os = pre.filterMap (ops[·]?) → HeadInv md ops n listed → preB md ops n g loud pre listed = true → S w →
      wpQuiet P ops S (fun a' => wpLoud P ops Q S T los a' w) os a → wpAnyLH P md ops Q S n (fun listed' a' w' => Region.seqB md ops g n listed' = true ∧ T a' w') (pre.length + loud.length) listed a w
  | [], os, listed, a, w, ho, _, hB, hS, h => by
    subst ho
    rw [show ([] : List Nat).length + loud.length = loud.length by simp]
    exact loud_head loud los listed a w hlos hn hB h
  | k :: ks, os, listed, a, w, ho, inv, hB, hS, h => by
    simp only [preB, Bool.and_eq_true, decide_eq_true_eq] at hB
    obtain ⟨⟨⟨⟨hr, hk⟩, hf⟩, hm⟩, hB'⟩ := hB
    obtain ⟨o, hk0⟩ : ∃ o, ops[k]? = some o := ⟨ops[k]'(by omega), by simp [show k < ops.size by omega]⟩
    simp only [hk0] at hm
    simp only [List.filterMap_cons, hk0] at ho
    subst ho
    have hr' : k ∈ Region.ready md ops listed := by simpa using hr
    have hst : qOp P ops S k (wpQuiet P ops S (fun a' => wpLoud P ops Q S T los a' w) (ks.filterMap (ops[·]?))) a := by unfold qOp; simp only [hk0]; exact h
    obtain ⟨v, hy, hK⟩ := yieldsIn_of_qOp hk0 hst
    rw [show (k :: ks).length + loud.length = (ks.length + loud.length) + 1 by simp; omega]
    exact wpAnyLH_first hk0 (Region.noSelect_spec hsel) (hQ _ _) hs hc hn hk (fun listed' a' w' hL => seqB_ready hL.1) (ks.length + loud.length) listed a w inv (Region.free_spec hk0 hf) hr' (mute_if hm hy) hS
      (pre_head hlos hsel hQ hs hc hn ks _ _ _ w rfl (inv.set hr' hk) hB' hS hK)

theorem wp_region_held_tail {id : Nat} {a : Act} {w : World} {l : List Oper} (n : Nat) (pre loud : List Nat) (S : World → Prop) (hm : P.follows .mixedOrders = true)
    (hB : (heldB .any l.toArray n pre loud && decide (pre.length + loud.length = n)) = true) (hQ : ∀ d v c a w, Q (.panic c) (a.put d v) w → Q (.panic c) a w)
    (hS : S { w with drawn := w.drawn + 1 })
    (h : wpQuiet P l.toArray S (fun a' => wpLoud P l.toArray Q S (fun a'' w'' => wpList P l.toArray Q (l.drop n) a'' w'') (loud.filterMap (l[·]?)) a' { w with drawn := w.drawn + 1 }) (pre.filterMap (l[·]?)) a) :
    (Code.region id l.toArray true).wp P Q a w := by
  simp only [heldB, Bool.and_eq_true, decide_eq_true_eq] at hB
  obtain ⟨⟨⟨⟨⟨hsel, hn⟩, hs⟩, hc⟩, hlex⟩, hlen⟩ := hB
  have hdl : (l.drop n).length = l.toArray.size - n := by simp
  have inv0 : HeadInv .any l.toArray n (Array.replicate l.toArray.size false) :=
    ⟨by simp, fun j oj _ hl => (by rw [getD_replicate_false] at hl; cases hl), fun t _ ht => getD_in (by simpa using ht) (getD_replicate_false _ _)⟩
  have hf : ∀ is : List Nat, is.filterMap (l[·]?) = is.filterMap (l.toArray[·]?) := fun is => by simp
  have H := pre_head (md := .any) (g := l.toArray.size - n) (T := fun a'' w'' => wpList P l.toArray Q (l.drop n) a'' w'') (hf loud) hsel hQ hs hc hn pre _ _ a _ (hf pre) inv0 hlex hS h
  refine wp_region_any hm ?_
  have := wpAny_of_headH (g := l.toArray.size - n) (fun listed' a' w' hL => by
    have := wpAny_of_seq (md := .any) (l.drop n) n listed' a' w' (fun j => by simp [List.getElem?_drop]) (by rw [hdl]; exact hL.1) hL.2
    rwa [hdl] at this) _ _ _ _ H
  rw [hlen, show n + (l.toArray.size - n) = l.toArray.size by omega] at this
  exact this

end
end
end Go.Proofs.Ythihdiilokdidaa
end

section
namespace Go.Proofs.Ythihdiilokdidaa
section
open Go.RowKit
attribute [local go_sem] Ex.cell?
theorem SlAt.ext {w : World} {B sz n : Nat} {A : Option Addr} {f : Nat → Nat → Value} (h : SlAt w B sz A n f) (hB : B ≤ w.heap.size) (x : Ex w) : SlAt x.W B sz A n f := h.below (x.h.mono hB)
end

section
open Go.RowKit
theorem own_sl {w : World} {base : Nat} {e : TypeId} {v : Value} {l : List Int} (h : w.ownsRow base e 1 v l.length (l.map (Value.int .i64))) : ∃ A c, v = .slice A l.length c ∧ l.length ≤ c ∧ SlAt w w.heap.size 1 A l.length (fI l) := by
  rcases h.2 with ⟨rfl, h0⟩ | ⟨g, cap, cur, rfl, hb, hh, hn, hm, hs, hc⟩
  · exact ⟨none, 0, by rw [h0], by omega, fun h1 => by omega⟩
  · refine ⟨_, cap, rfl, hn, fun _ => ⟨g, 0, rfl, (Array.getElem?_eq_some_iff.1 hh).1, fun k j hk hj => ?_⟩⟩
    obtain rfl : j = 0 := by omega
    rw [cell_of_row w g _ cur e (0, 0) hh]
    simp only [Nat.mul_one, Nat.add_zero, Nat.zero_add]
    have := congrArg (fun x : List Value => x[k]?) hc
    simp only [List.getElem?_take, Nat.mul_one, hk, if_true, List.getElem?_map] at this
    rw [← Array.getElem?_toList, this, List.getElem?_eq_getElem hk]
    simp [fI, gI, List.getElem?_eq_getElem hk]
end

section
open Go.RowKit
attribute [local go_sem] Ex.cell? Ex.frozen?
theorem int_info : (Try.prog.info? 3).map (fun i => (i.zero, i.size, i.bytes)) = some (some (.int .i64 0), 1, 8) := by kernel_rfl

theorem own_below {w w' : World} {base : Nat} {e : TypeId} {sz n : Nat} {v : Value} {xs : List Value} (h : w.ownsRow base e sz v n xs) (hb : Below w.heap.size w w') : w'.ownsRow base e sz v n xs := by
  refine ⟨h.1, h.2.imp id ?_⟩
  rintro ⟨g, cap, cur, rfl, hb', hh, rest⟩
  exact ⟨g, cap, cur, rfl, hb', (hb.block g (Array.getElem?_eq_some_iff.1 hh).1).trans hh, rest⟩
theorem own_far {w : World} {base : Nat} {e : TypeId} {sz n : Nat} {v : Value} {xs : List Value} (h : w.ownsRow base e sz v n xs) {p : Addr} (hp : p.block < base) (u : Value) : (w.setCell p u).ownsRow base e sz v n xs := ownsRow_setCell_below h hp u
theorem own_ge {w : World} {base : Nat} {e : TypeId} {sz n : Nat} {v : Value} {xs : List Value} (h : w.ownsRow base e sz v n xs) {g : Nat} (hg : v.ownBlock = some g) : base ≤ g := by
  rcases h.2 with ⟨rfl, _⟩ | ⟨g', cap, cur, rfl, hb, _⟩
  · simp [Value.ownBlock] at hg
  · simp [Value.ownBlock] at hg; omega
theorem own_base {w : World} {base base' : Nat} {e : TypeId} {sz n : Nat} {v : Value} {xs : List Value} (h : w.ownsRow base e sz v n xs) (hb : base' ≤ base) : w.ownsRow base' e sz v n xs :=
  ⟨h.1, h.2.imp id fun ⟨g, cap, cur, e, hb', rest⟩ => ⟨g, cap, cur, e, Nat.le_trans hb hb', rest⟩⟩
end

section
open Go.RowKit
end

section
open Go.RowKit Go.Shelf
structure KeepsCells (W W' : World) : Prop where
  size : W.heap.size ≤ W'.heap.size
  same : ∀ (k : Nat) (o : Obj), W.heap[k]? = some o → o.isCells = true → W'.heap[k]? = some o
theorem KeepsCells.refl (W : World) : KeepsCells W W := ⟨Nat.le_refl _, fun _ _ h _ => h⟩
theorem KeepsCells.trans {A B C : World} (h : KeepsCells A B) (k : KeepsCells B C) : KeepsCells A C := ⟨Nat.le_trans h.size k.size, fun i o hi ho => k.same i o (h.same i o hi ho) ho⟩
theorem KeepsCells.below {W W' : World} (h : Below W.heap.size W W') : KeepsCells W W' := ⟨h.size, fun k _ hk _ => (h.block k (Array.getElem?_eq_some_iff.1 hk).1).trans hk⟩
theorem KeepsCells.alloc (W : World) (o : Obj) : KeepsCells W (W.alloc o) := .below ((Below.refl _ _).alloc (Nat.le_refl _) _)
theorem KeepsCells.putObj {W : World} {l : Nat} {o : Obj} (o' : Obj) (hl : W.heap[l]? = some o) (ho : o.isCells = false) : KeepsCells W (W.putObj l o') :=
  ⟨by simp, fun k x hk hx => by
    by_cases h : k = l
    · subst h; rw [hl] at hk; cases hk; rw [ho] at hx; cases hx
    · exact (World.putObj_heap_other h).trans hk⟩
theorem KeepsCells.cell {W W' : World} (h : KeepsCells W W') {p : Addr} {v : Value} (hc : W.cell? p = some v) : W'.cell? p = some v := by
  unfold World.cell? at hc ⊢
  split at hc
  · rename_i c t f hh
    rw [h.same _ _ hh rfl]; exact hc
  · cases hc
theorem KeepsCells.blk {W W' : World} (h : KeepsCells W W') {g : Nat} {t : TypeId} {cs : Array Value} (hb : Blk W g t cs) : Blk W' g t cs := h.same _ _ hb rfl
theorem SlAt.cells {W W' : World} {B sz n : Nat} {A : Option Addr} {f : Nat → Nat → Value} (h : SlAt W B sz A n f) (hk : KeepsCells W W') : SlAt W' B sz A n f :=
  fun hn => let ⟨b, off, e, hb, hc⟩ := h hn; ⟨b, off, e, hb, fun k j hk' hj => hk.cell (hc k j hk' hj)⟩
theorem grown_of_below {W W' : World} (h : Below W.heap.size W W') : W.grownBy W' none := ⟨h.os, h.tape, h.output, h.size, fun k hk _ => h.block k hk⟩
theorem AbidesFrom.below {β : Type} {B : Nat} {J : β → World → Prop} (hJ : AbidesFrom B J) {s : β} {W W' : World} (h : J s W) (hb : Below W.heap.size W W') : J s W' :=
  hJ s W W' none h (grown_of_below hb) (fun r e => by cases e)
theorem OwnFrom.below {β : Type} {B : Nat} {J : β → World → Prop} (hJ : OwnFrom B J) {s : β} {W W' : World} (h : J s W) (hb : Below W.heap.size W W') : J s W' :=
  hJ s W W' none h (grown_of_below hb) (fun r e => by cases e)

def Marks (W : World) : List Deferred → Prop
  | [] => True
  | d :: ds => ∃ D, d = { target := .collected D, args := #[] } ∧ W.heap[D]? = some (.deferred (some [])) ∧ (∀ e ∈ ds, e.target ≠ .collected D) ∧ Marks W ds
theorem Marks.keep {W W' : World} (hk : ∀ (D : Nat), W.heap[D]? = some (.deferred (some [])) → W'.heap[D]? = some (.deferred (some []))) : ∀ {ds : List Deferred}, Marks W ds → Marks W' ds
  | [], _ => trivial
  | _ :: _, ⟨D, e, h1, h2, h3⟩ => ⟨D, e, hk D h1, h2, h3.keep hk⟩
theorem Marks.lt {W : World} : ∀ {ds : List Deferred}, Marks W ds → ∀ d ∈ ds, ∃ D, d.target = .collected D ∧ D < W.heap.size
  | [], _, d, hd => by cases hd
  | _ :: _, ⟨D, e, h1, _, h3⟩, d, hd => by
    rcases List.mem_cons.1 hd with rfl | hd
    · exact ⟨D, by rw [e], (Array.getElem?_eq_some_iff.1 h1).1⟩
    · exact h3.lt d hd
theorem Marks.new {W W' : World} {ds : List Deferred} (h : Marks W ds) (hk : ∀ (D : Nat), W.heap[D]? = some (.deferred (some [])) → W'.heap[D]? = some (.deferred (some []))) {D : Nat} (hD : W.heap.size ≤ D) (hn : W'.heap[D]? = some (.deferred (some []))) :
    Marks W' ({ target := .collected D, args := #[] } :: ds) :=
  ⟨D, rfl, hn, fun e he h' => by
    obtain ⟨D', h1, h2⟩ := h.lt e he
    rw [h1] at h'
    injection h' with h'
    omega, h.keep hk⟩

structure KeepsBut (B : Nat) (W W' : World) : Prop where
  os : W'.os = W.os
  tape : W'.tape = W.tape
  output : W'.output = W.output
  size : W'.heap.size = W.heap.size
  same : ∀ (k : Nat) (o : Obj), W.heap[k]? = some o → (∀ x, o ≠ .deferred x) → W'.heap[k]? = some o
  low : ∀ k, k < B → W'.heap[k]? = W.heap[k]?
theorem KeepsBut.refl (B : Nat) (W : World) : KeepsBut B W W := ⟨rfl, rfl, rfl, rfl, fun _ _ h _ => h, fun _ _ => rfl⟩
theorem KeepsBut.trans {B : Nat} {X Y Z : World} (h : KeepsBut B X Y) (k : KeepsBut B Y Z) : KeepsBut B X Z :=
  ⟨k.os.trans h.os, k.tape.trans h.tape, k.output.trans h.output, k.size.trans h.size, fun i o hi ho => k.same i o (h.same i o hi ho) ho, fun i hi => (k.low i hi).trans (h.low i hi)⟩
theorem KeepsBut.put {B : Nat} {W : World} {D : Nat} (h : W.heap[D]? = some (.deferred (some []))) (hD : B ≤ D) : KeepsBut B W (W.putObj D (.deferred none)) :=
  ⟨rfl, rfl, rfl, by simp, fun k o hk ho => by
    by_cases e : k = D
    · subst e; rw [h] at hk; cases hk; exact absurd rfl (ho _)
    · exact (World.putObj_heap_other e).trans hk, fun k hk => World.putObj_heap_other (by omega)⟩
theorem KeepsBut.cells {B : Nat} {W W' : World} (h : KeepsBut B W W') : KeepsCells W W' := ⟨Nat.le_of_eq h.size.symm, fun k o hk ho => h.same k o hk (fun x e => by rw [e] at ho; cases ho)⟩
theorem KeepsBut.below {B : Nat} {a W W' : World} (h : KeepsBut B W W') (hb : Below B a W) : Below B a W' :=
  ⟨h.os.trans hb.os, h.tape.trans hb.tape, h.output.trans hb.output, by rw [h.size]; exact hb.size, fun k hk => (h.low k hk).trans (hb.block k hk)⟩

theorem leaves_marks {n : Nat} {P : Program} {fn : Func} {tmps : Array Value} {R : Ending → World → Prop} (B : Nat) : ∀ (ds : List Deferred) (W : World), Marks W ds → (∀ d ∈ ds, ∀ D, d.target = .collected D → B ≤ D) →
    (∀ W', KeepsBut B W W' → ∃ v, (results fn tmps).run P W' = .ok v W' ∧ R (.returned v) W') → LeavesInM Fence.wide n P fn tmps R ds .returning W
  | [], W, _, _, hR => hR W (KeepsBut.refl B W)
  | d :: ds, W, ⟨D, e, h1, h2, h3⟩, hB, hR => by
    subst e
    have hDB : B ≤ D := hB { target := .collected D, args := #[] } (by simp) D rfl
    refine ⟨by simp, .inl ⟨D, W.putObj D (.deferred none), rfl, run_takeDeferred h1, ?_⟩⟩
    refine leaves_marks B ds _ ?_ (fun d hd => hB d (by simp [hd])) (fun W' hW' => hR W' ((KeepsBut.put h1 hDB).trans hW'))
    -- the other marks' blocks lie as they lay
    clear hR hB h1
    induction ds with
    | nil => trivial
    | cons d' ds ih =>
      obtain ⟨D', e', g1, g2, g3⟩ := h3
      subst e'
      have hne : D' ≠ D := fun h => h2 { target := .collected D', args := #[] } (by simp) (by rw [h])
      exact ⟨D', rfl, (World.putObj_heap_other hne).trans g1, g2, ih (fun e he => h2 e (by simp [he])) g3⟩

theorem calls_of_marks {n : Nat} {P : Program} {f : FuncId} {fn : Func} {c : Code} {args : Array Value} {w : World} {R : Ending → World → Prop} (hf : P.funcs[f]? = some fn) (hb : fn.body = some c)
    (h : c.wp P (bodyPostM Fence.wide n P fn R) { tmps := args ++ Array.replicate (fn.ntmps - args.size) undef, defers := [] } w) : Calls P f args w R :=
  callsIn_wide.1 (callsIn_of_wp_marks (F := Fence.wide) (n := n) hf hb trivial (wpIn_wide.2 h) rfl)
end

section
open Go.RowKit Go.Shelf
attribute [local go_sem] Oper.semAt_some Ex.cell? Ex.frozen?
theorem own_cells {W : World} {base n : Nat} {e : TypeId} {v : Value} {xs : List Value} (h : W.ownsRow base e 1 v n xs) (hn : 0 < n) :
    ∃ g cap, v = .slice (some ⟨g, 0, none⟩) n cap ∧ base ≤ g ∧ g < W.heap.size ∧ n ≤ cap ∧ ∀ i, i < n → W.cell? ⟨g, i, none⟩ = xs[i]? := by
  rcases h.2 with ⟨_, h0⟩ | ⟨g, cap, cur, rfl, hb, hh, hnc, _, hsz, hc⟩
  · omega
  · refine ⟨g, cap, rfl, hb, (Array.getElem?_eq_some_iff.1 hh).1, hnc, fun i hi => ?_⟩
    rw [cell_of_row W g i cur e (0, 0) hh, ← hc]
    simp [hi]
theorem Marks.below {W W' : World} {ds : List Deferred} (h : Marks W ds) (hb : Below W.heap.size W W') : Marks W' ds :=
  h.keep fun D hD => (hb.block D (Array.getElem?_eq_some_iff.1 hD).1).trans hD
theorem Marks.grown {W W' : World} {ds : List Deferred} {row : Option Nat} (h : Marks W ds) (hg : W.grownBy W' row) (hr : ∀ b, row = some b → ∃ o, W.heap[b]? = some o ∧ ∀ x, o ≠ .deferred x) : Marks W' ds :=
  h.keep fun D hD => (hg.block D (Array.getElem?_eq_some_iff.1 hD).1 (fun e => by
    obtain ⟨o, ho, hx⟩ := hr D e.symm
    rw [hD] at ho; cases ho; exact hx _ rfl)).trans hD

end

section
open Go.RowKit
attribute [local go_sem] Ex.cell? Ex.frozen?
theorem Blk.frozen0 {w : World} {g : Nat} {t : TypeId} {cs : Array Value} (h : Blk w g t cs) : ∀ i, w.frozen? ⟨g, i, none⟩ = false := h.frozen
end

section
open Go.RowKit
attribute [local go_sem] Ex.cell? Ex.frozen?
theorem run_store_func {P : Program} {w : World} {a : Addr} {m : Mode} (f : Fn) (x y : Array Value) : (store a (.func f x y) m).run P w = stored P w a (.func f x y) m := run_store P w a _ m rfl
attribute [local go_sem] run_store_func
end

section
open Go.RowKit Go.Shelf
attribute [local go_sem] Oper.semAt_some Ex.cell? Ex.frozen?
def EndsOf (Z : Int → Prop) (a b : Int) : Prop := Z a ∧ Z b ∧ ∀ z, Z z → a ≤ z ∧ z ≤ b

theorem blk_ne {W : World} {b c : Nat} {t t' : TypeId} {cs cs' : Array Value} (hm : Blk W b t cs) (hc : Blk W c t' cs') (ht : t ≠ t') : b ≠ c := by
  rintro rfl
  have h1 : W.heap[b]? = some (.cells cs t (0, 0)) := hm
  have h2 : W.heap[b]? = some (.cells cs' t' (0, 0)) := hc
  rw [h1] at h2; cases h2; exact ht rfl

theorem grown_row {W W' : World} {r : Option Nat} (h : Below W.heap.size W W') : W.grownBy W' r := ⟨h.os, h.tape, h.output, h.size, fun k hk _ => h.block k hk⟩
theorem grown_set (W : World) (b i : Nat) (v : Value) : W.grownBy (W.setCell ⟨b, i, none⟩ v) (some b) := ⟨rfl, rfl, rfl, by simp, fun k _ hne => Below.heap_setCell W ⟨b, i, none⟩ v k (fun e => hne (by rw [e]))⟩
theorem EndsOf.congr {Z Z' : Int → Prop} {a b : Int} (h : EndsOf Z a b) (hz : ∀ z, Z z ↔ Z' z) : EndsOf Z' a b := ⟨(hz _).1 h.1, (hz _).1 h.2.1, fun z hz' => h.2.2 z ((hz z).2 hz')⟩
theorem grown_some {W W' : World} {r : Option Nat} (h : W.grownBy W' none) : W.grownBy W' r := ⟨h.os, h.tape, h.output, h.size, fun k hk _ => h.block k hk (by simp)⟩
theorem exFrame {T : Array Value} {F : (Nat → Value) → Array Value} {ds : List Deferred} (h : T = F (fun i => T.getD i undef)) : ∃ u, Act.mk T ds = Act.mk (F u) ds := ⟨_, congrArg (fun T => Act.mk T ds) h⟩
end

section
open Go.RowKit
structure Gx (w : World) (row : Option Nat) where
  W : World
  h : w.grownBy W row
instance (w : World) (row : Option Nat) : Nonempty (Gx w row) := ⟨⟨w, World.grownBy.refl w row⟩⟩
theorem Gx.cell? {w : World} {row : Option Nat} (x : Gx w row) (b o : Nat) (hb : b < w.heap.size) (hne : ¬ some b = row) : x.W.cell? ⟨b, o, none⟩ = w.cell? ⟨b, o, none⟩ := World.cell?_of_block (x.h.block b hb hne)
theorem wp_region_gx_held {P : Program} {Q : Exit → Act → World → Prop} {id : Nat} {a : Act} {w : World} {l : List Oper} (row : Option Nat) (n : Nat) (pre loud : List Nat) (hm : P.follows .mixedOrders = true)
    (hB : (heldB .any l.toArray n pre loud && decide (pre.length + loud.length = n)) = true) (hQ : ∀ d v c a w, Q (.panic c) (a.put d v) w → Q (.panic c) a w)
    (h : wpQuiet P l.toArray (fun w' => ∃ x : Gx w row, w' = x.W) (fun a' => wpLoud P l.toArray Q (fun w' => w.grownBy w' row) (fun a'' w'' => wpList P l.toArray Q (l.drop n) a'' w'') (loud.filterMap (l[·]?)) a' w.drew) (pre.filterMap (l[·]?)) a) :
    (Code.region id l.toArray true).wp P Q a w := by
  have hC : (fun w' => ∃ x : Gx w row, w' = x.W) = fun w' => w.grownBy w' row := by
    funext w'
    exact propext ⟨fun ⟨x, hx⟩ => hx ▸ x.h, fun hb => ⟨⟨w', hb⟩, rfl⟩⟩
  rw [hC] at h
  exact wp_region_held_tail n pre loud _ hm hB hQ ⟨rfl, rfl, rfl, Nat.le_refl _, fun _ _ _ => rfl⟩ h

structure Fr (R : Nat → Prop) (w w' : World) : Prop where
  os : w'.os = w.os
  tape : w'.tape = w.tape
  output : w'.output = w.output
  size : w.heap.size ≤ w'.heap.size
  block : ∀ k, k < w.heap.size → ¬ R k → w'.heap[k]? = w.heap[k]?
theorem Fr.refl (R : Nat → Prop) (w : World) : Fr R w w := ⟨rfl, rfl, rfl, Nat.le_refl _, fun _ _ _ => rfl⟩
theorem Fr.below {R : Nat → Prop} {w w' : World} (h : Below w.heap.size w w') : Fr R w w' := ⟨h.os, h.tape, h.output, h.size, fun k hk _ => h.block k hk⟩
theorem Fr.grown {R : Nat → Prop} {w w' : World} {row : Option Nat} (h : w.grownBy w' row) (hr : ∀ b, row = some b → R b ∨ w.heap.size ≤ b) : Fr R w w' := ⟨h.os, h.tape, h.output, h.size, fun k hk hn => h.block k hk (fun e => by rcases hr k e.symm with h | h; exact hn h; omega)⟩
theorem Fr.set {R : Nat → Prop} (w : World) (b i : Nat) (v : Value) (hb : R b) : Fr R w (w.setCell ⟨b, i, none⟩ v) := Fr.grown (grown_set w b i v) (fun _ e => .inl (by injection e with e; exact e ▸ hb))
theorem Fr.trans {R R' : Nat → Prop} {a b c : World} (h : Fr R a b) (k : Fr R' b c) (hR : ∀ x, x < a.heap.size → R' x → R x) : Fr R a c :=
  ⟨k.os.trans h.os, k.tape.trans h.tape, k.output.trans h.output, Nat.le_trans h.size k.size, fun x hx hn => (k.block x (Nat.lt_of_lt_of_le hx h.size) (fun h' => hn (hR x hx h'))).trans (h.block x hx hn)⟩
theorem Fr.toBelow {R : Nat → Prop} {B : Nat} {w0 w w' : World} (h : Fr R w w') (hb : Below B w0 w) (hB : B ≤ w.heap.size) (hR : ∀ x, R x → B ≤ x) : Below B w0 w' :=
  ⟨h.os.trans hb.os, h.tape.trans hb.tape, h.output.trans hb.output, Nat.le_trans hb.size h.size, fun x hx => (h.block x (Nat.lt_of_lt_of_le hx hB) (fun hr => by have := hR x hr; omega)).trans (hb.block x hx)⟩
theorem Blk.fr {R : Nat → Prop} {w w' : World} {g : Nat} {t : TypeId} {cs : Array Value} (h : Blk w g t cs) (hf : Fr R w w') (hn : ¬ R g) : Blk w' g t cs := (hf.block g h.lt hn).trans h
theorem own_fr {R : Nat → Prop} {w w' : World} {base : Nat} {e : TypeId} {sz n : Nat} {v : Value} {xs : List Value} (h : w.ownsRow base e sz v n xs) (hf : Fr R w w') (hn : ∀ b, v.ownBlock = some b → ¬ R b) : w'.ownsRow base e sz v n xs := by
  refine ⟨h.1, h.2.imp id ?_⟩
  rintro ⟨g, cap, cur, rfl, hb, hh, rest⟩
  exact ⟨g, cap, cur, rfl, hb, (hf.block g (Array.getElem?_eq_some_iff.1 hh).1 (hn g rfl)).trans hh, rest⟩
theorem own_blkne {w : World} {base : Nat} {e t : TypeId} {size n : Nat} {v : Value} {xs : List Value} {g : Nat} {cs : Array Value} (h : w.ownsRow base e size v n xs) (hg : Blk w g t cs) (hne : e ≠ t) : v.ownBlock ≠ some g := by
  rcases h.2 with ⟨rfl, _⟩ | ⟨g', cap, cur, rfl, _, hh, _⟩
  · simp [Value.ownBlock]
  · intro he
    have : g' = g := by simpa [Value.ownBlock] using he
    subst this
    exact blk_ne (t := e) hh hg hne rfl
theorem own_ownne {w : World} {base base' : Nat} {e t : TypeId} {size n size' n' : Nat} {v v' : Value} {xs xs' : List Value} (h : w.ownsRow base e size v n xs) (h' : w.ownsRow base' t size' v' n' xs') (hne : e ≠ t) {b : Nat} (hb : v.ownBlock = some b) : v'.ownBlock ≠ some b := by
  rcases h'.2 with ⟨rfl, _⟩ | ⟨g', cap, cur, rfl, _, hh, _⟩
  · simp [Value.ownBlock]
  · intro he
    have : g' = b := by simpa [Value.ownBlock] using he
    subst this
    exact own_blkne (cs := cur) h hh hne hb
theorem own_lt {w : World} {base : Nat} {e : TypeId} {sz n : Nat} {v : Value} {xs : List Value} (h : w.ownsRow base e sz v n xs) {b : Nat} (hb : v.ownBlock = some b) : base ≤ b ∧ b < w.heap.size := by
  rcases h.2 with ⟨rfl, _⟩ | ⟨g', cap, cur, rfl, hge, hh, _⟩
  · simp [Value.ownBlock] at hb
  · have : g' = b := by simpa [Value.ownBlock] using hb
    subst this
    exact ⟨hge, (Array.getElem?_eq_some_iff.1 hh).1⟩

def RowsAre (w : World) (base : Nat) : List Value → List (List Int) → Prop
  | [], [] => True
  | v :: vs, l :: ls => w.ownsRow base 3 1 v l.length (l.map (Value.int .i64)) ∧ RowsAre w base vs ls
  | _, _ => False
theorem RowsAre.fr {R : Nat → Prop} {w w' : World} {base : Nat} (hf : Fr R w w') : ∀ {vs : List Value} {ls : List (List Int)}, RowsAre w base vs ls → (∀ v ∈ vs, ∀ b, v.ownBlock = some b → ¬ R b) → RowsAre w' base vs ls
  | [], [], _, _ => trivial
  | v :: vs, l :: ls, h, hn => ⟨own_fr h.1 hf (hn v (by simp)), RowsAre.fr hf h.2 (fun u hu => hn u (by simp [hu]))⟩
theorem RowsAre.snoc {w : World} {base : Nat} {v : Value} {l : List Int} (h1 : w.ownsRow base 3 1 v l.length (l.map (Value.int .i64))) : ∀ {vs : List Value} {ls : List (List Int)}, RowsAre w base vs ls → RowsAre w base (vs ++ [v]) (ls ++ [l])
  | [], [], _ => ⟨h1, trivial⟩
  | _ :: _, _ :: _, h => ⟨h.1, RowsAre.snoc h1 h.2⟩
theorem RowsAre.len {w : World} {base : Nat} : ∀ {vs : List Value} {ls : List (List Int)}, RowsAre w base vs ls → vs.length = ls.length
  | [], [], _ => rfl
  | _ :: _, _ :: _, h => by simp [RowsAre.len h.2]
theorem RowsAre.lt {w : World} {base : Nat} : ∀ {vs : List Value} {ls : List (List Int)}, RowsAre w base vs ls → ∀ v ∈ vs, ∀ b, v.ownBlock = some b → base ≤ b ∧ b < w.heap.size
  | [], [], _, v, hv, _, _ => by cases hv
  | _ :: _, _ :: _, h, v, hv, b, hb => by
    rcases List.mem_cons.1 hv with rfl | hv
    · exact own_lt h.1 hb
    · exact RowsAre.lt h.2 v hv b hb
theorem RowsAre.ne {w : World} {base base' : Nat} {t : TypeId} {size n : Nat} {u : Value} {xs : List Value} (hu : w.ownsRow base' t size u n xs) (ht : (3 : TypeId) ≠ t) : ∀ {vs : List Value} {ls : List (List Int)}, RowsAre w base vs ls → ∀ v ∈ vs, ∀ b, v.ownBlock = some b → u.ownBlock ≠ some b
  | [], [], _, v, hv, _, _ => by cases hv
  | _ :: _, _ :: _, h, v, hv, b, hb => by
    rcases List.mem_cons.1 hv with rfl | hv
    · exact own_ownne h.1 hu ht hb
    · exact RowsAre.ne hu ht h.2 v hv b hb

theorem ints_info : (Try.prog.info? 28).map (fun i => (i.zero, i.size, i.bytes)) = some (some (.slice none 0 0), 1, 24) := by kernel_rfl
end

section
open Go.RowKit
section
variable {P : Program} {ops : Array Oper} {md : Region.Mode} {S : World → Prop} {Q : Exit → Act → World → Prop}
def wpMixO (P : Program) (ops : Array Oper) (Q : Exit → Act → World → Prop) (S : World → Prop) (T : Act → World → Prop) : List (Bool × Nat) → Act → World → Prop
  | [], a, w => T a w
  | (loud, k) :: ks, a, w => ∀ o, ops[k]? = some o → if loud = true then wpList P ops (fun e a' w' => match e with | .normal => S w' ∧ wpMixO P ops Q S T ks a' w' | e => Q e a' w') [o] a w else wpQuiet P ops S (fun a' => wpMixO P ops Q S T ks a' w) [o] a

def mixB (md : Region.Mode) (ops : Array Oper) (n g : Nat) : List (Bool × Nat) → Array Bool → Bool
  | [], listed => Region.seqB md ops g n listed
  | (loud, k) :: ks, listed =>
    decide (k < n) && (if loud = true then decide (Region.ready md ops listed = [k]) else (Region.ready md ops listed).contains k && Region.free md ops listed k && (match ops[k]? with | some o => mute o.op | none => false)) && mixB md ops n g ks (listed.setIfInBounds k true)

def mixedB (md : Region.Mode) (ops : Array Oper) (n : Nat) (ks : List (Bool × Nat)) : Bool :=
  Region.noSelect ops && decide (n < ops.size) && Region.sinkB md ops n && Region.chainB md ops n && mixB md ops n (ops.size - n) ks (Array.replicate ops.size false)

theorem mix_head {n g : Nat} {T : Act → World → Prop} (hsel : Region.noSelect ops = true) (hQ : ∀ d v c a w, Q (.panic c) (a.put d v) w → Q (.panic c) a w)
    (hs : Region.sinkB md ops n = true) (hc : Region.chainB md ops n = true) (hn : n < ops.size) :
    ∀ (ks : List (Bool × Nat)) (listed : Array Bool) (a : Act) (w : World), HeadInv md ops n listed → mixB md ops n g ks listed = true → S w →
      wpMixO P ops Q S T ks a w → wpAnyLH P md ops Q S n (fun listed' a' w' => Region.seqB md ops g n listed' = true ∧ T a' w') ks.length listed a w
  | [], listed, a, w, _, hB, _, h => ⟨hB, h⟩
  | (true, k) :: ks, listed, a, w, inv, hB, hS, h => by
    simp only [mixB, Bool.and_eq_true, decide_eq_true_eq, if_true] at hB
    obtain ⟨⟨hk, hr⟩, hB'⟩ := hB
    obtain ⟨o, hk0⟩ : ∃ o, ops[k]? = some o := ⟨ops[k]'(by omega), by simp [show k < ops.size by omega]⟩
    have h' := h o hk0
    rw [if_pos rfl] at h'
    refine ⟨by rw [hr]; simp, fun i hi => ?_⟩
    rw [hr] at hi
    have hik : i = k := by simpa using hi
    subst hik
    refine ⟨hk, ?_⟩
    refine wpOp_mono (fun a' w' h' => ⟨h'.1, mix_head hsel hQ hs hc hn ks _ a' w' (inv.set (by rw [hr]; simp) hk) hB' h'.1 h'.2⟩) (K := fun a' w' => S w' ∧ wpMixO P ops Q S T ks a' w') ?_
    unfold wpOp
    simp only [hk0]
    simp only [wpList] at h'
    split
    · rename_i hw
      rw [if_pos hw] at h'
      refine h'.imp (fun h => ?_) (fun h => ⟨h.1, ?_⟩)
      · unfold Oper.wp at *
        generalize (execOp a.eval o).run P w = r at *
        cases r with
        | ok n w' =>
          cases n <;> simp only [Oper.upon] at h ⊢ <;> first | exact h | refine Calls.mono h fun e w'' he => ?_
          all_goals
            cases e with
            | returned u => exact he
            | panicked c => exact he
            | outgrown => obtain ⟨x, y, hxy⟩ := he; exact ⟨x, y, hxy⟩
        | halt x w' => cases x <;> simp only [Oper.upon] at h ⊢ <;> first | exact h | skip
      · obtain ⟨x, y, hxy⟩ := h.2; exact ⟨x, y, hxy⟩
    · rename_i hw
      rw [if_neg hw] at h'
      exact h'
  | (false, k) :: ks, listed, a, w, inv, hB, hS, h => by
    simp only [mixB, Bool.and_eq_true, decide_eq_true_eq, if_false, Bool.false_eq_true] at hB
    obtain ⟨⟨hk, ⟨hr, hf⟩, hm⟩, hB'⟩ := hB
    obtain ⟨o, hk0⟩ : ∃ o, ops[k]? = some o := ⟨ops[k]'(by omega), by simp [show k < ops.size by omega]⟩
    simp only [hk0] at hm
    have h' := h o hk0
    rw [if_neg (by simp)] at h'
    have hr' : k ∈ Region.ready md ops listed := by simpa using hr
    have hst : qOp P ops S k (wpQuiet P ops S (fun a' => wpMixO P ops Q S T ks a' w) []) a := by unfold qOp; simp only [hk0]; exact h'
    obtain ⟨v, hy, hK⟩ := yieldsIn_of_qOp hk0 hst
    exact wpAnyLH_first hk0 (Region.noSelect_spec hsel) (hQ _ _) hs hc hn hk (fun listed' a' w' hL => seqB_ready hL.1) ks.length listed a w inv (Region.free_spec hk0 hf) hr' (mute_if hm hy) hS
      (mix_head hsel hQ hs hc hn ks _ _ w (inv.set hr' hk) hB' hS hK)

theorem wp_region_mixed_tail {id : Nat} {a : Act} {w : World} {l : List Oper} (n : Nat) (ks : List (Bool × Nat)) (S : World → Prop) (hm : P.follows .mixedOrders = true)
    (hB : (mixedB .any l.toArray n ks && decide (ks.length = n)) = true) (hQ : ∀ d v c a w, Q (.panic c) (a.put d v) w → Q (.panic c) a w)
    (hS : S { w with drawn := w.drawn + 1 })
    (h : wpMixO P l.toArray Q S (fun a'' w'' => wpList P l.toArray Q (l.drop n) a'' w'') ks a { w with drawn := w.drawn + 1 }) :
    (Code.region id l.toArray true).wp P Q a w := by
  simp only [mixedB, Bool.and_eq_true, decide_eq_true_eq] at hB
  obtain ⟨⟨⟨⟨⟨hsel, hn⟩, hs⟩, hc⟩, hlex⟩, hlen⟩ := hB
  have hdl : (l.drop n).length = l.toArray.size - n := by simp
  have inv0 : HeadInv .any l.toArray n (Array.replicate l.toArray.size false) :=
    ⟨by simp, fun j oj _ hl => (by rw [getD_replicate_false] at hl; cases hl), fun t _ ht => getD_in (by simpa using ht) (getD_replicate_false _ _)⟩
  have H := mix_head (md := .any) (g := l.toArray.size - n) (T := fun a'' w'' => wpList P l.toArray Q (l.drop n) a'' w'') hsel hQ hs hc hn ks _ a _ inv0 hlex hS h
  refine wp_region_any hm ?_
  have := wpAny_of_headH (g := l.toArray.size - n) (fun listed' a' w' hL => by
    have := wpAny_of_seq (md := .any) (l.drop n) n listed' a' w' (fun j => by simp [List.getElem?_drop]) (by rw [hdl]; exact hL.1) hL.2
    rwa [hdl] at this) _ _ _ _ H
  rw [hlen, show n + (l.toArray.size - n) = l.toArray.size by omega] at this
  exact this

def wpMix (P : Program) (l : List Oper) (Q : Exit → Act → World → Prop) (S : World → Prop) (n : Nat) (ks : List (Bool × Nat)) (a : Act) (w : World) : Prop :=
  wpMixO P l.toArray Q S (fun a'' w'' => wpList P l.toArray Q (l.drop n) a'' w'') ks a w
theorem mix_nil {l r : List Oper} {n : Nat} {a : Act} {w : World} (hr : l.drop n = r) (h : wpList P l.toArray Q r a w) : wpMix P l Q S n [] a w := by subst hr; exact h
theorem mix_loud {l : List Oper} {n k : Nat} {ks : List (Bool × Nat)} {o : Oper} {a : Act} {w : World} (ho : l[k]? = some o)
    (h : wpList P l.toArray (fun e a' w' => match e with | .normal => S w' ∧ wpMix P l Q S n ks a' w' | e => Q e a' w') [o] a w) : wpMix P l Q S n ((true, k) :: ks) a w := by
  intro o' ho'
  rw [if_pos rfl]
  have : o' = o := by rw [List.getElem?_toArray, ho] at ho'; exact (Option.some.inj ho').symm
  subst this
  exact h
theorem mix_quiet {l : List Oper} {n k : Nat} {ks : List (Bool × Nat)} {o : Oper} {a : Act} {w : World} (ho : l[k]? = some o)
    (h : wpQuiet P l.toArray S (fun a' => wpMix P l Q S n ks a' w) [o] a) : wpMix P l Q S n ((false, k) :: ks) a w := by
  intro o' ho'
  rw [if_neg (by simp)]
  have : o' = o := by rw [List.getElem?_toArray, ho] at ho'; exact (Option.some.inj ho').symm
  subst this
  exact h
theorem wp_region_gx_mix {id : Nat} {a : Act} {w : World} {l : List Oper} (row : Option Nat) (n : Nat) (ks : List (Bool × Nat)) (hm : P.follows .mixedOrders = true)
    (hB : (mixedB .any l.toArray n ks && decide (ks.length = n)) = true) (hQ : ∀ d v c a w, Q (.panic c) (a.put d v) w → Q (.panic c) a w)
    (h : wpMix P l Q (fun w' => ∃ x : Gx w row, w' = x.W) n ks a w.drew) : (Code.region id l.toArray true).wp P Q a w :=
  wp_region_mixed_tail n ks _ hm hB hQ ⟨⟨w.drew, ⟨rfl, rfl, rfl, Nat.le_refl _, fun _ _ _ => rfl⟩⟩, rfl⟩ h
theorem wp_region_ext_mix {id : Nat} {a : Act} {w : World} {l : List Oper} (n : Nat) (ks : List (Bool × Nat)) (hm : P.follows .mixedOrders = true)
    (hB : (mixedB .any l.toArray n ks && decide (ks.length = n)) = true) (hQ : ∀ d v c a w, Q (.panic c) (a.put d v) w → Q (.panic c) a w)
    (h : wpMix P l Q (fun w' => ∃ x : Ex w, w' = x.W) n ks a w.drew) : (Code.region id l.toArray true).wp P Q a w :=
  wp_region_mixed_tail n ks _ hm hB hQ ⟨⟨_, (Below.refl w.heap.size w).drew⟩, rfl⟩ h
theorem inEx {w w' : World} (h : Below w.heap.size w w') : ∃ x : Ex w, w' = x.W := ⟨⟨w', h⟩, rfl⟩
theorem inGx {w w' : World} {row : Option Nat} (h : w.grownBy w' row) : ∃ x : Gx w row, w' = x.W := ⟨⟨w', h⟩, rfl⟩
end
end

section
open Go.RowKit
theorem wpList_append_two {ops : Array Oper} {rest : List Oper} {o : Oper} {a : Act} {Q : Exit → Act → World → Prop} (w : World) (hgd : o.guard = none) (s x : Operand)
    (ho : o.op = .call { callee := .builtin .append, args := #[s, x], argTypes := #[28, 28] }) (base : Nat) (A : Option Addr) (n c : Nat) (xs : List Value) (hs : a.eval s = .slice A n c)
    (hown : w.ownsRow base 3 1 (.slice A n c) n xs) (ad : Addr) (m : Nat) (u : Value) (hx : a.eval x = .slice (some ad) 1 m) (hc : w.cell? ad = some u) (hu : u.oneCell' = true) (hn : n ≤ 1000000) (hbase : base ≤ w.heap.size)
    (hK : ∀ gg c' w', w'.ownsRow base 3 1 (.slice (some ⟨gg, 0, none⟩) (n + 1) c') (n + 1) (xs ++ [u]) → w.grownBy w' (Value.slice A n c).ownBlock → ((Value.slice A n c).ownBlock = some gg ∨ w.heap.size ≤ gg) →
      (∀ W : World, W.ownsRow base 3 1 (.slice (some ⟨gg, 0, none⟩) (n + 1) c') (n + 1) (xs ++ [u]) → (∀ b, (Value.slice A n c).ownBlock = some b → b ≠ gg → W.heap[b]? = w'.heap[b]?) → W.ownsRow base 3 1 (.slice A n c) n xs) →
      wpList Try.prog ops Q rest (a.put o.dst (.slice (some ⟨gg, 0, none⟩) (n + 1) c')) w') : wpList Try.prog ops Q (o :: rest) a w := by
  obtain ⟨i0, hi0, hz0, hz1, hz2⟩ := info_parts int_info
  have hcc : ∀ j v, [u][j]? = some v → w.cell? (ad.add j) = some v := by
    intro j v hj
    match j, hj with
    | 0, hj => simpa [Addr.add] using (show w.cell? ad = some v by rw [hc]; simpa using hj)
  have h1 : ∀ v ∈ [u], v.oneCell' = true := fun v hv => by rw [List.mem_singleton.1 hv]; exact hu
  rcases hown.2 with ⟨hv, h0⟩ | ⟨g, cap, cur, hv, hbg, hh, hnc, hcm, hcs, htk⟩
  · injection hv with e1 e2 e3
    subst e1 e3
    have hxs : xs = [] := List.eq_nil_of_length_eq_zero (by rw [hown.1, h0])
    subst hxs h0
    refine wpList_append_grows w hgd s x _ ho 3 i0 _ 1 8 Try.underlying28 hi0 hz0 hz1 hz2 rfl (by omega) none 0 0 [] hs (fun _ => ⟨rfl, rfl⟩) rfl (fun b hb => by cases hb) ad 1 m [u] hx rfl hcc h1 (by omega) (by unfold maxLen; omega) (by omega) ?_
    intro v' w' ho' hg'
    obtain ⟨gg, c', hv', hge, hlt⟩ := ho'.form (by omega)
    subst hv'
    refine hK gg c' w' (own_base ho' hbase) (hg') (.inr hge) (fun W _ _ => ⟨rfl, .inl ⟨rfl, rfl⟩⟩)
  · injection hv with e1 e2 e3
    subst e1 e3
    by_cases hroom : n + 1 ≤ c
    · refine wpList_append_fits w hgd s x _ ho base 3 i0 1 Try.underlying28 hi0 hz1 g n c xs hs hown ad 1 m [u] hx rfl hcc h1 hroom ?_
      intro w' ho' hg'
      refine hK g c w' ho' hg' (.inl rfl) (fun W hW _ => ⟨hown.1, .inr ?_⟩)
      rcases hW.2 with ⟨hv2, _⟩ | ⟨g2, cap2, cur2, hv2, q1, q2, q3, q4, q5, q6⟩
      · cases hv2
      · injection hv2 with f1 f2 f3
        injection f1 with f1
        injection f1 with f1
        subst f1 f3
        refine ⟨g, c, cur2, rfl, q1, q2, hnc, q4, q5, ?_⟩
        have : (cur2.toList.take ((n + 1) * 1)).take (n * 1) = (xs ++ [u]).take (n * 1) := by rw [q6]
        rw [List.take_take, show min (n * 1) ((n + 1) * 1) = n * 1 by omega] at this
        rw [this, List.take_append_of_le_length (by rw [hown.1]; exact Nat.le_refl _), List.take_of_length_le (by rw [hown.1]; exact Nat.le_refl _)]
    · refine wpList_append_grows w hgd s x _ ho 3 i0 _ 1 8 Try.underlying28 hi0 hz0 hz1 hz2 rfl (by omega) (some ⟨g, 0, none⟩) n c xs hs (fun h => by cases h) hown.1 (fun b hb => by cases hb; exact hown.cells (g := g) rfl) ad 1 m [u] hx rfl hcc h1 (by omega) (by unfold maxLen; omega) (by omega) ?_
      intro v' w' ho' hg'
      obtain ⟨gg, c', hv', hge, hlt⟩ := ho'.form (by omega)
      subst hv'
      have hgw : g < w.heap.size := (Array.getElem?_eq_some_iff.1 hh).1
      refine hK gg c' w' (own_base ho' hbase) (grown_some hg') (.inr hge) (fun W _ hW => ⟨hown.1, .inr ⟨g, c, cur, rfl, hbg, ?_, hnc, hcm, hcs, htk⟩⟩)
      rw [hW g rfl (by omega), hg'.block g hgw (by simp)]
      exact hh
end

section
open Go.RowKit
attribute [local go_sem] Ex.cell? Ex.frozen?
theorem Fr.andSet {R : Nat → Prop} {a w : World} (h : Fr R a w) {b i : Nat} {v : Value} (hb : R b) : Fr R a (w.setCell ⟨b, i, none⟩ v) := h.trans (Fr.set w b i v hb) (fun _ _ h => h)
end

section
open Go.RowKit
theorem EndsOf.uniq {Z : Int → Prop} {a b a' b' : Int} (h : EndsOf Z a b) (k : EndsOf Z a' b') : a = a' ∧ b = b' := by
  have h1 := h.2.2 _ k.1
  have h2 := h.2.2 _ k.2.1
  have h3 := k.2.2 _ h.1
  have h4 := k.2.2 _ h.2.1
  omega
end

section
open Go.RowKit
attribute [local go_sem] Ex.cell? Ex.frozen?
def intsB (l m : List Int) : Bool := decide (l = m)
end

section
open Go.RowKit
attribute [local go_sem] Ex.cell? Ex.frozen? Gx.cell?
theorem flat_get {α : Type} {f : α → List Value} {sz : Nat} (hf : ∀ a, (f a).length = sz) : ∀ {l : List α} {k j : Nat} (hk : k < l.length), j < sz → (l.flatMap f)[k * sz + j]? = (f l[k])[j]?
  | [], _, _, hk, _ => by simp at hk
  | a :: l, 0, j, _, hj => by
    rw [List.flatMap_cons, List.getElem?_append_left (by rw [hf]; omega)]
    simp
  | a :: l, k + 1, j, hk, hj => by
    rw [List.flatMap_cons, List.getElem?_append_right (by rw [hf, Nat.add_mul]; omega), hf, show (k + 1) * sz + j - sz = k * sz + j by rw [Nat.add_mul]; omega]
    have := flat_get hf (l := l) (k := k) (j := j) (by simpa using hk) hj
    simpa using this
theorem flat_len {α : Type} {f : α → List Value} {sz : Nat} (hf : ∀ a, (f a).length = sz) : ∀ (l : List α), (l.flatMap f).length = l.length * sz
  | [] => by simp
  | a :: l => by rw [List.flatMap_cons, List.length_append, hf, flat_len hf l, List.length_cons, Nat.add_mul]; omega
def cR (r : Rg) : List Value := [.int .i64 r.lo, .int .i64 r.hi]
end

section
open Go.RowKit
section
variable {P : Program} {ops : Array Oper} {md : Region.Mode} {S : World → Prop} {Q : Exit → Act → World → Prop}
def wpOne (P : Program) (ops : Array Oper) (Q : Exit → Act → World → Prop) (k : Nat) (K : Act → World → Prop) (a : Act) (w : World) : Prop :=
  ∀ o, ops[k]? = some o → wpList P ops (fun e a' w' => match e with | .normal => K a' w' | e => Q e a' w') [o] a w
theorem wpOp_one {k n : Nat} {K : Act → World → Prop} {a : Act} {w : World} (hn : n < ops.size) (hk : k < n) (h : wpOne P ops Q k K a w) : wpOp P ops Q k K a w := by
  obtain ⟨o, hk0⟩ : ∃ o, ops[k]? = some o := ⟨ops[k]'(by omega), by simp [show k < ops.size by omega]⟩
  have h' := h o hk0
  unfold wpOp
  simp only [hk0]
  simp only [wpList] at h'
  split
  · rename_i hw
    rw [if_pos hw] at h'
    refine h'.imp (fun h => ?_) (fun h => ⟨h.1, ?_⟩)
    · unfold Oper.wp at *
      generalize (execOp a.eval o).run P w = r at *
      cases r with
      | ok n w' =>
        cases n <;> simp only [Oper.upon] at h ⊢ <;> first | exact h | refine Calls.mono h fun e w'' he => ?_
        all_goals
          cases e with
          | returned u => exact he
          | panicked c => exact he
          | outgrown => obtain ⟨x, y, hxy⟩ := he; exact ⟨x, y, hxy⟩
      | halt x w' => cases x <;> simp only [Oper.upon] at h ⊢ <;> first | exact h | skip
    · obtain ⟨x, y, hxy⟩ := h.2; exact ⟨x, y, hxy⟩
  · rename_i hw
    rw [if_neg hw] at h'
    exact h'

def wpFork (P : Program) (ops : Array Oper) (Q : Exit → Act → World → Prop) (S : World → Prop) (T : Act → World → Prop) (i j : Nat) (kA kB : List (Bool × Nat)) : List (Bool × Nat) → Act → World → Prop
  | [], a, w => wpOne P ops Q i (fun a' w' => S w' ∧ wpMixO P ops Q S T kA a' w') a w ∧ wpOne P ops Q j (fun a' w' => S w' ∧ wpMixO P ops Q S T kB a' w') a w
  | (loud, k) :: ks, a, w => if loud = true then wpOne P ops Q k (fun a' w' => S w' ∧ wpFork P ops Q S T i j kA kB ks a' w') a w else ∀ o, ops[k]? = some o → wpQuiet P ops S (fun a' => wpFork P ops Q S T i j kA kB ks a' w) [o] a

def forkB (md : Region.Mode) (ops : Array Oper) (n g i j : Nat) (kA kB : List (Bool × Nat)) : List (Bool × Nat) → Array Bool → Bool
  | [], listed => decide (Region.ready md ops listed = [i, j]) && decide (i < n) && decide (j < n) && decide (kA.length = kB.length) && mixB md ops n g kA (listed.setIfInBounds i true) && mixB md ops n g kB (listed.setIfInBounds j true)
  | (loud, k) :: ks, listed =>
    decide (k < n) && (if loud = true then decide (Region.ready md ops listed = [k]) else (Region.ready md ops listed).contains k && Region.free md ops listed k && (match ops[k]? with | some o => mute o.op | none => false)) && forkB md ops n g i j kA kB ks (listed.setIfInBounds k true)

def forkedB (md : Region.Mode) (ops : Array Oper) (n i j : Nat) (kA kB ks : List (Bool × Nat)) : Bool :=
  Region.noSelect ops && decide (n < ops.size) && Region.sinkB md ops n && Region.chainB md ops n && forkB md ops n (ops.size - n) i j kA kB ks (Array.replicate ops.size false)

def wpFk (P : Program) (l : List Oper) (Q : Exit → Act → World → Prop) (S : World → Prop) (n i j : Nat) (kA kB ks : List (Bool × Nat)) (a : Act) (w : World) : Prop :=
  wpFork P l.toArray Q S (fun a'' w'' => wpList P l.toArray Q (l.drop n) a'' w'') i j kA kB ks a w
end
end

section
open Go.RowKit
section
variable {P : Program} {ops : Array Oper} {Q : Exit → Act → World → Prop} {md : Region.Mode} {l0 n : Nat}
theorem uponIn_of_upon {o : Oper} {a : Act} {next : Act → World → Prop} {r : Result Next} (h : o.upon P a next Q r) : o.uponIn (Fence.wide.inRound l0) n P a next Q r := by
  cases r with
  | ok x w' =>
    cases x <;> simp only [Oper.upon, Oper.uponIn] at h ⊢ <;> first | exact h | exact h.elim | skip
    · exact ⟨fun h => by simp [Fence.wide] at h, CallsIn.inRound l0 (callsIn_wide.2 h)⟩
    · refine ⟨fun h => by simp [Fence.wide] at h, fun c cs _ => ?_⟩
      obtain ⟨v, w'', r, s⟩ := h c cs
      exact ⟨v, w'', r, stepsIn_wide.2 s⟩
  | halt x w' => cases x <;> simp only [Oper.upon, Oper.uponIn] at h ⊢ <;> exact h
theorem wpAnyIn_of_wpAny (hout : ¬ LetsOut Q) (hnd : ∀ (j : Nat) (o : Oper) c, ops[j]? = some o → o.op ≠ .defer c) : ∀ (fuel : Nat) (listed : Array Bool) (a : Act) (w : World),
    wpAny P md ops Q fuel listed a w → wpAnyIn (Fence.wide.inRound l0) n P md ops Q fuel listed a w
  | 0, _, _, _, h => h
  | fuel + 1, listed, a, w, h => by
    refine ⟨h.1, fun i hi => ?_⟩
    have h2 := h.2 i hi
    unfold wpOp at h2
    unfold wpOpIn
    cases ho : ops[i]? with
    | none =>
      simp only [ho] at h2 ⊢
      exact wpAnyIn_of_wpAny hout hnd fuel _ a w h2
    | some o =>
      simp only [ho] at h2 ⊢
      by_cases hw : Region.wanted o (yielded ops a.tmps) = true
      · simp only [hw, if_true] at h2 ⊢
        rcases h2 with h2 | h2
        · refine Oper.wpIn_mono (fun a w h => wpAnyIn_of_wpAny hout hnd fuel _ a w h) ⟨fun f _ => trivial, ?_⟩
          rw [show (Fence.wide.inRound l0).round = some l0 from rfl, Oper.semAt_some l0 _ _ (fun c => hnd i o c ho)]
          exact uponIn_of_upon h2
        · exact absurd h2.2 hout
      · simp only [hw] at h2 ⊢
        exact ⟨fun f _ => trivial, wpAnyIn_of_wpAny hout hnd fuel _ _ w h2⟩
end
def noDefer (l : List Oper) : Bool := l.all fun o => match o.op with | .defer _ => false | _ => true
theorem noDefer_spec {l : List Oper} (h : noDefer l = true) : ∀ (j : Nat) (o : Oper) c, l.toArray[j]? = some o → o.op ≠ .defer c := by
  intro j o c hj he
  have hm : o ∈ l := by
    rw [List.getElem?_toArray] at hj
    exact List.mem_of_getElem? hj
  have := List.all_eq_true.1 h o hm
  rw [he] at this
  cases this
end
end Go.Proofs.Ythihdiilokdidaa
end

section
namespace Go.Proofs.Ythihdiilokdidaa
section
open Go.RowKit
attribute [local go_sem] Ex.cell? Ex.frozen? Gx.cell?
end

section
open Go.RowKit
attribute [local go_sem] Ex.cell? Ex.frozen? Gx.cell?
end

section
open Go.RowKit Go.ChangeShapes Go.WideShapes Go.Deep
section
variable {H : Type} {enc : TypeId × Value → H} {w : World} {base : Nat} {spare : Nat → Bool} {held : Bool}
end
section
variable {H : Type} {enc : TypeId × Value → H} {w : World} {base : Nat} {spare : Nat → Bool} {held : Bool} {r : Reach} {b0 : Nat}
end
theorem laidOut : laidOutB Try.prog = true := by kernel_rfl
def AllRd : List TypeId → Prop
  | [] => True
  | t :: ts => (Try.prog.readableRec t = true ∧ t < Try.prog.types.size) ∧ AllRd ts
theorem trodAll_stays {H : Type} {enc : TypeId × Value → H} {W W' : World} {sp : Nat → Bool} (hb : Below W.heap.size W W') : ∀ {ts : List TypeId} {vs : List Value} {ds : List (DataW H)} {ps : List MemPlace},
    AllRd ts → DataW.TrodAll enc Try.prog W 0 (fun _ => true) true ts vs ds ps → (∀ p ∈ ps, sp p.block = true) → (∀ p ∈ ps, p.block < W.heap.size) → DataW.TrodAll enc Try.prog W' 0 sp true ts vs ds ps
  | [], vs, ds, ps, _, h, _, _ => by
    obtain ⟨rfl, rfl, rfl⟩ := trodAll_nil h
    exact trodAll_mk0
  | t :: ts, vs, ds, ps, ht, h, hs, hlt => by
    obtain ⟨v, vs', d, ds', p, q, rfl, rfl, rfl, h1, h2⟩ := trodAll_cons h
    exact trodAll_cons_mk (WideElems.Trod_stays laidOut ht.1.1 ht.1.2 h1 (fun x hx => hb.same (hlt x (List.mem_append.2 (.inl hx)))) (fun x hx => hs x (List.mem_append.2 (.inl hx)))) (trodAll_stays hb ht.2 h2 (fun x hx => hs x (List.mem_append.2 (.inr hx))) (fun x hx => hlt x (List.mem_append.2 (.inr hx))))

theorem own : ownKnob Try.prog.godebug = none := by kernel_rfl
end

section
open Go.RowKit Go.ChangeShapes Go.WideShapes Go.ChangeAt
section
variable {H : Type} {enc : TypeId × Value → H}
theorem post_law {f : Func} {s : ChangeSpec} {W W' : World} {args : Array Value} {ds : List (DataW H)} {before : List MemPlace} (hvars : s.vars = [])
    (hW : DataW.Whole enc Try.prog f.params.toList s.vars false W args.toList ds [] before) (hrt : f.resultTypes = #[4]) (hfn : s.fn H (ds ++ []) = { results := [.lit (.bool true)], args := ds }) (hrd : AllRd f.params.toList) (hb : Below W.heap.size W W') :
    s.post enc Try.prog f false true false false W args (.bool true) W' := by
  have hlt : ∀ p ∈ before, p.block < W.heap.size := fun p hp => hW.lt p hp
  have hold : ∀ p ∈ before, (fun b => decide (b < W.heap.size)) p.block = true := fun p hp => by simpa using hlt p hp
  have hW2 := hW
  obtain ⟨pa, pv, hA, hV, hps, hz, hn⟩ := hW2
  rw [hvars] at hV
  obtain ⟨_, rfl⟩ := trodVars_none hV
  rw [List.append_nil] at hps
  subst hps
  have hargs : ∀ sp : Nat → Bool, (∀ p ∈ before, sp p.block = true) → DataW.TrodAll enc Try.prog W' 0 sp true f.params.toList args.toList (s.fn H (ds ++ [])).args before := fun sp hsp => by
    rw [hfn]; exact trodAll_stays hb hrd hA hsp hlt
  have hres : ∀ (b : Nat) (sp : Nat → Bool) (hd : Bool), DataW.TrodAll enc Try.prog W' b sp hd f.resultTypes.toList ((Value.bool true).resultList f.resultTypes.size) (s.fn H (ds ++ [])).results [] := fun b sp hd => by
    rw [hfn, hrt]; exact trodAll_cons_mk (shut_bool Try.underlying4 _) trodAll_mk0
  have hvrs : ∀ sp : Nat → Bool, DataW.TrodVars enc Try.prog W' sp s.vars (s.fn H (ds ++ [])).vars [] := fun sp => by rw [hvars, hfn]; exact rfl
  refine ⟨ds, [], before, [], before, [], hW, hres _ _ _, hargs _ hold, hvrs _, World.keptBut_mono (fun p hp => ⟨hp, ?_⟩) (hb.frame (· ∈ before)), fun h => by cases h⟩
  exact Or.inr (by simpa using hp)
end
end

section
open Go.RowKit
attribute [local go_sem] Ex.cell? Ex.frozen? Gx.cell?
end

section
open Go.RowKit
attribute [local go_sem] Ex.cell? Ex.frozen? Gx.cell?
def fU (l : List Int) (k _j : Nat) : Value := .int .u16 (gI l k)
theorem IsWords.at_ {w : World} {B : Nat} {A : Option Addr} {l : List Int} (h : SlAt w B 1 A l.length (fU l)) {k : Nat} (hk : k < l.length) : ∃ b off, A = some ⟨b, off, none⟩ ∧ b < B ∧ w.cell? ⟨b, off + k, none⟩ = some (.int .u16 (gI l k)) := by
  obtain ⟨b, off, rfl, hb, hc⟩ := h (by omega)
  have := hc k 0 hk (by omega)
  exact ⟨b, off, rfl, hb, by simpa [fU] using this⟩
end

section
open Go.RowKit
attribute [local go_sem] Ex.cell? Ex.frozen? Gx.cell?
end

section
open Go.RowKit Go.ChangeShapes Go.WideShapes Go.ChangeAt
abbrev Wd := {n : Int // 0 ≤ n ∧ n ≤ 65535}
instance : Inhabited Wd := ⟨⟨0, by omega⟩⟩

section
variable {H : Type} {enc : TypeId × Value → H} {w : World} {base : Nat} {spare : Nat → Bool} {held : Bool} {r : Reach} {b0 : Nat}
end
end

section
open Go.RowKit
section
variable {P : Program}
end
end

section
open Go.RowKit
structure Paused (p : Prop) : Prop where
  out : p
theorem pause_at {P : Program} {rest : List Oper} {A : Array Oper} {o : Oper} {a : Act} {w : World} {Q : Exit → Act → World → Prop} (d : Nat) (hd : o.dst = some d) (h : Paused (wpList P A Q (o :: rest) a w)) : wpList P A Q (o :: rest) a w := h.out

theorem own_set {w : World} {base : Nat} {e : TypeId} {sz n : Nat} {v : Value} {xs : List Value} (h : w.ownsRow base e sz v n xs) {g : Nat} (hg : v.ownBlock = some g) {j : Nat} (hj : j < xs.length) (u : Value) : (w.setCell ⟨g, j, none⟩ u).ownsRow base e sz v n (xs.set j u) := by
  rcases h.2 with ⟨rfl, _⟩ | ⟨g', cap, cur, rfl, hb, hh, hnc, hcm, hsz, hc⟩
  · simp [Value.ownBlock] at hg
  · have : g' = g := by simpa [Value.ownBlock] using hg
    subst this
    refine ⟨by rw [List.length_set]; exact h.1, .inr ⟨g', cap, cur.setIfInBounds j u, rfl, hb, ?_, hnc, hcm, by simpa using hsz, ?_⟩⟩
    · simp [World.setCell, Array.getElem?_modify, hh]
    · rw [Array.toList_setIfInBounds, List.take_set, hc]
theorem own_cell {w : World} {base : Nat} {e : TypeId} {sz n : Nat} {v : Value} {xs : List Value} (h : w.ownsRow base e sz v n xs) (hn : 0 < n) :
    ∃ g cap, v = .slice (some ⟨g, 0, none⟩) n cap ∧ base ≤ g ∧ g < w.heap.size ∧ n ≤ cap ∧ cap ≤ maxLen ∧ (∀ i, i < xs.length → w.cell? ⟨g, i, none⟩ = xs[i]?) ∧ ∀ i, w.frozen? ⟨g, i, none⟩ = false := by
  rcases h.2 with ⟨_, h0⟩ | ⟨g, cap, cur, rfl, hb, hh, hnc, hcm, hsz, hc⟩
  · omega
  · refine ⟨g, cap, rfl, hb, (Array.getElem?_eq_some_iff.1 hh).1, hnc, hcm, fun i hi => ?_, fun i => by simp [World.frozen?, hh]⟩
    rw [cell_of_row w g i cur e (0, 0) hh, ← hc, List.getElem?_take, if_pos (by rw [← h.1]; exact hi), Array.getElem?_toList]
theorem flat_set {α : Type} {f : α → List Value} {sz : Nat} (hf : ∀ a, (f a).length = sz) : ∀ {l : List α} {k : Nat} (hk : k < l.length) {j : Nat}, j < sz → ∀ {u : Value} {a : α}, (f l[k]).set j u = f a → (l.flatMap f).set (k * sz + j) u = (l.set k a).flatMap f
  | x :: l, 0, _, j, hj, u, a, h => by
    rw [List.flatMap_cons, List.set_cons_zero, List.flatMap_cons, Nat.zero_mul, Nat.zero_add, List.set_append, if_pos (by rw [hf]; exact hj)]
    rw [show (f x).set j u = f a from h]
  | x :: l, k + 1, hk, j, hj, u, a, h => by
    rw [List.flatMap_cons, List.set_cons_succ, List.flatMap_cons, List.set_append, if_neg (by rw [hf, Nat.add_mul]; omega), hf, show (k + 1) * sz + j - sz = k * sz + j by rw [Nat.add_mul]; omega]
    rw [flat_set hf (l := l) (k := k) (by simpa using hk) hj h]
end

section
open Go.RowKit
inductive Tr where
  | done : Tr
  | quiet : Nat → Tr → Tr
  | loud : Nat → Tr → Tr
  | fork : Nat → Tr → Nat → Tr → Tr
def Tr.len : Tr → Nat
  | .done => 0
  | .quiet _ t => t.len + 1
  | .loud _ t => t.len + 1
  | .fork _ t _ _ => t.len + 1
section
variable {P : Program} {ops : Array Oper} {md : Region.Mode} {S : World → Prop} {Q : Exit → Act → World → Prop}
def wpTr (P : Program) (ops : Array Oper) (Q : Exit → Act → World → Prop) (S : World → Prop) (T : Act → World → Prop) : Tr → Act → World → Prop
  | .done, a, w => T a w
  | .quiet k t, a, w => ∀ o, ops[k]? = some o → wpQuiet P ops S (fun a' => wpTr P ops Q S T t a' w) [o] a
  | .loud k t, a, w => wpOne P ops Q k (fun a' w' => S w' ∧ wpTr P ops Q S T t a' w') a w
  | .fork i t j u, a, w => wpOne P ops Q i (fun a' w' => S w' ∧ wpTr P ops Q S T t a' w') a w ∧ wpOne P ops Q j (fun a' w' => S w' ∧ wpTr P ops Q S T u a' w') a w

def trB (md : Region.Mode) (ops : Array Oper) (n g : Nat) : Tr → Array Bool → Bool
  | .done, listed => Region.seqB md ops g n listed
  | .quiet k t, listed => decide (k < n) && ((Region.ready md ops listed).contains k && Region.free md ops listed k && (match ops[k]? with | some o => mute o.op | none => false)) && trB md ops n g t (listed.setIfInBounds k true)
  | .loud k t, listed => decide (k < n) && decide (Region.ready md ops listed = [k]) && trB md ops n g t (listed.setIfInBounds k true)
  | .fork i t j u, listed => decide (Region.ready md ops listed = [i, j]) && decide (i < n) && decide (j < n) && decide (t.len = u.len) && trB md ops n g t (listed.setIfInBounds i true) && trB md ops n g u (listed.setIfInBounds j true)

def treeB (md : Region.Mode) (ops : Array Oper) (n : Nat) (t : Tr) : Bool :=
  Region.noSelect ops && decide (n < ops.size) && Region.sinkB md ops n && Region.chainB md ops n && trB md ops n (ops.size - n) t (Array.replicate ops.size false)

def wpTree (P : Program) (l : List Oper) (Q : Exit → Act → World → Prop) (S : World → Prop) (n : Nat) (t : Tr) (a : Act) (w : World) : Prop :=
  wpTr P l.toArray Q S (fun a'' w'' => wpList P l.toArray Q (l.drop n) a'' w'') t a w
end
end

section
open Go.RowKit
inductive Tq where
  | done : Tq
  | quiet : Nat → Tq → Tq
  | loud : Nat → Tq → Tq
  | fork : Nat → Tq → Nat → Tq → Tq
  | fork3 : Nat → Tq → Nat → Tq → Nat → Tq → Tq
def Tq.len : Tq → Nat
  | .done => 0
  | .quiet _ t => t.len + 1
  | .loud _ t => t.len + 1
  | .fork _ t _ _ => t.len + 1
  | .fork3 _ t _ _ _ _ => t.len + 1
section
variable {P : Program} {ops : Array Oper} {md : Region.Mode} {S : World → Prop} {Q : Exit → Act → World → Prop}
def wqTr (P : Program) (ops : Array Oper) (Q : Exit → Act → World → Prop) (S : World → Prop) (T : Act → World → Prop) : Tq → Act → World → Prop
  | .done, a, w => T a w
  | .quiet k t, a, w => ∀ o, ops[k]? = some o → wpQuiet P ops S (fun a' => wqTr P ops Q S T t a' w) [o] a
  | .loud k t, a, w => wpOne P ops Q k (fun a' w' => S w' ∧ wqTr P ops Q S T t a' w') a w
  | .fork i t j u, a, w => wpOne P ops Q i (fun a' w' => S w' ∧ wqTr P ops Q S T t a' w') a w ∧ wpOne P ops Q j (fun a' w' => S w' ∧ wqTr P ops Q S T u a' w') a w
  | .fork3 i t j u k v, a, w => wpOne P ops Q i (fun a' w' => S w' ∧ wqTr P ops Q S T t a' w') a w ∧ wpOne P ops Q j (fun a' w' => S w' ∧ wqTr P ops Q S T u a' w') a w ∧ wpOne P ops Q k (fun a' w' => S w' ∧ wqTr P ops Q S T v a' w') a w

def tqB (md : Region.Mode) (ops : Array Oper) (n g : Nat) : Tq → Array Bool → Bool
  | .done, listed => Region.seqB md ops g n listed
  | .quiet k t, listed => decide (k < n) && ((Region.ready md ops listed).contains k && Region.free md ops listed k && (match ops[k]? with | some o => mute o.op | none => false)) && tqB md ops n g t (listed.setIfInBounds k true)
  | .loud k t, listed => decide (k < n) && decide (Region.ready md ops listed = [k]) && tqB md ops n g t (listed.setIfInBounds k true)
  | .fork i t j u, listed => decide (Region.ready md ops listed = [i, j]) && decide (i < n) && decide (j < n) && decide (t.len = u.len) && tqB md ops n g t (listed.setIfInBounds i true) && tqB md ops n g u (listed.setIfInBounds j true)
  | .fork3 i t j u k v, listed => decide (Region.ready md ops listed = [i, j, k]) && decide (i < n) && decide (j < n) && decide (k < n) && decide (t.len = u.len) && decide (t.len = v.len) && tqB md ops n g t (listed.setIfInBounds i true) && tqB md ops n g u (listed.setIfInBounds j true) && tqB md ops n g v (listed.setIfInBounds k true)

def tqeB (md : Region.Mode) (ops : Array Oper) (n : Nat) (t : Tq) : Bool :=
  Region.noSelect ops && decide (n < ops.size) && Region.sinkB md ops n && Region.chainB md ops n && tqB md ops n (ops.size - n) t (Array.replicate ops.size false)

theorem tq_head {n g : Nat} {T : Act → World → Prop} (hsel : Region.noSelect ops = true) (hQ : ∀ d v c a w, Q (.panic c) (a.put d v) w → Q (.panic c) a w)
    (hs : Region.sinkB md ops n = true) (hc : Region.chainB md ops n = true) (hn : n < ops.size) :
    ∀ (t : Tq) (listed : Array Bool) (a : Act) (w : World), HeadInv md ops n listed → tqB md ops n g t listed = true → S w →
      wqTr P ops Q S T t a w → wpAnyLH P md ops Q S n (fun listed' a' w' => Region.seqB md ops g n listed' = true ∧ T a' w') t.len listed a w
  | .done, listed, a, w, _, hB, _, h => ⟨hB, h⟩
  | .fork i t j u, listed, a, w, inv, hB, hS, h => by
    simp only [tqB, Bool.and_eq_true, decide_eq_true_eq] at hB
    obtain ⟨⟨⟨⟨⟨hr, hi⟩, hj⟩, hl⟩, hA⟩, hBB⟩ := hB
    refine ⟨by rw [hr]; simp, fun k hk => ?_⟩
    rw [hr] at hk
    rcases List.mem_cons.1 hk with rfl | hk
    · exact ⟨hi, wpOp_mono (fun a' w' h' => ⟨h'.1, tq_head hsel hQ hs hc hn t _ a' w' (inv.set (by rw [hr]; simp) hi) hA h'.1 h'.2⟩) (wpOp_one hn hi h.1)⟩
    · obtain rfl := List.mem_singleton.1 hk
      refine ⟨hj, wpOp_mono (fun a' w' h' => ⟨h'.1, ?_⟩) (wpOp_one hn hj h.2)⟩
      rw [hl]
      exact tq_head hsel hQ hs hc hn u _ a' w' (inv.set (by rw [hr]; simp) hj) hBB h'.1 h'.2
  | .fork3 i t j u l v, listed, a, w, inv, hB, hS, h => by
    simp only [tqB, Bool.and_eq_true, decide_eq_true_eq] at hB
    obtain ⟨⟨⟨⟨⟨⟨⟨⟨hr, hi⟩, hj⟩, hl⟩, hl1⟩, hl2⟩, hA⟩, hBB⟩, hC⟩ := hB
    refine ⟨by rw [hr]; simp, fun k hk => ?_⟩
    rw [hr] at hk
    rcases List.mem_cons.1 hk with rfl | hk
    · exact ⟨hi, wpOp_mono (fun a' w' h' => ⟨h'.1, tq_head hsel hQ hs hc hn t _ a' w' (inv.set (by rw [hr]; simp) hi) hA h'.1 h'.2⟩) (wpOp_one hn hi h.1)⟩
    · rcases List.mem_cons.1 hk with rfl | hk
      · refine ⟨hj, wpOp_mono (fun a' w' h' => ⟨h'.1, ?_⟩) (wpOp_one hn hj h.2.1)⟩
        show wpAnyLH P md ops Q S n _ t.len _ _ _
        rw [hl1]
        exact tq_head hsel hQ hs hc hn u _ a' w' (inv.set (by rw [hr]; simp) hj) hBB h'.1 h'.2
      · obtain rfl := List.mem_singleton.1 hk
        refine ⟨hl, wpOp_mono (fun a' w' h' => ⟨h'.1, ?_⟩) (wpOp_one hn hl h.2.2)⟩
        show wpAnyLH P md ops Q S n _ t.len _ _ _
        rw [hl2]
        exact tq_head hsel hQ hs hc hn v _ a' w' (inv.set (by rw [hr]; simp) hl) hC h'.1 h'.2
  | .loud k t, listed, a, w, inv, hB, hS, h => by
    simp only [tqB, Bool.and_eq_true, decide_eq_true_eq] at hB
    obtain ⟨⟨hk, hr⟩, hB'⟩ := hB
    have h' : wpOne P ops Q k (fun a' w' => S w' ∧ wqTr P ops Q S T t a' w') a w := h
    refine ⟨by rw [hr]; simp, fun x hx => ?_⟩
    rw [hr] at hx
    have hik : x = k := by simpa using hx
    subst hik
    exact ⟨hk, wpOp_mono (fun a' w' h' => ⟨h'.1, tq_head hsel hQ hs hc hn t _ a' w' (inv.set (by rw [hr]; simp) hk) hB' h'.1 h'.2⟩) (wpOp_one hn hk h')⟩
  | .quiet k t, listed, a, w, inv, hB, hS, h => by
    simp only [tqB, Bool.and_eq_true, decide_eq_true_eq] at hB
    obtain ⟨⟨hk, ⟨hr, hf⟩, hm⟩, hB'⟩ := hB
    obtain ⟨o, hk0⟩ : ∃ o, ops[k]? = some o := ⟨ops[k]'(by omega), by simp [show k < ops.size by omega]⟩
    simp only [hk0] at hm
    have h' : wpQuiet P ops S (fun a' => wqTr P ops Q S T t a' w) [o] a := h o hk0
    have hr' : k ∈ Region.ready md ops listed := by simpa using hr
    have hst : qOp P ops S k (wpQuiet P ops S (fun a' => wqTr P ops Q S T t a' w) []) a := by unfold qOp; simp only [hk0]; exact h'
    obtain ⟨v, hy, hK⟩ := yieldsIn_of_qOp hk0 hst
    exact wpAnyLH_first hk0 (Region.noSelect_spec hsel) (hQ _ _) hs hc hn hk (fun listed' a' w' hL => seqB_ready hL.1) t.len listed a w inv (Region.free_spec hk0 hf) hr' (mute_if hm hy) hS
      (tq_head hsel hQ hs hc hn t _ _ w (inv.set hr' hk) hB' hS hK)

def wqTree (P : Program) (l : List Oper) (Q : Exit → Act → World → Prop) (S : World → Prop) (n : Nat) (t : Tq) (a : Act) (w : World) : Prop :=
  wqTr P l.toArray Q S (fun a'' w'' => wpList P l.toArray Q (l.drop n) a'' w'') t a w
theorem tq_done {l r : List Oper} {n : Nat} {a : Act} {w : World} (hr : l.drop n = r) (h : wpList P l.toArray Q r a w) : wqTree P l Q S n .done a w := by subst hr; exact h
theorem tq_loud {l : List Oper} {n k : Nat} {t : Tq} {o : Oper} {a : Act} {w : World} (ho : l[k]? = some o)
    (h : wpList P l.toArray (fun e a' w' => match e with | .normal => S w' ∧ wqTree P l Q S n t a' w' | e => Q e a' w') [o] a w) : wqTree P l Q S n (.loud k t) a w := by
  show wpOne P l.toArray Q k _ a w
  intro o' ho'
  have : o' = o := by rw [List.getElem?_toArray, ho] at ho'; exact (Option.some.inj ho').symm
  subst this
  exact h
theorem tq_quiet {l : List Oper} {n k : Nat} {t : Tq} {o : Oper} {a : Act} {w : World} (ho : l[k]? = some o)
    (h : wpQuiet P l.toArray S (fun a' => wqTree P l Q S n t a' w) [o] a) : wqTree P l Q S n (.quiet k t) a w := by
  intro o' ho'
  have : o' = o := by rw [List.getElem?_toArray, ho] at ho'; exact (Option.some.inj ho').symm
  subst this
  exact h
theorem tq_fork {l : List Oper} {n i j : Nat} {t u : Tq} {oi oj : Oper} {a : Act} {w : World} (hi : l[i]? = some oi) (hj : l[j]? = some oj)
    (h1 : wpList P l.toArray (fun e a' w' => match e with | .normal => S w' ∧ wqTree P l Q S n t a' w' | e => Q e a' w') [oi] a w)
    (h2 : wpList P l.toArray (fun e a' w' => match e with | .normal => S w' ∧ wqTree P l Q S n u a' w' | e => Q e a' w') [oj] a w) : wqTree P l Q S n (.fork i t j u) a w := by
  refine ⟨fun o' ho' => ?_, fun o' ho' => ?_⟩
  · have : o' = oi := by rw [List.getElem?_toArray, hi] at ho'; exact (Option.some.inj ho').symm
    subst this
    exact h1
  · have : o' = oj := by rw [List.getElem?_toArray, hj] at ho'; exact (Option.some.inj ho').symm
    subst this
    exact h2
theorem tq_fork3 {l : List Oper} {n i j k : Nat} {t u v : Tq} {oi oj ok : Oper} {a : Act} {w : World} (hi : l[i]? = some oi) (hj : l[j]? = some oj) (hk : l[k]? = some ok)
    (h1 : wpList P l.toArray (fun e a' w' => match e with | .normal => S w' ∧ wqTree P l Q S n t a' w' | e => Q e a' w') [oi] a w)
    (h2 : wpList P l.toArray (fun e a' w' => match e with | .normal => S w' ∧ wqTree P l Q S n u a' w' | e => Q e a' w') [oj] a w)
    (h3 : wpList P l.toArray (fun e a' w' => match e with | .normal => S w' ∧ wqTree P l Q S n v a' w' | e => Q e a' w') [ok] a w) : wqTree P l Q S n (.fork3 i t j u k v) a w := by
  refine ⟨fun o' ho' => ?_, fun o' ho' => ?_, fun o' ho' => ?_⟩
  · have : o' = oi := by rw [List.getElem?_toArray, hi] at ho'; exact (Option.some.inj ho').symm
    subst this
    exact h1
  · have : o' = oj := by rw [List.getElem?_toArray, hj] at ho'; exact (Option.some.inj ho').symm
    subst this
    exact h2
  · have : o' = ok := by rw [List.getElem?_toArray, hk] at ho'; exact (Option.some.inj ho').symm
    subst this
    exact h3
theorem wp_region_tq {id : Nat} {a : Act} {w : World} {l : List Oper} (n : Nat) (t : Tq) (S : World → Prop) (hm : P.follows .mixedOrders = true)
    (hB : (tqeB .any l.toArray n t && decide (t.len = n)) = true) (hQ : ∀ d v c a w, Q (.panic c) (a.put d v) w → Q (.panic c) a w)
    (hS : S w.drew) (h : wqTree P l Q S n t a w.drew) : (Code.region id l.toArray true).wp P Q a w := by
  simp only [tqeB, Bool.and_eq_true, decide_eq_true_eq] at hB
  obtain ⟨⟨⟨⟨⟨hsel, hn⟩, hs⟩, hc⟩, hlex⟩, hlen⟩ := hB
  have hdl : (l.drop n).length = l.toArray.size - n := by simp
  have inv0 : HeadInv .any l.toArray n (Array.replicate l.toArray.size false) :=
    ⟨by simp, fun j oj _ hl => (by rw [getD_replicate_false] at hl; cases hl), fun t _ ht => getD_in (by simpa using ht) (getD_replicate_false _ _)⟩
  have H := tq_head (md := .any) (g := l.toArray.size - n) (T := fun a'' w'' => wpList P l.toArray Q (l.drop n) a'' w'') hsel hQ hs hc hn t _ a _ inv0 hlex hS h
  refine wp_region_any hm ?_
  have := wpAny_of_headH (g := l.toArray.size - n) (fun listed' a' w' hL => by
    have := wpAny_of_seq (md := .any) (l.drop n) n listed' a' w' (fun j => by simp [List.getElem?_drop]) (by rw [hdl]; exact hL.1) hL.2
    rwa [hdl] at this) _ _ _ _ H
  rw [hlen, show n + (l.toArray.size - n) = l.toArray.size by omega] at this
  exact this
theorem wp_region_ext_tq {id : Nat} {a : Act} {w : World} {l : List Oper} (n : Nat) (t : Tq) (hm : P.follows .mixedOrders = true)
    (hB : (tqeB .any l.toArray n t && decide (t.len = n)) = true) (hQ : ∀ d v c a w, Q (.panic c) (a.put d v) w → Q (.panic c) a w)
    (h : wqTree P l Q (fun w' => ∃ x : Ex w, w' = x.W) n t a w.drew) : (Code.region id l.toArray true).wp P Q a w :=
  wp_region_tq n t _ hm hB hQ (inEx (Below.refl w.heap.size w).drew) h
end
end

section
open Go.RowKit
structure Fx (w : World) (R : Nat → Prop) where
  W : World
  h : Fr R w W
instance (w : World) (R : Nat → Prop) : Nonempty (Fx w R) := ⟨⟨w, Fr.refl R w⟩⟩
theorem Fx.cell? {w : World} {R : Nat → Prop} (x : Fx w R) (b o : Nat) (hb : b < w.heap.size) (hne : ¬ R b) : x.W.cell? ⟨b, o, none⟩ = w.cell? ⟨b, o, none⟩ := World.cell?_of_block (x.h.block b hb hne)
theorem Fr.drew {R : Nat → Prop} {w w' : World} (h : Fr R w w') : Fr R w w'.drew := ⟨h.os, h.tape, h.output, h.size, h.block⟩
attribute [local go_sem] Ex.cell? Ex.frozen? Fx.cell?
end

section
open Go.RowKit
attribute [local go_sem] Ex.cell? Ex.frozen?
structure Rel (p : Act → World → Prop) (a : Act) (W : World) : Prop where
  out : p a W
end
end Go.Proofs.Ythihdiilokdidaa
end

section
namespace Go.Proofs.Ythihdiilokdidaa
open Go.RowKit Go.ChangeShapes Go.WideShapes Go.Deep
section
variable {H : Type} {enc : TypeId × Value → H} {w : World} {base : Nat} {spare : Nat → Bool} {held : Bool}
end
end Go.Proofs.Ythihdiilokdidaa
end

/- A region that draws its order: operations that yield and leave the world as it is, taken first in a given order; then loud ones, each the only one that may come up, a condition on the world shown behind each; behind all of them a tail whose order is fixed. (After the library's StillTail and OrdersHeld.) -/
import Derived.OrdersHeld
import Derived.Test.YtkaogjhnogkcdaaK2
set_option linter.unusedVariables false
set_option linter.unusedSimpArgs false
set_option linter.unusedSectionVars false
section
namespace Go.Proofs.Ytkaogjhnogkcdaa
open Go.RowKit
section
variable {P : Program} {ops : Array Oper} {md : Region.Mode} {S : World → Prop} {Q : Exit → Act → World → Prop}

def mute : Op → Bool
 | .move _ | .assign _ | .load _ _ | .fieldAddr _ _ _ | .field _ _ _ | .indexAddr _ _ _ | .index _ _ _ | .binOp _ _ _ _ _ | .unOp _ _ _ | .convert _ _ _ | .build _ _ | .pick _ _ _ | .extract _ _ | .lookup _ _ _ _ | .slice _ _ _ _ _ => true
 | .call c => match c.callee with | .builtin .len => true | _ => false
 | .nilCheck _ => true
 | _ => false

theorem run_v {s : Sem Value} {P : Program} {w w' : World} {n : Next} (h : (do pure (Next.value (← s)) : Sem Next).run P w = .ok n w') : ∃ u, n = .value u := by
 rw [Sem.run_bind] at h
 generalize s.run P w = r at h
 cases r with
 | ok v w1 => rw [Result.andThen_ok, Sem.run_pure] at h; cases h; exact ⟨v, rfl⟩
 | halt x w1 => cases h

theorem mute_value {ρ : Operand → Value} {o : Oper} (hm : mute o.op = true) {w w' : World} {n : Next} (h : (execOp ρ o).run P w = .ok n w') : ∃ u, n = .value u := by
 obtain ⟨dst, op, ty, after, x1, x2⟩ := o
 cases op <;> simp [mute] at hm
 case move x => simp only [execOp, go_sem] at h; cases h; exact ⟨_, rfl⟩
 case assign x => simp only [execOp, go_sem] at h; cases h; exact ⟨_, rfl⟩
 case call c =>
  cases hc : c.callee <;> simp [hc] at hm
  case builtin b =>
   cases b <;> simp at hm
   simp only [execOp, resolve, hc, Sem.run_bind, Sem.run_pure, Result.andThen_ok] at h
   exact run_v (s := Builtin.len_ c.argTypes ty (c.args.map ρ)) h
 case nilCheck x =>
  simp only [execOp] at h
  have hp : ∀ {u : Value} {w0 w1 : World}, (pure (Next.value u) : Sem Next).run P w0 = .ok n w1 → ∃ u, n = .value u := fun {u w0 w1} h => by rw [Sem.run_pure] at h; cases h; exact ⟨_, rfl⟩
  split at h
  all_goals try exact hp h
  all_goals try (simp [go_sem] at h; done)
  split at h
  all_goals try exact hp h
  all_goals try (simp [go_sem] at h; done)
  have hb : ∀ {α : Type} {s : Sem α} {f : α → Sem Next} {w0 : World}, (s >>= f).run P w0 = .ok n w' → ∃ v w1, (f v).run P w1 = .ok n w' := fun {α s f w0} h => by
   rw [Sem.run_bind] at h
   cases hr : s.run P w0 with
   | ok v w1 => rw [hr, Result.andThen_ok] at h; exact ⟨v, w1, h⟩
   | halt x w1 => rw [hr] at h; cases h
  obtain ⟨v1, w1, h⟩ := hb h
  obtain ⟨v2, w2, h⟩ := hb h
  split at h
  ·
   obtain ⟨_, w3, h⟩ := hb h
   exact hp h
  ·
   exact hp h
 case pick c x y =>
  simp only [execOp] at h
  rw [Sem.run_bind] at h
  generalize (asBool (ρ c)).run P w = r at h
  cases r with
  | ok v w1 => rw [Result.andThen_ok, Sem.run_pure] at h; cases h; exact ⟨_, rfl⟩
  | halt x w1 => cases h
 all_goals exact run_v h

theorem mute_if {o : Oper} {v : Value} {a : Act} (hm : mute o.op = true) (h : YieldsIn P ops S o v a) : YieldsIf P ops S o v a := by
 rcases h with ⟨hw, h⟩ | h
 ·
  refine .inl ⟨hw, fun w hS => ?_⟩
  have h1 := h w hS
  unfold Oper.quietAt at h1
  cases hr : (execOp a.eval o).run P w with
  | ok n w' =>
   rw [hr] at h1
   obtain ⟨u, rfl⟩ := mute_value hm hr
   obtain ⟨h2, h3⟩ := h1
   rw [h2, h3]
  | halt x w' => rw [hr] at h1; exact h1.elim
 ·
  exact .inr h

def wpAnyLH (P : Program) (md : Region.Mode) (ops : Array Oper) (Q : Exit → Act → World → Prop) (S : World → Prop) (n : Nat) (L : Array Bool → Act → World → Prop) : Nat → Array Bool → Act → World → Prop
 | 0, listed, a, w => L listed a w
 | f + 1, listed, a, w =>
  Region.ready md ops listed ≠ [] ∧ ∀ i ∈ Region.ready md ops listed, i < n ∧ wpOp P ops Q i (fun a' w' => S w' ∧ wpAnyLH P md ops Q S n L f (listed.setIfInBounds i true) a' w') a w

theorem wpAny_of_headH {n g : Nat} {L : Array Bool → Act → World → Prop} (hL : ∀ listed a w, L listed a w → wpAny P md ops Q g listed a w) :
  ∀ (f : Nat) (listed : Array Bool) (a : Act) (w : World), wpAnyLH P md ops Q S n L f listed a w → wpAny P md ops Q (f + g) listed a w
 | 0, listed, a, w, h => by rw [Nat.zero_add]; exact hL _ _ _ h
 | f + 1, listed, a, w, h => by
  rw [show f + 1 + g = (f + g) + 1 by omega]
  exact ⟨fun h0 => absurd h0 h.1, fun i hi => wpOp_mono (fun a' w' h' => wpAny_of_headH hL f _ a' w' h'.2) (h.2 i hi).2⟩

theorem wpAnyLH_first {n i : Nat} {oi : Oper} {v : Value} {L : Array Bool → Act → World → Prop} (hi : ops[i]? = some oi) (hsel : ∀ (j : Nat) (o : Oper) cs b, ops[j]? = some o → o.op ≠ .select cs b)
  (hQ : ∀ c a w, Q (.panic c) (a.put oi.dst v) w → Q (.panic c) a w)
  (hs : Region.sinkB md ops n = true) (hc : Region.chainB md ops n = true) (hn : n < ops.size) (hin : i < n)
  (hdone : ∀ listed a w, L listed a w → ∀ j ∈ Region.ready md ops listed, n ≤ j) :
  ∀ (f : Nat) (listed : Array Bool) (a : Act) (w : World), HeadInv md ops n listed →
   (∀ j oj, ops[j]? = some oj → j ≠ i → listed.getD j true = false → (∀ e ∈ oj.after, Region.binds md e = true → e.on ≠ i) → oi.apart ops oj = true) →
   i ∈ Region.ready md ops listed → YieldsIf P ops S oi v a → S w →
   wpAnyLH P md ops Q S n L f (listed.setIfInBounds i true) (a.put oi.dst v) w → wpAnyLH P md ops Q S n L (f + 1) listed a w := by
 intro f
 induction f with
 | zero =>
  intro listed a w inv _ hr hy hS H
  have hun := (mem_ready.1 hr).1
  refine ⟨fun h => (by rw [h] at hr; cases hr), fun j hj => ?_⟩
  have hjn : j < n := by
   rcases Nat.lt_or_ge j n with h | h
   ·
    exact h
   ·
    exact absurd hj (tail_waits hs hc hn inv _ i rfl hin hun j h)
  refine ⟨hjn, ?_⟩
  by_cases hji : j = i
  ·
   subst hji; exact hy.wpOp hi hS ⟨hS, H⟩
  ·
   have := hdone _ _ _ H j (ready_mono hj hji)
   omega
 | succ f ih =>
  intro listed a w inv hfree hr hy hS H
  have hun := (mem_ready.1 hr).1
  refine ⟨fun h => (by rw [h] at hr; cases hr), fun j hj => ?_⟩
  have hjn : j < n := by
   rcases Nat.lt_or_ge j n with h | h
   ·
    exact h
   ·
    exact absurd hj (tail_waits hs hc hn inv _ i rfl hin hun j h)
  refine ⟨hjn, ?_⟩
  by_cases hji : j = i
  ·
   subst hji; exact hy.wpOp hi hS ⟨hS, H⟩
  ·
   have h1 := (H.2 j (ready_mono hj hji)).2
   obtain ⟨hjun, oj, hoj, hall⟩ := mem_ready.1 hj
   have hnot : ∀ e ∈ oj.after, Region.binds md e = true → e.on ≠ i := fun e he hb heq => by
    have h1 := hall e he hb
    rw [heq, getD_both hun] at h1
    cases h1
   have h2 := wpOp_putIf hoj (hfree j oj hoj hji hjun hnot) (fun cs b => hsel i oi cs b hi) (fun cs b => hsel j oj cs b hoj) hQ hy h1
   have hfree' : ∀ k ok, ops[k]? = some ok → k ≠ i → (listed.setIfInBounds j true).getD k true = false →
     (∀ e ∈ ok.after, Region.binds md e = true → e.on ≠ i) → oi.apart ops ok = true := fun k ok hk hki hun hno => by
    refine hfree k ok hk hki ?_ hno
    by_cases hjk : j = k
    ·
     subst hjk; exact hjun
    ·
     rw [getD_set_ne true hjk] at hun; exact hun
   refine wpOp_mono (fun a' w' h3 => ⟨h3.2.1, ih (listed.setIfInBounds j true) a' w' (inv.set hj hjn) hfree' (ready_mono hr (Ne.symm hji)) h3.1 h3.2.1 ?_⟩) h2
   rw [Array.setIfInBounds_comm _ _ hji]
   exact h3.2.2

def wpLoud (P : Program) (ops : Array Oper) (Q : Exit → Act → World → Prop) (S : World → Prop) (T : Act → World → Prop) : List Oper → Act → World → Prop
 | [], a, w => T a w
 | o :: ks, a, w => wpList P ops (fun e a' w' => match e with | .normal => S w' ∧ wpLoud P ops Q S T ks a' w' | e => Q e a' w') [o] a w

def loudB (md : Region.Mode) (ops : Array Oper) (n g : Nat) : List Nat → Array Bool → Bool
 | [], listed => Region.seqB md ops g n listed
 | k :: ks, listed => decide (Region.ready md ops listed = [k]) && decide (k < n) && loudB md ops n g ks (listed.setIfInBounds k true)

def preB (md : Region.Mode) (ops : Array Oper) (n g : Nat) (loud : List Nat) : List Nat → Array Bool → Bool
 | [], listed => loudB md ops n g loud listed
 | k :: ks, listed => (Region.ready md ops listed).contains k && decide (k < n) && Region.free md ops listed k && (match ops[k]? with | some o => mute o.op | none => false) && preB md ops n g loud ks (listed.setIfInBounds k true)

def heldB (md : Region.Mode) (ops : Array Oper) (n : Nat) (pre loud : List Nat) : Bool :=
 Region.noSelect ops && decide (n < ops.size) && Region.sinkB md ops n && Region.chainB md ops n && preB md ops n (ops.size - n) loud pre (Array.replicate ops.size false)

end

end Go.Proofs.Ytkaogjhnogkcdaa
end

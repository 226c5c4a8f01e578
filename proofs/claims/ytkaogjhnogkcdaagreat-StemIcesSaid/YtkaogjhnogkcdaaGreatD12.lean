/- The reference's Creep, Sinks, IsTruth, Play (walks). · The reference's Play (walk). · append of any slice, at the list of a region's operations. · The reference's deep (walk): all that a day's heats can sink. · The reference's map of states: its zero. -/
import Derived.Laws.Cover1
import Derived.Test.YtkaogjhnogkcdaaGreatD10
import Derived.Test.YtkaogjhnogkcdaaGreatD3
set_option linter.unusedVariables false
set_option linter.unusedSimpArgs false
set_option linter.unusedSectionVars false
section
namespace Go.Proofs.YtkaogjhnogkcdaaGreat
open Go.RowKit
attribute [local go_sem] Ex.cell? Ex.frozen? Gx.cell?

end Go.Proofs.YtkaogjhnogkcdaaGreat
end

section
namespace Go.Proofs.YtkaogjhnogkcdaaGreat
open Go.RowKit
attribute [local go_sem] Ex.cell? Ex.frozen? Gx.cell?

end Go.Proofs.YtkaogjhnogkcdaaGreat
end

section
namespace Go.Proofs.YtkaogjhnogkcdaaGreat
open Go.RowKit

section
variable {P : Program}
end
end Go.Proofs.YtkaogjhnogkcdaaGreat
end

section
namespace Go.Proofs.YtkaogjhnogkcdaaGreat
open Go.RowKit
attribute [local go_sem] Ex.cell? Ex.frozen?

def DeepIs (g : Gl) (lo : Int) (k : Nat) (L : List Int) : Prop := L.length ≤ k ∧ ∀ y, y ∈ L ↔ ∃ j : Nat, j < k ∧ y = sinks g (lo + j)
theorem DeepIs.has {g : Gl} {lo : Int} {k : Nat} {L : List Int} (h : DeepIs g lo k L) (hh : hasB L (sinks g (lo + k)) = true) : DeepIs g lo (k + 1) L := by
 have hm : sinks g (lo + k) ∈ L := of_decide_eq_true hh
 refine ⟨by have := h.1; omega, fun y => ?_⟩
 rw [h.2]
 constructor
 ·
  rintro ⟨j, h1, h2⟩; exact ⟨j, by omega, h2⟩
 ·
  rintro ⟨j, h1, h2⟩
  rcases Nat.lt_succ_iff_lt_or_eq.1 h1 with h3 | h3
  ·
   exact ⟨j, h3, h2⟩
  ·
   subst h3; rw [h2]; exact (h.2 _).1 hm
end Go.Proofs.YtkaogjhnogkcdaaGreat
end

section
namespace Go.Proofs.YtkaogjhnogkcdaaGreat
open Go.RowKit

def isF : Value → Bool
  | .bool b => !b
  | _ => false
theorem isF_iff {v : Value} (h : isF v = true) : v = .bool false := by
  cases v <;> simp [isF] at h
  rw [h]
def chkF : List Value → Nat → Bool
  | [], n => n == 0
  | v :: l, n => match n with
    | 0 => false
    | n + 1 => isF v && chkF l n
theorem chkF_iff : ∀ {l : List Value} {n : Nat}, chkF l n = true → l.length = n ∧ ∀ v ∈ l, v = .bool false
  | [], n, h => by
    simp [chkF] at h
    exact ⟨by simp [h], fun v hv => by cases hv⟩
  | v :: l, 0, h => by simp [chkF] at h
  | v :: l, n + 1, h => by
    simp only [chkF, Bool.and_eq_true] at h
    obtain ⟨h1, h2⟩ := chkF_iff h.2
    refine ⟨by rw [List.length_cons, h1], fun u hu => ?_⟩
    rcases List.mem_cons.1 hu with rfl | hu
    · exact isF_iff h.1
    · exact h2 u hu
def mapZ (i : Option TypeInfo) : Bool := match i with
  | some i => (match i.zero with
    | some (.agg c) => chkF c.toList 27404
    | _ => false)
  | none => false
end Go.Proofs.YtkaogjhnogkcdaaGreat
end

/- The reference's Creep, Sinks, IsTruth, Play (walks). · The reference's Play (walk). · append of any slice, at the list of a region's operations. · The reference's deep (walk): all that a day's heats can sink. · The reference's map of states: its zero. -/
import Derived.Laws.Cover1
import Derived.Test.YtkaogjhnogkcdaaK10
import Derived.Test.YtkaogjhnogkcdaaK3
set_option linter.unusedVariables false
set_option linter.unusedSimpArgs false
set_option linter.unusedSectionVars false
section
namespace Go.Proofs.Ytkaogjhnogkcdaa
open Go.RowKit
attribute [local go_sem] Ex.cell? Ex.frozen? Gx.cell?

end Go.Proofs.Ytkaogjhnogkcdaa
end

section
namespace Go.Proofs.Ytkaogjhnogkcdaa
open Go.RowKit
attribute [local go_sem] Ex.cell? Ex.frozen? Gx.cell?

end Go.Proofs.Ytkaogjhnogkcdaa
end

section
namespace Go.Proofs.Ytkaogjhnogkcdaa
open Go.RowKit

section
variable {P : Program}
theorem one_at {w : World} {g sz : Nat} {t : TypeId} {cs : Array Value} {F : Nat → Nat → Value} (hb : Blk w g t cs) (h : ∀ j, j < sz → cs[j]? = some (F 0 j)) : SlAt w w.heap.size sz (some ⟨g, 0, none⟩) 1 F := fun _ => ⟨g, 0, rfl, hb.lt, fun k j hk hj => by
  obtain rfl : k = 0 := by omega
  rw [cell_of_row _ _ _ _ _ _ hb]
  simpa using h j hj⟩
end
end Go.Proofs.Ytkaogjhnogkcdaa
end

section
namespace Go.Proofs.Ytkaogjhnogkcdaa
open Go.RowKit
attribute [local go_sem] Ex.cell? Ex.frozen?

def DeepIs (g : Gl) (lo : Int) (k : Nat) (L : List Int) : Prop := L.length ≤ k ∧ ∀ y, y ∈ L ↔ ∃ j : Nat, j < k ∧ y = sinks g (lo + j)
theorem DeepIs.has {g : Gl} {lo : Int} {k : Nat} {L : List Int} (h : DeepIs g lo k L) (hh : hasB L (sinks g (lo + k)) = true) : DeepIs g lo (k + 1) L := by
 have hm : sinks g (lo + k) ∈ L := of_decide_eq_true hh
 refine ⟨by have := h.1; omega, fun y => ?_⟩
 rw [h.2]
 constructor
 ·
  rintro ⟨j, h1, h2⟩; exact ⟨j, by omega, h2⟩
 ·
  rintro ⟨j, h1, h2⟩
  rcases Nat.lt_succ_iff_lt_or_eq.1 h1 with h3 | h3
  ·
   exact ⟨j, h3, h2⟩
  ·
   subst h3; rw [h2]; exact (h.2 _).1 hm
end Go.Proofs.Ytkaogjhnogkcdaa
end

section
namespace Go.Proofs.Ytkaogjhnogkcdaa
open Go.RowKit

def isF : Value → Bool
  | .bool b => !b
  | _ => false
def chkF : List Value → Nat → Bool
  | [], n => n == 0
  | v :: l, n => match n with
    | 0 => false
    | n + 1 => isF v && chkF l n
def mapZ (i : Option TypeInfo) : Bool := match i with
  | some i => (match i.zero with
    | some (.agg c) => chkF c.toList 27404
    | _ => false)
  | none => false
end Go.Proofs.Ytkaogjhnogkcdaa
end

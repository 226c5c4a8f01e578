/- Bath: a proposition as a Bool. -/
import Derived.Test.YtnplefhigbkbbaaM10
set_option linter.unusedVariables false
set_option linter.unusedSimpArgs false
set_option linter.unusedSectionVars false
section
namespace Go.Proofs.Ytnplefhigbkbbaa
open Go.RowKit
attribute [local go_sem] Ex.cell? Ex.frozen?

open Classical in
/-- does it hold? -/
noncomputable def truB (p : Prop) : Bool := decide p
theorem truB_iff {p : Prop} : truB p = true ↔ p := by unfold truB; simp
theorem truB_false {p : Prop} (h : ¬ p) : truB p = false := by rw [← Bool.not_eq_true, truB_iff]; exact h
end Go.Proofs.Ytnplefhigbkbbaa
end

/- The row SpillNames: the document's examples, and the errors. -/
import Derived.WalkKit
import Derived.ProofKit
import Derived.OpenShut
import Derived.Test.YthihdiilokdidaaRows
import Derived.Test.YthihdiilokdidaaV11
import Derived.Test.YthihdiilokdidaaV13
set_option linter.unusedVariables false
set_option linter.unusedSimpArgs false
set_option linter.unusedSectionVars false
section
namespace Go.Proofs.Ythihdiilokdidaa.spillNames
open Go.ChangeShapes Go.WideShapes Go.ChangeAt Go.RowKit
set_option linter.unusedVariables false

set_option maxRecDepth 100000 in
theorem lifted (os : Os) (started : os.Started) (H : Type) (enc : TypeId × Value → H) :
  ReturnsInHanded {} Try.checked os 14 .any (Rows.spillNamesSpec.pre6 enc Try.prog Try.f14 Rows.spillNamesRow.domain false) (Rows.spillNamesSpec.post enc Try.prog Try.f14 false true false false) := by
 refine returnsInHanded_of_change (C := Try.checked) own started (by kernel_rfl) Try.func14
  (ChangeSpec.witness6 (enc := enc) (C := Try.checked) false ⟨#[], #[], []⟩ 8 (by kernel_rfl) (by kernel_rfl) (by kernel_rfl) (by kernel_rfl)) ?_
 intro W base args ds gs before hval0 hW hcnd _
 have hval : ∀ (j : Nat) t v, Try.f14.params[j]? = some t → args[j]? = some v → Value.okWide Try.prog W .any base t v := hval0
 have hW0 := hW
 obtain ⟨p, q, hA0, hV, rfl, hfz, hnd⟩ := hW
 have hA : DataW.TrodAll enc Try.prog W 0 (fun _ => true) true Try.f14.params.toList args.toList ds p := hA0
 rw [Try.params14] at hA hval
 obtain ⟨ea, ed, ep⟩ := trodAll_nil hA
 have eargs : args = #[] := by rw [← Array.toArray_toList (xs := args), ea]
 have eds : ds = [] := ed
 subst eargs eds
 obtain ⟨rfl, rfl⟩ := trodVars_none hV

 refine (NamesLaw_any W).mono fun e W' he => ?_
 obtain ⟨rfl, hb⟩ := he
 exact ⟨_, rfl, post_law rfl hW0 rfl rfl trivial hb⟩

theorem over : Rows.spillNamesRow.holds Try.pinned (OpenSpec.ofChange Rows.spillNamesSpec) :=
 OpenClaim.holds_of_wide 14 Try.f14 rfl rfl rfl rfl rfl rfl rfl ⟨rfl, rfl, rfl, rfl, rfl⟩ rfl rfl rfl rfl rfl (by kernel_rfl) Try.func14 (by kernel_rfl)
  (of_decide_eq_true (by kernel_rfl)) (by unfold Func.isWrapper; first | (rw [if_pos (by decide +kernel)]; kernel_rfl) | (rw [if_neg (by decide +kernel)]; exact ⟨rfl, rfl⟩))
  (fun os started H enc _ => lifted os started H enc)

/-- the statement. -/
theorem proved : Rows.SpillNamesSaid :=
 over
#print axioms proved
end Go.Proofs.Ythihdiilokdidaa.spillNames
end

/- The row StemNames: the examples, and errors. -/
import Derived.WalkKit
import Derived.ProofKit
import Derived.OpenShut
import Derived.Test.YtkaogjhnogkcdaaRows
import Derived.Test.YtkaogjhnogkcdaaK18
import Derived.Test.YtkaogjhnogkcdaaK22
set_option linter.unusedVariables false
set_option linter.unusedSimpArgs false
set_option linter.unusedSectionVars false
section
namespace Go.Proofs.Ytkaogjhnogkcdaa.stemNames
open Go.ChangeShapes Go.WideShapes Go.ChangeAt Go.RowKit
set_option linter.unusedVariables false

set_option maxRecDepth 100000 in
theorem lifted (os : Os) (started : os.Started) (H : Type) (enc : TypeId × Value → H) :
  ReturnsInHanded {} Try.checked os 3 .any (Rows.stemNamesSpec.pre6 enc Try.prog Try.f3 Rows.stemNamesRow.domain false) (Rows.stemNamesSpec.post enc Try.prog Try.f3 false true false false) := by
 refine returnsInHanded_of_change (C := Try.checked) own started (by kernel_rfl) Try.func3
  (ChangeSpec.witness6 (enc := enc) (C := Try.checked) false ⟨#[], #[], []⟩ 8 (by kernel_rfl) (by kernel_rfl) (by kernel_rfl) (by kernel_rfl)) ?_
 intro W base args ds gs before hval0 hW hcnd _
 have hval : ∀ (j : Nat) t v, Try.f3.params[j]? = some t → args[j]? = some v → Value.okWide Try.prog W .any base t v := hval0
 have hW0 := hW
 obtain ⟨p, q, hA0, hV, rfl, hfz, hnd⟩ := hW
 have hA : DataW.TrodAll enc Try.prog W 0 (fun _ => true) true Try.f3.params.toList args.toList ds p := hA0
 rw [Try.params3] at hA hval
 obtain ⟨ea, ed, ep⟩ := trodAll_nil hA
 have eargs : args = #[] := by rw [← Array.toArray_toList (xs := args), ea]
 have eds : ds = [] := ed
 subst eargs eds
 obtain ⟨rfl, rfl⟩ := trodVars_none hV

 refine (sl_names W).mono fun e W' he => ?_
 obtain ⟨rfl, hb⟩ := he
 exact ⟨_, rfl, post_law rfl hW0 rfl rfl trivial hb⟩

theorem over : Rows.stemNamesRow.holds Try.pinned (OpenSpec.ofChange Rows.stemNamesSpec) :=
 OpenClaim.holds_of_wide 3 Try.f3 rfl rfl rfl rfl rfl rfl rfl ⟨rfl, rfl, rfl, rfl, rfl⟩ rfl rfl rfl rfl rfl (by kernel_rfl) Try.func3 (by kernel_rfl)
  (of_decide_eq_true (by kernel_rfl)) (by unfold Func.isWrapper; first | (rw [if_pos (by decide +kernel)]; kernel_rfl) | (rw [if_neg (by decide +kernel)]; exact ⟨rfl, rfl⟩))
  (fun os started H enc _ => lifted os started H enc)

/-- the statement. -/
theorem proved : Rows.StemNamesSaid :=
 over
#print axioms proved
end Go.Proofs.Ytkaogjhnogkcdaa.stemNames
end

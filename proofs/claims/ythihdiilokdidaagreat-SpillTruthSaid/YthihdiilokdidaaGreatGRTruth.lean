/- The row SpillTruth: of a truth that agrees with all weighings Play tells the stocks; they lie in their ranges, all that comes in goes out, and what is missing by any book is in its range. -/
import Derived.WalkKit
import Derived.ProofKit
import Derived.OpenShut
import Derived.Test.YthihdiilokdidaaGreatRows
import Derived.Test.YthihdiilokdidaaGreatZ12
import Derived.Test.YthihdiilokdidaaGreatZ15
set_option linter.unusedVariables false
set_option linter.unusedSimpArgs false
set_option linter.unusedSectionVars false
section
namespace Go.Proofs.YthihdiilokdidaaGreat.spillTruth
open Go.ChangeShapes Go.WideShapes Go.ChangeAt Go.RowKit
set_option linter.unusedVariables false

set_option maxRecDepth 100000 in
theorem lifted (os : Os) (started : os.Started) (H : Type) (enc : TypeId × Value → H) :
    ReturnsInHanded {} Tryz.checked os 3 .any (Rows.spillTruthSpec.pre6 enc Tryz.prog Tryz.f3 Rows.spillTruthRow.domain false) (Rows.spillTruthSpec.post enc Tryz.prog Tryz.f3 false true false false) := by
  refine returnsInHanded_of_change (C := Tryz.checked) own started (by kernel_rfl) Tryz.func3
    (ChangeSpec.witness6 (enc := enc) (C := Tryz.checked) false ⟨#[], #[.agg #[.slice none 0 0, .int .i64 0, .slice none 0 0, .slice none 0 0], .slice none 0 0, .slice none 0 0], []⟩ 8 (by kernel_rfl) (by kernel_rfl) (by kernel_rfl) (by kernel_rfl)) ?_
  intro W base args ds gs before hval0 hW hcnd _
  have hval : ∀ (j : Nat) t v, Tryz.f3.params[j]? = some t → args[j]? = some v → Value.okWide Tryz.prog W .any base t v := hval0
  have hW0 := hW
  obtain ⟨p, q, hA0, hV, rfl, hfz, hnd⟩ := hW
  have hA : DataW.TrodAll enc Tryz.prog W 0 (fun _ => true) true Tryz.f3.params.toList args.toList ds p := hA0
  rw [Tryz.params3] at hA hval
  obtain ⟨v0, vs0, d0, ds0, p0, q0, ea0, ed0, ep0, h0, hA0⟩ := trodAll_cons hA
  obtain ⟨v1, vs1, d1, ds1, p1, q1, ea1, ed1, ep1, h1, hA1⟩ := trodAll_cons hA0
  obtain ⟨v2, vs2, d2, ds2, p2, q2, ea2, ed2, ep2, h2, hA2⟩ := trodAll_cons hA1
  obtain ⟨ea, ed, ep⟩ := trodAll_nil hA2
  have eargs : args = #[v0, v1, v2] := by rw [← Array.toArray_toList (xs := args), ea0, ea1, ea2, ea]
  have eds : ds = [d0, d1, d2] := by rw [ed0, ed1, ed2, ed]
  subst eargs eds
  obtain ⟨rfl, rfl⟩ := trodVars_none hV
  obtain ⟨s, Ar, Am, Aw, cr, cm, cw, rfl, hsl, hs⟩ := open_worksT (hval 0 _ _ rfl rfl) h0
  obtain ⟨AW, ws, cW, rfl, hwl, hw, hwb⟩ := open_words (hval 1 _ _ rfl rfl) h1
  obtain ⟨AO, oz, cO, rfl, hol, ho, hob⟩ := open_words (hval 2 _ _ rfl rfl) h2
  refine (TruthLaw_any s Ar Am Aw cr cm cw W hs AW cW ws hw hwb hwl AO cO oz ho hob hol).mono fun e W' he => ?_
  obtain ⟨rfl, hb⟩ := he
  exact ⟨_, rfl, post_law rfl hW0 rfl rfl ⟨⟨by kernel_rfl, of_decide_eq_true (by kernel_rfl)⟩, ⟨by kernel_rfl, of_decide_eq_true (by kernel_rfl)⟩, ⟨by kernel_rfl, of_decide_eq_true (by kernel_rfl)⟩, trivial⟩ hb⟩

theorem over : Rows.spillTruthRow.holds Tryz.pinned (OpenSpec.ofChange Rows.spillTruthSpec) :=
  OpenClaim.holds_of_wide 3 Tryz.f3 rfl rfl rfl rfl rfl rfl rfl ⟨rfl, rfl, rfl, rfl, rfl⟩ rfl rfl rfl rfl rfl (by kernel_rfl) Tryz.func3 (by kernel_rfl)
    (of_decide_eq_true (by kernel_rfl)) (by unfold Func.isWrapper; first | (rw [if_pos (by decide +kernel)]; kernel_rfl) | (rw [if_neg (by decide +kernel)]; exact ⟨rfl, rfl⟩))
    (fun os started H enc _ => lifted os started H enc)

/-- the statement. -/
theorem proved : Rows.SpillTruthSaid :=
  over
#print axioms proved
end Go.Proofs.YthihdiilokdidaaGreat.spillTruth
end

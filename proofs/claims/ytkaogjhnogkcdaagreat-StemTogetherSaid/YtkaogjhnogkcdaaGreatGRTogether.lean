/- The row StemTogether: the range of readings of one bath is in that of each alone; the true temperature is in it; and one reading alone has its own range. -/
import Derived.WalkKit
import Derived.ProofKit
import Derived.OpenShut
import Derived.Test.YtkaogjhnogkcdaaGreatRows
import Derived.Test.YtkaogjhnogkcdaaGreatJ21
import Derived.Test.YtkaogjhnogkcdaaGreatJ27
set_option linter.unusedVariables false
set_option linter.unusedSimpArgs false
set_option linter.unusedSectionVars false
section
namespace Go.Proofs.YtkaogjhnogkcdaaGreat.stemTogether
open Go.ChangeShapes Go.WideShapes Go.ChangeAt Go.RowKit
set_option linter.unusedVariables false

set_option maxRecDepth 100000 in
theorem lifted (os : Os) (started : os.Started) (H : Type) (enc : TypeId × Value → H) :
  ReturnsInHanded {} Tryz.checked os 9 .any (Rows.stemTogetherSpec.pre6 enc Tryz.prog Tryz.f9 Rows.stemTogetherRow.domain false) (Rows.stemTogetherSpec.post enc Tryz.prog Tryz.f9 false true false false) := by
 refine returnsInHanded_of_change (C := Tryz.checked) own started (by kernel_rfl) Tryz.func9
  (ChangeSpec.witness6 (enc := enc) (C := Tryz.checked) false ⟨#[], #[.agg #[.int .i64 0, .slice none 0 0, .slice none 0 0, .int .i64 0, .int .i64 0, .int .i64 0, .int .i64 0, .int .i64 0, .int .i64 0, .int .i64 0, .int .i64 0, .int .i64 0], .slice none 0 0, .slice none 0 0, .slice none 0 0, .int .u8 0, .agg #[.int .i64 0, .int .i64 0, .int .i64 0, .int .i64 0, .int .i64 0, .int .i64 0, .int .i64 0, .int .i64 0, .int .i64 0, .bool false]], []⟩ 8 (by kernel_rfl) (by kernel_rfl) (by kernel_rfl) (by kernel_rfl)) ?_
 intro W base args ds gs before hval0 hW hcnd _
 have hval : ∀ (j : Nat) t v, Tryz.f9.params[j]? = some t → args[j]? = some v → Value.okWide Tryz.prog W .any base t v := hval0
 have hW0 := hW
 obtain ⟨p, q, hA0, hV, rfl, hfz, hnd⟩ := hW
 have hA : DataW.TrodAll enc Tryz.prog W 0 (fun _ => true) true Tryz.f9.params.toList args.toList ds p := hA0
 rw [Tryz.params9] at hA hval
 obtain ⟨v0, vs0, d0, ds0, p0, q0, ea0, ed0, ep0, h0, hA0⟩ := trodAll_cons hA
 obtain ⟨v1, vs1, d1, ds1, p1, q1, ea1, ed1, ep1, h1, hA1⟩ := trodAll_cons hA0
 obtain ⟨v2, vs2, d2, ds2, p2, q2, ea2, ed2, ep2, h2, hA2⟩ := trodAll_cons hA1
 obtain ⟨v3, vs3, d3, ds3, p3, q3, ea3, ed3, ep3, h3, hA3⟩ := trodAll_cons hA2
 obtain ⟨v4, vs4, d4, ds4, p4, q4, ea4, ed4, ep4, h4, hA4⟩ := trodAll_cons hA3
 obtain ⟨v5, vs5, d5, ds5, p5, q5, ea5, ed5, ep5, h5, hA5⟩ := trodAll_cons hA4
 obtain ⟨ea, ed, ep⟩ := trodAll_nil hA5
 have eargs : args = #[v0, v1, v2, v3, v4, v5] := by rw [← Array.toArray_toList (xs := args), ea0, ea1, ea2, ea3, ea4, ea5, ea]
 have eds : ds = [d0, d1, d2, d3, d4, d5] := by rw [ed0, ed1, ed2, ed3, ed4, ed5, ed]
 subst eargs eds
 obtain ⟨rfl, rfl⟩ := trodVars_none hV
 obtain ⟨t, Ab, Ad, cb, cd, rfl, hg⟩ := open_tube (hval 0 _ _ rfl rfl) h0
 obtain ⟨Ah, h, ch, rfl, _, _, hh⟩ := open_rgs (hval 1 _ _ rfl rfl) h1
 obtain ⟨AW, ws, cW, rfl, hwl, hw, hwb⟩ := open_words (hval 2 _ _ rfl rfl) h2
 obtain ⟨AO, oz, cO, rfl, hol, ho, hob⟩ := open_words (hval 3 _ _ rfl rfl) h3
 obtain ⟨m4, rfl, hm4⟩ := open_int Tryz.underlying5 (hval 4 _ _ rfl rfl) h4
 obtain ⟨r, rfl⟩ := open_reading (hval 5 _ _ rfl rfl) h5
 refine (sl_together t Ab Ad cb cd Ah AW AO ch cW cO h ws oz m4 r W hg hh hw ho hwb hob hwl hol (wf_u8 hm4)).mono fun e W' he => ?_
 obtain ⟨rfl, hb⟩ := he
 exact ⟨_, rfl, post_law rfl hW0 rfl rfl ⟨⟨by kernel_rfl, of_decide_eq_true (by kernel_rfl)⟩, ⟨by kernel_rfl, of_decide_eq_true (by kernel_rfl)⟩, ⟨by kernel_rfl, of_decide_eq_true (by kernel_rfl)⟩, ⟨by kernel_rfl, of_decide_eq_true (by kernel_rfl)⟩, ⟨by kernel_rfl, of_decide_eq_true (by kernel_rfl)⟩, ⟨by kernel_rfl, of_decide_eq_true (by kernel_rfl)⟩, trivial⟩ hb⟩

theorem over : Rows.stemTogetherRow.holds Tryz.pinned (OpenSpec.ofChange Rows.stemTogetherSpec) :=
 OpenClaim.holds_of_wide 9 Tryz.f9 rfl rfl rfl rfl rfl rfl rfl ⟨rfl, rfl, rfl, rfl, rfl⟩ rfl rfl rfl rfl rfl (by kernel_rfl) Tryz.func9 (by kernel_rfl)
  (of_decide_eq_true (by kernel_rfl)) (by unfold Func.isWrapper; first | (rw [if_pos (by decide +kernel)]; kernel_rfl) | (rw [if_neg (by decide +kernel)]; exact ⟨rfl, rfl⟩))
  (fun os started H enc _ => lifted os started H enc)

/-- the statement. -/
theorem proved : Rows.StemTogetherSaid :=
 over
#print axioms proved
end Go.Proofs.YtkaogjhnogkcdaaGreat.stemTogether
end

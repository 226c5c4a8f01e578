/-
  No cell of these rows narrows 'for every input' (looked for: loops, veiled, ifaces, maps, wideKeys, modest, calm, conditions, laid).
  DERIVED. THE GIVEN ROWS OF THIS SEAT. 16 by the template 'for every input the law returns true; each argument reads behind the call as it read before'; 0 by the template 'total and deterministic' (their statements: YtnplefhigbkbbaaTotals.lean).
  GIVEN WITH THE SEED: the statements are not yours to turn. If you find one false, say at which input.
  Laid BY PROGRAM, IN A SANDBOX (cutbox-rows.mjs): the forced cells as the released guide's own fill.sh prints them over the translation 0606dc6d42079c0e… (all of the seat's roots in one cut). By AI agents, Wed Nov 11 2026. No macro, syntax, notation, axiom, sorry.
-/
import Derived.Test.YtnplefhigbkbbaaChecked
import GoSem.Claim
import GoSem.ClaimJoined
import GoSem.ClaimMapViews
import Derived.JoinedTies
import Derived.KernelRfl
namespace Go.Proofs.Ytnplefhigbkbbaa
/- THE CELL 'sum', in the pinned program and in every row, IS THE sha256 OF THE DUMP (.gsa) THAT YtnplefhigbkbbaaProg.lean LOADS. Nothing in Lean hashes anything: it is a label: what it is worth is what the hold of that sum in a sandbox is worth. -/
noncomputable def Try.pinned : Pinned := { name := "ytnplefhigbkbbaa", sum := "0606dc6d42079c0e9a7d3a95d3d023688951da9dee474c2a1dbe6524546df997", checked := Try.checked }
namespace Rows
def none {H : Type} : Left H := { results := [], args := [] }

/-- 'meniscuslaw05.BathOffsets': WHATEVER THE INPUT: true; the input reads as it did. -/
def bathOffsetsSpec : ChangeSpec := { name := "bathOffsets", fn := fun _ => fun
  | [d] => { results := [.lit (.bool true)], args := [d] }
  | _ => none }
def bathOffsetsRow : OpenClaim := { program := "ytnplefhigbkbbaa", sum := "0606dc6d42079c0e9a7d3a95d3d023688951da9dee474c2a1dbe6524546df997", func := "meniscus/meniscuslaw05.BathOffsets", spec := "bathOffsets", unfollowed := true, recurses := true, plainKeys := false, apart := false }
def BathOffsetsSaid : Prop := bathOffsetsRow.holds Try.pinned (OpenSpec.ofChange bathOffsetsSpec)

/-- ITS FALSE NEIGHBOUR: 'it returns false'. Refute it at one input. -/
def bathOffsetsWrong : ChangeSpec := { name := "bathOffsets", fn := fun _ => fun
  | [d] => { results := [.lit (.bool false)], args := [d] }
  | _ => none }
def BathOffsetsWrongFalsely : Prop := bathOffsetsRow.holds Try.pinned (OpenSpec.ofChange bathOffsetsWrong)

/-- 'meniscuslaw05.BathDiffers': WHATEVER THE INPUT: true; the input reads as it did. -/
def bathDiffersSpec : ChangeSpec := { name := "bathDiffers", fn := fun _ => fun
  | [d1, d2, d3] => { results := [.lit (.bool true)], args := [d1, d2, d3] }
  | _ => none }
def bathDiffersRow : OpenClaim := { program := "ytnplefhigbkbbaa", sum := "0606dc6d42079c0e9a7d3a95d3d023688951da9dee474c2a1dbe6524546df997", func := "meniscus/meniscuslaw05.BathDiffers", spec := "bathDiffers", unfollowed := true, recurses := true, plainKeys := false, apart := false }
def BathDiffersSaid : Prop := bathDiffersRow.holds Try.pinned (OpenSpec.ofChange bathDiffersSpec)

/-- ITS FALSE NEIGHBOUR: 'it returns false'. Refute it at one input. -/
def bathDiffersWrong : ChangeSpec := { name := "bathDiffers", fn := fun _ => fun
  | [d1, d2, d3] => { results := [.lit (.bool false)], args := [d1, d2, d3] }
  | _ => none }
def BathDiffersWrongFalsely : Prop := bathDiffersRow.holds Try.pinned (OpenSpec.ofChange bathDiffersWrong)

/-- 'meniscuslaw05.BathBlames': WHATEVER THE INPUT: true; the input reads as it did. -/
def bathBlamesSpec : ChangeSpec := { name := "bathBlames", fn := fun _ => fun
  | [d] => { results := [.lit (.bool true)], args := [d] }
  | _ => none }
def bathBlamesRow : OpenClaim := { program := "ytnplefhigbkbbaa", sum := "0606dc6d42079c0e9a7d3a95d3d023688951da9dee474c2a1dbe6524546df997", func := "meniscus/meniscuslaw05.BathBlames", spec := "bathBlames", unfollowed := true, recurses := true, plainKeys := false, apart := false }
def BathBlamesSaid : Prop := bathBlamesRow.holds Try.pinned (OpenSpec.ofChange bathBlamesSpec)

/-- ITS FALSE NEIGHBOUR: 'it returns false'. Refute it at one input. -/
def bathBlamesWrong : ChangeSpec := { name := "bathBlames", fn := fun _ => fun
  | [d] => { results := [.lit (.bool false)], args := [d] }
  | _ => none }
def BathBlamesWrongFalsely : Prop := bathBlamesRow.holds Try.pinned (OpenSpec.ofChange bathBlamesWrong)

/-- 'meniscuslaw05.BathPlans': WHATEVER THE INPUT: true; the input reads as it did. -/
def bathPlansSpec : ChangeSpec := { name := "bathPlans", fn := fun _ => fun
  | [d1, d2, d3] => { results := [.lit (.bool true)], args := [d1, d2, d3] }
  | _ => none }
def bathPlansRow : OpenClaim := { program := "ytnplefhigbkbbaa", sum := "0606dc6d42079c0e9a7d3a95d3d023688951da9dee474c2a1dbe6524546df997", func := "meniscus/meniscuslaw05.BathPlans", spec := "bathPlans", unfollowed := true, recurses := true, plainKeys := false, apart := false }
def BathPlansSaid : Prop := bathPlansRow.holds Try.pinned (OpenSpec.ofChange bathPlansSpec)

/-- ITS FALSE NEIGHBOUR: 'it returns false'. Refute it at one input. -/
def bathPlansWrong : ChangeSpec := { name := "bathPlans", fn := fun _ => fun
  | [d1, d2, d3] => { results := [.lit (.bool false)], args := [d1, d2, d3] }
  | _ => none }
def BathPlansWrongFalsely : Prop := bathPlansRow.holds Try.pinned (OpenSpec.ofChange bathPlansWrong)

/-- 'meniscuslaw05.BathEnds': WHATEVER THE INPUT: true; the input reads as it did. -/
def bathEndsSpec : ChangeSpec := { name := "bathEnds", fn := fun _ => fun
  | [d1, d2, d3] => { results := [.lit (.bool true)], args := [d1, d2, d3] }
  | _ => none }
def bathEndsRow : OpenClaim := { program := "ytnplefhigbkbbaa", sum := "0606dc6d42079c0e9a7d3a95d3d023688951da9dee474c2a1dbe6524546df997", func := "meniscus/meniscuslaw05.BathEnds", spec := "bathEnds", unfollowed := true, recurses := true, plainKeys := false, apart := false }
def BathEndsSaid : Prop := bathEndsRow.holds Try.pinned (OpenSpec.ofChange bathEndsSpec)

/-- ITS FALSE NEIGHBOUR: 'it returns false'. Refute it at one input. -/
def bathEndsWrong : ChangeSpec := { name := "bathEnds", fn := fun _ => fun
  | [d1, d2, d3] => { results := [.lit (.bool false)], args := [d1, d2, d3] }
  | _ => none }
def BathEndsWrongFalsely : Prop := bathEndsRow.holds Try.pinned (OpenSpec.ofChange bathEndsWrong)

/-- 'meniscuslaw05.BathMore': WHATEVER THE INPUT: true; the input reads as it did. -/
def bathMoreSpec : ChangeSpec := { name := "bathMore", fn := fun _ => fun
  | [d1, d2, d3] => { results := [.lit (.bool true)], args := [d1, d2, d3] }
  | _ => none }
def bathMoreRow : OpenClaim := { program := "ytnplefhigbkbbaa", sum := "0606dc6d42079c0e9a7d3a95d3d023688951da9dee474c2a1dbe6524546df997", func := "meniscus/meniscuslaw05.BathMore", spec := "bathMore", unfollowed := true, recurses := true, plainKeys := false, apart := false }
def BathMoreSaid : Prop := bathMoreRow.holds Try.pinned (OpenSpec.ofChange bathMoreSpec)

/-- ITS FALSE NEIGHBOUR: 'it returns false'. Refute it at one input. -/
def bathMoreWrong : ChangeSpec := { name := "bathMore", fn := fun _ => fun
  | [d1, d2, d3] => { results := [.lit (.bool false)], args := [d1, d2, d3] }
  | _ => none }
def BathMoreWrongFalsely : Prop := bathMoreRow.holds Try.pinned (OpenSpec.ofChange bathMoreWrong)

/-- 'meniscuslaw05.BathAround': WHATEVER THE INPUT: true; the input reads as it did. -/
def bathAroundSpec : ChangeSpec := { name := "bathAround", fn := fun _ => fun
  | [d1, d2, d3, d4, d5] => { results := [.lit (.bool true)], args := [d1, d2, d3, d4, d5] }
  | _ => none }
def bathAroundRow : OpenClaim := { program := "ytnplefhigbkbbaa", sum := "0606dc6d42079c0e9a7d3a95d3d023688951da9dee474c2a1dbe6524546df997", func := "meniscus/meniscuslaw05.BathAround", spec := "bathAround", unfollowed := true, recurses := true, plainKeys := false, apart := false }
def BathAroundSaid : Prop := bathAroundRow.holds Try.pinned (OpenSpec.ofChange bathAroundSpec)

/-- ITS FALSE NEIGHBOUR: 'it returns false'. Refute it at one input. -/
def bathAroundWrong : ChangeSpec := { name := "bathAround", fn := fun _ => fun
  | [d1, d2, d3, d4, d5] => { results := [.lit (.bool false)], args := [d1, d2, d3, d4, d5] }
  | _ => none }
def BathAroundWrongFalsely : Prop := bathAroundRow.holds Try.pinned (OpenSpec.ofChange bathAroundWrong)

/-- 'meniscuslaw05.BathTogether': WHATEVER THE INPUT: true; the input reads as it did. -/
def bathTogetherSpec : ChangeSpec := { name := "bathTogether", fn := fun _ => fun
  | [d1, d2] => { results := [.lit (.bool true)], args := [d1, d2] }
  | _ => none }
def bathTogetherRow : OpenClaim := { program := "ytnplefhigbkbbaa", sum := "0606dc6d42079c0e9a7d3a95d3d023688951da9dee474c2a1dbe6524546df997", func := "meniscus/meniscuslaw05.BathTogether", spec := "bathTogether", unfollowed := true, recurses := true, plainKeys := false, apart := false }
def BathTogetherSaid : Prop := bathTogetherRow.holds Try.pinned (OpenSpec.ofChange bathTogetherSpec)

/-- ITS FALSE NEIGHBOUR: 'it returns false'. Refute it at one input. -/
def bathTogetherWrong : ChangeSpec := { name := "bathTogether", fn := fun _ => fun
  | [d1, d2] => { results := [.lit (.bool false)], args := [d1, d2] }
  | _ => none }
def BathTogetherWrongFalsely : Prop := bathTogetherRow.holds Try.pinned (OpenSpec.ofChange bathTogetherWrong)

/-- 'meniscuslaw05.BathBlame': WHATEVER THE INPUT: true; the input reads as it did. -/
def bathBlameSpec : ChangeSpec := { name := "bathBlame", fn := fun _ => fun
  | [d1, d2] => { results := [.lit (.bool true)], args := [d1, d2] }
  | _ => none }
def bathBlameRow : OpenClaim := { program := "ytnplefhigbkbbaa", sum := "0606dc6d42079c0e9a7d3a95d3d023688951da9dee474c2a1dbe6524546df997", func := "meniscus/meniscuslaw05.BathBlame", spec := "bathBlame", unfollowed := true, recurses := true, plainKeys := false, apart := false }
def BathBlameSaid : Prop := bathBlameRow.holds Try.pinned (OpenSpec.ofChange bathBlameSpec)

/-- ITS FALSE NEIGHBOUR: 'it returns false'. Refute it at one input. -/
def bathBlameWrong : ChangeSpec := { name := "bathBlame", fn := fun _ => fun
  | [d1, d2] => { results := [.lit (.bool false)], args := [d1, d2] }
  | _ => none }
def BathBlameWrongFalsely : Prop := bathBlameRow.holds Try.pinned (OpenSpec.ofChange bathBlameWrong)

/-- 'meniscuslaw05.BathShifted': WHATEVER THE INPUT: true; the input reads as it did. -/
def bathShiftedSpec : ChangeSpec := { name := "bathShifted", fn := fun _ => fun
  | [d1, d2, d3, d4] => { results := [.lit (.bool true)], args := [d1, d2, d3, d4] }
  | _ => none }
def bathShiftedRow : OpenClaim := { program := "ytnplefhigbkbbaa", sum := "0606dc6d42079c0e9a7d3a95d3d023688951da9dee474c2a1dbe6524546df997", func := "meniscus/meniscuslaw05.BathShifted", spec := "bathShifted", unfollowed := true, recurses := true, plainKeys := false, apart := false }
def BathShiftedSaid : Prop := bathShiftedRow.holds Try.pinned (OpenSpec.ofChange bathShiftedSpec)

/-- ITS FALSE NEIGHBOUR: 'it returns false'. Refute it at one input. -/
def bathShiftedWrong : ChangeSpec := { name := "bathShifted", fn := fun _ => fun
  | [d1, d2, d3, d4] => { results := [.lit (.bool false)], args := [d1, d2, d3, d4] }
  | _ => none }
def BathShiftedWrongFalsely : Prop := bathShiftedRow.holds Try.pinned (OpenSpec.ofChange bathShiftedWrong)

/-- 'meniscuslaw05.BathFewest': WHATEVER THE INPUT: true; the input reads as it did. -/
def bathFewestSpec : ChangeSpec := { name := "bathFewest", fn := fun _ => fun
  | [d1, d2, d3, d4] => { results := [.lit (.bool true)], args := [d1, d2, d3, d4] }
  | _ => none }
def bathFewestRow : OpenClaim := { program := "ytnplefhigbkbbaa", sum := "0606dc6d42079c0e9a7d3a95d3d023688951da9dee474c2a1dbe6524546df997", func := "meniscus/meniscuslaw05.BathFewest", spec := "bathFewest", unfollowed := true, recurses := true, plainKeys := false, apart := false }
def BathFewestSaid : Prop := bathFewestRow.holds Try.pinned (OpenSpec.ofChange bathFewestSpec)

/-- ITS FALSE NEIGHBOUR: 'it returns false'. Refute it at one input. -/
def bathFewestWrong : ChangeSpec := { name := "bathFewest", fn := fun _ => fun
  | [d1, d2, d3, d4] => { results := [.lit (.bool false)], args := [d1, d2, d3, d4] }
  | _ => none }
def BathFewestWrongFalsely : Prop := bathFewestRow.holds Try.pinned (OpenSpec.ofChange bathFewestWrong)

/-- 'meniscuslaw05.BathKnows': WHATEVER THE INPUT: true; the input reads as it did. -/
def bathKnowsSpec : ChangeSpec := { name := "bathKnows", fn := fun _ => fun
  | [d1, d2] => { results := [.lit (.bool true)], args := [d1, d2] }
  | _ => none }
def bathKnowsRow : OpenClaim := { program := "ytnplefhigbkbbaa", sum := "0606dc6d42079c0e9a7d3a95d3d023688951da9dee474c2a1dbe6524546df997", func := "meniscus/meniscuslaw05.BathKnows", spec := "bathKnows", unfollowed := true, recurses := true, plainKeys := false, apart := false }
def BathKnowsSaid : Prop := bathKnowsRow.holds Try.pinned (OpenSpec.ofChange bathKnowsSpec)

/-- ITS FALSE NEIGHBOUR: 'it returns false'. Refute it at one input. -/
def bathKnowsWrong : ChangeSpec := { name := "bathKnows", fn := fun _ => fun
  | [d1, d2] => { results := [.lit (.bool false)], args := [d1, d2] }
  | _ => none }
def BathKnowsWrongFalsely : Prop := bathKnowsRow.holds Try.pinned (OpenSpec.ofChange bathKnowsWrong)

/-- 'meniscuslaw05.BathSteps': WHATEVER THE INPUT: true; the input reads as it did. -/
def bathStepsSpec : ChangeSpec := { name := "bathSteps", fn := fun _ => fun
  | [d1, d2, d3, d4] => { results := [.lit (.bool true)], args := [d1, d2, d3, d4] }
  | _ => none }
def bathStepsRow : OpenClaim := { program := "ytnplefhigbkbbaa", sum := "0606dc6d42079c0e9a7d3a95d3d023688951da9dee474c2a1dbe6524546df997", func := "meniscus/meniscuslaw05.BathSteps", spec := "bathSteps", unfollowed := true, recurses := true, plainKeys := false, apart := false }
def BathStepsSaid : Prop := bathStepsRow.holds Try.pinned (OpenSpec.ofChange bathStepsSpec)

/-- ITS FALSE NEIGHBOUR: 'it returns false'. Refute it at one input. -/
def bathStepsWrong : ChangeSpec := { name := "bathSteps", fn := fun _ => fun
  | [d1, d2, d3, d4] => { results := [.lit (.bool false)], args := [d1, d2, d3, d4] }
  | _ => none }
def BathStepsWrongFalsely : Prop := bathStepsRow.holds Try.pinned (OpenSpec.ofChange bathStepsWrong)

/-- 'meniscuslaw05.BathProves': WHATEVER THE INPUT: true; the input reads as it did. -/
def bathProvesSpec : ChangeSpec := { name := "bathProves", fn := fun _ => fun
  | [d1, d2, d3] => { results := [.lit (.bool true)], args := [d1, d2, d3] }
  | _ => none }
def bathProvesRow : OpenClaim := { program := "ytnplefhigbkbbaa", sum := "0606dc6d42079c0e9a7d3a95d3d023688951da9dee474c2a1dbe6524546df997", func := "meniscus/meniscuslaw05.BathProves", spec := "bathProves", unfollowed := true, recurses := true, plainKeys := false, apart := false }
def BathProvesSaid : Prop := bathProvesRow.holds Try.pinned (OpenSpec.ofChange bathProvesSpec)

/-- ITS FALSE NEIGHBOUR: 'it returns false'. Refute it at one input. -/
def bathProvesWrong : ChangeSpec := { name := "bathProves", fn := fun _ => fun
  | [d1, d2, d3] => { results := [.lit (.bool false)], args := [d1, d2, d3] }
  | _ => none }
def BathProvesWrongFalsely : Prop := bathProvesRow.holds Try.pinned (OpenSpec.ofChange bathProvesWrong)

/-- 'meniscuslaw05.BathTruth': WHATEVER THE INPUT: true; the input reads as it did. -/
def bathTruthSpec : ChangeSpec := { name := "bathTruth", fn := fun _ => fun
  | [d1, d2] => { results := [.lit (.bool true)], args := [d1, d2] }
  | _ => none }
def bathTruthRow : OpenClaim := { program := "ytnplefhigbkbbaa", sum := "0606dc6d42079c0e9a7d3a95d3d023688951da9dee474c2a1dbe6524546df997", func := "meniscus/meniscuslaw05.BathTruth", spec := "bathTruth", unfollowed := true, recurses := true, plainKeys := false, apart := false }
def BathTruthSaid : Prop := bathTruthRow.holds Try.pinned (OpenSpec.ofChange bathTruthSpec)

/-- ITS FALSE NEIGHBOUR: 'it returns false'. Refute it at one input. -/
def bathTruthWrong : ChangeSpec := { name := "bathTruth", fn := fun _ => fun
  | [d1, d2] => { results := [.lit (.bool false)], args := [d1, d2] }
  | _ => none }
def BathTruthWrongFalsely : Prop := bathTruthRow.holds Try.pinned (OpenSpec.ofChange bathTruthWrong)

/-- 'meniscuslaw05.BathNames': WHATEVER THE INPUT: true; the input reads as it did. -/
def bathNamesSpec : ChangeSpec := { name := "bathNames", fn := fun _ => fun
  | [] => { results := [.lit (.bool true)], args := [] }
  | _ => none }
def bathNamesRow : OpenClaim := { program := "ytnplefhigbkbbaa", sum := "0606dc6d42079c0e9a7d3a95d3d023688951da9dee474c2a1dbe6524546df997", func := "meniscus/meniscuslaw05.BathNames", spec := "bathNames", unfollowed := true, recurses := true, plainKeys := false, apart := false }
def BathNamesSaid : Prop := bathNamesRow.holds Try.pinned (OpenSpec.ofChange bathNamesSpec)

/-- ITS FALSE NEIGHBOUR: 'it returns false'. Refute it at one input. -/
def bathNamesWrong : ChangeSpec := { name := "bathNames", fn := fun _ => fun
  | [] => { results := [.lit (.bool false)], args := [] }
  | _ => none }
def BathNamesWrongFalsely : Prop := bathNamesRow.holds Try.pinned (OpenSpec.ofChange bathNamesWrong)

/- THE SECOND FORM. 'bulk': how many values and letters a reading holds, each counted each time it is reached (what is shared counts as often as it is met; a slice's spare places count too). A statement '..UptoSaid' is the law's where the arguments, and the package variables that the reading takes, are together of bulk at most 1048576: NARROWER than '..Said'. Prove '..Said' where nothing that the law and all that it calls make is longer than what came in: it says more and counts as full. Else prove '..UptoSaid'. A law counts once. -/
mutual
def uptoBulk {H : Type} : DataW H → Nat
  | .lit (.string bytes) => bytes.length + 1
  | .lit _ => 1
  | .nil => 1
  | .ptr d => uptoBulk d + 1
  | .slice elems spare => uptoBulkAll elems + uptoBulkAll spare + 1
  | .agg parts => uptoBulkAll parts + 1
  | .iface _ d => uptoBulk d + 1
  | .map entries => uptoBulkEntries entries + 1
  | .held _ => 1
def uptoBulkAll {H : Type} : List (DataW H) → Nat
  | [] => 0
  | d :: r => uptoBulk d + uptoBulkAll r
def uptoBulkEntries {H : Type} : List (Lit × DataW H) → Nat
  | [] => 0
  | x :: r => uptoBulkEntry x + uptoBulkEntries r
def uptoBulkEntry {H : Type} : Lit × DataW H → Nat
  | (.string bytes, d) => bytes.length + uptoBulk d + 1
  | (_, d) => uptoBulk d + 1
 end
def uptoSmall : (H : Type) → List (DataW H) → Bool := fun _ ds => decide (uptoBulkAll ds ≤ 1048576)
def OpenSpec.upto (s : _root_.Go.ChangeSpec) : _root_.Go.OpenSpec := { _root_.Go.OpenSpec.ofChange s with cond := some uptoSmall }

/-- 'meniscuslaw05.BathOffsets', WHERE WHAT IT READS IS OF BULK AT MOST 1048576: true; the input reads as it did. -/
def bathOffsetsUptoRow : OpenClaim := { program := "ytnplefhigbkbbaa", sum := "0606dc6d42079c0e9a7d3a95d3d023688951da9dee474c2a1dbe6524546df997", func := "meniscus/meniscuslaw05.BathOffsets", spec := "bathOffsets", unfollowed := true, recurses := true, plainKeys := false, apart := false, narrowed := true }
def BathOffsetsUptoSaid : Prop := bathOffsetsUptoRow.holds Try.pinned (OpenSpec.upto bathOffsetsSpec)

/-- 'meniscuslaw05.BathDiffers', WHERE WHAT IT READS IS OF BULK AT MOST 1048576: true; the input reads as it did. -/
def bathDiffersUptoRow : OpenClaim := { program := "ytnplefhigbkbbaa", sum := "0606dc6d42079c0e9a7d3a95d3d023688951da9dee474c2a1dbe6524546df997", func := "meniscus/meniscuslaw05.BathDiffers", spec := "bathDiffers", unfollowed := true, recurses := true, plainKeys := false, apart := false, narrowed := true }
def BathDiffersUptoSaid : Prop := bathDiffersUptoRow.holds Try.pinned (OpenSpec.upto bathDiffersSpec)

/-- 'meniscuslaw05.BathBlames', WHERE WHAT IT READS IS OF BULK AT MOST 1048576: true; the input reads as it did. -/
def bathBlamesUptoRow : OpenClaim := { program := "ytnplefhigbkbbaa", sum := "0606dc6d42079c0e9a7d3a95d3d023688951da9dee474c2a1dbe6524546df997", func := "meniscus/meniscuslaw05.BathBlames", spec := "bathBlames", unfollowed := true, recurses := true, plainKeys := false, apart := false, narrowed := true }
def BathBlamesUptoSaid : Prop := bathBlamesUptoRow.holds Try.pinned (OpenSpec.upto bathBlamesSpec)

/-- 'meniscuslaw05.BathPlans', WHERE WHAT IT READS IS OF BULK AT MOST 1048576: true; the input reads as it did. -/
def bathPlansUptoRow : OpenClaim := { program := "ytnplefhigbkbbaa", sum := "0606dc6d42079c0e9a7d3a95d3d023688951da9dee474c2a1dbe6524546df997", func := "meniscus/meniscuslaw05.BathPlans", spec := "bathPlans", unfollowed := true, recurses := true, plainKeys := false, apart := false, narrowed := true }
def BathPlansUptoSaid : Prop := bathPlansUptoRow.holds Try.pinned (OpenSpec.upto bathPlansSpec)

/-- 'meniscuslaw05.BathEnds', WHERE WHAT IT READS IS OF BULK AT MOST 1048576: true; the input reads as it did. -/
def bathEndsUptoRow : OpenClaim := { program := "ytnplefhigbkbbaa", sum := "0606dc6d42079c0e9a7d3a95d3d023688951da9dee474c2a1dbe6524546df997", func := "meniscus/meniscuslaw05.BathEnds", spec := "bathEnds", unfollowed := true, recurses := true, plainKeys := false, apart := false, narrowed := true }
def BathEndsUptoSaid : Prop := bathEndsUptoRow.holds Try.pinned (OpenSpec.upto bathEndsSpec)

/-- 'meniscuslaw05.BathMore', WHERE WHAT IT READS IS OF BULK AT MOST 1048576: true; the input reads as it did. -/
def bathMoreUptoRow : OpenClaim := { program := "ytnplefhigbkbbaa", sum := "0606dc6d42079c0e9a7d3a95d3d023688951da9dee474c2a1dbe6524546df997", func := "meniscus/meniscuslaw05.BathMore", spec := "bathMore", unfollowed := true, recurses := true, plainKeys := false, apart := false, narrowed := true }
def BathMoreUptoSaid : Prop := bathMoreUptoRow.holds Try.pinned (OpenSpec.upto bathMoreSpec)

/-- 'meniscuslaw05.BathAround', WHERE WHAT IT READS IS OF BULK AT MOST 1048576: true; the input reads as it did. -/
def bathAroundUptoRow : OpenClaim := { program := "ytnplefhigbkbbaa", sum := "0606dc6d42079c0e9a7d3a95d3d023688951da9dee474c2a1dbe6524546df997", func := "meniscus/meniscuslaw05.BathAround", spec := "bathAround", unfollowed := true, recurses := true, plainKeys := false, apart := false, narrowed := true }
def BathAroundUptoSaid : Prop := bathAroundUptoRow.holds Try.pinned (OpenSpec.upto bathAroundSpec)

/-- 'meniscuslaw05.BathTogether', WHERE WHAT IT READS IS OF BULK AT MOST 1048576: true; the input reads as it did. -/
def bathTogetherUptoRow : OpenClaim := { program := "ytnplefhigbkbbaa", sum := "0606dc6d42079c0e9a7d3a95d3d023688951da9dee474c2a1dbe6524546df997", func := "meniscus/meniscuslaw05.BathTogether", spec := "bathTogether", unfollowed := true, recurses := true, plainKeys := false, apart := false, narrowed := true }
def BathTogetherUptoSaid : Prop := bathTogetherUptoRow.holds Try.pinned (OpenSpec.upto bathTogetherSpec)

/-- 'meniscuslaw05.BathBlame', WHERE WHAT IT READS IS OF BULK AT MOST 1048576: true; the input reads as it did. -/
def bathBlameUptoRow : OpenClaim := { program := "ytnplefhigbkbbaa", sum := "0606dc6d42079c0e9a7d3a95d3d023688951da9dee474c2a1dbe6524546df997", func := "meniscus/meniscuslaw05.BathBlame", spec := "bathBlame", unfollowed := true, recurses := true, plainKeys := false, apart := false, narrowed := true }
def BathBlameUptoSaid : Prop := bathBlameUptoRow.holds Try.pinned (OpenSpec.upto bathBlameSpec)

/-- 'meniscuslaw05.BathShifted', WHERE WHAT IT READS IS OF BULK AT MOST 1048576: true; the input reads as it did. -/
def bathShiftedUptoRow : OpenClaim := { program := "ytnplefhigbkbbaa", sum := "0606dc6d42079c0e9a7d3a95d3d023688951da9dee474c2a1dbe6524546df997", func := "meniscus/meniscuslaw05.BathShifted", spec := "bathShifted", unfollowed := true, recurses := true, plainKeys := false, apart := false, narrowed := true }
def BathShiftedUptoSaid : Prop := bathShiftedUptoRow.holds Try.pinned (OpenSpec.upto bathShiftedSpec)

/-- 'meniscuslaw05.BathFewest', WHERE WHAT IT READS IS OF BULK AT MOST 1048576: true; the input reads as it did. -/
def bathFewestUptoRow : OpenClaim := { program := "ytnplefhigbkbbaa", sum := "0606dc6d42079c0e9a7d3a95d3d023688951da9dee474c2a1dbe6524546df997", func := "meniscus/meniscuslaw05.BathFewest", spec := "bathFewest", unfollowed := true, recurses := true, plainKeys := false, apart := false, narrowed := true }
def BathFewestUptoSaid : Prop := bathFewestUptoRow.holds Try.pinned (OpenSpec.upto bathFewestSpec)

/-- 'meniscuslaw05.BathKnows', WHERE WHAT IT READS IS OF BULK AT MOST 1048576: true; the input reads as it did. -/
def bathKnowsUptoRow : OpenClaim := { program := "ytnplefhigbkbbaa", sum := "0606dc6d42079c0e9a7d3a95d3d023688951da9dee474c2a1dbe6524546df997", func := "meniscus/meniscuslaw05.BathKnows", spec := "bathKnows", unfollowed := true, recurses := true, plainKeys := false, apart := false, narrowed := true }
def BathKnowsUptoSaid : Prop := bathKnowsUptoRow.holds Try.pinned (OpenSpec.upto bathKnowsSpec)

/-- 'meniscuslaw05.BathSteps', WHERE WHAT IT READS IS OF BULK AT MOST 1048576: true; the input reads as it did. -/
def bathStepsUptoRow : OpenClaim := { program := "ytnplefhigbkbbaa", sum := "0606dc6d42079c0e9a7d3a95d3d023688951da9dee474c2a1dbe6524546df997", func := "meniscus/meniscuslaw05.BathSteps", spec := "bathSteps", unfollowed := true, recurses := true, plainKeys := false, apart := false, narrowed := true }
def BathStepsUptoSaid : Prop := bathStepsUptoRow.holds Try.pinned (OpenSpec.upto bathStepsSpec)

/-- 'meniscuslaw05.BathProves', WHERE WHAT IT READS IS OF BULK AT MOST 1048576: true; the input reads as it did. -/
def bathProvesUptoRow : OpenClaim := { program := "ytnplefhigbkbbaa", sum := "0606dc6d42079c0e9a7d3a95d3d023688951da9dee474c2a1dbe6524546df997", func := "meniscus/meniscuslaw05.BathProves", spec := "bathProves", unfollowed := true, recurses := true, plainKeys := false, apart := false, narrowed := true }
def BathProvesUptoSaid : Prop := bathProvesUptoRow.holds Try.pinned (OpenSpec.upto bathProvesSpec)

/-- 'meniscuslaw05.BathTruth', WHERE WHAT IT READS IS OF BULK AT MOST 1048576: true; the input reads as it did. -/
def bathTruthUptoRow : OpenClaim := { program := "ytnplefhigbkbbaa", sum := "0606dc6d42079c0e9a7d3a95d3d023688951da9dee474c2a1dbe6524546df997", func := "meniscus/meniscuslaw05.BathTruth", spec := "bathTruth", unfollowed := true, recurses := true, plainKeys := false, apart := false, narrowed := true }
def BathTruthUptoSaid : Prop := bathTruthUptoRow.holds Try.pinned (OpenSpec.upto bathTruthSpec)

/-- 'meniscuslaw05.BathNames', WHERE WHAT IT READS IS OF BULK AT MOST 1048576: true; the input reads as it did. -/
def bathNamesUptoRow : OpenClaim := { program := "ytnplefhigbkbbaa", sum := "0606dc6d42079c0e9a7d3a95d3d023688951da9dee474c2a1dbe6524546df997", func := "meniscus/meniscuslaw05.BathNames", spec := "bathNames", unfollowed := true, recurses := true, plainKeys := false, apart := false, narrowed := true }
def BathNamesUptoSaid : Prop := bathNamesUptoRow.holds Try.pinned (OpenSpec.upto bathNamesSpec)

end Rows
end Go.Proofs.Ytnplefhigbkbbaa

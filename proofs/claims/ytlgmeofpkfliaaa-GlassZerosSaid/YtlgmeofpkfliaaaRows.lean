/-
  No cell of these rows narrows 'for every input' (looked for: loops, veiled, ifaces, maps, wideKeys, modest, calm, conditions, laid).
  DERIVED. THE GIVEN ROWS OF THIS SEAT. 14 by the template 'for every input the law returns true; each argument reads behind the call as it read before'; 0 by the template 'total and deterministic' (their statements: YtlgmeofpkfliaaaTotals.lean).
  GIVEN WITH THE SEED: the statements are not yours to turn. If you find one false, say at which input.
  Laid BY PROGRAM, IN A SANDBOX (cutbox-rows.mjs): the forced cells as the released guide's own fill.sh prints them over the translation 4b32c71bf960b4ee… (all of the seat's roots in one cut). By AI agents, Wed Nov 11 2026. No macro, syntax, notation, axiom, sorry.
-/
import Derived.Test.YtlgmeofpkfliaaaChecked
import GoSem.Claim
import GoSem.ClaimJoined
import GoSem.ClaimMapViews
import Derived.JoinedTies
import Derived.KernelRfl
namespace Go.Proofs.Ytlgmeofpkfliaaa
/- THE CELL 'sum', in the pinned program and in every row, IS THE sha256 OF THE DUMP (.gsa) THAT YtlgmeofpkfliaaaProg.lean LOADS. Nothing in Lean hashes anything: it is a label: what it is worth is what the hold of that sum in a sandbox is worth. -/
noncomputable def Try.pinned : Pinned := { name := "ytlgmeofpkfliaaa", sum := "4b32c71bf960b4eeba8cf762def3125912e7c8adaa0c3d017313de1d246cfbf3", checked := Try.checked }
namespace Rows
def none {H : Type} : Left H := { results := [], args := [] }

/-- 'meniscuslaw02.GlassShows': WHATEVER THE INPUT: true; the input reads as it did. -/
def glassShowsSpec : ChangeSpec := { name := "glassShows", fn := fun _ => fun
  | [d1, d2, d3] => { results := [.lit (.bool true)], args := [d1, d2, d3] }
  | _ => none }
def glassShowsRow : OpenClaim := { program := "ytlgmeofpkfliaaa", sum := "4b32c71bf960b4eeba8cf762def3125912e7c8adaa0c3d017313de1d246cfbf3", func := "meniscus/meniscuslaw02.GlassShows", spec := "glassShows", unfollowed := true, recurses := true, plainKeys := false, apart := false }
def GlassShowsSaid : Prop := glassShowsRow.holds Try.pinned (OpenSpec.ofChange glassShowsSpec)

/-- ITS FALSE NEIGHBOUR: 'it returns false'. Refute it at one input. -/
def glassShowsWrong : ChangeSpec := { name := "glassShows", fn := fun _ => fun
  | [d1, d2, d3] => { results := [.lit (.bool false)], args := [d1, d2, d3] }
  | _ => none }
def GlassShowsWrongFalsely : Prop := glassShowsRow.holds Try.pinned (OpenSpec.ofChange glassShowsWrong)

/-- 'meniscuslaw02.GlassHolds': WHATEVER THE INPUT: true; the input reads as it did. -/
def glassHoldsSpec : ChangeSpec := { name := "glassHolds", fn := fun _ => fun
  | [d1, d2, d3, d4, d5] => { results := [.lit (.bool true)], args := [d1, d2, d3, d4, d5] }
  | _ => none }
def glassHoldsRow : OpenClaim := { program := "ytlgmeofpkfliaaa", sum := "4b32c71bf960b4eeba8cf762def3125912e7c8adaa0c3d017313de1d246cfbf3", func := "meniscus/meniscuslaw02.GlassHolds", spec := "glassHolds", unfollowed := true, recurses := true, plainKeys := false, apart := false }
def GlassHoldsSaid : Prop := glassHoldsRow.holds Try.pinned (OpenSpec.ofChange glassHoldsSpec)

/-- ITS FALSE NEIGHBOUR: 'it returns false'. Refute it at one input. -/
def glassHoldsWrong : ChangeSpec := { name := "glassHolds", fn := fun _ => fun
  | [d1, d2, d3, d4, d5] => { results := [.lit (.bool false)], args := [d1, d2, d3, d4, d5] }
  | _ => none }
def GlassHoldsWrongFalsely : Prop := glassHoldsRow.holds Try.pinned (OpenSpec.ofChange glassHoldsWrong)

/-- 'meniscuslaw02.GlassEnds': WHATEVER THE INPUT: true; the input reads as it did. -/
def glassEndsSpec : ChangeSpec := { name := "glassEnds", fn := fun _ => fun
  | [d1, d2, d3, d4, d5] => { results := [.lit (.bool true)], args := [d1, d2, d3, d4, d5] }
  | _ => none }
def glassEndsRow : OpenClaim := { program := "ytlgmeofpkfliaaa", sum := "4b32c71bf960b4eeba8cf762def3125912e7c8adaa0c3d017313de1d246cfbf3", func := "meniscus/meniscuslaw02.GlassEnds", spec := "glassEnds", unfollowed := true, recurses := true, plainKeys := false, apart := false }
def GlassEndsSaid : Prop := glassEndsRow.holds Try.pinned (OpenSpec.ofChange glassEndsSpec)

/-- ITS FALSE NEIGHBOUR: 'it returns false'. Refute it at one input. -/
def glassEndsWrong : ChangeSpec := { name := "glassEnds", fn := fun _ => fun
  | [d1, d2, d3, d4, d5] => { results := [.lit (.bool false)], args := [d1, d2, d3, d4, d5] }
  | _ => none }
def GlassEndsWrongFalsely : Prop := glassEndsRow.holds Try.pinned (OpenSpec.ofChange glassEndsWrong)

/-- 'meniscuslaw02.GlassMore': WHATEVER THE INPUT: true; the input reads as it did. -/
def glassMoreSpec : ChangeSpec := { name := "glassMore", fn := fun _ => fun
  | [d1, d2, d3, d4, d5, d6, d7] => { results := [.lit (.bool true)], args := [d1, d2, d3, d4, d5, d6, d7] }
  | _ => none }
def glassMoreRow : OpenClaim := { program := "ytlgmeofpkfliaaa", sum := "4b32c71bf960b4eeba8cf762def3125912e7c8adaa0c3d017313de1d246cfbf3", func := "meniscus/meniscuslaw02.GlassMore", spec := "glassMore", unfollowed := true, recurses := true, plainKeys := false, apart := false }
def GlassMoreSaid : Prop := glassMoreRow.holds Try.pinned (OpenSpec.ofChange glassMoreSpec)

/-- ITS FALSE NEIGHBOUR: 'it returns false'. Refute it at one input. -/
def glassMoreWrong : ChangeSpec := { name := "glassMore", fn := fun _ => fun
  | [d1, d2, d3, d4, d5, d6, d7] => { results := [.lit (.bool false)], args := [d1, d2, d3, d4, d5, d6, d7] }
  | _ => none }
def GlassMoreWrongFalsely : Prop := glassMoreRow.holds Try.pinned (OpenSpec.ofChange glassMoreWrong)

/-- 'meniscuslaw02.GlassLonger': WHATEVER THE INPUT: true; the input reads as it did. -/
def glassLongerSpec : ChangeSpec := { name := "glassLonger", fn := fun _ => fun
  | [d1, d2, d3, d4, d5] => { results := [.lit (.bool true)], args := [d1, d2, d3, d4, d5] }
  | _ => none }
def glassLongerRow : OpenClaim := { program := "ytlgmeofpkfliaaa", sum := "4b32c71bf960b4eeba8cf762def3125912e7c8adaa0c3d017313de1d246cfbf3", func := "meniscus/meniscuslaw02.GlassLonger", spec := "glassLonger", unfollowed := true, recurses := true, plainKeys := false, apart := false }
def GlassLongerSaid : Prop := glassLongerRow.holds Try.pinned (OpenSpec.ofChange glassLongerSpec)

/-- ITS FALSE NEIGHBOUR: 'it returns false'. Refute it at one input. -/
def glassLongerWrong : ChangeSpec := { name := "glassLonger", fn := fun _ => fun
  | [d1, d2, d3, d4, d5] => { results := [.lit (.bool false)], args := [d1, d2, d3, d4, d5] }
  | _ => none }
def GlassLongerWrongFalsely : Prop := glassLongerRow.holds Try.pinned (OpenSpec.ofChange glassLongerWrong)

/-- 'meniscuslaw02.GlassHigher': WHATEVER THE INPUT: true; the input reads as it did. -/
def glassHigherSpec : ChangeSpec := { name := "glassHigher", fn := fun _ => fun
  | [d1, d2, d3, d4, d5, d6] => { results := [.lit (.bool true)], args := [d1, d2, d3, d4, d5, d6] }
  | _ => none }
def glassHigherRow : OpenClaim := { program := "ytlgmeofpkfliaaa", sum := "4b32c71bf960b4eeba8cf762def3125912e7c8adaa0c3d017313de1d246cfbf3", func := "meniscus/meniscuslaw02.GlassHigher", spec := "glassHigher", unfollowed := true, recurses := true, plainKeys := false, apart := false }
def GlassHigherSaid : Prop := glassHigherRow.holds Try.pinned (OpenSpec.ofChange glassHigherSpec)

/-- ITS FALSE NEIGHBOUR: 'it returns false'. Refute it at one input. -/
def glassHigherWrong : ChangeSpec := { name := "glassHigher", fn := fun _ => fun
  | [d1, d2, d3, d4, d5, d6] => { results := [.lit (.bool false)], args := [d1, d2, d3, d4, d5, d6] }
  | _ => none }
def GlassHigherWrongFalsely : Prop := glassHigherRow.holds Try.pinned (OpenSpec.ofChange glassHigherWrong)

/-- 'meniscuslaw02.GlassBlames': WHATEVER THE INPUT: true; the input reads as it did. -/
def glassBlamesSpec : ChangeSpec := { name := "glassBlames", fn := fun _ => fun
  | [d1, d2, d3] => { results := [.lit (.bool true)], args := [d1, d2, d3] }
  | _ => none }
def glassBlamesRow : OpenClaim := { program := "ytlgmeofpkfliaaa", sum := "4b32c71bf960b4eeba8cf762def3125912e7c8adaa0c3d017313de1d246cfbf3", func := "meniscus/meniscuslaw02.GlassBlames", spec := "glassBlames", unfollowed := true, recurses := true, plainKeys := false, apart := false }
def GlassBlamesSaid : Prop := glassBlamesRow.holds Try.pinned (OpenSpec.ofChange glassBlamesSpec)

/-- ITS FALSE NEIGHBOUR: 'it returns false'. Refute it at one input. -/
def glassBlamesWrong : ChangeSpec := { name := "glassBlames", fn := fun _ => fun
  | [d1, d2, d3] => { results := [.lit (.bool false)], args := [d1, d2, d3] }
  | _ => none }
def GlassBlamesWrongFalsely : Prop := glassBlamesRow.holds Try.pinned (OpenSpec.ofChange glassBlamesWrong)

/-- 'meniscuslaw02.GlassFalse': WHATEVER THE INPUT: true; the input reads as it did. -/
def glassFalseSpec : ChangeSpec := { name := "glassFalse", fn := fun _ => fun
  | [d1, d2, d3, d4, d5] => { results := [.lit (.bool true)], args := [d1, d2, d3, d4, d5] }
  | _ => none }
def glassFalseRow : OpenClaim := { program := "ytlgmeofpkfliaaa", sum := "4b32c71bf960b4eeba8cf762def3125912e7c8adaa0c3d017313de1d246cfbf3", func := "meniscus/meniscuslaw02.GlassFalse", spec := "glassFalse", unfollowed := true, recurses := true, plainKeys := false, apart := false }
def GlassFalseSaid : Prop := glassFalseRow.holds Try.pinned (OpenSpec.ofChange glassFalseSpec)

/-- ITS FALSE NEIGHBOUR: 'it returns false'. Refute it at one input. -/
def glassFalseWrong : ChangeSpec := { name := "glassFalse", fn := fun _ => fun
  | [d1, d2, d3, d4, d5] => { results := [.lit (.bool false)], args := [d1, d2, d3, d4, d5] }
  | _ => none }
def GlassFalseWrongFalsely : Prop := glassFalseRow.holds Try.pinned (OpenSpec.ofChange glassFalseWrong)

/-- 'meniscuslaw02.GlassPlays': WHATEVER THE INPUT: true; the input reads as it did. -/
def glassPlaysSpec : ChangeSpec := { name := "glassPlays", fn := fun _ => fun
  | [d1, d2, d3] => { results := [.lit (.bool true)], args := [d1, d2, d3] }
  | _ => none }
def glassPlaysRow : OpenClaim := { program := "ytlgmeofpkfliaaa", sum := "4b32c71bf960b4eeba8cf762def3125912e7c8adaa0c3d017313de1d246cfbf3", func := "meniscus/meniscuslaw02.GlassPlays", spec := "glassPlays", unfollowed := true, recurses := true, plainKeys := false, apart := false }
def GlassPlaysSaid : Prop := glassPlaysRow.holds Try.pinned (OpenSpec.ofChange glassPlaysSpec)

/-- ITS FALSE NEIGHBOUR: 'it returns false'. Refute it at one input. -/
def glassPlaysWrong : ChangeSpec := { name := "glassPlays", fn := fun _ => fun
  | [d1, d2, d3] => { results := [.lit (.bool false)], args := [d1, d2, d3] }
  | _ => none }
def GlassPlaysWrongFalsely : Prop := glassPlaysRow.holds Try.pinned (OpenSpec.ofChange glassPlaysWrong)

/-- 'meniscuslaw02.GlassAlone': WHATEVER THE INPUT: true; the input reads as it did. -/
def glassAloneSpec : ChangeSpec := { name := "glassAlone", fn := fun _ => fun
  | [d1, d2] => { results := [.lit (.bool true)], args := [d1, d2] }
  | _ => none }
def glassAloneRow : OpenClaim := { program := "ytlgmeofpkfliaaa", sum := "4b32c71bf960b4eeba8cf762def3125912e7c8adaa0c3d017313de1d246cfbf3", func := "meniscus/meniscuslaw02.GlassAlone", spec := "glassAlone", unfollowed := true, recurses := true, plainKeys := false, apart := false }
def GlassAloneSaid : Prop := glassAloneRow.holds Try.pinned (OpenSpec.ofChange glassAloneSpec)

/-- ITS FALSE NEIGHBOUR: 'it returns false'. Refute it at one input. -/
def glassAloneWrong : ChangeSpec := { name := "glassAlone", fn := fun _ => fun
  | [d1, d2] => { results := [.lit (.bool false)], args := [d1, d2] }
  | _ => none }
def GlassAloneWrongFalsely : Prop := glassAloneRow.holds Try.pinned (OpenSpec.ofChange glassAloneWrong)

/-- 'meniscuslaw02.GlassMemory': WHATEVER THE INPUT: true; the input reads as it did. -/
def glassMemorySpec : ChangeSpec := { name := "glassMemory", fn := fun _ => fun
  | [d1, d2, d3, d4] => { results := [.lit (.bool true)], args := [d1, d2, d3, d4] }
  | _ => none }
def glassMemoryRow : OpenClaim := { program := "ytlgmeofpkfliaaa", sum := "4b32c71bf960b4eeba8cf762def3125912e7c8adaa0c3d017313de1d246cfbf3", func := "meniscus/meniscuslaw02.GlassMemory", spec := "glassMemory", unfollowed := true, recurses := true, plainKeys := false, apart := false }
def GlassMemorySaid : Prop := glassMemoryRow.holds Try.pinned (OpenSpec.ofChange glassMemorySpec)

/-- ITS FALSE NEIGHBOUR: 'it returns false'. Refute it at one input. -/
def glassMemoryWrong : ChangeSpec := { name := "glassMemory", fn := fun _ => fun
  | [d1, d2, d3, d4] => { results := [.lit (.bool false)], args := [d1, d2, d3, d4] }
  | _ => none }
def GlassMemoryWrongFalsely : Prop := glassMemoryRow.holds Try.pinned (OpenSpec.ofChange glassMemoryWrong)

/-- 'meniscuslaw02.GlassZeros': WHATEVER THE INPUT: true; the input reads as it did. -/
def glassZerosSpec : ChangeSpec := { name := "glassZeros", fn := fun _ => fun
  | [d1, d2, d3, d4] => { results := [.lit (.bool true)], args := [d1, d2, d3, d4] }
  | _ => none }
def glassZerosRow : OpenClaim := { program := "ytlgmeofpkfliaaa", sum := "4b32c71bf960b4eeba8cf762def3125912e7c8adaa0c3d017313de1d246cfbf3", func := "meniscus/meniscuslaw02.GlassZeros", spec := "glassZeros", unfollowed := true, recurses := true, plainKeys := false, apart := false }
def GlassZerosSaid : Prop := glassZerosRow.holds Try.pinned (OpenSpec.ofChange glassZerosSpec)

/-- ITS FALSE NEIGHBOUR: 'it returns false'. Refute it at one input. -/
def glassZerosWrong : ChangeSpec := { name := "glassZeros", fn := fun _ => fun
  | [d1, d2, d3, d4] => { results := [.lit (.bool false)], args := [d1, d2, d3, d4] }
  | _ => none }
def GlassZerosWrongFalsely : Prop := glassZerosRow.holds Try.pinned (OpenSpec.ofChange glassZerosWrong)

/-- 'meniscuslaw02.GlassTruth': WHATEVER THE INPUT: true; the input reads as it did. -/
def glassTruthSpec : ChangeSpec := { name := "glassTruth", fn := fun _ => fun
  | [d1, d2, d3, d4] => { results := [.lit (.bool true)], args := [d1, d2, d3, d4] }
  | _ => none }
def glassTruthRow : OpenClaim := { program := "ytlgmeofpkfliaaa", sum := "4b32c71bf960b4eeba8cf762def3125912e7c8adaa0c3d017313de1d246cfbf3", func := "meniscus/meniscuslaw02.GlassTruth", spec := "glassTruth", unfollowed := true, recurses := true, plainKeys := false, apart := false }
def GlassTruthSaid : Prop := glassTruthRow.holds Try.pinned (OpenSpec.ofChange glassTruthSpec)

/-- ITS FALSE NEIGHBOUR: 'it returns false'. Refute it at one input. -/
def glassTruthWrong : ChangeSpec := { name := "glassTruth", fn := fun _ => fun
  | [d1, d2, d3, d4] => { results := [.lit (.bool false)], args := [d1, d2, d3, d4] }
  | _ => none }
def GlassTruthWrongFalsely : Prop := glassTruthRow.holds Try.pinned (OpenSpec.ofChange glassTruthWrong)

/-- 'meniscuslaw02.GlassNames': WHATEVER THE INPUT: true; the input reads as it did. -/
def glassNamesSpec : ChangeSpec := { name := "glassNames", fn := fun _ => fun
  | [] => { results := [.lit (.bool true)], args := [] }
  | _ => none }
def glassNamesRow : OpenClaim := { program := "ytlgmeofpkfliaaa", sum := "4b32c71bf960b4eeba8cf762def3125912e7c8adaa0c3d017313de1d246cfbf3", func := "meniscus/meniscuslaw02.GlassNames", spec := "glassNames", unfollowed := true, recurses := true, plainKeys := false, apart := false }
def GlassNamesSaid : Prop := glassNamesRow.holds Try.pinned (OpenSpec.ofChange glassNamesSpec)

/-- ITS FALSE NEIGHBOUR: 'it returns false'. Refute it at one input. -/
def glassNamesWrong : ChangeSpec := { name := "glassNames", fn := fun _ => fun
  | [] => { results := [.lit (.bool false)], args := [] }
  | _ => none }
def GlassNamesWrongFalsely : Prop := glassNamesRow.holds Try.pinned (OpenSpec.ofChange glassNamesWrong)

/- THE SECOND FORM. 'bulk': how many values and letters a reading holds, each counted each time it is reached (what is shared counts as often as it is met; a slice's spare places count too). A statement '..UptoSaid' is the law's where the arguments, and the package variables that the reading takes, are together of bulk at most 1048576: NARROWER than '..Said'. Prove '..Said' where nothing that the law and all that it calls make is longer than what came in: it says more and counts as full. Else prove '..UptoSaid'. A law counts once. -/
mutual
def uptoBulk {H : Type} : DataW H → Nat
  | .lit (.string bytes) => bytes.length + 1
  | .lit _ => 1
  | .nil => 1
  | .ptr d => uptoBulk d + 1
  | .slice elems spare => uptoBulkAll elems + uptoBulkAll spare + 1
  | .agg parts => uptoBulkAll parts + 1
  | .iface _ d => uptoBulk d + 1
  | .map entries => uptoBulkEntries entries + 1
  | .held _ => 1
def uptoBulkAll {H : Type} : List (DataW H) → Nat
  | [] => 0
  | d :: r => uptoBulk d + uptoBulkAll r
def uptoBulkEntries {H : Type} : List (Lit × DataW H) → Nat
  | [] => 0
  | x :: r => uptoBulkEntry x + uptoBulkEntries r
def uptoBulkEntry {H : Type} : Lit × DataW H → Nat
  | (.string bytes, d) => bytes.length + uptoBulk d + 1
  | (_, d) => uptoBulk d + 1
 end
def uptoSmall : (H : Type) → List (DataW H) → Bool := fun _ ds => decide (uptoBulkAll ds ≤ 1048576)
def OpenSpec.upto (s : _root_.Go.ChangeSpec) : _root_.Go.OpenSpec := { _root_.Go.OpenSpec.ofChange s with cond := some uptoSmall }

/-- 'meniscuslaw02.GlassShows', WHERE WHAT IT READS IS OF BULK AT MOST 1048576: true; the input reads as it did. -/
def glassShowsUptoRow : OpenClaim := { program := "ytlgmeofpkfliaaa", sum := "4b32c71bf960b4eeba8cf762def3125912e7c8adaa0c3d017313de1d246cfbf3", func := "meniscus/meniscuslaw02.GlassShows", spec := "glassShows", unfollowed := true, recurses := true, plainKeys := false, apart := false, narrowed := true }
def GlassShowsUptoSaid : Prop := glassShowsUptoRow.holds Try.pinned (OpenSpec.upto glassShowsSpec)

/-- 'meniscuslaw02.GlassHolds', WHERE WHAT IT READS IS OF BULK AT MOST 1048576: true; the input reads as it did. -/
def glassHoldsUptoRow : OpenClaim := { program := "ytlgmeofpkfliaaa", sum := "4b32c71bf960b4eeba8cf762def3125912e7c8adaa0c3d017313de1d246cfbf3", func := "meniscus/meniscuslaw02.GlassHolds", spec := "glassHolds", unfollowed := true, recurses := true, plainKeys := false, apart := false, narrowed := true }
def GlassHoldsUptoSaid : Prop := glassHoldsUptoRow.holds Try.pinned (OpenSpec.upto glassHoldsSpec)

/-- 'meniscuslaw02.GlassEnds', WHERE WHAT IT READS IS OF BULK AT MOST 1048576: true; the input reads as it did. -/
def glassEndsUptoRow : OpenClaim := { program := "ytlgmeofpkfliaaa", sum := "4b32c71bf960b4eeba8cf762def3125912e7c8adaa0c3d017313de1d246cfbf3", func := "meniscus/meniscuslaw02.GlassEnds", spec := "glassEnds", unfollowed := true, recurses := true, plainKeys := false, apart := false, narrowed := true }
def GlassEndsUptoSaid : Prop := glassEndsUptoRow.holds Try.pinned (OpenSpec.upto glassEndsSpec)

/-- 'meniscuslaw02.GlassMore', WHERE WHAT IT READS IS OF BULK AT MOST 1048576: true; the input reads as it did. -/
def glassMoreUptoRow : OpenClaim := { program := "ytlgmeofpkfliaaa", sum := "4b32c71bf960b4eeba8cf762def3125912e7c8adaa0c3d017313de1d246cfbf3", func := "meniscus/meniscuslaw02.GlassMore", spec := "glassMore", unfollowed := true, recurses := true, plainKeys := false, apart := false, narrowed := true }
def GlassMoreUptoSaid : Prop := glassMoreUptoRow.holds Try.pinned (OpenSpec.upto glassMoreSpec)

/-- 'meniscuslaw02.GlassLonger', WHERE WHAT IT READS IS OF BULK AT MOST 1048576: true; the input reads as it did. -/
def glassLongerUptoRow : OpenClaim := { program := "ytlgmeofpkfliaaa", sum := "4b32c71bf960b4eeba8cf762def3125912e7c8adaa0c3d017313de1d246cfbf3", func := "meniscus/meniscuslaw02.GlassLonger", spec := "glassLonger", unfollowed := true, recurses := true, plainKeys := false, apart := false, narrowed := true }
def GlassLongerUptoSaid : Prop := glassLongerUptoRow.holds Try.pinned (OpenSpec.upto glassLongerSpec)

/-- 'meniscuslaw02.GlassHigher', WHERE WHAT IT READS IS OF BULK AT MOST 1048576: true; the input reads as it did. -/
def glassHigherUptoRow : OpenClaim := { program := "ytlgmeofpkfliaaa", sum := "4b32c71bf960b4eeba8cf762def3125912e7c8adaa0c3d017313de1d246cfbf3", func := "meniscus/meniscuslaw02.GlassHigher", spec := "glassHigher", unfollowed := true, recurses := true, plainKeys := false, apart := false, narrowed := true }
def GlassHigherUptoSaid : Prop := glassHigherUptoRow.holds Try.pinned (OpenSpec.upto glassHigherSpec)

/-- 'meniscuslaw02.GlassBlames', WHERE WHAT IT READS IS OF BULK AT MOST 1048576: true; the input reads as it did. -/
def glassBlamesUptoRow : OpenClaim := { program := "ytlgmeofpkfliaaa", sum := "4b32c71bf960b4eeba8cf762def3125912e7c8adaa0c3d017313de1d246cfbf3", func := "meniscus/meniscuslaw02.GlassBlames", spec := "glassBlames", unfollowed := true, recurses := true, plainKeys := false, apart := false, narrowed := true }
def GlassBlamesUptoSaid : Prop := glassBlamesUptoRow.holds Try.pinned (OpenSpec.upto glassBlamesSpec)

/-- 'meniscuslaw02.GlassFalse', WHERE WHAT IT READS IS OF BULK AT MOST 1048576: true; the input reads as it did. -/
def glassFalseUptoRow : OpenClaim := { program := "ytlgmeofpkfliaaa", sum := "4b32c71bf960b4eeba8cf762def3125912e7c8adaa0c3d017313de1d246cfbf3", func := "meniscus/meniscuslaw02.GlassFalse", spec := "glassFalse", unfollowed := true, recurses := true, plainKeys := false, apart := false, narrowed := true }
def GlassFalseUptoSaid : Prop := glassFalseUptoRow.holds Try.pinned (OpenSpec.upto glassFalseSpec)

/-- 'meniscuslaw02.GlassPlays', WHERE WHAT IT READS IS OF BULK AT MOST 1048576: true; the input reads as it did. -/
def glassPlaysUptoRow : OpenClaim := { program := "ytlgmeofpkfliaaa", sum := "4b32c71bf960b4eeba8cf762def3125912e7c8adaa0c3d017313de1d246cfbf3", func := "meniscus/meniscuslaw02.GlassPlays", spec := "glassPlays", unfollowed := true, recurses := true, plainKeys := false, apart := false, narrowed := true }
def GlassPlaysUptoSaid : Prop := glassPlaysUptoRow.holds Try.pinned (OpenSpec.upto glassPlaysSpec)

/-- 'meniscuslaw02.GlassAlone', WHERE WHAT IT READS IS OF BULK AT MOST 1048576: true; the input reads as it did. -/
def glassAloneUptoRow : OpenClaim := { program := "ytlgmeofpkfliaaa", sum := "4b32c71bf960b4eeba8cf762def3125912e7c8adaa0c3d017313de1d246cfbf3", func := "meniscus/meniscuslaw02.GlassAlone", spec := "glassAlone", unfollowed := true, recurses := true, plainKeys := false, apart := false, narrowed := true }
def GlassAloneUptoSaid : Prop := glassAloneUptoRow.holds Try.pinned (OpenSpec.upto glassAloneSpec)

/-- 'meniscuslaw02.GlassMemory', WHERE WHAT IT READS IS OF BULK AT MOST 1048576: true; the input reads as it did. -/
def glassMemoryUptoRow : OpenClaim := { program := "ytlgmeofpkfliaaa", sum := "4b32c71bf960b4eeba8cf762def3125912e7c8adaa0c3d017313de1d246cfbf3", func := "meniscus/meniscuslaw02.GlassMemory", spec := "glassMemory", unfollowed := true, recurses := true, plainKeys := false, apart := false, narrowed := true }
def GlassMemoryUptoSaid : Prop := glassMemoryUptoRow.holds Try.pinned (OpenSpec.upto glassMemorySpec)

/-- 'meniscuslaw02.GlassZeros', WHERE WHAT IT READS IS OF BULK AT MOST 1048576: true; the input reads as it did. -/
def glassZerosUptoRow : OpenClaim := { program := "ytlgmeofpkfliaaa", sum := "4b32c71bf960b4eeba8cf762def3125912e7c8adaa0c3d017313de1d246cfbf3", func := "meniscus/meniscuslaw02.GlassZeros", spec := "glassZeros", unfollowed := true, recurses := true, plainKeys := false, apart := false, narrowed := true }
def GlassZerosUptoSaid : Prop := glassZerosUptoRow.holds Try.pinned (OpenSpec.upto glassZerosSpec)

/-- 'meniscuslaw02.GlassTruth', WHERE WHAT IT READS IS OF BULK AT MOST 1048576: true; the input reads as it did. -/
def glassTruthUptoRow : OpenClaim := { program := "ytlgmeofpkfliaaa", sum := "4b32c71bf960b4eeba8cf762def3125912e7c8adaa0c3d017313de1d246cfbf3", func := "meniscus/meniscuslaw02.GlassTruth", spec := "glassTruth", unfollowed := true, recurses := true, plainKeys := false, apart := false, narrowed := true }
def GlassTruthUptoSaid : Prop := glassTruthUptoRow.holds Try.pinned (OpenSpec.upto glassTruthSpec)

/-- 'meniscuslaw02.GlassNames', WHERE WHAT IT READS IS OF BULK AT MOST 1048576: true; the input reads as it did. -/
def glassNamesUptoRow : OpenClaim := { program := "ytlgmeofpkfliaaa", sum := "4b32c71bf960b4eeba8cf762def3125912e7c8adaa0c3d017313de1d246cfbf3", func := "meniscus/meniscuslaw02.GlassNames", spec := "glassNames", unfollowed := true, recurses := true, plainKeys := false, apart := false, narrowed := true }
def GlassNamesUptoSaid : Prop := glassNamesUptoRow.holds Try.pinned (OpenSpec.upto glassNamesSpec)

end Rows
end Go.Proofs.Ytlgmeofpkfliaaa

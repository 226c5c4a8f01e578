/-
  No cell of these rows narrows 'for every input' (looked for: loops, veiled, ifaces, maps, wideKeys, modest, calm, conditions, laid).
  DERIVED. THE GIVEN ROWS OF THIS SEAT. 12 by the template 'for every input the law returns true; each argument reads behind the call as it read before'; 0 by the template 'total and deterministic' (their statements: YthihdiilokdidaaTotals.lean).
  GIVEN WITH THE SEED: the statements are not yours to turn. If you find one false, say at which input.
  Laid BY PROGRAM, IN A SANDBOX (cutbox-rows.mjs): the forced cells as the released guide's own fill.sh prints them over the translation f79dfb9182ebf63b… (all of the seat's roots in one cut). By AI agents, Wed Nov 11 2026. No macro, syntax, notation, axiom, sorry.
-/
import Derived.Test.YthihdiilokdidaaChecked
import GoSem.Claim
import GoSem.ClaimJoined
import GoSem.ClaimMapViews
import Derived.JoinedTies
import Derived.KernelRfl
namespace Go.Proofs.Ythihdiilokdidaa
/- THE CELL 'sum', in the pinned program and in every row, IS THE sha256 OF THE DUMP (.gsa) THAT YthihdiilokdidaaProg.lean LOADS. Nothing in Lean hashes anything: it is a label: what it is worth is what the hold of that sum in a sandbox is worth. -/
noncomputable def Try.pinned : Pinned := { name := "ythihdiilokdidaa", sum := "f79dfb9182ebf63b0ed13342cfa5570146846b921a27ed83da1e55f9c7840dcc", checked := Try.checked }
namespace Rows
def none {H : Type} : Left H := { results := [], args := [] }

/-- 'meniscuslaw10.SpillStocks': WHATEVER THE INPUT: true; the input reads as it did. -/
def spillStocksSpec : ChangeSpec := { name := "spillStocks", fn := fun _ => fun
  | [d] => { results := [.lit (.bool true)], args := [d] }
  | _ => none }
def spillStocksRow : OpenClaim := { program := "ythihdiilokdidaa", sum := "f79dfb9182ebf63b0ed13342cfa5570146846b921a27ed83da1e55f9c7840dcc", func := "meniscus/meniscuslaw10.SpillStocks", spec := "spillStocks", unfollowed := true, recurses := true, plainKeys := false, apart := false }
def SpillStocksSaid : Prop := spillStocksRow.holds Try.pinned (OpenSpec.ofChange spillStocksSpec)

/-- ITS FALSE NEIGHBOUR: 'it returns false'. Refute it at one input. -/
def spillStocksWrong : ChangeSpec := { name := "spillStocks", fn := fun _ => fun
  | [d] => { results := [.lit (.bool false)], args := [d] }
  | _ => none }
def SpillStocksWrongFalsely : Prop := spillStocksRow.holds Try.pinned (OpenSpec.ofChange spillStocksWrong)

/-- 'meniscuslaw10.SpillRosters': WHATEVER THE INPUT: true; the input reads as it did. -/
def spillRostersSpec : ChangeSpec := { name := "spillRosters", fn := fun _ => fun
  | [d1, d2, d3] => { results := [.lit (.bool true)], args := [d1, d2, d3] }
  | _ => none }
def spillRostersRow : OpenClaim := { program := "ythihdiilokdidaa", sum := "f79dfb9182ebf63b0ed13342cfa5570146846b921a27ed83da1e55f9c7840dcc", func := "meniscus/meniscuslaw10.SpillRosters", spec := "spillRosters", unfollowed := true, recurses := true, plainKeys := false, apart := false }
def SpillRostersSaid : Prop := spillRostersRow.holds Try.pinned (OpenSpec.ofChange spillRostersSpec)

/-- ITS FALSE NEIGHBOUR: 'it returns false'. Refute it at one input. -/
def spillRostersWrong : ChangeSpec := { name := "spillRosters", fn := fun _ => fun
  | [d1, d2, d3] => { results := [.lit (.bool false)], args := [d1, d2, d3] }
  | _ => none }
def SpillRostersWrongFalsely : Prop := spillRostersRow.holds Try.pinned (OpenSpec.ofChange spillRostersWrong)

/-- 'meniscuslaw10.SpillEnds': WHATEVER THE INPUT: true; the input reads as it did. -/
def spillEndsSpec : ChangeSpec := { name := "spillEnds", fn := fun _ => fun
  | [d1, d2, d3, d4] => { results := [.lit (.bool true)], args := [d1, d2, d3, d4] }
  | _ => none }
def spillEndsRow : OpenClaim := { program := "ythihdiilokdidaa", sum := "f79dfb9182ebf63b0ed13342cfa5570146846b921a27ed83da1e55f9c7840dcc", func := "meniscus/meniscuslaw10.SpillEnds", spec := "spillEnds", unfollowed := true, recurses := true, plainKeys := false, apart := false }
def SpillEndsSaid : Prop := spillEndsRow.holds Try.pinned (OpenSpec.ofChange spillEndsSpec)

/-- ITS FALSE NEIGHBOUR: 'it returns false'. Refute it at one input. -/
def spillEndsWrong : ChangeSpec := { name := "spillEnds", fn := fun _ => fun
  | [d1, d2, d3, d4] => { results := [.lit (.bool false)], args := [d1, d2, d3, d4] }
  | _ => none }
def SpillEndsWrongFalsely : Prop := spillEndsRow.holds Try.pinned (OpenSpec.ofChange spillEndsWrong)

/-- 'meniscuslaw10.SpillMore': WHATEVER THE INPUT: true; the input reads as it did. -/
def spillMoreSpec : ChangeSpec := { name := "spillMore", fn := fun _ => fun
  | [d1, d2, d3, d4, d5, d6] => { results := [.lit (.bool true)], args := [d1, d2, d3, d4, d5, d6] }
  | _ => none }
def spillMoreRow : OpenClaim := { program := "ythihdiilokdidaa", sum := "f79dfb9182ebf63b0ed13342cfa5570146846b921a27ed83da1e55f9c7840dcc", func := "meniscus/meniscuslaw10.SpillMore", spec := "spillMore", unfollowed := true, recurses := true, plainKeys := false, apart := false }
def SpillMoreSaid : Prop := spillMoreRow.holds Try.pinned (OpenSpec.ofChange spillMoreSpec)

/-- ITS FALSE NEIGHBOUR: 'it returns false'. Refute it at one input. -/
def spillMoreWrong : ChangeSpec := { name := "spillMore", fn := fun _ => fun
  | [d1, d2, d3, d4, d5, d6] => { results := [.lit (.bool false)], args := [d1, d2, d3, d4, d5, d6] }
  | _ => none }
def SpillMoreWrongFalsely : Prop := spillMoreRow.holds Try.pinned (OpenSpec.ofChange spillMoreWrong)

/-- 'meniscuslaw10.SpillLater': WHATEVER THE INPUT: true; the input reads as it did. -/
def spillLaterSpec : ChangeSpec := { name := "spillLater", fn := fun _ => fun
  | [d1, d2] => { results := [.lit (.bool true)], args := [d1, d2] }
  | _ => none }
def spillLaterRow : OpenClaim := { program := "ythihdiilokdidaa", sum := "f79dfb9182ebf63b0ed13342cfa5570146846b921a27ed83da1e55f9c7840dcc", func := "meniscus/meniscuslaw10.SpillLater", spec := "spillLater", unfollowed := true, recurses := true, plainKeys := false, apart := false }
def SpillLaterSaid : Prop := spillLaterRow.holds Try.pinned (OpenSpec.ofChange spillLaterSpec)

/-- ITS FALSE NEIGHBOUR: 'it returns false'. Refute it at one input. -/
def spillLaterWrong : ChangeSpec := { name := "spillLater", fn := fun _ => fun
  | [d1, d2] => { results := [.lit (.bool false)], args := [d1, d2] }
  | _ => none }
def SpillLaterWrongFalsely : Prop := spillLaterRow.holds Try.pinned (OpenSpec.ofChange spillLaterWrong)

/-- 'meniscuslaw10.SpillHealth': WHATEVER THE INPUT: true; the input reads as it did. -/
def spillHealthSpec : ChangeSpec := { name := "spillHealth", fn := fun _ => fun
  | [d1, d2, d3, d4, d5] => { results := [.lit (.bool true)], args := [d1, d2, d3, d4, d5] }
  | _ => none }
def spillHealthRow : OpenClaim := { program := "ythihdiilokdidaa", sum := "f79dfb9182ebf63b0ed13342cfa5570146846b921a27ed83da1e55f9c7840dcc", func := "meniscus/meniscuslaw10.SpillHealth", spec := "spillHealth", unfollowed := true, recurses := true, plainKeys := false, apart := false }
def SpillHealthSaid : Prop := spillHealthRow.holds Try.pinned (OpenSpec.ofChange spillHealthSpec)

/-- ITS FALSE NEIGHBOUR: 'it returns false'. Refute it at one input. -/
def spillHealthWrong : ChangeSpec := { name := "spillHealth", fn := fun _ => fun
  | [d1, d2, d3, d4, d5] => { results := [.lit (.bool false)], args := [d1, d2, d3, d4, d5] }
  | _ => none }
def SpillHealthWrongFalsely : Prop := spillHealthRow.holds Try.pinned (OpenSpec.ofChange spillHealthWrong)

/-- 'meniscuslaw10.SpillBlames': WHATEVER THE INPUT: true; the input reads as it did. -/
def spillBlamesSpec : ChangeSpec := { name := "spillBlames", fn := fun _ => fun
  | [d] => { results := [.lit (.bool true)], args := [d] }
  | _ => none }
def spillBlamesRow : OpenClaim := { program := "ythihdiilokdidaa", sum := "f79dfb9182ebf63b0ed13342cfa5570146846b921a27ed83da1e55f9c7840dcc", func := "meniscus/meniscuslaw10.SpillBlames", spec := "spillBlames", unfollowed := true, recurses := true, plainKeys := false, apart := false }
def SpillBlamesSaid : Prop := spillBlamesRow.holds Try.pinned (OpenSpec.ofChange spillBlamesSpec)

/-- ITS FALSE NEIGHBOUR: 'it returns false'. Refute it at one input. -/
def spillBlamesWrong : ChangeSpec := { name := "spillBlames", fn := fun _ => fun
  | [d] => { results := [.lit (.bool false)], args := [d] }
  | _ => none }
def SpillBlamesWrongFalsely : Prop := spillBlamesRow.holds Try.pinned (OpenSpec.ofChange spillBlamesWrong)

/-- 'meniscuslaw10.SpillFalse': WHATEVER THE INPUT: true; the input reads as it did. -/
def spillFalseSpec : ChangeSpec := { name := "spillFalse", fn := fun _ => fun
  | [d1, d2, d3] => { results := [.lit (.bool true)], args := [d1, d2, d3] }
  | _ => none }
def spillFalseRow : OpenClaim := { program := "ythihdiilokdidaa", sum := "f79dfb9182ebf63b0ed13342cfa5570146846b921a27ed83da1e55f9c7840dcc", func := "meniscus/meniscuslaw10.SpillFalse", spec := "spillFalse", unfollowed := true, recurses := true, plainKeys := false, apart := false }
def SpillFalseSaid : Prop := spillFalseRow.holds Try.pinned (OpenSpec.ofChange spillFalseSpec)

/-- ITS FALSE NEIGHBOUR: 'it returns false'. Refute it at one input. -/
def spillFalseWrong : ChangeSpec := { name := "spillFalse", fn := fun _ => fun
  | [d1, d2, d3] => { results := [.lit (.bool false)], args := [d1, d2, d3] }
  | _ => none }
def SpillFalseWrongFalsely : Prop := spillFalseRow.holds Try.pinned (OpenSpec.ofChange spillFalseWrong)

/-- 'meniscuslaw10.SpillMissings': WHATEVER THE INPUT: true; the input reads as it did. -/
def spillMissingsSpec : ChangeSpec := { name := "spillMissings", fn := fun _ => fun
  | [d1, d2, d3, d4] => { results := [.lit (.bool true)], args := [d1, d2, d3, d4] }
  | _ => none }
def spillMissingsRow : OpenClaim := { program := "ythihdiilokdidaa", sum := "f79dfb9182ebf63b0ed13342cfa5570146846b921a27ed83da1e55f9c7840dcc", func := "meniscus/meniscuslaw10.SpillMissings", spec := "spillMissings", unfollowed := true, recurses := true, plainKeys := false, apart := false }
def SpillMissingsSaid : Prop := spillMissingsRow.holds Try.pinned (OpenSpec.ofChange spillMissingsSpec)

/-- ITS FALSE NEIGHBOUR: 'it returns false'. Refute it at one input. -/
def spillMissingsWrong : ChangeSpec := { name := "spillMissings", fn := fun _ => fun
  | [d1, d2, d3, d4] => { results := [.lit (.bool false)], args := [d1, d2, d3, d4] }
  | _ => none }
def SpillMissingsWrongFalsely : Prop := spillMissingsRow.holds Try.pinned (OpenSpec.ofChange spillMissingsWrong)

/-- 'meniscuslaw10.SpillLost': WHATEVER THE INPUT: true; the input reads as it did. -/
def spillLostSpec : ChangeSpec := { name := "spillLost", fn := fun _ => fun
  | [d1, d2, d3] => { results := [.lit (.bool true)], args := [d1, d2, d3] }
  | _ => none }
def spillLostRow : OpenClaim := { program := "ythihdiilokdidaa", sum := "f79dfb9182ebf63b0ed13342cfa5570146846b921a27ed83da1e55f9c7840dcc", func := "meniscus/meniscuslaw10.SpillLost", spec := "spillLost", unfollowed := true, recurses := true, plainKeys := false, apart := false }
def SpillLostSaid : Prop := spillLostRow.holds Try.pinned (OpenSpec.ofChange spillLostSpec)

/-- ITS FALSE NEIGHBOUR: 'it returns false'. Refute it at one input. -/
def spillLostWrong : ChangeSpec := { name := "spillLost", fn := fun _ => fun
  | [d1, d2, d3] => { results := [.lit (.bool false)], args := [d1, d2, d3] }
  | _ => none }
def SpillLostWrongFalsely : Prop := spillLostRow.holds Try.pinned (OpenSpec.ofChange spillLostWrong)

/-- 'meniscuslaw10.SpillPlays': WHATEVER THE INPUT: true; the input reads as it did. -/
def spillPlaysSpec : ChangeSpec := { name := "spillPlays", fn := fun _ => fun
  | [d1, d2] => { results := [.lit (.bool true)], args := [d1, d2] }
  | _ => none }
def spillPlaysRow : OpenClaim := { program := "ythihdiilokdidaa", sum := "f79dfb9182ebf63b0ed13342cfa5570146846b921a27ed83da1e55f9c7840dcc", func := "meniscus/meniscuslaw10.SpillPlays", spec := "spillPlays", unfollowed := true, recurses := true, plainKeys := false, apart := false }
def SpillPlaysSaid : Prop := spillPlaysRow.holds Try.pinned (OpenSpec.ofChange spillPlaysSpec)

/-- ITS FALSE NEIGHBOUR: 'it returns false'. Refute it at one input. -/
def spillPlaysWrong : ChangeSpec := { name := "spillPlays", fn := fun _ => fun
  | [d1, d2] => { results := [.lit (.bool false)], args := [d1, d2] }
  | _ => none }
def SpillPlaysWrongFalsely : Prop := spillPlaysRow.holds Try.pinned (OpenSpec.ofChange spillPlaysWrong)

/-- 'meniscuslaw10.SpillNames': WHATEVER THE INPUT: true; the input reads as it did. -/
def spillNamesSpec : ChangeSpec := { name := "spillNames", fn := fun _ => fun
  | [] => { results := [.lit (.bool true)], args := [] }
  | _ => none }
def spillNamesRow : OpenClaim := { program := "ythihdiilokdidaa", sum := "f79dfb9182ebf63b0ed13342cfa5570146846b921a27ed83da1e55f9c7840dcc", func := "meniscus/meniscuslaw10.SpillNames", spec := "spillNames", unfollowed := true, recurses := true, plainKeys := false, apart := false }
def SpillNamesSaid : Prop := spillNamesRow.holds Try.pinned (OpenSpec.ofChange spillNamesSpec)

/-- ITS FALSE NEIGHBOUR: 'it returns false'. Refute it at one input. -/
def spillNamesWrong : ChangeSpec := { name := "spillNames", fn := fun _ => fun
  | [] => { results := [.lit (.bool false)], args := [] }
  | _ => none }
def SpillNamesWrongFalsely : Prop := spillNamesRow.holds Try.pinned (OpenSpec.ofChange spillNamesWrong)

/- THE SECOND FORM. 'bulk': how many values and letters a reading holds, each counted each time it is reached (what is shared counts as often as it is met; a slice's spare places count too). A statement '..UptoSaid' is the law's where the arguments, and the package variables that the reading takes, are together of bulk at most 1048576: NARROWER than '..Said'. Prove '..Said' where nothing that the law and all that it calls make is longer than what came in: it says more and counts as full. Else prove '..UptoSaid'. A law counts once. -/
mutual
def uptoBulk {H : Type} : DataW H → Nat
  | .lit (.string bytes) => bytes.length + 1
  | .lit _ => 1
  | .nil => 1
  | .ptr d => uptoBulk d + 1
  | .slice elems spare => uptoBulkAll elems + uptoBulkAll spare + 1
  | .agg parts => uptoBulkAll parts + 1
  | .iface _ d => uptoBulk d + 1
  | .map entries => uptoBulkEntries entries + 1
  | .held _ => 1
def uptoBulkAll {H : Type} : List (DataW H) → Nat
  | [] => 0
  | d :: r => uptoBulk d + uptoBulkAll r
def uptoBulkEntries {H : Type} : List (Lit × DataW H) → Nat
  | [] => 0
  | x :: r => uptoBulkEntry x + uptoBulkEntries r
def uptoBulkEntry {H : Type} : Lit × DataW H → Nat
  | (.string bytes, d) => bytes.length + uptoBulk d + 1
  | (_, d) => uptoBulk d + 1
 end
def uptoSmall : (H : Type) → List (DataW H) → Bool := fun _ ds => decide (uptoBulkAll ds ≤ 1048576)
def OpenSpec.upto (s : _root_.Go.ChangeSpec) : _root_.Go.OpenSpec := { _root_.Go.OpenSpec.ofChange s with cond := some uptoSmall }

/-- 'meniscuslaw10.SpillStocks', WHERE WHAT IT READS IS OF BULK AT MOST 1048576: true; the input reads as it did. -/
def spillStocksUptoRow : OpenClaim := { program := "ythihdiilokdidaa", sum := "f79dfb9182ebf63b0ed13342cfa5570146846b921a27ed83da1e55f9c7840dcc", func := "meniscus/meniscuslaw10.SpillStocks", spec := "spillStocks", unfollowed := true, recurses := true, plainKeys := false, apart := false, narrowed := true }
def SpillStocksUptoSaid : Prop := spillStocksUptoRow.holds Try.pinned (OpenSpec.upto spillStocksSpec)

/-- 'meniscuslaw10.SpillRosters', WHERE WHAT IT READS IS OF BULK AT MOST 1048576: true; the input reads as it did. -/
def spillRostersUptoRow : OpenClaim := { program := "ythihdiilokdidaa", sum := "f79dfb9182ebf63b0ed13342cfa5570146846b921a27ed83da1e55f9c7840dcc", func := "meniscus/meniscuslaw10.SpillRosters", spec := "spillRosters", unfollowed := true, recurses := true, plainKeys := false, apart := false, narrowed := true }
def SpillRostersUptoSaid : Prop := spillRostersUptoRow.holds Try.pinned (OpenSpec.upto spillRostersSpec)

/-- 'meniscuslaw10.SpillEnds', WHERE WHAT IT READS IS OF BULK AT MOST 1048576: true; the input reads as it did. -/
def spillEndsUptoRow : OpenClaim := { program := "ythihdiilokdidaa", sum := "f79dfb9182ebf63b0ed13342cfa5570146846b921a27ed83da1e55f9c7840dcc", func := "meniscus/meniscuslaw10.SpillEnds", spec := "spillEnds", unfollowed := true, recurses := true, plainKeys := false, apart := false, narrowed := true }
def SpillEndsUptoSaid : Prop := spillEndsUptoRow.holds Try.pinned (OpenSpec.upto spillEndsSpec)

/-- 'meniscuslaw10.SpillMore', WHERE WHAT IT READS IS OF BULK AT MOST 1048576: true; the input reads as it did. -/
def spillMoreUptoRow : OpenClaim := { program := "ythihdiilokdidaa", sum := "f79dfb9182ebf63b0ed13342cfa5570146846b921a27ed83da1e55f9c7840dcc", func := "meniscus/meniscuslaw10.SpillMore", spec := "spillMore", unfollowed := true, recurses := true, plainKeys := false, apart := false, narrowed := true }
def SpillMoreUptoSaid : Prop := spillMoreUptoRow.holds Try.pinned (OpenSpec.upto spillMoreSpec)

/-- 'meniscuslaw10.SpillLater', WHERE WHAT IT READS IS OF BULK AT MOST 1048576: true; the input reads as it did. -/
def spillLaterUptoRow : OpenClaim := { program := "ythihdiilokdidaa", sum := "f79dfb9182ebf63b0ed13342cfa5570146846b921a27ed83da1e55f9c7840dcc", func := "meniscus/meniscuslaw10.SpillLater", spec := "spillLater", unfollowed := true, recurses := true, plainKeys := false, apart := false, narrowed := true }
def SpillLaterUptoSaid : Prop := spillLaterUptoRow.holds Try.pinned (OpenSpec.upto spillLaterSpec)

/-- 'meniscuslaw10.SpillHealth', WHERE WHAT IT READS IS OF BULK AT MOST 1048576: true; the input reads as it did. -/
def spillHealthUptoRow : OpenClaim := { program := "ythihdiilokdidaa", sum := "f79dfb9182ebf63b0ed13342cfa5570146846b921a27ed83da1e55f9c7840dcc", func := "meniscus/meniscuslaw10.SpillHealth", spec := "spillHealth", unfollowed := true, recurses := true, plainKeys := false, apart := false, narrowed := true }
def SpillHealthUptoSaid : Prop := spillHealthUptoRow.holds Try.pinned (OpenSpec.upto spillHealthSpec)

/-- 'meniscuslaw10.SpillBlames', WHERE WHAT IT READS IS OF BULK AT MOST 1048576: true; the input reads as it did. -/
def spillBlamesUptoRow : OpenClaim := { program := "ythihdiilokdidaa", sum := "f79dfb9182ebf63b0ed13342cfa5570146846b921a27ed83da1e55f9c7840dcc", func := "meniscus/meniscuslaw10.SpillBlames", spec := "spillBlames", unfollowed := true, recurses := true, plainKeys := false, apart := false, narrowed := true }
def SpillBlamesUptoSaid : Prop := spillBlamesUptoRow.holds Try.pinned (OpenSpec.upto spillBlamesSpec)

/-- 'meniscuslaw10.SpillFalse', WHERE WHAT IT READS IS OF BULK AT MOST 1048576: true; the input reads as it did. -/
def spillFalseUptoRow : OpenClaim := { program := "ythihdiilokdidaa", sum := "f79dfb9182ebf63b0ed13342cfa5570146846b921a27ed83da1e55f9c7840dcc", func := "meniscus/meniscuslaw10.SpillFalse", spec := "spillFalse", unfollowed := true, recurses := true, plainKeys := false, apart := false, narrowed := true }
def SpillFalseUptoSaid : Prop := spillFalseUptoRow.holds Try.pinned (OpenSpec.upto spillFalseSpec)

/-- 'meniscuslaw10.SpillMissings', WHERE WHAT IT READS IS OF BULK AT MOST 1048576: true; the input reads as it did. -/
def spillMissingsUptoRow : OpenClaim := { program := "ythihdiilokdidaa", sum := "f79dfb9182ebf63b0ed13342cfa5570146846b921a27ed83da1e55f9c7840dcc", func := "meniscus/meniscuslaw10.SpillMissings", spec := "spillMissings", unfollowed := true, recurses := true, plainKeys := false, apart := false, narrowed := true }
def SpillMissingsUptoSaid : Prop := spillMissingsUptoRow.holds Try.pinned (OpenSpec.upto spillMissingsSpec)

/-- 'meniscuslaw10.SpillLost', WHERE WHAT IT READS IS OF BULK AT MOST 1048576: true; the input reads as it did. -/
def spillLostUptoRow : OpenClaim := { program := "ythihdiilokdidaa", sum := "f79dfb9182ebf63b0ed13342cfa5570146846b921a27ed83da1e55f9c7840dcc", func := "meniscus/meniscuslaw10.SpillLost", spec := "spillLost", unfollowed := true, recurses := true, plainKeys := false, apart := false, narrowed := true }
def SpillLostUptoSaid : Prop := spillLostUptoRow.holds Try.pinned (OpenSpec.upto spillLostSpec)

/-- 'meniscuslaw10.SpillPlays', WHERE WHAT IT READS IS OF BULK AT MOST 1048576: true; the input reads as it did. -/
def spillPlaysUptoRow : OpenClaim := { program := "ythihdiilokdidaa", sum := "f79dfb9182ebf63b0ed13342cfa5570146846b921a27ed83da1e55f9c7840dcc", func := "meniscus/meniscuslaw10.SpillPlays", spec := "spillPlays", unfollowed := true, recurses := true, plainKeys := false, apart := false, narrowed := true }
def SpillPlaysUptoSaid : Prop := spillPlaysUptoRow.holds Try.pinned (OpenSpec.upto spillPlaysSpec)

/-- 'meniscuslaw10.SpillNames', WHERE WHAT IT READS IS OF BULK AT MOST 1048576: true; the input reads as it did. -/
def spillNamesUptoRow : OpenClaim := { program := "ythihdiilokdidaa", sum := "f79dfb9182ebf63b0ed13342cfa5570146846b921a27ed83da1e55f9c7840dcc", func := "meniscus/meniscuslaw10.SpillNames", spec := "spillNames", unfollowed := true, recurses := true, plainKeys := false, apart := false, narrowed := true }
def SpillNamesUptoSaid : Prop := spillNamesUptoRow.holds Try.pinned (OpenSpec.upto spillNamesSpec)

end Rows
end Go.Proofs.Ythihdiilokdidaa

/-
  No cell of these rows narrows 'for every input' (looked for: loops, veiled, ifaces, maps, wideKeys, modest, calm, conditions, laid).
  DERIVED. THE GIVEN ROWS OF THIS SEAT. 7 by the template 'for every input the law returns true; each argument reads behind the call as it read before'; 0 by the template 'total and deterministic' (their statements: YtkdfjhblkcbfdaaTotals.lean).
  GIVEN WITH THE SEED: the statements are not yours to turn. If you find one false, say at which input.
  Laid BY PROGRAM, IN A SANDBOX (cutbox-rows.mjs): the forced cells as the released guide's own fill.sh prints them over the translation 5d0b0d972dca434f… (all of the seat's roots in one cut). By AI agents, Wed Nov 11 2026. No macro, syntax, notation, axiom, sorry.
-/
import Derived.Test.YtkdfjhblkcbfdaaChecked
import GoSem.Claim
import GoSem.ClaimJoined
import GoSem.ClaimMapViews
import Derived.JoinedTies
import Derived.KernelRfl
namespace Go.Proofs.Ytkdfjhblkcbfdaa
/- THE CELL 'sum', in the pinned program and in every row, IS THE sha256 OF THE DUMP (.gsa) THAT YtkdfjhblkcbfdaaProg.lean LOADS. Nothing in Lean hashes anything: it is a label: what it is worth is what the hold of that sum in a sandbox is worth. -/
noncomputable def Try.pinned : Pinned := { name := "ytkdfjhblkcbfdaa", sum := "5d0b0d972dca434f88800a9ed8707adf67293fc4db2681419b4a32da213ea546", checked := Try.checked }
namespace Rows
def none {H : Type} : Left H := { results := [], args := [] }

/-- 'cadenzalaw13.FirstGuesses': WHATEVER THE INPUT: true; the input reads as it did. -/
def firstGuessesSpec : ChangeSpec := { name := "firstGuesses", fn := fun _ => fun
  | [d1, d2] => { results := [.lit (.bool true)], args := [d1, d2] }
  | _ => none }
def firstGuessesRow : OpenClaim := { program := "ytkdfjhblkcbfdaa", sum := "5d0b0d972dca434f88800a9ed8707adf67293fc4db2681419b4a32da213ea546", func := "cadenza/cadenzalaw13.FirstGuesses", spec := "firstGuesses", apart := false }
def FirstGuessesSaid : Prop := firstGuessesRow.holds Try.pinned (OpenSpec.ofChange firstGuessesSpec)

/-- ITS FALSE NEIGHBOUR: 'it returns false'. Refute it at one input. -/
def firstGuessesWrong : ChangeSpec := { name := "firstGuesses", fn := fun _ => fun
  | [d1, d2] => { results := [.lit (.bool false)], args := [d1, d2] }
  | _ => none }
def FirstGuessesWrongFalsely : Prop := firstGuessesRow.holds Try.pinned (OpenSpec.ofChange firstGuessesWrong)

/-- 'cadenzalaw13.FirstNear': WHATEVER THE INPUT: true; the input reads as it did. -/
def firstNearSpec : ChangeSpec := { name := "firstNear", fn := fun _ => fun
  | [d1, d2, d3] => { results := [.lit (.bool true)], args := [d1, d2, d3] }
  | _ => none }
def firstNearRow : OpenClaim := { program := "ytkdfjhblkcbfdaa", sum := "5d0b0d972dca434f88800a9ed8707adf67293fc4db2681419b4a32da213ea546", func := "cadenza/cadenzalaw13.FirstNear", spec := "firstNear", apart := false }
def FirstNearSaid : Prop := firstNearRow.holds Try.pinned (OpenSpec.ofChange firstNearSpec)

/-- ITS FALSE NEIGHBOUR: 'it returns false'. Refute it at one input. -/
def firstNearWrong : ChangeSpec := { name := "firstNear", fn := fun _ => fun
  | [d1, d2, d3] => { results := [.lit (.bool false)], args := [d1, d2, d3] }
  | _ => none }
def FirstNearWrongFalsely : Prop := firstNearRow.holds Try.pinned (OpenSpec.ofChange firstNearWrong)

/-- 'cadenzalaw13.FirstStill': WHATEVER THE INPUT: true; the input reads as it did. -/
def firstStillSpec : ChangeSpec := { name := "firstStill", fn := fun _ => fun
  | [d1, d2, d3] => { results := [.lit (.bool true)], args := [d1, d2, d3] }
  | _ => none }
def firstStillRow : OpenClaim := { program := "ytkdfjhblkcbfdaa", sum := "5d0b0d972dca434f88800a9ed8707adf67293fc4db2681419b4a32da213ea546", func := "cadenza/cadenzalaw13.FirstStill", spec := "firstStill", apart := false }
def FirstStillSaid : Prop := firstStillRow.holds Try.pinned (OpenSpec.ofChange firstStillSpec)

/-- ITS FALSE NEIGHBOUR: 'it returns false'. Refute it at one input. -/
def firstStillWrong : ChangeSpec := { name := "firstStill", fn := fun _ => fun
  | [d1, d2, d3] => { results := [.lit (.bool false)], args := [d1, d2, d3] }
  | _ => none }
def FirstStillWrongFalsely : Prop := firstStillRow.holds Try.pinned (OpenSpec.ofChange firstStillWrong)

/-- 'cadenzalaw13.FirstRuns': WHATEVER THE INPUT: true; the input reads as it did. -/
def firstRunsSpec : ChangeSpec := { name := "firstRuns", fn := fun _ => fun
  | [d1, d2] => { results := [.lit (.bool true)], args := [d1, d2] }
  | _ => none }
def firstRunsRow : OpenClaim := { program := "ytkdfjhblkcbfdaa", sum := "5d0b0d972dca434f88800a9ed8707adf67293fc4db2681419b4a32da213ea546", func := "cadenza/cadenzalaw13.FirstRuns", spec := "firstRuns", apart := false }
def FirstRunsSaid : Prop := firstRunsRow.holds Try.pinned (OpenSpec.ofChange firstRunsSpec)

/-- ITS FALSE NEIGHBOUR: 'it returns false'. Refute it at one input. -/
def firstRunsWrong : ChangeSpec := { name := "firstRuns", fn := fun _ => fun
  | [d1, d2] => { results := [.lit (.bool false)], args := [d1, d2] }
  | _ => none }
def FirstRunsWrongFalsely : Prop := firstRunsRow.holds Try.pinned (OpenSpec.ofChange firstRunsWrong)

/-- 'cadenzalaw13.FirstNames': WHATEVER THE INPUT: true; the input reads as it did. -/
def firstNamesSpec : ChangeSpec := { name := "firstNames", fn := fun _ => fun
  | [] => { results := [.lit (.bool true)], args := [] }
  | _ => none }
def firstNamesRow : OpenClaim := { program := "ytkdfjhblkcbfdaa", sum := "5d0b0d972dca434f88800a9ed8707adf67293fc4db2681419b4a32da213ea546", func := "cadenza/cadenzalaw13.FirstNames", spec := "firstNames", apart := false }
def FirstNamesSaid : Prop := firstNamesRow.holds Try.pinned (OpenSpec.ofChange firstNamesSpec)

/-- ITS FALSE NEIGHBOUR: 'it returns false'. Refute it at one input. -/
def firstNamesWrong : ChangeSpec := { name := "firstNames", fn := fun _ => fun
  | [] => { results := [.lit (.bool false)], args := [] }
  | _ => none }
def FirstNamesWrongFalsely : Prop := firstNamesRow.holds Try.pinned (OpenSpec.ofChange firstNamesWrong)

/-- 'cadenzalaw13.FirstBack': WHATEVER THE INPUT: true; the input reads as it did. -/
def firstBackSpec : ChangeSpec := { name := "firstBack", fn := fun _ => fun
  | [d1, d2] => { results := [.lit (.bool true)], args := [d1, d2] }
  | _ => none }
def firstBackRow : OpenClaim := { program := "ytkdfjhblkcbfdaa", sum := "5d0b0d972dca434f88800a9ed8707adf67293fc4db2681419b4a32da213ea546", func := "cadenza/cadenzalaw13.FirstBack", spec := "firstBack", apart := false }
def FirstBackSaid : Prop := firstBackRow.holds Try.pinned (OpenSpec.ofChange firstBackSpec)

/-- ITS FALSE NEIGHBOUR: 'it returns false'. Refute it at one input. -/
def firstBackWrong : ChangeSpec := { name := "firstBack", fn := fun _ => fun
  | [d1, d2] => { results := [.lit (.bool false)], args := [d1, d2] }
  | _ => none }
def FirstBackWrongFalsely : Prop := firstBackRow.holds Try.pinned (OpenSpec.ofChange firstBackWrong)

/-- 'cadenzalaw13.FirstPart': WHATEVER THE INPUT: true; the input reads as it did. -/
def firstPartSpec : ChangeSpec := { name := "firstPart", fn := fun _ => fun
  | [d1, d2, d3] => { results := [.lit (.bool true)], args := [d1, d2, d3] }
  | _ => none }
def firstPartRow : OpenClaim := { program := "ytkdfjhblkcbfdaa", sum := "5d0b0d972dca434f88800a9ed8707adf67293fc4db2681419b4a32da213ea546", func := "cadenza/cadenzalaw13.FirstPart", spec := "firstPart", apart := false }
def FirstPartSaid : Prop := firstPartRow.holds Try.pinned (OpenSpec.ofChange firstPartSpec)

/-- ITS FALSE NEIGHBOUR: 'it returns false'. Refute it at one input. -/
def firstPartWrong : ChangeSpec := { name := "firstPart", fn := fun _ => fun
  | [d1, d2, d3] => { results := [.lit (.bool false)], args := [d1, d2, d3] }
  | _ => none }
def FirstPartWrongFalsely : Prop := firstPartRow.holds Try.pinned (OpenSpec.ofChange firstPartWrong)

/- THE SECOND FORM. 'bulk': how many values and letters a reading holds, each counted each time it is reached (what is shared counts as often as it is met; a slice's spare places count too). A statement '..UptoSaid' is the law's where the arguments, and the package variables that the reading takes, are together of bulk at most 1048576: NARROWER than '..Said'. Prove '..Said' where nothing that the law and all that it calls make is longer than what came in: it says more and counts as full. Else prove '..UptoSaid'. A law counts once. -/
mutual
def uptoBulk {H : Type} : DataW H → Nat
  | .lit (.string bytes) => bytes.length + 1
  | .lit _ => 1
  | .nil => 1
  | .ptr d => uptoBulk d + 1
  | .slice elems spare => uptoBulkAll elems + uptoBulkAll spare + 1
  | .agg parts => uptoBulkAll parts + 1
  | .iface _ d => uptoBulk d + 1
  | .map entries => uptoBulkEntries entries + 1
  | .held _ => 1
def uptoBulkAll {H : Type} : List (DataW H) → Nat
  | [] => 0
  | d :: r => uptoBulk d + uptoBulkAll r
def uptoBulkEntries {H : Type} : List (Lit × DataW H) → Nat
  | [] => 0
  | x :: r => uptoBulkEntry x + uptoBulkEntries r
def uptoBulkEntry {H : Type} : Lit × DataW H → Nat
  | (.string bytes, d) => bytes.length + uptoBulk d + 1
  | (_, d) => uptoBulk d + 1
 end
def uptoSmall : (H : Type) → List (DataW H) → Bool := fun _ ds => decide (uptoBulkAll ds ≤ 1048576)
def OpenSpec.upto (s : _root_.Go.ChangeSpec) : _root_.Go.OpenSpec := { _root_.Go.OpenSpec.ofChange s with cond := some uptoSmall }

/-- 'cadenzalaw13.FirstGuesses', WHERE WHAT IT READS IS OF BULK AT MOST 1048576: true; the input reads as it did. -/
def firstGuessesUptoRow : OpenClaim := { program := "ytkdfjhblkcbfdaa", sum := "5d0b0d972dca434f88800a9ed8707adf67293fc4db2681419b4a32da213ea546", func := "cadenza/cadenzalaw13.FirstGuesses", spec := "firstGuesses", apart := false, narrowed := true }
def FirstGuessesUptoSaid : Prop := firstGuessesUptoRow.holds Try.pinned (OpenSpec.upto firstGuessesSpec)

/-- 'cadenzalaw13.FirstNear', WHERE WHAT IT READS IS OF BULK AT MOST 1048576: true; the input reads as it did. -/
def firstNearUptoRow : OpenClaim := { program := "ytkdfjhblkcbfdaa", sum := "5d0b0d972dca434f88800a9ed8707adf67293fc4db2681419b4a32da213ea546", func := "cadenza/cadenzalaw13.FirstNear", spec := "firstNear", apart := false, narrowed := true }
def FirstNearUptoSaid : Prop := firstNearUptoRow.holds Try.pinned (OpenSpec.upto firstNearSpec)

/-- 'cadenzalaw13.FirstStill', WHERE WHAT IT READS IS OF BULK AT MOST 1048576: true; the input reads as it did. -/
def firstStillUptoRow : OpenClaim := { program := "ytkdfjhblkcbfdaa", sum := "5d0b0d972dca434f88800a9ed8707adf67293fc4db2681419b4a32da213ea546", func := "cadenza/cadenzalaw13.FirstStill", spec := "firstStill", apart := false, narrowed := true }
def FirstStillUptoSaid : Prop := firstStillUptoRow.holds Try.pinned (OpenSpec.upto firstStillSpec)

/-- 'cadenzalaw13.FirstRuns', WHERE WHAT IT READS IS OF BULK AT MOST 1048576: true; the input reads as it did. -/
def firstRunsUptoRow : OpenClaim := { program := "ytkdfjhblkcbfdaa", sum := "5d0b0d972dca434f88800a9ed8707adf67293fc4db2681419b4a32da213ea546", func := "cadenza/cadenzalaw13.FirstRuns", spec := "firstRuns", apart := false, narrowed := true }
def FirstRunsUptoSaid : Prop := firstRunsUptoRow.holds Try.pinned (OpenSpec.upto firstRunsSpec)

/-- 'cadenzalaw13.FirstNames', WHERE WHAT IT READS IS OF BULK AT MOST 1048576: true; the input reads as it did. -/
def firstNamesUptoRow : OpenClaim := { program := "ytkdfjhblkcbfdaa", sum := "5d0b0d972dca434f88800a9ed8707adf67293fc4db2681419b4a32da213ea546", func := "cadenza/cadenzalaw13.FirstNames", spec := "firstNames", apart := false, narrowed := true }
def FirstNamesUptoSaid : Prop := firstNamesUptoRow.holds Try.pinned (OpenSpec.upto firstNamesSpec)

/-- 'cadenzalaw13.FirstBack', WHERE WHAT IT READS IS OF BULK AT MOST 1048576: true; the input reads as it did. -/
def firstBackUptoRow : OpenClaim := { program := "ytkdfjhblkcbfdaa", sum := "5d0b0d972dca434f88800a9ed8707adf67293fc4db2681419b4a32da213ea546", func := "cadenza/cadenzalaw13.FirstBack", spec := "firstBack", apart := false, narrowed := true }
def FirstBackUptoSaid : Prop := firstBackUptoRow.holds Try.pinned (OpenSpec.upto firstBackSpec)

/-- 'cadenzalaw13.FirstPart', WHERE WHAT IT READS IS OF BULK AT MOST 1048576: true; the input reads as it did. -/
def firstPartUptoRow : OpenClaim := { program := "ytkdfjhblkcbfdaa", sum := "5d0b0d972dca434f88800a9ed8707adf67293fc4db2681419b4a32da213ea546", func := "cadenza/cadenzalaw13.FirstPart", spec := "firstPart", apart := false, narrowed := true }
def FirstPartUptoSaid : Prop := firstPartUptoRow.holds Try.pinned (OpenSpec.upto firstPartSpec)

end Rows
end Go.Proofs.Ytkdfjhblkcbfdaa

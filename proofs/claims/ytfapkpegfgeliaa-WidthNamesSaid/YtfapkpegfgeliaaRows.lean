/-
  No cell of these rows narrows 'for every input' (looked for: loops, veiled, ifaces, maps, wideKeys, modest, calm, conditions, laid).
  DERIVED. THE GIVEN ROWS OF THIS SEAT. 6 by the template 'for every input the law returns true; each argument reads behind the call as it read before'; 0 by the template 'total and deterministic' (their statements: YtfapkpegfgeliaaTotals.lean).
  GIVEN WITH THE SEED: the statements are not yours to turn. If you find one false, say at which input.
  Laid BY PROGRAM, IN A SANDBOX (cutbox-rows.mjs): the forced cells as the released guide's own fill.sh prints them over the translation c183d374116d5db0… (all of the seat's roots in one cut). By AI agents, Wed Nov 11 2026. No macro, syntax, notation, axiom, sorry.
-/
import Derived.Test.YtfapkpegfgeliaaChecked
import GoSem.Claim
import GoSem.ClaimJoined
import GoSem.ClaimMapViews
import Derived.JoinedTies
import Derived.KernelRfl
namespace Go.Proofs.Ytfapkpegfgeliaa
/- THE CELL 'sum', in the pinned program and in every row, IS THE sha256 OF THE DUMP (.gsa) THAT YtfapkpegfgeliaaProg.lean LOADS. Nothing in Lean hashes anything: it is a label: what it is worth is what the hold of that sum in a sandbox is worth. -/
noncomputable def Try.pinned : Pinned := { name := "ytfapkpegfgeliaa", sum := "c183d374116d5db0f88a78fcd65e78b1ad4883a30f5eb335561b1ddbe84802b9", checked := Try.checked }
namespace Rows
def none {H : Type} : Left H := { results := [], args := [] }

/-- 'cadenzalaw18.WidthReads': WHATEVER THE INPUT: true; the input reads as it did. -/
def widthReadsSpec : ChangeSpec := { name := "widthReads", fn := fun _ => fun
  | [d1, d2] => { results := [.lit (.bool true)], args := [d1, d2] }
  | _ => none }
def widthReadsRow : OpenClaim := { program := "ytfapkpegfgeliaa", sum := "c183d374116d5db0f88a78fcd65e78b1ad4883a30f5eb335561b1ddbe84802b9", func := "cadenza/cadenzalaw18.WidthReads", spec := "widthReads", apart := false }
def WidthReadsSaid : Prop := widthReadsRow.holds Try.pinned (OpenSpec.ofChange widthReadsSpec)

/-- ITS FALSE NEIGHBOUR: 'it returns false'. Refute it at one input. -/
def widthReadsWrong : ChangeSpec := { name := "widthReads", fn := fun _ => fun
  | [d1, d2] => { results := [.lit (.bool false)], args := [d1, d2] }
  | _ => none }
def WidthReadsWrongFalsely : Prop := widthReadsRow.holds Try.pinned (OpenSpec.ofChange widthReadsWrong)

/-- 'cadenzalaw18.WidthWrites': WHATEVER THE INPUT: true; the input reads as it did. -/
def widthWritesSpec : ChangeSpec := { name := "widthWrites", fn := fun _ => fun
  | [d1, d2] => { results := [.lit (.bool true)], args := [d1, d2] }
  | _ => none }
def widthWritesRow : OpenClaim := { program := "ytfapkpegfgeliaa", sum := "c183d374116d5db0f88a78fcd65e78b1ad4883a30f5eb335561b1ddbe84802b9", func := "cadenza/cadenzalaw18.WidthWrites", spec := "widthWrites", apart := false }
def WidthWritesSaid : Prop := widthWritesRow.holds Try.pinned (OpenSpec.ofChange widthWritesSpec)

/-- ITS FALSE NEIGHBOUR: 'it returns false'. Refute it at one input. -/
def widthWritesWrong : ChangeSpec := { name := "widthWrites", fn := fun _ => fun
  | [d1, d2] => { results := [.lit (.bool false)], args := [d1, d2] }
  | _ => none }
def WidthWritesWrongFalsely : Prop := widthWritesRow.holds Try.pinned (OpenSpec.ofChange widthWritesWrong)

/-- 'cadenzalaw18.WidthNames': WHATEVER THE INPUT: true; the input reads as it did. -/
def widthNamesSpec : ChangeSpec := { name := "widthNames", fn := fun _ => fun
  | [] => { results := [.lit (.bool true)], args := [] }
  | _ => none }
def widthNamesRow : OpenClaim := { program := "ytfapkpegfgeliaa", sum := "c183d374116d5db0f88a78fcd65e78b1ad4883a30f5eb335561b1ddbe84802b9", func := "cadenza/cadenzalaw18.WidthNames", spec := "widthNames", apart := false }
def WidthNamesSaid : Prop := widthNamesRow.holds Try.pinned (OpenSpec.ofChange widthNamesSpec)

/-- ITS FALSE NEIGHBOUR: 'it returns false'. Refute it at one input. -/
def widthNamesWrong : ChangeSpec := { name := "widthNames", fn := fun _ => fun
  | [] => { results := [.lit (.bool false)], args := [] }
  | _ => none }
def WidthNamesWrongFalsely : Prop := widthNamesRow.holds Try.pinned (OpenSpec.ofChange widthNamesWrong)

/-- 'cadenzalaw18.WidthBack': WHATEVER THE INPUT: true; the input reads as it did. -/
def widthBackSpec : ChangeSpec := { name := "widthBack", fn := fun _ => fun
  | [d1, d2, d3] => { results := [.lit (.bool true)], args := [d1, d2, d3] }
  | _ => none }
def widthBackRow : OpenClaim := { program := "ytfapkpegfgeliaa", sum := "c183d374116d5db0f88a78fcd65e78b1ad4883a30f5eb335561b1ddbe84802b9", func := "cadenza/cadenzalaw18.WidthBack", spec := "widthBack", apart := false }
def WidthBackSaid : Prop := widthBackRow.holds Try.pinned (OpenSpec.ofChange widthBackSpec)

/-- ITS FALSE NEIGHBOUR: 'it returns false'. Refute it at one input. -/
def widthBackWrong : ChangeSpec := { name := "widthBack", fn := fun _ => fun
  | [d1, d2, d3] => { results := [.lit (.bool false)], args := [d1, d2, d3] }
  | _ => none }
def WidthBackWrongFalsely : Prop := widthBackRow.holds Try.pinned (OpenSpec.ofChange widthBackWrong)

/-- 'cadenzalaw18.WidthEach': WHATEVER THE INPUT: true; the input reads as it did. -/
def widthEachSpec : ChangeSpec := { name := "widthEach", fn := fun _ => fun
  | [d1, d2, d3] => { results := [.lit (.bool true)], args := [d1, d2, d3] }
  | _ => none }
def widthEachRow : OpenClaim := { program := "ytfapkpegfgeliaa", sum := "c183d374116d5db0f88a78fcd65e78b1ad4883a30f5eb335561b1ddbe84802b9", func := "cadenza/cadenzalaw18.WidthEach", spec := "widthEach", apart := false }
def WidthEachSaid : Prop := widthEachRow.holds Try.pinned (OpenSpec.ofChange widthEachSpec)

/-- ITS FALSE NEIGHBOUR: 'it returns false'. Refute it at one input. -/
def widthEachWrong : ChangeSpec := { name := "widthEach", fn := fun _ => fun
  | [d1, d2, d3] => { results := [.lit (.bool false)], args := [d1, d2, d3] }
  | _ => none }
def WidthEachWrongFalsely : Prop := widthEachRow.holds Try.pinned (OpenSpec.ofChange widthEachWrong)

/-- 'cadenzalaw18.WidthOrder': WHATEVER THE INPUT: true; the input reads as it did. -/
def widthOrderSpec : ChangeSpec := { name := "widthOrder", fn := fun _ => fun
  | [d1, d2, d3] => { results := [.lit (.bool true)], args := [d1, d2, d3] }
  | _ => none }
def widthOrderRow : OpenClaim := { program := "ytfapkpegfgeliaa", sum := "c183d374116d5db0f88a78fcd65e78b1ad4883a30f5eb335561b1ddbe84802b9", func := "cadenza/cadenzalaw18.WidthOrder", spec := "widthOrder", apart := false }
def WidthOrderSaid : Prop := widthOrderRow.holds Try.pinned (OpenSpec.ofChange widthOrderSpec)

/-- ITS FALSE NEIGHBOUR: 'it returns false'. Refute it at one input. -/
def widthOrderWrong : ChangeSpec := { name := "widthOrder", fn := fun _ => fun
  | [d1, d2, d3] => { results := [.lit (.bool false)], args := [d1, d2, d3] }
  | _ => none }
def WidthOrderWrongFalsely : Prop := widthOrderRow.holds Try.pinned (OpenSpec.ofChange widthOrderWrong)

/- THE SECOND FORM. 'bulk': how many values and letters a reading holds, each counted each time it is reached (what is shared counts as often as it is met; a slice's spare places count too). A statement '..UptoSaid' is the law's where the arguments, and the package variables that the reading takes, are together of bulk at most 1048576: NARROWER than '..Said'. Prove '..Said' where nothing that the law and all that it calls make is longer than what came in: it says more and counts as full. Else prove '..UptoSaid'. A law counts once. -/
mutual
def uptoBulk {H : Type} : DataW H → Nat
  | .lit (.string bytes) => bytes.length + 1
  | .lit _ => 1
  | .nil => 1
  | .ptr d => uptoBulk d + 1
  | .slice elems spare => uptoBulkAll elems + uptoBulkAll spare + 1
  | .agg parts => uptoBulkAll parts + 1
  | .iface _ d => uptoBulk d + 1
  | .map entries => uptoBulkEntries entries + 1
  | .held _ => 1
def uptoBulkAll {H : Type} : List (DataW H) → Nat
  | [] => 0
  | d :: r => uptoBulk d + uptoBulkAll r
def uptoBulkEntries {H : Type} : List (Lit × DataW H) → Nat
  | [] => 0
  | x :: r => uptoBulkEntry x + uptoBulkEntries r
def uptoBulkEntry {H : Type} : Lit × DataW H → Nat
  | (.string bytes, d) => bytes.length + uptoBulk d + 1
  | (_, d) => uptoBulk d + 1
 end
def uptoSmall : (H : Type) → List (DataW H) → Bool := fun _ ds => decide (uptoBulkAll ds ≤ 1048576)
def OpenSpec.upto (s : _root_.Go.ChangeSpec) : _root_.Go.OpenSpec := { _root_.Go.OpenSpec.ofChange s with cond := some uptoSmall }

/-- 'cadenzalaw18.WidthReads', WHERE WHAT IT READS IS OF BULK AT MOST 1048576: true; the input reads as it did. -/
def widthReadsUptoRow : OpenClaim := { program := "ytfapkpegfgeliaa", sum := "c183d374116d5db0f88a78fcd65e78b1ad4883a30f5eb335561b1ddbe84802b9", func := "cadenza/cadenzalaw18.WidthReads", spec := "widthReads", apart := false, narrowed := true }
def WidthReadsUptoSaid : Prop := widthReadsUptoRow.holds Try.pinned (OpenSpec.upto widthReadsSpec)

/-- 'cadenzalaw18.WidthWrites', WHERE WHAT IT READS IS OF BULK AT MOST 1048576: true; the input reads as it did. -/
def widthWritesUptoRow : OpenClaim := { program := "ytfapkpegfgeliaa", sum := "c183d374116d5db0f88a78fcd65e78b1ad4883a30f5eb335561b1ddbe84802b9", func := "cadenza/cadenzalaw18.WidthWrites", spec := "widthWrites", apart := false, narrowed := true }
def WidthWritesUptoSaid : Prop := widthWritesUptoRow.holds Try.pinned (OpenSpec.upto widthWritesSpec)

/-- 'cadenzalaw18.WidthNames', WHERE WHAT IT READS IS OF BULK AT MOST 1048576: true; the input reads as it did. -/
def widthNamesUptoRow : OpenClaim := { program := "ytfapkpegfgeliaa", sum := "c183d374116d5db0f88a78fcd65e78b1ad4883a30f5eb335561b1ddbe84802b9", func := "cadenza/cadenzalaw18.WidthNames", spec := "widthNames", apart := false, narrowed := true }
def WidthNamesUptoSaid : Prop := widthNamesUptoRow.holds Try.pinned (OpenSpec.upto widthNamesSpec)

/-- 'cadenzalaw18.WidthBack', WHERE WHAT IT READS IS OF BULK AT MOST 1048576: true; the input reads as it did. -/
def widthBackUptoRow : OpenClaim := { program := "ytfapkpegfgeliaa", sum := "c183d374116d5db0f88a78fcd65e78b1ad4883a30f5eb335561b1ddbe84802b9", func := "cadenza/cadenzalaw18.WidthBack", spec := "widthBack", apart := false, narrowed := true }
def WidthBackUptoSaid : Prop := widthBackUptoRow.holds Try.pinned (OpenSpec.upto widthBackSpec)

/-- 'cadenzalaw18.WidthEach', WHERE WHAT IT READS IS OF BULK AT MOST 1048576: true; the input reads as it did. -/
def widthEachUptoRow : OpenClaim := { program := "ytfapkpegfgeliaa", sum := "c183d374116d5db0f88a78fcd65e78b1ad4883a30f5eb335561b1ddbe84802b9", func := "cadenza/cadenzalaw18.WidthEach", spec := "widthEach", apart := false, narrowed := true }
def WidthEachUptoSaid : Prop := widthEachUptoRow.holds Try.pinned (OpenSpec.upto widthEachSpec)

/-- 'cadenzalaw18.WidthOrder', WHERE WHAT IT READS IS OF BULK AT MOST 1048576: true; the input reads as it did. -/
def widthOrderUptoRow : OpenClaim := { program := "ytfapkpegfgeliaa", sum := "c183d374116d5db0f88a78fcd65e78b1ad4883a30f5eb335561b1ddbe84802b9", func := "cadenza/cadenzalaw18.WidthOrder", spec := "widthOrder", apart := false, narrowed := true }
def WidthOrderUptoSaid : Prop := widthOrderUptoRow.holds Try.pinned (OpenSpec.upto widthOrderSpec)

end Rows
end Go.Proofs.Ytfapkpegfgeliaa

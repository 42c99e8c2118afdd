/-
  No cell of these rows narrows 'for every input' (looked for: loops, veiled, ifaces, maps, wideKeys, modest, calm, conditions, laid).
  DERIVED. THE GIVEN ROWS OF THIS SEAT. 6 by the template 'for every input the law returns true; each argument reads behind the call as it read before'; 0 by the template 'total and deterministic' (their statements: YtabdadpcknlnbaaTotals.lean).
  GIVEN WITH THE SEED: the statements are not yours to turn. If you find one false, say at which input.
  Laid BY PROGRAM, IN A SANDBOX (cutbox-rows.mjs): the forced cells as the released guide's own fill.sh prints them over the translation 729f8881fc622c59… (all of the seat's roots in one cut). By AI agents, Wed Nov 11 2026. No macro, syntax, notation, axiom, sorry.
-/
import Derived.Test.YtabdadpcknlnbaaChecked
import GoSem.Claim
import GoSem.ClaimJoined
import GoSem.ClaimMapViews
import Derived.JoinedTies
import Derived.KernelRfl
namespace Go.Proofs.Ytabdadpcknlnbaa
/- THE CELL 'sum', in the pinned program and in every row, IS THE sha256 OF THE DUMP (.gsa) THAT YtabdadpcknlnbaaProg.lean LOADS. Nothing in Lean hashes anything: it is a label: what it is worth is what the hold of that sum in a sandbox is worth. -/
noncomputable def Try.pinned : Pinned := { name := "ytabdadpcknlnbaa", sum := "729f8881fc622c59e4ae4f21c33d0232047b98af3b5953d2c05fb8ea8e82e3de", checked := Try.checked }
namespace Rows
def none {H : Type} : Left H := { results := [], args := [] }

/-- 'cadenzalaw22.LengthsTells': WHATEVER THE INPUT: true; the input reads as it did. -/
def lengthsTellsSpec : ChangeSpec := { name := "lengthsTells", fn := fun _ => fun
  | [d1, d2, d3] => { results := [.lit (.bool true)], args := [d1, d2, d3] }
  | _ => none }
def lengthsTellsRow : OpenClaim := { program := "ytabdadpcknlnbaa", sum := "729f8881fc622c59e4ae4f21c33d0232047b98af3b5953d2c05fb8ea8e82e3de", func := "cadenza/cadenzalaw22.LengthsTells", spec := "lengthsTells", apart := false }
def LengthsTellsSaid : Prop := lengthsTellsRow.holds Try.pinned (OpenSpec.ofChange lengthsTellsSpec)

/-- ITS FALSE NEIGHBOUR: 'it returns false'. Refute it at one input. -/
def lengthsTellsWrong : ChangeSpec := { name := "lengthsTells", fn := fun _ => fun
  | [d1, d2, d3] => { results := [.lit (.bool false)], args := [d1, d2, d3] }
  | _ => none }
def LengthsTellsWrongFalsely : Prop := lengthsTellsRow.holds Try.pinned (OpenSpec.ofChange lengthsTellsWrong)

/-- 'cadenzalaw22.LengthsNames': WHATEVER THE INPUT: true; the input reads as it did. -/
def lengthsNamesSpec : ChangeSpec := { name := "lengthsNames", fn := fun _ => fun
  | [] => { results := [.lit (.bool true)], args := [] }
  | _ => none }
def lengthsNamesRow : OpenClaim := { program := "ytabdadpcknlnbaa", sum := "729f8881fc622c59e4ae4f21c33d0232047b98af3b5953d2c05fb8ea8e82e3de", func := "cadenza/cadenzalaw22.LengthsNames", spec := "lengthsNames", apart := false }
def LengthsNamesSaid : Prop := lengthsNamesRow.holds Try.pinned (OpenSpec.ofChange lengthsNamesSpec)

/-- ITS FALSE NEIGHBOUR: 'it returns false'. Refute it at one input. -/
def lengthsNamesWrong : ChangeSpec := { name := "lengthsNames", fn := fun _ => fun
  | [] => { results := [.lit (.bool false)], args := [] }
  | _ => none }
def LengthsNamesWrongFalsely : Prop := lengthsNamesRow.holds Try.pinned (OpenSpec.ofChange lengthsNamesWrong)

/-- 'cadenzalaw22.LengthsSum': WHATEVER THE INPUT: true; the input reads as it did. -/
def lengthsSumSpec : ChangeSpec := { name := "lengthsSum", fn := fun _ => fun
  | [d1, d2] => { results := [.lit (.bool true)], args := [d1, d2] }
  | _ => none }
def lengthsSumRow : OpenClaim := { program := "ytabdadpcknlnbaa", sum := "729f8881fc622c59e4ae4f21c33d0232047b98af3b5953d2c05fb8ea8e82e3de", func := "cadenza/cadenzalaw22.LengthsSum", spec := "lengthsSum", apart := false }
def LengthsSumSaid : Prop := lengthsSumRow.holds Try.pinned (OpenSpec.ofChange lengthsSumSpec)

/-- ITS FALSE NEIGHBOUR: 'it returns false'. Refute it at one input. -/
def lengthsSumWrong : ChangeSpec := { name := "lengthsSum", fn := fun _ => fun
  | [d1, d2] => { results := [.lit (.bool false)], args := [d1, d2] }
  | _ => none }
def LengthsSumWrongFalsely : Prop := lengthsSumRow.holds Try.pinned (OpenSpec.ofChange lengthsSumWrong)

/-- 'cadenzalaw22.LengthsPlace': WHATEVER THE INPUT: true; the input reads as it did. -/
def lengthsPlaceSpec : ChangeSpec := { name := "lengthsPlace", fn := fun _ => fun
  | [d1, d2, d3] => { results := [.lit (.bool true)], args := [d1, d2, d3] }
  | _ => none }
def lengthsPlaceRow : OpenClaim := { program := "ytabdadpcknlnbaa", sum := "729f8881fc622c59e4ae4f21c33d0232047b98af3b5953d2c05fb8ea8e82e3de", func := "cadenza/cadenzalaw22.LengthsPlace", spec := "lengthsPlace", apart := false }
def LengthsPlaceSaid : Prop := lengthsPlaceRow.holds Try.pinned (OpenSpec.ofChange lengthsPlaceSpec)

/-- ITS FALSE NEIGHBOUR: 'it returns false'. Refute it at one input. -/
def lengthsPlaceWrong : ChangeSpec := { name := "lengthsPlace", fn := fun _ => fun
  | [d1, d2, d3] => { results := [.lit (.bool false)], args := [d1, d2, d3] }
  | _ => none }
def LengthsPlaceWrongFalsely : Prop := lengthsPlaceRow.holds Try.pinned (OpenSpec.ofChange lengthsPlaceWrong)

/-- 'cadenzalaw22.LengthsMore': WHATEVER THE INPUT: true; the input reads as it did. -/
def lengthsMoreSpec : ChangeSpec := { name := "lengthsMore", fn := fun _ => fun
  | [d1, d2, d3] => { results := [.lit (.bool true)], args := [d1, d2, d3] }
  | _ => none }
def lengthsMoreRow : OpenClaim := { program := "ytabdadpcknlnbaa", sum := "729f8881fc622c59e4ae4f21c33d0232047b98af3b5953d2c05fb8ea8e82e3de", func := "cadenza/cadenzalaw22.LengthsMore", spec := "lengthsMore", apart := false }
def LengthsMoreSaid : Prop := lengthsMoreRow.holds Try.pinned (OpenSpec.ofChange lengthsMoreSpec)

/-- ITS FALSE NEIGHBOUR: 'it returns false'. Refute it at one input. -/
def lengthsMoreWrong : ChangeSpec := { name := "lengthsMore", fn := fun _ => fun
  | [d1, d2, d3] => { results := [.lit (.bool false)], args := [d1, d2, d3] }
  | _ => none }
def LengthsMoreWrongFalsely : Prop := lengthsMoreRow.holds Try.pinned (OpenSpec.ofChange lengthsMoreWrong)

/-- 'cadenzalaw22.LengthsNext': WHATEVER THE INPUT: true; the input reads as it did. -/
def lengthsNextSpec : ChangeSpec := { name := "lengthsNext", fn := fun _ => fun
  | [d1, d2] => { results := [.lit (.bool true)], args := [d1, d2] }
  | _ => none }
def lengthsNextRow : OpenClaim := { program := "ytabdadpcknlnbaa", sum := "729f8881fc622c59e4ae4f21c33d0232047b98af3b5953d2c05fb8ea8e82e3de", func := "cadenza/cadenzalaw22.LengthsNext", spec := "lengthsNext", apart := false }
def LengthsNextSaid : Prop := lengthsNextRow.holds Try.pinned (OpenSpec.ofChange lengthsNextSpec)

/-- ITS FALSE NEIGHBOUR: 'it returns false'. Refute it at one input. -/
def lengthsNextWrong : ChangeSpec := { name := "lengthsNext", fn := fun _ => fun
  | [d1, d2] => { results := [.lit (.bool false)], args := [d1, d2] }
  | _ => none }
def LengthsNextWrongFalsely : Prop := lengthsNextRow.holds Try.pinned (OpenSpec.ofChange lengthsNextWrong)

/- THE SECOND FORM. 'bulk': how many values and letters a reading holds, each counted each time it is reached (what is shared counts as often as it is met; a slice's spare places count too). A statement '..UptoSaid' is the law's where the arguments, and the package variables that the reading takes, are together of bulk at most 1048576: NARROWER than '..Said'. Prove '..Said' where nothing that the law and all that it calls make is longer than what came in: it says more and counts as full. Else prove '..UptoSaid'. A law counts once. -/
mutual
def uptoBulk {H : Type} : DataW H → Nat
  | .lit (.string bytes) => bytes.length + 1
  | .lit _ => 1
  | .nil => 1
  | .ptr d => uptoBulk d + 1
  | .slice elems spare => uptoBulkAll elems + uptoBulkAll spare + 1
  | .agg parts => uptoBulkAll parts + 1
  | .iface _ d => uptoBulk d + 1
  | .map entries => uptoBulkEntries entries + 1
  | .held _ => 1
def uptoBulkAll {H : Type} : List (DataW H) → Nat
  | [] => 0
  | d :: r => uptoBulk d + uptoBulkAll r
def uptoBulkEntries {H : Type} : List (Lit × DataW H) → Nat
  | [] => 0
  | x :: r => uptoBulkEntry x + uptoBulkEntries r
def uptoBulkEntry {H : Type} : Lit × DataW H → Nat
  | (.string bytes, d) => bytes.length + uptoBulk d + 1
  | (_, d) => uptoBulk d + 1
 end
def uptoSmall : (H : Type) → List (DataW H) → Bool := fun _ ds => decide (uptoBulkAll ds ≤ 1048576)
def OpenSpec.upto (s : _root_.Go.ChangeSpec) : _root_.Go.OpenSpec := { _root_.Go.OpenSpec.ofChange s with cond := some uptoSmall }

/-- 'cadenzalaw22.LengthsTells', WHERE WHAT IT READS IS OF BULK AT MOST 1048576: true; the input reads as it did. -/
def lengthsTellsUptoRow : OpenClaim := { program := "ytabdadpcknlnbaa", sum := "729f8881fc622c59e4ae4f21c33d0232047b98af3b5953d2c05fb8ea8e82e3de", func := "cadenza/cadenzalaw22.LengthsTells", spec := "lengthsTells", apart := false, narrowed := true }
def LengthsTellsUptoSaid : Prop := lengthsTellsUptoRow.holds Try.pinned (OpenSpec.upto lengthsTellsSpec)

/-- 'cadenzalaw22.LengthsNames', WHERE WHAT IT READS IS OF BULK AT MOST 1048576: true; the input reads as it did. -/
def lengthsNamesUptoRow : OpenClaim := { program := "ytabdadpcknlnbaa", sum := "729f8881fc622c59e4ae4f21c33d0232047b98af3b5953d2c05fb8ea8e82e3de", func := "cadenza/cadenzalaw22.LengthsNames", spec := "lengthsNames", apart := false, narrowed := true }
def LengthsNamesUptoSaid : Prop := lengthsNamesUptoRow.holds Try.pinned (OpenSpec.upto lengthsNamesSpec)

/-- 'cadenzalaw22.LengthsSum', WHERE WHAT IT READS IS OF BULK AT MOST 1048576: true; the input reads as it did. -/
def lengthsSumUptoRow : OpenClaim := { program := "ytabdadpcknlnbaa", sum := "729f8881fc622c59e4ae4f21c33d0232047b98af3b5953d2c05fb8ea8e82e3de", func := "cadenza/cadenzalaw22.LengthsSum", spec := "lengthsSum", apart := false, narrowed := true }
def LengthsSumUptoSaid : Prop := lengthsSumUptoRow.holds Try.pinned (OpenSpec.upto lengthsSumSpec)

/-- 'cadenzalaw22.LengthsPlace', WHERE WHAT IT READS IS OF BULK AT MOST 1048576: true; the input reads as it did. -/
def lengthsPlaceUptoRow : OpenClaim := { program := "ytabdadpcknlnbaa", sum := "729f8881fc622c59e4ae4f21c33d0232047b98af3b5953d2c05fb8ea8e82e3de", func := "cadenza/cadenzalaw22.LengthsPlace", spec := "lengthsPlace", apart := false, narrowed := true }
def LengthsPlaceUptoSaid : Prop := lengthsPlaceUptoRow.holds Try.pinned (OpenSpec.upto lengthsPlaceSpec)

/-- 'cadenzalaw22.LengthsMore', WHERE WHAT IT READS IS OF BULK AT MOST 1048576: true; the input reads as it did. -/
def lengthsMoreUptoRow : OpenClaim := { program := "ytabdadpcknlnbaa", sum := "729f8881fc622c59e4ae4f21c33d0232047b98af3b5953d2c05fb8ea8e82e3de", func := "cadenza/cadenzalaw22.LengthsMore", spec := "lengthsMore", apart := false, narrowed := true }
def LengthsMoreUptoSaid : Prop := lengthsMoreUptoRow.holds Try.pinned (OpenSpec.upto lengthsMoreSpec)

/-- 'cadenzalaw22.LengthsNext', WHERE WHAT IT READS IS OF BULK AT MOST 1048576: true; the input reads as it did. -/
def lengthsNextUptoRow : OpenClaim := { program := "ytabdadpcknlnbaa", sum := "729f8881fc622c59e4ae4f21c33d0232047b98af3b5953d2c05fb8ea8e82e3de", func := "cadenza/cadenzalaw22.LengthsNext", spec := "lengthsNext", apart := false, narrowed := true }
def LengthsNextUptoSaid : Prop := lengthsNextUptoRow.holds Try.pinned (OpenSpec.upto lengthsNextSpec)

end Rows
end Go.Proofs.Ytabdadpcknlnbaa

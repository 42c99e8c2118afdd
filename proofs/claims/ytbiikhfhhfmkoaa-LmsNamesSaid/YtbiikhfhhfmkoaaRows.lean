/-
  No cell of these rows narrows 'for every input' (looked for: loops, veiled, ifaces, maps, wideKeys, modest, calm, conditions, laid).
  DERIVED. THE GIVEN ROWS OF THIS SEAT. 7 by the template 'for every input the law returns true; each argument reads behind the call as it read before'; 0 by the template 'total and deterministic' (their statements: YtbiikhfhhfmkoaaTotals.lean).
  GIVEN WITH THE SEED: the statements are not yours to turn. If you find one false, say at which input.
  Laid BY PROGRAM, IN A SANDBOX (cutbox-rows.mjs): the forced cells as the released guide's own fill.sh prints them over the translation 15fa5be96037dc38… (all of the seat's roots in one cut). By AI agents, Wed Nov 11 2026. No macro, syntax, notation, axiom, sorry.
-/
import Derived.Test.YtbiikhfhhfmkoaaChecked
import GoSem.Claim
import GoSem.ClaimJoined
import GoSem.ClaimMapViews
import Derived.JoinedTies
import Derived.KernelRfl
namespace Go.Proofs.Ytbiikhfhhfmkoaa
/- THE CELL 'sum', in the pinned program and in every row, IS THE sha256 OF THE DUMP (.gsa) THAT YtbiikhfhhfmkoaaProg.lean LOADS. Nothing in Lean hashes anything: it is a label: what it is worth is what the hold of that sum in a sandbox is worth. -/
noncomputable def Try.pinned : Pinned := { name := "ytbiikhfhhfmkoaa", sum := "15fa5be96037dc38b55107760e3f3e66baf6166f6043a0a064ffac3abee8151a", checked := Try.checked }
namespace Rows
def none {H : Type} : Left H := { results := [], args := [] }

/-- 'cadenzalaw15.LmsSteps': WHATEVER THE INPUT: true; the input reads as it did. -/
def lmsStepsSpec : ChangeSpec := { name := "lmsSteps", fn := fun _ => fun
  | [d1, d2] => { results := [.lit (.bool true)], args := [d1, d2] }
  | _ => none }
def lmsStepsRow : OpenClaim := { program := "ytbiikhfhhfmkoaa", sum := "15fa5be96037dc38b55107760e3f3e66baf6166f6043a0a064ffac3abee8151a", func := "cadenza/cadenzalaw15.LmsSteps", spec := "lmsSteps", apart := false }
def LmsStepsSaid : Prop := lmsStepsRow.holds Try.pinned (OpenSpec.ofChange lmsStepsSpec)

/-- ITS FALSE NEIGHBOUR: 'it returns false'. Refute it at one input. -/
def lmsStepsWrong : ChangeSpec := { name := "lmsSteps", fn := fun _ => fun
  | [d1, d2] => { results := [.lit (.bool false)], args := [d1, d2] }
  | _ => none }
def LmsStepsWrongFalsely : Prop := lmsStepsRow.holds Try.pinned (OpenSpec.ofChange lmsStepsWrong)

/-- 'cadenzalaw15.LmsParts': WHATEVER THE INPUT: true; the input reads as it did. -/
def lmsPartsSpec : ChangeSpec := { name := "lmsParts", fn := fun _ => fun
  | [d1, d2, d3] => { results := [.lit (.bool true)], args := [d1, d2, d3] }
  | _ => none }
def lmsPartsRow : OpenClaim := { program := "ytbiikhfhhfmkoaa", sum := "15fa5be96037dc38b55107760e3f3e66baf6166f6043a0a064ffac3abee8151a", func := "cadenza/cadenzalaw15.LmsParts", spec := "lmsParts", unfollowed := true, recurses := true, apart := false }
def LmsPartsSaid : Prop := lmsPartsRow.holds Try.pinned (OpenSpec.ofChange lmsPartsSpec)

/-- ITS FALSE NEIGHBOUR: 'it returns false'. Refute it at one input. -/
def lmsPartsWrong : ChangeSpec := { name := "lmsParts", fn := fun _ => fun
  | [d1, d2, d3] => { results := [.lit (.bool false)], args := [d1, d2, d3] }
  | _ => none }
def LmsPartsWrongFalsely : Prop := lmsPartsRow.holds Try.pinned (OpenSpec.ofChange lmsPartsWrong)

/-- 'cadenzalaw15.LmsSame': WHATEVER THE INPUT: true; the input reads as it did. -/
def lmsSameSpec : ChangeSpec := { name := "lmsSame", fn := fun _ => fun
  | [d1, d2] => { results := [.lit (.bool true)], args := [d1, d2] }
  | _ => none }
def lmsSameRow : OpenClaim := { program := "ytbiikhfhhfmkoaa", sum := "15fa5be96037dc38b55107760e3f3e66baf6166f6043a0a064ffac3abee8151a", func := "cadenza/cadenzalaw15.LmsSame", spec := "lmsSame", unfollowed := true, recurses := true, apart := false }
def LmsSameSaid : Prop := lmsSameRow.holds Try.pinned (OpenSpec.ofChange lmsSameSpec)

/-- ITS FALSE NEIGHBOUR: 'it returns false'. Refute it at one input. -/
def lmsSameWrong : ChangeSpec := { name := "lmsSame", fn := fun _ => fun
  | [d1, d2] => { results := [.lit (.bool false)], args := [d1, d2] }
  | _ => none }
def LmsSameWrongFalsely : Prop := lmsSameRow.holds Try.pinned (OpenSpec.ofChange lmsSameWrong)

/-- 'cadenzalaw15.LmsRuns': WHATEVER THE INPUT: true; the input reads as it did. -/
def lmsRunsSpec : ChangeSpec := { name := "lmsRuns", fn := fun _ => fun
  | [d1, d2] => { results := [.lit (.bool true)], args := [d1, d2] }
  | _ => none }
def lmsRunsRow : OpenClaim := { program := "ytbiikhfhhfmkoaa", sum := "15fa5be96037dc38b55107760e3f3e66baf6166f6043a0a064ffac3abee8151a", func := "cadenza/cadenzalaw15.LmsRuns", spec := "lmsRuns", unfollowed := true, recurses := true, apart := false }
def LmsRunsSaid : Prop := lmsRunsRow.holds Try.pinned (OpenSpec.ofChange lmsRunsSpec)

/-- ITS FALSE NEIGHBOUR: 'it returns false'. Refute it at one input. -/
def lmsRunsWrong : ChangeSpec := { name := "lmsRuns", fn := fun _ => fun
  | [d1, d2] => { results := [.lit (.bool false)], args := [d1, d2] }
  | _ => none }
def LmsRunsWrongFalsely : Prop := lmsRunsRow.holds Try.pinned (OpenSpec.ofChange lmsRunsWrong)

/-- 'cadenzalaw15.LmsNames': WHATEVER THE INPUT: true; the input reads as it did. -/
def lmsNamesSpec : ChangeSpec := { name := "lmsNames", fn := fun _ => fun
  | [] => { results := [.lit (.bool true)], args := [] }
  | _ => none }
def lmsNamesRow : OpenClaim := { program := "ytbiikhfhhfmkoaa", sum := "15fa5be96037dc38b55107760e3f3e66baf6166f6043a0a064ffac3abee8151a", func := "cadenza/cadenzalaw15.LmsNames", spec := "lmsNames", unfollowed := true, recurses := true, apart := false }
def LmsNamesSaid : Prop := lmsNamesRow.holds Try.pinned (OpenSpec.ofChange lmsNamesSpec)

/-- ITS FALSE NEIGHBOUR: 'it returns false'. Refute it at one input. -/
def lmsNamesWrong : ChangeSpec := { name := "lmsNames", fn := fun _ => fun
  | [] => { results := [.lit (.bool false)], args := [] }
  | _ => none }
def LmsNamesWrongFalsely : Prop := lmsNamesRow.holds Try.pinned (OpenSpec.ofChange lmsNamesWrong)

/-- 'cadenzalaw15.LmsBack': WHATEVER THE INPUT: true; the input reads as it did. -/
def lmsBackSpec : ChangeSpec := { name := "lmsBack", fn := fun _ => fun
  | [d1, d2] => { results := [.lit (.bool true)], args := [d1, d2] }
  | _ => none }
def lmsBackRow : OpenClaim := { program := "ytbiikhfhhfmkoaa", sum := "15fa5be96037dc38b55107760e3f3e66baf6166f6043a0a064ffac3abee8151a", func := "cadenza/cadenzalaw15.LmsBack", spec := "lmsBack", unfollowed := true, recurses := true, apart := false }
def LmsBackSaid : Prop := lmsBackRow.holds Try.pinned (OpenSpec.ofChange lmsBackSpec)

/-- ITS FALSE NEIGHBOUR: 'it returns false'. Refute it at one input. -/
def lmsBackWrong : ChangeSpec := { name := "lmsBack", fn := fun _ => fun
  | [d1, d2] => { results := [.lit (.bool false)], args := [d1, d2] }
  | _ => none }
def LmsBackWrongFalsely : Prop := lmsBackRow.holds Try.pinned (OpenSpec.ofChange lmsBackWrong)

/-- 'cadenzalaw15.LmsSilence': WHATEVER THE INPUT: true; the input reads as it did. -/
def lmsSilenceSpec : ChangeSpec := { name := "lmsSilence", fn := fun _ => fun
  | [d1, d2] => { results := [.lit (.bool true)], args := [d1, d2] }
  | _ => none }
def lmsSilenceRow : OpenClaim := { program := "ytbiikhfhhfmkoaa", sum := "15fa5be96037dc38b55107760e3f3e66baf6166f6043a0a064ffac3abee8151a", func := "cadenza/cadenzalaw15.LmsSilence", spec := "lmsSilence", unfollowed := true, recurses := true, apart := false }
def LmsSilenceSaid : Prop := lmsSilenceRow.holds Try.pinned (OpenSpec.ofChange lmsSilenceSpec)

/-- ITS FALSE NEIGHBOUR: 'it returns false'. Refute it at one input. -/
def lmsSilenceWrong : ChangeSpec := { name := "lmsSilence", fn := fun _ => fun
  | [d1, d2] => { results := [.lit (.bool false)], args := [d1, d2] }
  | _ => none }
def LmsSilenceWrongFalsely : Prop := lmsSilenceRow.holds Try.pinned (OpenSpec.ofChange lmsSilenceWrong)

/- THE SECOND FORM. 'bulk': how many values and letters a reading holds, each counted each time it is reached (what is shared counts as often as it is met; a slice's spare places count too). A statement '..UptoSaid' is the law's where the arguments, and the package variables that the reading takes, are together of bulk at most 1048576: NARROWER than '..Said'. Prove '..Said' where nothing that the law and all that it calls make is longer than what came in: it says more and counts as full. Else prove '..UptoSaid'. A law counts once. -/
mutual
def uptoBulk {H : Type} : DataW H → Nat
  | .lit (.string bytes) => bytes.length + 1
  | .lit _ => 1
  | .nil => 1
  | .ptr d => uptoBulk d + 1
  | .slice elems spare => uptoBulkAll elems + uptoBulkAll spare + 1
  | .agg parts => uptoBulkAll parts + 1
  | .iface _ d => uptoBulk d + 1
  | .map entries => uptoBulkEntries entries + 1
  | .held _ => 1
def uptoBulkAll {H : Type} : List (DataW H) → Nat
  | [] => 0
  | d :: r => uptoBulk d + uptoBulkAll r
def uptoBulkEntries {H : Type} : List (Lit × DataW H) → Nat
  | [] => 0
  | x :: r => uptoBulkEntry x + uptoBulkEntries r
def uptoBulkEntry {H : Type} : Lit × DataW H → Nat
  | (.string bytes, d) => bytes.length + uptoBulk d + 1
  | (_, d) => uptoBulk d + 1
 end
def uptoSmall : (H : Type) → List (DataW H) → Bool := fun _ ds => decide (uptoBulkAll ds ≤ 1048576)
def OpenSpec.upto (s : _root_.Go.ChangeSpec) : _root_.Go.OpenSpec := { _root_.Go.OpenSpec.ofChange s with cond := some uptoSmall }

/-- 'cadenzalaw15.LmsSteps', WHERE WHAT IT READS IS OF BULK AT MOST 1048576: true; the input reads as it did. -/
def lmsStepsUptoRow : OpenClaim := { program := "ytbiikhfhhfmkoaa", sum := "15fa5be96037dc38b55107760e3f3e66baf6166f6043a0a064ffac3abee8151a", func := "cadenza/cadenzalaw15.LmsSteps", spec := "lmsSteps", apart := false, narrowed := true }
def LmsStepsUptoSaid : Prop := lmsStepsUptoRow.holds Try.pinned (OpenSpec.upto lmsStepsSpec)

/-- 'cadenzalaw15.LmsParts', WHERE WHAT IT READS IS OF BULK AT MOST 1048576: true; the input reads as it did. -/
def lmsPartsUptoRow : OpenClaim := { program := "ytbiikhfhhfmkoaa", sum := "15fa5be96037dc38b55107760e3f3e66baf6166f6043a0a064ffac3abee8151a", func := "cadenza/cadenzalaw15.LmsParts", spec := "lmsParts", unfollowed := true, recurses := true, apart := false, narrowed := true }
def LmsPartsUptoSaid : Prop := lmsPartsUptoRow.holds Try.pinned (OpenSpec.upto lmsPartsSpec)

/-- 'cadenzalaw15.LmsSame', WHERE WHAT IT READS IS OF BULK AT MOST 1048576: true; the input reads as it did. -/
def lmsSameUptoRow : OpenClaim := { program := "ytbiikhfhhfmkoaa", sum := "15fa5be96037dc38b55107760e3f3e66baf6166f6043a0a064ffac3abee8151a", func := "cadenza/cadenzalaw15.LmsSame", spec := "lmsSame", unfollowed := true, recurses := true, apart := false, narrowed := true }
def LmsSameUptoSaid : Prop := lmsSameUptoRow.holds Try.pinned (OpenSpec.upto lmsSameSpec)

/-- 'cadenzalaw15.LmsRuns', WHERE WHAT IT READS IS OF BULK AT MOST 1048576: true; the input reads as it did. -/
def lmsRunsUptoRow : OpenClaim := { program := "ytbiikhfhhfmkoaa", sum := "15fa5be96037dc38b55107760e3f3e66baf6166f6043a0a064ffac3abee8151a", func := "cadenza/cadenzalaw15.LmsRuns", spec := "lmsRuns", unfollowed := true, recurses := true, apart := false, narrowed := true }
def LmsRunsUptoSaid : Prop := lmsRunsUptoRow.holds Try.pinned (OpenSpec.upto lmsRunsSpec)

/-- 'cadenzalaw15.LmsNames', WHERE WHAT IT READS IS OF BULK AT MOST 1048576: true; the input reads as it did. -/
def lmsNamesUptoRow : OpenClaim := { program := "ytbiikhfhhfmkoaa", sum := "15fa5be96037dc38b55107760e3f3e66baf6166f6043a0a064ffac3abee8151a", func := "cadenza/cadenzalaw15.LmsNames", spec := "lmsNames", unfollowed := true, recurses := true, apart := false, narrowed := true }
def LmsNamesUptoSaid : Prop := lmsNamesUptoRow.holds Try.pinned (OpenSpec.upto lmsNamesSpec)

/-- 'cadenzalaw15.LmsBack', WHERE WHAT IT READS IS OF BULK AT MOST 1048576: true; the input reads as it did. -/
def lmsBackUptoRow : OpenClaim := { program := "ytbiikhfhhfmkoaa", sum := "15fa5be96037dc38b55107760e3f3e66baf6166f6043a0a064ffac3abee8151a", func := "cadenza/cadenzalaw15.LmsBack", spec := "lmsBack", unfollowed := true, recurses := true, apart := false, narrowed := true }
def LmsBackUptoSaid : Prop := lmsBackUptoRow.holds Try.pinned (OpenSpec.upto lmsBackSpec)

/-- 'cadenzalaw15.LmsSilence', WHERE WHAT IT READS IS OF BULK AT MOST 1048576: true; the input reads as it did. -/
def lmsSilenceUptoRow : OpenClaim := { program := "ytbiikhfhhfmkoaa", sum := "15fa5be96037dc38b55107760e3f3e66baf6166f6043a0a064ffac3abee8151a", func := "cadenza/cadenzalaw15.LmsSilence", spec := "lmsSilence", unfollowed := true, recurses := true, apart := false, narrowed := true }
def LmsSilenceUptoSaid : Prop := lmsSilenceUptoRow.holds Try.pinned (OpenSpec.upto lmsSilenceSpec)

end Rows
end Go.Proofs.Ytbiikhfhhfmkoaa

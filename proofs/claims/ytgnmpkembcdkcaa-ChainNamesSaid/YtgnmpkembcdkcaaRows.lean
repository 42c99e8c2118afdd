/-
  No cell of these rows narrows 'for every input' (looked for: loops, veiled, ifaces, maps, wideKeys, modest, calm, conditions, laid).
  DERIVED. THE GIVEN ROWS OF THIS SEAT. 7 by the template 'for every input the law returns true; each argument reads behind the call as it read before'; 0 by the template 'total and deterministic' (their statements: YtgnmpkembcdkcaaTotals.lean).
  GIVEN WITH THE SEED: the statements are not yours to turn. If you find one false, say at which input.
  Laid BY PROGRAM, IN A SANDBOX (cutbox-rows.mjs): the forced cells as the released guide's own fill.sh prints them over the translation 223a22f0cc143418… (all of the seat's roots in one cut). By AI agents, Wed Nov 11 2026. No macro, syntax, notation, axiom, sorry.
-/
import Derived.Test.YtgnmpkembcdkcaaChecked
import GoSem.Claim
import GoSem.ClaimJoined
import GoSem.ClaimMapViews
import Derived.JoinedTies
import Derived.KernelRfl
namespace Go.Proofs.Ytgnmpkembcdkcaa
/- THE CELL 'sum', in the pinned program and in every row, IS THE sha256 OF THE DUMP (.gsa) THAT YtgnmpkembcdkcaaProg.lean LOADS. Nothing in Lean hashes anything: it is a label: what it is worth is what the hold of that sum in a sandbox is worth. -/
noncomputable def Try.pinned : Pinned := { name := "ytgnmpkembcdkcaa", sum := "223a22f0cc143418d7c8793875f1922fe69dfd8e73a0cbfb03220a6d1cad43fe", checked := Try.checked }
namespace Rows
def none {H : Type} : Left H := { results := [], args := [] }

/-- 'cadenzalaw19.ChainSteps': WHATEVER THE INPUT: true; the input reads as it did. -/
def chainStepsSpec : ChangeSpec := { name := "chainSteps", fn := fun _ => fun
  | [d1, d2, d3] => { results := [.lit (.bool true)], args := [d1, d2, d3] }
  | _ => none }
def chainStepsRow : OpenClaim := { program := "ytgnmpkembcdkcaa", sum := "223a22f0cc143418d7c8793875f1922fe69dfd8e73a0cbfb03220a6d1cad43fe", func := "cadenza/cadenzalaw19.ChainSteps", spec := "chainSteps", apart := false }
def ChainStepsSaid : Prop := chainStepsRow.holds Try.pinned (OpenSpec.ofChange chainStepsSpec)

/-- ITS FALSE NEIGHBOUR: 'it returns false'. Refute it at one input. -/
def chainStepsWrong : ChangeSpec := { name := "chainSteps", fn := fun _ => fun
  | [d1, d2, d3] => { results := [.lit (.bool false)], args := [d1, d2, d3] }
  | _ => none }
def ChainStepsWrongFalsely : Prop := chainStepsRow.holds Try.pinned (OpenSpec.ofChange chainStepsWrong)

/-- 'cadenzalaw19.ChainSame': WHATEVER THE INPUT: true; the input reads as it did. -/
def chainSameSpec : ChangeSpec := { name := "chainSame", fn := fun _ => fun
  | [d1, d2] => { results := [.lit (.bool true)], args := [d1, d2] }
  | _ => none }
def chainSameRow : OpenClaim := { program := "ytgnmpkembcdkcaa", sum := "223a22f0cc143418d7c8793875f1922fe69dfd8e73a0cbfb03220a6d1cad43fe", func := "cadenza/cadenzalaw19.ChainSame", spec := "chainSame", apart := false }
def ChainSameSaid : Prop := chainSameRow.holds Try.pinned (OpenSpec.ofChange chainSameSpec)

/-- ITS FALSE NEIGHBOUR: 'it returns false'. Refute it at one input. -/
def chainSameWrong : ChangeSpec := { name := "chainSame", fn := fun _ => fun
  | [d1, d2] => { results := [.lit (.bool false)], args := [d1, d2] }
  | _ => none }
def ChainSameWrongFalsely : Prop := chainSameRow.holds Try.pinned (OpenSpec.ofChange chainSameWrong)

/-- 'cadenzalaw19.ChainRuns': WHATEVER THE INPUT: true; the input reads as it did. -/
def chainRunsSpec : ChangeSpec := { name := "chainRuns", fn := fun _ => fun
  | [d1, d2] => { results := [.lit (.bool true)], args := [d1, d2] }
  | _ => none }
def chainRunsRow : OpenClaim := { program := "ytgnmpkembcdkcaa", sum := "223a22f0cc143418d7c8793875f1922fe69dfd8e73a0cbfb03220a6d1cad43fe", func := "cadenza/cadenzalaw19.ChainRuns", spec := "chainRuns", apart := false }
def ChainRunsSaid : Prop := chainRunsRow.holds Try.pinned (OpenSpec.ofChange chainRunsSpec)

/-- ITS FALSE NEIGHBOUR: 'it returns false'. Refute it at one input. -/
def chainRunsWrong : ChangeSpec := { name := "chainRuns", fn := fun _ => fun
  | [d1, d2] => { results := [.lit (.bool false)], args := [d1, d2] }
  | _ => none }
def ChainRunsWrongFalsely : Prop := chainRunsRow.holds Try.pinned (OpenSpec.ofChange chainRunsWrong)

/-- 'cadenzalaw19.ChainNames': WHATEVER THE INPUT: true; the input reads as it did. -/
def chainNamesSpec : ChangeSpec := { name := "chainNames", fn := fun _ => fun
  | [] => { results := [.lit (.bool true)], args := [] }
  | _ => none }
def chainNamesRow : OpenClaim := { program := "ytgnmpkembcdkcaa", sum := "223a22f0cc143418d7c8793875f1922fe69dfd8e73a0cbfb03220a6d1cad43fe", func := "cadenza/cadenzalaw19.ChainNames", spec := "chainNames", apart := false }
def ChainNamesSaid : Prop := chainNamesRow.holds Try.pinned (OpenSpec.ofChange chainNamesSpec)

/-- ITS FALSE NEIGHBOUR: 'it returns false'. Refute it at one input. -/
def chainNamesWrong : ChangeSpec := { name := "chainNames", fn := fun _ => fun
  | [] => { results := [.lit (.bool false)], args := [] }
  | _ => none }
def ChainNamesWrongFalsely : Prop := chainNamesRow.holds Try.pinned (OpenSpec.ofChange chainNamesWrong)

/-- 'cadenzalaw19.ChainBack': WHATEVER THE INPUT: true; the input reads as it did. -/
def chainBackSpec : ChangeSpec := { name := "chainBack", fn := fun _ => fun
  | [d1, d2, d3] => { results := [.lit (.bool true)], args := [d1, d2, d3] }
  | _ => none }
def chainBackRow : OpenClaim := { program := "ytgnmpkembcdkcaa", sum := "223a22f0cc143418d7c8793875f1922fe69dfd8e73a0cbfb03220a6d1cad43fe", func := "cadenza/cadenzalaw19.ChainBack", spec := "chainBack", apart := false }
def ChainBackSaid : Prop := chainBackRow.holds Try.pinned (OpenSpec.ofChange chainBackSpec)

/-- ITS FALSE NEIGHBOUR: 'it returns false'. Refute it at one input. -/
def chainBackWrong : ChangeSpec := { name := "chainBack", fn := fun _ => fun
  | [d1, d2, d3] => { results := [.lit (.bool false)], args := [d1, d2, d3] }
  | _ => none }
def ChainBackWrongFalsely : Prop := chainBackRow.holds Try.pinned (OpenSpec.ofChange chainBackWrong)

/-- 'cadenzalaw19.ChainSilence': WHATEVER THE INPUT: true; the input reads as it did. -/
def chainSilenceSpec : ChangeSpec := { name := "chainSilence", fn := fun _ => fun
  | [d1, d2, d3] => { results := [.lit (.bool true)], args := [d1, d2, d3] }
  | _ => none }
def chainSilenceRow : OpenClaim := { program := "ytgnmpkembcdkcaa", sum := "223a22f0cc143418d7c8793875f1922fe69dfd8e73a0cbfb03220a6d1cad43fe", func := "cadenza/cadenzalaw19.ChainSilence", spec := "chainSilence", apart := false }
def ChainSilenceSaid : Prop := chainSilenceRow.holds Try.pinned (OpenSpec.ofChange chainSilenceSpec)

/-- ITS FALSE NEIGHBOUR: 'it returns false'. Refute it at one input. -/
def chainSilenceWrong : ChangeSpec := { name := "chainSilence", fn := fun _ => fun
  | [d1, d2, d3] => { results := [.lit (.bool false)], args := [d1, d2, d3] }
  | _ => none }
def ChainSilenceWrongFalsely : Prop := chainSilenceRow.holds Try.pinned (OpenSpec.ofChange chainSilenceWrong)

/-- 'cadenzalaw19.ChainBoth': WHATEVER THE INPUT: true; the input reads as it did. -/
def chainBothSpec : ChangeSpec := { name := "chainBoth", fn := fun _ => fun
  | [d1, d2] => { results := [.lit (.bool true)], args := [d1, d2] }
  | _ => none }
def chainBothRow : OpenClaim := { program := "ytgnmpkembcdkcaa", sum := "223a22f0cc143418d7c8793875f1922fe69dfd8e73a0cbfb03220a6d1cad43fe", func := "cadenza/cadenzalaw19.ChainBoth", spec := "chainBoth", unfollowed := true, recurses := true, apart := false }
def ChainBothSaid : Prop := chainBothRow.holds Try.pinned (OpenSpec.ofChange chainBothSpec)

/-- ITS FALSE NEIGHBOUR: 'it returns false'. Refute it at one input. -/
def chainBothWrong : ChangeSpec := { name := "chainBoth", fn := fun _ => fun
  | [d1, d2] => { results := [.lit (.bool false)], args := [d1, d2] }
  | _ => none }
def ChainBothWrongFalsely : Prop := chainBothRow.holds Try.pinned (OpenSpec.ofChange chainBothWrong)

/- THE SECOND FORM. 'bulk': how many values and letters a reading holds, each counted each time it is reached (what is shared counts as often as it is met; a slice's spare places count too). A statement '..UptoSaid' is the law's where the arguments, and the package variables that the reading takes, are together of bulk at most 1048576: NARROWER than '..Said'. Prove '..Said' where nothing that the law and all that it calls make is longer than what came in: it says more and counts as full. Else prove '..UptoSaid'. A law counts once. -/
mutual
def uptoBulk {H : Type} : DataW H → Nat
  | .lit (.string bytes) => bytes.length + 1
  | .lit _ => 1
  | .nil => 1
  | .ptr d => uptoBulk d + 1
  | .slice elems spare => uptoBulkAll elems + uptoBulkAll spare + 1
  | .agg parts => uptoBulkAll parts + 1
  | .iface _ d => uptoBulk d + 1
  | .map entries => uptoBulkEntries entries + 1
  | .held _ => 1
def uptoBulkAll {H : Type} : List (DataW H) → Nat
  | [] => 0
  | d :: r => uptoBulk d + uptoBulkAll r
def uptoBulkEntries {H : Type} : List (Lit × DataW H) → Nat
  | [] => 0
  | x :: r => uptoBulkEntry x + uptoBulkEntries r
def uptoBulkEntry {H : Type} : Lit × DataW H → Nat
  | (.string bytes, d) => bytes.length + uptoBulk d + 1
  | (_, d) => uptoBulk d + 1
 end
def uptoSmall : (H : Type) → List (DataW H) → Bool := fun _ ds => decide (uptoBulkAll ds ≤ 1048576)
def OpenSpec.upto (s : _root_.Go.ChangeSpec) : _root_.Go.OpenSpec := { _root_.Go.OpenSpec.ofChange s with cond := some uptoSmall }

/-- 'cadenzalaw19.ChainSteps', WHERE WHAT IT READS IS OF BULK AT MOST 1048576: true; the input reads as it did. -/
def chainStepsUptoRow : OpenClaim := { program := "ytgnmpkembcdkcaa", sum := "223a22f0cc143418d7c8793875f1922fe69dfd8e73a0cbfb03220a6d1cad43fe", func := "cadenza/cadenzalaw19.ChainSteps", spec := "chainSteps", apart := false, narrowed := true }
def ChainStepsUptoSaid : Prop := chainStepsUptoRow.holds Try.pinned (OpenSpec.upto chainStepsSpec)

/-- 'cadenzalaw19.ChainSame', WHERE WHAT IT READS IS OF BULK AT MOST 1048576: true; the input reads as it did. -/
def chainSameUptoRow : OpenClaim := { program := "ytgnmpkembcdkcaa", sum := "223a22f0cc143418d7c8793875f1922fe69dfd8e73a0cbfb03220a6d1cad43fe", func := "cadenza/cadenzalaw19.ChainSame", spec := "chainSame", apart := false, narrowed := true }
def ChainSameUptoSaid : Prop := chainSameUptoRow.holds Try.pinned (OpenSpec.upto chainSameSpec)

/-- 'cadenzalaw19.ChainRuns', WHERE WHAT IT READS IS OF BULK AT MOST 1048576: true; the input reads as it did. -/
def chainRunsUptoRow : OpenClaim := { program := "ytgnmpkembcdkcaa", sum := "223a22f0cc143418d7c8793875f1922fe69dfd8e73a0cbfb03220a6d1cad43fe", func := "cadenza/cadenzalaw19.ChainRuns", spec := "chainRuns", apart := false, narrowed := true }
def ChainRunsUptoSaid : Prop := chainRunsUptoRow.holds Try.pinned (OpenSpec.upto chainRunsSpec)

/-- 'cadenzalaw19.ChainNames', WHERE WHAT IT READS IS OF BULK AT MOST 1048576: true; the input reads as it did. -/
def chainNamesUptoRow : OpenClaim := { program := "ytgnmpkembcdkcaa", sum := "223a22f0cc143418d7c8793875f1922fe69dfd8e73a0cbfb03220a6d1cad43fe", func := "cadenza/cadenzalaw19.ChainNames", spec := "chainNames", apart := false, narrowed := true }
def ChainNamesUptoSaid : Prop := chainNamesUptoRow.holds Try.pinned (OpenSpec.upto chainNamesSpec)

/-- 'cadenzalaw19.ChainBack', WHERE WHAT IT READS IS OF BULK AT MOST 1048576: true; the input reads as it did. -/
def chainBackUptoRow : OpenClaim := { program := "ytgnmpkembcdkcaa", sum := "223a22f0cc143418d7c8793875f1922fe69dfd8e73a0cbfb03220a6d1cad43fe", func := "cadenza/cadenzalaw19.ChainBack", spec := "chainBack", apart := false, narrowed := true }
def ChainBackUptoSaid : Prop := chainBackUptoRow.holds Try.pinned (OpenSpec.upto chainBackSpec)

/-- 'cadenzalaw19.ChainSilence', WHERE WHAT IT READS IS OF BULK AT MOST 1048576: true; the input reads as it did. -/
def chainSilenceUptoRow : OpenClaim := { program := "ytgnmpkembcdkcaa", sum := "223a22f0cc143418d7c8793875f1922fe69dfd8e73a0cbfb03220a6d1cad43fe", func := "cadenza/cadenzalaw19.ChainSilence", spec := "chainSilence", apart := false, narrowed := true }
def ChainSilenceUptoSaid : Prop := chainSilenceUptoRow.holds Try.pinned (OpenSpec.upto chainSilenceSpec)

/-- 'cadenzalaw19.ChainBoth', WHERE WHAT IT READS IS OF BULK AT MOST 1048576: true; the input reads as it did. -/
def chainBothUptoRow : OpenClaim := { program := "ytgnmpkembcdkcaa", sum := "223a22f0cc143418d7c8793875f1922fe69dfd8e73a0cbfb03220a6d1cad43fe", func := "cadenza/cadenzalaw19.ChainBoth", spec := "chainBoth", unfollowed := true, recurses := true, apart := false, narrowed := true }
def ChainBothUptoSaid : Prop := chainBothUptoRow.holds Try.pinned (OpenSpec.upto chainBothSpec)

end Rows
end Go.Proofs.Ytgnmpkembcdkcaa

/-
  No cell of these rows narrows 'for every input' (looked for: loops, veiled, ifaces, maps, wideKeys, modest, calm, conditions, laid).
  DERIVED. THE GIVEN ROWS OF THIS SEAT. 6 by the template 'for every input the law returns true; each argument reads behind the call as it read before'; 0 by the template 'total and deterministic' (their statements: YtdhiiknjdkmjjaaTotals.lean).
  GIVEN WITH THE SEED: the statements are not yours to turn. If you find one false, say at which input.
  Laid BY PROGRAM, IN A SANDBOX (cutbox-rows.mjs): the forced cells as the released guide's own fill.sh prints them over the translation 9634e3e0187fd96f… (all of the seat's roots in one cut). By AI agents, Wed Nov 11 2026. No macro, syntax, notation, axiom, sorry.
-/
import Derived.Test.YtdhiiknjdkmjjaaChecked
import GoSem.Claim
import GoSem.ClaimJoined
import GoSem.ClaimMapViews
import Derived.JoinedTies
import Derived.KernelRfl
namespace Go.Proofs.Ytdhiiknjdkmjjaa
/- THE CELL 'sum', in the pinned program and in every row, IS THE sha256 OF THE DUMP (.gsa) THAT YtdhiiknjdkmjjaaProg.lean LOADS. Nothing in Lean hashes anything: it is a label: what it is worth is what the hold of that sum in a sandbox is worth. -/
noncomputable def Try.pinned : Pinned := { name := "ytdhiiknjdkmjjaa", sum := "9634e3e0187fd96f43d3e5833dd1477a25be500d53a7dccba99254db478f69ff", checked := Try.checked }
namespace Rows
def none {H : Type} : Left H := { results := [], args := [] }

/-- 'cadenzalaw26.SeeksReads': WHATEVER THE INPUT: true; the input reads as it did. -/
def seeksReadsSpec : ChangeSpec := { name := "seeksReads", fn := fun _ => fun
  | [d1, d2] => { results := [.lit (.bool true)], args := [d1, d2] }
  | _ => none }
def seeksReadsRow : OpenClaim := { program := "ytdhiiknjdkmjjaa", sum := "9634e3e0187fd96f43d3e5833dd1477a25be500d53a7dccba99254db478f69ff", func := "cadenza/cadenzalaw26.SeeksReads", spec := "seeksReads", apart := false }
def SeeksReadsSaid : Prop := seeksReadsRow.holds Try.pinned (OpenSpec.ofChange seeksReadsSpec)

/-- ITS FALSE NEIGHBOUR: 'it returns false'. Refute it at one input. -/
def seeksReadsWrong : ChangeSpec := { name := "seeksReads", fn := fun _ => fun
  | [d1, d2] => { results := [.lit (.bool false)], args := [d1, d2] }
  | _ => none }
def SeeksReadsWrongFalsely : Prop := seeksReadsRow.holds Try.pinned (OpenSpec.ofChange seeksReadsWrong)

/-- 'cadenzalaw26.SeeksTells': WHATEVER THE INPUT: true; the input reads as it did. -/
def seeksTellsSpec : ChangeSpec := { name := "seeksTells", fn := fun _ => fun
  | [d1, d2] => { results := [.lit (.bool true)], args := [d1, d2] }
  | _ => none }
def seeksTellsRow : OpenClaim := { program := "ytdhiiknjdkmjjaa", sum := "9634e3e0187fd96f43d3e5833dd1477a25be500d53a7dccba99254db478f69ff", func := "cadenza/cadenzalaw26.SeeksTells", spec := "seeksTells", unfollowed := true, recurses := true, apart := false }
def SeeksTellsSaid : Prop := seeksTellsRow.holds Try.pinned (OpenSpec.ofChange seeksTellsSpec)

/-- ITS FALSE NEIGHBOUR: 'it returns false'. Refute it at one input. -/
def seeksTellsWrong : ChangeSpec := { name := "seeksTells", fn := fun _ => fun
  | [d1, d2] => { results := [.lit (.bool false)], args := [d1, d2] }
  | _ => none }
def SeeksTellsWrongFalsely : Prop := seeksTellsRow.holds Try.pinned (OpenSpec.ofChange seeksTellsWrong)

/-- 'cadenzalaw26.SeeksAdd': WHATEVER THE INPUT: true; the input reads as it did. -/
def seeksAddSpec : ChangeSpec := { name := "seeksAdd", fn := fun _ => fun
  | [d1, d2] => { results := [.lit (.bool true)], args := [d1, d2] }
  | _ => none }
def seeksAddRow : OpenClaim := { program := "ytdhiiknjdkmjjaa", sum := "9634e3e0187fd96f43d3e5833dd1477a25be500d53a7dccba99254db478f69ff", func := "cadenza/cadenzalaw26.SeeksAdd", spec := "seeksAdd", unfollowed := true, recurses := true, apart := false }
def SeeksAddSaid : Prop := seeksAddRow.holds Try.pinned (OpenSpec.ofChange seeksAddSpec)

/-- ITS FALSE NEIGHBOUR: 'it returns false'. Refute it at one input. -/
def seeksAddWrong : ChangeSpec := { name := "seeksAdd", fn := fun _ => fun
  | [d1, d2] => { results := [.lit (.bool false)], args := [d1, d2] }
  | _ => none }
def SeeksAddWrongFalsely : Prop := seeksAddRow.holds Try.pinned (OpenSpec.ofChange seeksAddWrong)

/-- 'cadenzalaw26.SeeksNames': WHATEVER THE INPUT: true; the input reads as it did. -/
def seeksNamesSpec : ChangeSpec := { name := "seeksNames", fn := fun _ => fun
  | [] => { results := [.lit (.bool true)], args := [] }
  | _ => none }
def seeksNamesRow : OpenClaim := { program := "ytdhiiknjdkmjjaa", sum := "9634e3e0187fd96f43d3e5833dd1477a25be500d53a7dccba99254db478f69ff", func := "cadenza/cadenzalaw26.SeeksNames", spec := "seeksNames", unfollowed := true, recurses := true, apart := false }
def SeeksNamesSaid : Prop := seeksNamesRow.holds Try.pinned (OpenSpec.ofChange seeksNamesSpec)

/-- ITS FALSE NEIGHBOUR: 'it returns false'. Refute it at one input. -/
def seeksNamesWrong : ChangeSpec := { name := "seeksNames", fn := fun _ => fun
  | [] => { results := [.lit (.bool false)], args := [] }
  | _ => none }
def SeeksNamesWrongFalsely : Prop := seeksNamesRow.holds Try.pinned (OpenSpec.ofChange seeksNamesWrong)

/-- 'cadenzalaw26.SeeksBack': WHATEVER THE INPUT: true; the input reads as it did. -/
def seeksBackSpec : ChangeSpec := { name := "seeksBack", fn := fun _ => fun
  | [d1, d2, d3, d4] => { results := [.lit (.bool true)], args := [d1, d2, d3, d4] }
  | _ => none }
def seeksBackRow : OpenClaim := { program := "ytdhiiknjdkmjjaa", sum := "9634e3e0187fd96f43d3e5833dd1477a25be500d53a7dccba99254db478f69ff", func := "cadenza/cadenzalaw26.SeeksBack", spec := "seeksBack", unfollowed := true, recurses := true, apart := false }
def SeeksBackSaid : Prop := seeksBackRow.holds Try.pinned (OpenSpec.ofChange seeksBackSpec)

/-- ITS FALSE NEIGHBOUR: 'it returns false'. Refute it at one input. -/
def seeksBackWrong : ChangeSpec := { name := "seeksBack", fn := fun _ => fun
  | [d1, d2, d3, d4] => { results := [.lit (.bool false)], args := [d1, d2, d3, d4] }
  | _ => none }
def SeeksBackWrongFalsely : Prop := seeksBackRow.holds Try.pinned (OpenSpec.ofChange seeksBackWrong)

/-- 'cadenzalaw26.SeeksAgain': WHATEVER THE INPUT: true; the input reads as it did. -/
def seeksAgainSpec : ChangeSpec := { name := "seeksAgain", fn := fun _ => fun
  | [d1, d2] => { results := [.lit (.bool true)], args := [d1, d2] }
  | _ => none }
def seeksAgainRow : OpenClaim := { program := "ytdhiiknjdkmjjaa", sum := "9634e3e0187fd96f43d3e5833dd1477a25be500d53a7dccba99254db478f69ff", func := "cadenza/cadenzalaw26.SeeksAgain", spec := "seeksAgain", unfollowed := true, recurses := true, apart := false }
def SeeksAgainSaid : Prop := seeksAgainRow.holds Try.pinned (OpenSpec.ofChange seeksAgainSpec)

/-- ITS FALSE NEIGHBOUR: 'it returns false'. Refute it at one input. -/
def seeksAgainWrong : ChangeSpec := { name := "seeksAgain", fn := fun _ => fun
  | [d1, d2] => { results := [.lit (.bool false)], args := [d1, d2] }
  | _ => none }
def SeeksAgainWrongFalsely : Prop := seeksAgainRow.holds Try.pinned (OpenSpec.ofChange seeksAgainWrong)

/- THE SECOND FORM. 'bulk': how many values and letters a reading holds, each counted each time it is reached (what is shared counts as often as it is met; a slice's spare places count too). A statement '..UptoSaid' is the law's where the arguments, and the package variables that the reading takes, are together of bulk at most 1048576: NARROWER than '..Said'. Prove '..Said' where nothing that the law and all that it calls make is longer than what came in: it says more and counts as full. Else prove '..UptoSaid'. A law counts once. -/
mutual
def uptoBulk {H : Type} : DataW H → Nat
  | .lit (.string bytes) => bytes.length + 1
  | .lit _ => 1
  | .nil => 1
  | .ptr d => uptoBulk d + 1
  | .slice elems spare => uptoBulkAll elems + uptoBulkAll spare + 1
  | .agg parts => uptoBulkAll parts + 1
  | .iface _ d => uptoBulk d + 1
  | .map entries => uptoBulkEntries entries + 1
  | .held _ => 1
def uptoBulkAll {H : Type} : List (DataW H) → Nat
  | [] => 0
  | d :: r => uptoBulk d + uptoBulkAll r
def uptoBulkEntries {H : Type} : List (Lit × DataW H) → Nat
  | [] => 0
  | x :: r => uptoBulkEntry x + uptoBulkEntries r
def uptoBulkEntry {H : Type} : Lit × DataW H → Nat
  | (.string bytes, d) => bytes.length + uptoBulk d + 1
  | (_, d) => uptoBulk d + 1
 end
def uptoSmall : (H : Type) → List (DataW H) → Bool := fun _ ds => decide (uptoBulkAll ds ≤ 1048576)
def OpenSpec.upto (s : _root_.Go.ChangeSpec) : _root_.Go.OpenSpec := { _root_.Go.OpenSpec.ofChange s with cond := some uptoSmall }

/-- 'cadenzalaw26.SeeksReads', WHERE WHAT IT READS IS OF BULK AT MOST 1048576: true; the input reads as it did. -/
def seeksReadsUptoRow : OpenClaim := { program := "ytdhiiknjdkmjjaa", sum := "9634e3e0187fd96f43d3e5833dd1477a25be500d53a7dccba99254db478f69ff", func := "cadenza/cadenzalaw26.SeeksReads", spec := "seeksReads", apart := false, narrowed := true }
def SeeksReadsUptoSaid : Prop := seeksReadsUptoRow.holds Try.pinned (OpenSpec.upto seeksReadsSpec)

/-- 'cadenzalaw26.SeeksTells', WHERE WHAT IT READS IS OF BULK AT MOST 1048576: true; the input reads as it did. -/
def seeksTellsUptoRow : OpenClaim := { program := "ytdhiiknjdkmjjaa", sum := "9634e3e0187fd96f43d3e5833dd1477a25be500d53a7dccba99254db478f69ff", func := "cadenza/cadenzalaw26.SeeksTells", spec := "seeksTells", unfollowed := true, recurses := true, apart := false, narrowed := true }
def SeeksTellsUptoSaid : Prop := seeksTellsUptoRow.holds Try.pinned (OpenSpec.upto seeksTellsSpec)

/-- 'cadenzalaw26.SeeksAdd', WHERE WHAT IT READS IS OF BULK AT MOST 1048576: true; the input reads as it did. -/
def seeksAddUptoRow : OpenClaim := { program := "ytdhiiknjdkmjjaa", sum := "9634e3e0187fd96f43d3e5833dd1477a25be500d53a7dccba99254db478f69ff", func := "cadenza/cadenzalaw26.SeeksAdd", spec := "seeksAdd", unfollowed := true, recurses := true, apart := false, narrowed := true }
def SeeksAddUptoSaid : Prop := seeksAddUptoRow.holds Try.pinned (OpenSpec.upto seeksAddSpec)

/-- 'cadenzalaw26.SeeksNames', WHERE WHAT IT READS IS OF BULK AT MOST 1048576: true; the input reads as it did. -/
def seeksNamesUptoRow : OpenClaim := { program := "ytdhiiknjdkmjjaa", sum := "9634e3e0187fd96f43d3e5833dd1477a25be500d53a7dccba99254db478f69ff", func := "cadenza/cadenzalaw26.SeeksNames", spec := "seeksNames", unfollowed := true, recurses := true, apart := false, narrowed := true }
def SeeksNamesUptoSaid : Prop := seeksNamesUptoRow.holds Try.pinned (OpenSpec.upto seeksNamesSpec)

/-- 'cadenzalaw26.SeeksBack', WHERE WHAT IT READS IS OF BULK AT MOST 1048576: true; the input reads as it did. -/
def seeksBackUptoRow : OpenClaim := { program := "ytdhiiknjdkmjjaa", sum := "9634e3e0187fd96f43d3e5833dd1477a25be500d53a7dccba99254db478f69ff", func := "cadenza/cadenzalaw26.SeeksBack", spec := "seeksBack", unfollowed := true, recurses := true, apart := false, narrowed := true }
def SeeksBackUptoSaid : Prop := seeksBackUptoRow.holds Try.pinned (OpenSpec.upto seeksBackSpec)

/-- 'cadenzalaw26.SeeksAgain', WHERE WHAT IT READS IS OF BULK AT MOST 1048576: true; the input reads as it did. -/
def seeksAgainUptoRow : OpenClaim := { program := "ytdhiiknjdkmjjaa", sum := "9634e3e0187fd96f43d3e5833dd1477a25be500d53a7dccba99254db478f69ff", func := "cadenza/cadenzalaw26.SeeksAgain", spec := "seeksAgain", unfollowed := true, recurses := true, apart := false, narrowed := true }
def SeeksAgainUptoSaid : Prop := seeksAgainUptoRow.holds Try.pinned (OpenSpec.upto seeksAgainSpec)

end Rows
end Go.Proofs.Ytdhiiknjdkmjjaa

/-
  No cell of these rows narrows 'for every input' (looked for: loops, veiled, ifaces, maps, wideKeys, modest, calm, conditions, laid).
  DERIVED. THE GIVEN ROWS OF THIS SEAT. 6 by the template 'for every input the law returns true; each argument reads behind the call as it read before'; 0 by the template 'total and deterministic' (their statements: YtnhdhjcpbonfjaaTotals.lean).
  GIVEN WITH THE SEED: the statements are not yours to turn. If you find one false, say at which input.
  Laid BY PROGRAM, IN A SANDBOX (cutbox-rows.mjs): the forced cells as the released guide's own fill.sh prints them over the translation 52a69c5d49c8fabe… (all of the seat's roots in one cut). By AI agents, Wed Nov 11 2026. No macro, syntax, notation, axiom, sorry.
-/
import Derived.Test.YtnhdhjcpbonfjaaChecked
import GoSem.Claim
import GoSem.ClaimJoined
import GoSem.ClaimMapViews
import Derived.JoinedTies
import Derived.KernelRfl
namespace Go.Proofs.Ytnhdhjcpbonfjaa
/- THE CELL 'sum', in the pinned program and in every row, IS THE sha256 OF THE DUMP (.gsa) THAT YtnhdhjcpbonfjaaProg.lean LOADS. Nothing in Lean hashes anything: it is a label: what it is worth is what the hold of that sum in a sandbox is worth. -/
noncomputable def Try.pinned : Pinned := { name := "ytnhdhjcpbonfjaa", sum := "52a69c5d49c8fabec018a867f56dd1e2a9dee8075feaf1d13d7648baa12aa8d4", checked := Try.checked }
namespace Rows
def none {H : Type} : Left H := { results := [], args := [] }

/-- 'cadenzalaw14.TapsNews': WHATEVER THE INPUT: true; the input reads as it did. -/
def tapsNewsSpec : ChangeSpec := { name := "tapsNews", fn := fun _ => fun
  | [d1, d2] => { results := [.lit (.bool true)], args := [d1, d2] }
  | _ => none }
def tapsNewsRow : OpenClaim := { program := "ytnhdhjcpbonfjaa", sum := "52a69c5d49c8fabec018a867f56dd1e2a9dee8075feaf1d13d7648baa12aa8d4", func := "cadenza/cadenzalaw14.TapsNews", spec := "tapsNews", apart := false }
def TapsNewsSaid : Prop := tapsNewsRow.holds Try.pinned (OpenSpec.ofChange tapsNewsSpec)

/-- ITS FALSE NEIGHBOUR: 'it returns false'. Refute it at one input. -/
def tapsNewsWrong : ChangeSpec := { name := "tapsNews", fn := fun _ => fun
  | [d1, d2] => { results := [.lit (.bool false)], args := [d1, d2] }
  | _ => none }
def TapsNewsWrongFalsely : Prop := tapsNewsRow.holds Try.pinned (OpenSpec.ofChange tapsNewsWrong)

/-- 'cadenzalaw14.TapsDoes': WHATEVER THE INPUT: true; the input reads as it did. -/
def tapsDoesSpec : ChangeSpec := { name := "tapsDoes", fn := fun _ => fun
  | [d1, d2] => { results := [.lit (.bool true)], args := [d1, d2] }
  | _ => none }
def tapsDoesRow : OpenClaim := { program := "ytnhdhjcpbonfjaa", sum := "52a69c5d49c8fabec018a867f56dd1e2a9dee8075feaf1d13d7648baa12aa8d4", func := "cadenza/cadenzalaw14.TapsDoes", spec := "tapsDoes", apart := false }
def TapsDoesSaid : Prop := tapsDoesRow.holds Try.pinned (OpenSpec.ofChange tapsDoesSpec)

/-- ITS FALSE NEIGHBOUR: 'it returns false'. Refute it at one input. -/
def tapsDoesWrong : ChangeSpec := { name := "tapsDoes", fn := fun _ => fun
  | [d1, d2] => { results := [.lit (.bool false)], args := [d1, d2] }
  | _ => none }
def TapsDoesWrongFalsely : Prop := tapsDoesRow.holds Try.pinned (OpenSpec.ofChange tapsDoesWrong)

/-- 'cadenzalaw14.TapsSigns': WHATEVER THE INPUT: true; the input reads as it did. -/
def tapsSignsSpec : ChangeSpec := { name := "tapsSigns", fn := fun _ => fun
  | [d1, d2, d3] => { results := [.lit (.bool true)], args := [d1, d2, d3] }
  | _ => none }
def tapsSignsRow : OpenClaim := { program := "ytnhdhjcpbonfjaa", sum := "52a69c5d49c8fabec018a867f56dd1e2a9dee8075feaf1d13d7648baa12aa8d4", func := "cadenza/cadenzalaw14.TapsSigns", spec := "tapsSigns", apart := false }
def TapsSignsSaid : Prop := tapsSignsRow.holds Try.pinned (OpenSpec.ofChange tapsSignsSpec)

/-- ITS FALSE NEIGHBOUR: 'it returns false'. Refute it at one input. -/
def tapsSignsWrong : ChangeSpec := { name := "tapsSigns", fn := fun _ => fun
  | [d1, d2, d3] => { results := [.lit (.bool false)], args := [d1, d2, d3] }
  | _ => none }
def TapsSignsWrongFalsely : Prop := tapsSignsRow.holds Try.pinned (OpenSpec.ofChange tapsSignsWrong)

/-- 'cadenzalaw14.TapsLinear': WHATEVER THE INPUT: true; the input reads as it did. -/
def tapsLinearSpec : ChangeSpec := { name := "tapsLinear", fn := fun _ => fun
  | [d] => { results := [.lit (.bool true)], args := [d] }
  | _ => none }
def tapsLinearRow : OpenClaim := { program := "ytnhdhjcpbonfjaa", sum := "52a69c5d49c8fabec018a867f56dd1e2a9dee8075feaf1d13d7648baa12aa8d4", func := "cadenza/cadenzalaw14.TapsLinear", spec := "tapsLinear", apart := false }
def TapsLinearSaid : Prop := tapsLinearRow.holds Try.pinned (OpenSpec.ofChange tapsLinearSpec)

/-- ITS FALSE NEIGHBOUR: 'it returns false'. Refute it at one input. -/
def tapsLinearWrong : ChangeSpec := { name := "tapsLinear", fn := fun _ => fun
  | [d] => { results := [.lit (.bool false)], args := [d] }
  | _ => none }
def TapsLinearWrongFalsely : Prop := tapsLinearRow.holds Try.pinned (OpenSpec.ofChange tapsLinearWrong)

/-- 'cadenzalaw14.TapsNames': WHATEVER THE INPUT: true; the input reads as it did. -/
def tapsNamesSpec : ChangeSpec := { name := "tapsNames", fn := fun _ => fun
  | [] => { results := [.lit (.bool true)], args := [] }
  | _ => none }
def tapsNamesRow : OpenClaim := { program := "ytnhdhjcpbonfjaa", sum := "52a69c5d49c8fabec018a867f56dd1e2a9dee8075feaf1d13d7648baa12aa8d4", func := "cadenza/cadenzalaw14.TapsNames", spec := "tapsNames", apart := false }
def TapsNamesSaid : Prop := tapsNamesRow.holds Try.pinned (OpenSpec.ofChange tapsNamesSpec)

/-- ITS FALSE NEIGHBOUR: 'it returns false'. Refute it at one input. -/
def tapsNamesWrong : ChangeSpec := { name := "tapsNames", fn := fun _ => fun
  | [] => { results := [.lit (.bool false)], args := [] }
  | _ => none }
def TapsNamesWrongFalsely : Prop := tapsNamesRow.holds Try.pinned (OpenSpec.ofChange tapsNamesWrong)

/-- 'cadenzalaw14.TapsPast': WHATEVER THE INPUT: true; the input reads as it did. -/
def tapsPastSpec : ChangeSpec := { name := "tapsPast", fn := fun _ => fun
  | [d1, d2] => { results := [.lit (.bool true)], args := [d1, d2] }
  | _ => none }
def tapsPastRow : OpenClaim := { program := "ytnhdhjcpbonfjaa", sum := "52a69c5d49c8fabec018a867f56dd1e2a9dee8075feaf1d13d7648baa12aa8d4", func := "cadenza/cadenzalaw14.TapsPast", spec := "tapsPast", apart := false }
def TapsPastSaid : Prop := tapsPastRow.holds Try.pinned (OpenSpec.ofChange tapsPastSpec)

/-- ITS FALSE NEIGHBOUR: 'it returns false'. Refute it at one input. -/
def tapsPastWrong : ChangeSpec := { name := "tapsPast", fn := fun _ => fun
  | [d1, d2] => { results := [.lit (.bool false)], args := [d1, d2] }
  | _ => none }
def TapsPastWrongFalsely : Prop := tapsPastRow.holds Try.pinned (OpenSpec.ofChange tapsPastWrong)

/- THE SECOND FORM. 'bulk': how many values and letters a reading holds, each counted each time it is reached (what is shared counts as often as it is met; a slice's spare places count too). A statement '..UptoSaid' is the law's where the arguments, and the package variables that the reading takes, are together of bulk at most 1048576: NARROWER than '..Said'. Prove '..Said' where nothing that the law and all that it calls make is longer than what came in: it says more and counts as full. Else prove '..UptoSaid'. A law counts once. -/
mutual
def uptoBulk {H : Type} : DataW H → Nat
  | .lit (.string bytes) => bytes.length + 1
  | .lit _ => 1
  | .nil => 1
  | .ptr d => uptoBulk d + 1
  | .slice elems spare => uptoBulkAll elems + uptoBulkAll spare + 1
  | .agg parts => uptoBulkAll parts + 1
  | .iface _ d => uptoBulk d + 1
  | .map entries => uptoBulkEntries entries + 1
  | .held _ => 1
def uptoBulkAll {H : Type} : List (DataW H) → Nat
  | [] => 0
  | d :: r => uptoBulk d + uptoBulkAll r
def uptoBulkEntries {H : Type} : List (Lit × DataW H) → Nat
  | [] => 0
  | x :: r => uptoBulkEntry x + uptoBulkEntries r
def uptoBulkEntry {H : Type} : Lit × DataW H → Nat
  | (.string bytes, d) => bytes.length + uptoBulk d + 1
  | (_, d) => uptoBulk d + 1
 end
def uptoSmall : (H : Type) → List (DataW H) → Bool := fun _ ds => decide (uptoBulkAll ds ≤ 1048576)
def OpenSpec.upto (s : _root_.Go.ChangeSpec) : _root_.Go.OpenSpec := { _root_.Go.OpenSpec.ofChange s with cond := some uptoSmall }

/-- 'cadenzalaw14.TapsNews', WHERE WHAT IT READS IS OF BULK AT MOST 1048576: true; the input reads as it did. -/
def tapsNewsUptoRow : OpenClaim := { program := "ytnhdhjcpbonfjaa", sum := "52a69c5d49c8fabec018a867f56dd1e2a9dee8075feaf1d13d7648baa12aa8d4", func := "cadenza/cadenzalaw14.TapsNews", spec := "tapsNews", apart := false, narrowed := true }
def TapsNewsUptoSaid : Prop := tapsNewsUptoRow.holds Try.pinned (OpenSpec.upto tapsNewsSpec)

/-- 'cadenzalaw14.TapsDoes', WHERE WHAT IT READS IS OF BULK AT MOST 1048576: true; the input reads as it did. -/
def tapsDoesUptoRow : OpenClaim := { program := "ytnhdhjcpbonfjaa", sum := "52a69c5d49c8fabec018a867f56dd1e2a9dee8075feaf1d13d7648baa12aa8d4", func := "cadenza/cadenzalaw14.TapsDoes", spec := "tapsDoes", apart := false, narrowed := true }
def TapsDoesUptoSaid : Prop := tapsDoesUptoRow.holds Try.pinned (OpenSpec.upto tapsDoesSpec)

/-- 'cadenzalaw14.TapsSigns', WHERE WHAT IT READS IS OF BULK AT MOST 1048576: true; the input reads as it did. -/
def tapsSignsUptoRow : OpenClaim := { program := "ytnhdhjcpbonfjaa", sum := "52a69c5d49c8fabec018a867f56dd1e2a9dee8075feaf1d13d7648baa12aa8d4", func := "cadenza/cadenzalaw14.TapsSigns", spec := "tapsSigns", apart := false, narrowed := true }
def TapsSignsUptoSaid : Prop := tapsSignsUptoRow.holds Try.pinned (OpenSpec.upto tapsSignsSpec)

/-- 'cadenzalaw14.TapsLinear', WHERE WHAT IT READS IS OF BULK AT MOST 1048576: true; the input reads as it did. -/
def tapsLinearUptoRow : OpenClaim := { program := "ytnhdhjcpbonfjaa", sum := "52a69c5d49c8fabec018a867f56dd1e2a9dee8075feaf1d13d7648baa12aa8d4", func := "cadenza/cadenzalaw14.TapsLinear", spec := "tapsLinear", apart := false, narrowed := true }
def TapsLinearUptoSaid : Prop := tapsLinearUptoRow.holds Try.pinned (OpenSpec.upto tapsLinearSpec)

/-- 'cadenzalaw14.TapsNames', WHERE WHAT IT READS IS OF BULK AT MOST 1048576: true; the input reads as it did. -/
def tapsNamesUptoRow : OpenClaim := { program := "ytnhdhjcpbonfjaa", sum := "52a69c5d49c8fabec018a867f56dd1e2a9dee8075feaf1d13d7648baa12aa8d4", func := "cadenza/cadenzalaw14.TapsNames", spec := "tapsNames", apart := false, narrowed := true }
def TapsNamesUptoSaid : Prop := tapsNamesUptoRow.holds Try.pinned (OpenSpec.upto tapsNamesSpec)

/-- 'cadenzalaw14.TapsPast', WHERE WHAT IT READS IS OF BULK AT MOST 1048576: true; the input reads as it did. -/
def tapsPastUptoRow : OpenClaim := { program := "ytnhdhjcpbonfjaa", sum := "52a69c5d49c8fabec018a867f56dd1e2a9dee8075feaf1d13d7648baa12aa8d4", func := "cadenza/cadenzalaw14.TapsPast", spec := "tapsPast", apart := false, narrowed := true }
def TapsPastUptoSaid : Prop := tapsPastUptoRow.holds Try.pinned (OpenSpec.upto tapsPastSpec)

end Rows
end Go.Proofs.Ytnhdhjcpbonfjaa

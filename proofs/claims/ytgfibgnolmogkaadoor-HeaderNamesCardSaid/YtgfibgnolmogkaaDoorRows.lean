/-
  NARROWER THAN 'FOR EVERY INPUT', by the rows' own cells (each row's printed sentence says how): HeaderNames: laid · HeaderBack: laid · HeaderReads: laid · HeaderTells: laid · HeaderOne: laid · HeaderFrames: laid.
  DERIVED. THE GIVEN ROWS OF THIS SEAT. 6 by the template 'for every input the law returns true; each argument reads behind the call as it read before'; 0 by the template 'total and deterministic' (their statements: YtgfibgnolmogkaaDoorTotals.lean).
  GIVEN WITH THE SEED: the statements are not yours to turn. If you find one false, say at which input.
  Laid BY PROGRAM, IN A SANDBOX (cutbox-rows.mjs): the forced cells as the released guide's own fill.sh prints them over the translation 9084204f59964ac4… (all of the seat's roots in one cut). By AI agents, Wed Nov 11 2026. No macro, syntax, notation, axiom, sorry.
-/
import Derived.Test.YtgfibgnolmogkaaDoorChecked
import GoSem.Claim
import GoSem.ClaimJoined
import GoSem.ClaimMapViews
import Derived.JoinedTies
import Derived.KernelRfl
namespace Go.Proofs.YtgfibgnolmogkaaDoor
/- THE CELL 'sum', in the pinned program and in every row, IS THE sha256 OF THE DUMP (.gsa) THAT YtgfibgnolmogkaaDoorProg.lean LOADS. Nothing in Lean hashes anything: it is a label: what it is worth is what the hold of that sum in a sandbox is worth. -/
noncomputable def Tryd.pinned : Pinned := { name := "ytgfibgnolmogkaadoor", sum := "9084204f59964ac40beedd7b4aab758450ed613e6a9c3c776221b148379396e4", checked := Tryd.checked }
namespace Rows
def none {H : Type} : Left H := { results := [], args := [] }

/- WHAT THE LISTED PACKAGE-LEVEL VARIABLES READ AS WHEN THE CALL BEGINS. Each datum BY PROGRAM (the guide's laid-datum.mjs) off the statement by which the dump's own 'gosem.cut.vars' lays the variable. In a bare row this is a premise. The card (YtgfibgnolmogkaaDoorCards.lean) ties it to the program's text. -/
def laid_cadenza_header_widths {H : Type} : DataW H := .agg [.lit (.int .i64 2), .lit (.int .i64 2), .lit (.int .i64 2), .lit (.int .i64 4), .lit (.int .i64 4)]

/-- 'cadenzalaw25.HeaderNames': WHATEVER THE INPUT: true; the input reads as it did. -/
def headerNamesSpec : ChangeSpec := { name := "headerNames", fn := fun _ => fun
  | [] => { results := [.lit (.bool true)], args := [] }
  | _ => none }
def headerNamesRow : OpenClaim := { program := "ytgfibgnolmogkaadoor", sum := "9084204f59964ac40beedd7b4aab758450ed613e6a9c3c776221b148379396e4", func := "cadenza/cadenzalaw25.HeaderNames", spec := "headerNames", named := ["cadenza/header.widths"], apart := false, laid := [("cadenza/header.widths", laid_cadenza_header_widths)] }
def HeaderNamesSaid : Prop := headerNamesRow.holds Tryd.pinned (OpenSpec.ofChange headerNamesSpec)

/-- ITS FALSE NEIGHBOUR: 'it returns false'. Refute it at one input. -/
def headerNamesWrong : ChangeSpec := { name := "headerNames", fn := fun _ => fun
  | [] => { results := [.lit (.bool false)], args := [] }
  | _ => none }
def HeaderNamesWrongFalsely : Prop := headerNamesRow.holds Tryd.pinned (OpenSpec.ofChange headerNamesWrong)

/-- 'cadenzalaw25.HeaderBack': WHATEVER THE INPUT: true; the input reads as it did. -/
def headerBackSpec : ChangeSpec := { name := "headerBack", fn := fun _ => fun
  | [d1, d2, d3, d4] => { results := [.lit (.bool true)], args := [d1, d2, d3, d4] }
  | _ => none }
def headerBackRow : OpenClaim := { program := "ytgfibgnolmogkaadoor", sum := "9084204f59964ac40beedd7b4aab758450ed613e6a9c3c776221b148379396e4", func := "cadenza/cadenzalaw25.HeaderBack", spec := "headerBack", named := ["cadenza/header.widths"], apart := false, laid := [("cadenza/header.widths", laid_cadenza_header_widths)] }
def HeaderBackSaid : Prop := headerBackRow.holds Tryd.pinned (OpenSpec.ofChange headerBackSpec)

/-- ITS FALSE NEIGHBOUR: 'it returns false'. Refute it at one input. -/
def headerBackWrong : ChangeSpec := { name := "headerBack", fn := fun _ => fun
  | [d1, d2, d3, d4] => { results := [.lit (.bool false)], args := [d1, d2, d3, d4] }
  | _ => none }
def HeaderBackWrongFalsely : Prop := headerBackRow.holds Tryd.pinned (OpenSpec.ofChange headerBackWrong)

/-- 'cadenzalaw25.HeaderReads': WHATEVER THE INPUT: true; the input reads as it did. -/
def headerReadsSpec : ChangeSpec := { name := "headerReads", fn := fun _ => fun
  | [d] => { results := [.lit (.bool true)], args := [d] }
  | _ => none }
def headerReadsRow : OpenClaim := { program := "ytgfibgnolmogkaadoor", sum := "9084204f59964ac40beedd7b4aab758450ed613e6a9c3c776221b148379396e4", func := "cadenza/cadenzalaw25.HeaderReads", spec := "headerReads", named := ["cadenza/header.widths"], apart := false, laid := [("cadenza/header.widths", laid_cadenza_header_widths)] }
def HeaderReadsSaid : Prop := headerReadsRow.holds Tryd.pinned (OpenSpec.ofChange headerReadsSpec)

/-- ITS FALSE NEIGHBOUR: 'it returns false'. Refute it at one input. -/
def headerReadsWrong : ChangeSpec := { name := "headerReads", fn := fun _ => fun
  | [d] => { results := [.lit (.bool false)], args := [d] }
  | _ => none }
def HeaderReadsWrongFalsely : Prop := headerReadsRow.holds Tryd.pinned (OpenSpec.ofChange headerReadsWrong)

/-- 'cadenzalaw25.HeaderTells': WHATEVER THE INPUT: true; the input reads as it did. -/
def headerTellsSpec : ChangeSpec := { name := "headerTells", fn := fun _ => fun
  | [d] => { results := [.lit (.bool true)], args := [d] }
  | _ => none }
def headerTellsRow : OpenClaim := { program := "ytgfibgnolmogkaadoor", sum := "9084204f59964ac40beedd7b4aab758450ed613e6a9c3c776221b148379396e4", func := "cadenza/cadenzalaw25.HeaderTells", spec := "headerTells", named := ["cadenza/header.widths"], apart := false, laid := [("cadenza/header.widths", laid_cadenza_header_widths)] }
def HeaderTellsSaid : Prop := headerTellsRow.holds Tryd.pinned (OpenSpec.ofChange headerTellsSpec)

/-- ITS FALSE NEIGHBOUR: 'it returns false'. Refute it at one input. -/
def headerTellsWrong : ChangeSpec := { name := "headerTells", fn := fun _ => fun
  | [d] => { results := [.lit (.bool false)], args := [d] }
  | _ => none }
def HeaderTellsWrongFalsely : Prop := headerTellsRow.holds Tryd.pinned (OpenSpec.ofChange headerTellsWrong)

/-- 'cadenzalaw25.HeaderOne': WHATEVER THE INPUT: true; the input reads as it did. -/
def headerOneSpec : ChangeSpec := { name := "headerOne", fn := fun _ => fun
  | [d1, d2, d3, d4] => { results := [.lit (.bool true)], args := [d1, d2, d3, d4] }
  | _ => none }
def headerOneRow : OpenClaim := { program := "ytgfibgnolmogkaadoor", sum := "9084204f59964ac40beedd7b4aab758450ed613e6a9c3c776221b148379396e4", func := "cadenza/cadenzalaw25.HeaderOne", spec := "headerOne", named := ["cadenza/header.widths"], apart := false, laid := [("cadenza/header.widths", laid_cadenza_header_widths)] }
def HeaderOneSaid : Prop := headerOneRow.holds Tryd.pinned (OpenSpec.ofChange headerOneSpec)

/-- ITS FALSE NEIGHBOUR: 'it returns false'. Refute it at one input. -/
def headerOneWrong : ChangeSpec := { name := "headerOne", fn := fun _ => fun
  | [d1, d2, d3, d4] => { results := [.lit (.bool false)], args := [d1, d2, d3, d4] }
  | _ => none }
def HeaderOneWrongFalsely : Prop := headerOneRow.holds Tryd.pinned (OpenSpec.ofChange headerOneWrong)

/-- 'cadenzalaw25.HeaderFrames': WHATEVER THE INPUT: true; the input reads as it did. -/
def headerFramesSpec : ChangeSpec := { name := "headerFrames", fn := fun _ => fun
  | [d] => { results := [.lit (.bool true)], args := [d] }
  | _ => none }
def headerFramesRow : OpenClaim := { program := "ytgfibgnolmogkaadoor", sum := "9084204f59964ac40beedd7b4aab758450ed613e6a9c3c776221b148379396e4", func := "cadenza/cadenzalaw25.HeaderFrames", spec := "headerFrames", named := ["cadenza/header.widths"], apart := false, laid := [("cadenza/header.widths", laid_cadenza_header_widths)] }
def HeaderFramesSaid : Prop := headerFramesRow.holds Tryd.pinned (OpenSpec.ofChange headerFramesSpec)

/-- ITS FALSE NEIGHBOUR: 'it returns false'. Refute it at one input. -/
def headerFramesWrong : ChangeSpec := { name := "headerFrames", fn := fun _ => fun
  | [d] => { results := [.lit (.bool false)], args := [d] }
  | _ => none }
def HeaderFramesWrongFalsely : Prop := headerFramesRow.holds Tryd.pinned (OpenSpec.ofChange headerFramesWrong)

/- THE SECOND FORM. 'bulk': how many values and letters a reading holds, each counted each time it is reached (what is shared counts as often as it is met; a slice's spare places count too). A statement '..UptoSaid' is the law's where the arguments, and the package variables that the reading takes, are together of bulk at most 1048576: NARROWER than '..Said'. Prove '..Said' where nothing that the law and all that it calls make is longer than what came in: it says more and counts as full. Else prove '..UptoSaid'. A law counts once. -/
mutual
def uptoBulk {H : Type} : DataW H → Nat
  | .lit (.string bytes) => bytes.length + 1
  | .lit _ => 1
  | .nil => 1
  | .ptr d => uptoBulk d + 1
  | .slice elems spare => uptoBulkAll elems + uptoBulkAll spare + 1
  | .agg parts => uptoBulkAll parts + 1
  | .iface _ d => uptoBulk d + 1
  | .map entries => uptoBulkEntries entries + 1
  | .held _ => 1
def uptoBulkAll {H : Type} : List (DataW H) → Nat
  | [] => 0
  | d :: r => uptoBulk d + uptoBulkAll r
def uptoBulkEntries {H : Type} : List (Lit × DataW H) → Nat
  | [] => 0
  | x :: r => uptoBulkEntry x + uptoBulkEntries r
def uptoBulkEntry {H : Type} : Lit × DataW H → Nat
  | (.string bytes, d) => bytes.length + uptoBulk d + 1
  | (_, d) => uptoBulk d + 1
 end
def uptoSmall : (H : Type) → List (DataW H) → Bool := fun _ ds => decide (uptoBulkAll ds ≤ 1048576)
def OpenSpec.upto (s : _root_.Go.ChangeSpec) : _root_.Go.OpenSpec := { _root_.Go.OpenSpec.ofChange s with cond := some uptoSmall }

/-- 'cadenzalaw25.HeaderNames', WHERE WHAT IT READS IS OF BULK AT MOST 1048576: true; the input reads as it did. -/
def headerNamesUptoRow : OpenClaim := { program := "ytgfibgnolmogkaadoor", sum := "9084204f59964ac40beedd7b4aab758450ed613e6a9c3c776221b148379396e4", func := "cadenza/cadenzalaw25.HeaderNames", spec := "headerNames", named := ["cadenza/header.widths"], apart := false, laid := [("cadenza/header.widths", laid_cadenza_header_widths)], narrowed := true }
def HeaderNamesUptoSaid : Prop := headerNamesUptoRow.holds Tryd.pinned (OpenSpec.upto headerNamesSpec)

/-- 'cadenzalaw25.HeaderBack', WHERE WHAT IT READS IS OF BULK AT MOST 1048576: true; the input reads as it did. -/
def headerBackUptoRow : OpenClaim := { program := "ytgfibgnolmogkaadoor", sum := "9084204f59964ac40beedd7b4aab758450ed613e6a9c3c776221b148379396e4", func := "cadenza/cadenzalaw25.HeaderBack", spec := "headerBack", named := ["cadenza/header.widths"], apart := false, laid := [("cadenza/header.widths", laid_cadenza_header_widths)], narrowed := true }
def HeaderBackUptoSaid : Prop := headerBackUptoRow.holds Tryd.pinned (OpenSpec.upto headerBackSpec)

/-- 'cadenzalaw25.HeaderReads', WHERE WHAT IT READS IS OF BULK AT MOST 1048576: true; the input reads as it did. -/
def headerReadsUptoRow : OpenClaim := { program := "ytgfibgnolmogkaadoor", sum := "9084204f59964ac40beedd7b4aab758450ed613e6a9c3c776221b148379396e4", func := "cadenza/cadenzalaw25.HeaderReads", spec := "headerReads", named := ["cadenza/header.widths"], apart := false, laid := [("cadenza/header.widths", laid_cadenza_header_widths)], narrowed := true }
def HeaderReadsUptoSaid : Prop := headerReadsUptoRow.holds Tryd.pinned (OpenSpec.upto headerReadsSpec)

/-- 'cadenzalaw25.HeaderTells', WHERE WHAT IT READS IS OF BULK AT MOST 1048576: true; the input reads as it did. -/
def headerTellsUptoRow : OpenClaim := { program := "ytgfibgnolmogkaadoor", sum := "9084204f59964ac40beedd7b4aab758450ed613e6a9c3c776221b148379396e4", func := "cadenza/cadenzalaw25.HeaderTells", spec := "headerTells", named := ["cadenza/header.widths"], apart := false, laid := [("cadenza/header.widths", laid_cadenza_header_widths)], narrowed := true }
def HeaderTellsUptoSaid : Prop := headerTellsUptoRow.holds Tryd.pinned (OpenSpec.upto headerTellsSpec)

/-- 'cadenzalaw25.HeaderOne', WHERE WHAT IT READS IS OF BULK AT MOST 1048576: true; the input reads as it did. -/
def headerOneUptoRow : OpenClaim := { program := "ytgfibgnolmogkaadoor", sum := "9084204f59964ac40beedd7b4aab758450ed613e6a9c3c776221b148379396e4", func := "cadenza/cadenzalaw25.HeaderOne", spec := "headerOne", named := ["cadenza/header.widths"], apart := false, laid := [("cadenza/header.widths", laid_cadenza_header_widths)], narrowed := true }
def HeaderOneUptoSaid : Prop := headerOneUptoRow.holds Tryd.pinned (OpenSpec.upto headerOneSpec)

/-- 'cadenzalaw25.HeaderFrames', WHERE WHAT IT READS IS OF BULK AT MOST 1048576: true; the input reads as it did. -/
def headerFramesUptoRow : OpenClaim := { program := "ytgfibgnolmogkaadoor", sum := "9084204f59964ac40beedd7b4aab758450ed613e6a9c3c776221b148379396e4", func := "cadenza/cadenzalaw25.HeaderFrames", spec := "headerFrames", named := ["cadenza/header.widths"], apart := false, laid := [("cadenza/header.widths", laid_cadenza_header_widths)], narrowed := true }
def HeaderFramesUptoSaid : Prop := headerFramesUptoRow.holds Tryd.pinned (OpenSpec.upto headerFramesSpec)

end Rows
end Go.Proofs.YtgfibgnolmogkaaDoor

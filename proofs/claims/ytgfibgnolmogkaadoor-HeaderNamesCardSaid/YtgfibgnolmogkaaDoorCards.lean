/-
  DERIVED. GIVEN WITH THE SEED: THE CARDS: each row of YtgfibgnolmogkaaDoorRows.lean that lists a variable, with what it lists TIED to the program's text (the seventh form; the later family's looks); each row that meets fmt, with fmt's text TOLD by the authors' own Lean function (tested against real Go, not proved from fmt's source: count such statements apart). THE CARD IS WHAT COUNTS. Prove the row's statement (the work); the ties are given (YtgfibgnolmogkaaDoorTie.lean); close each card by the builder's one call (the guide's Derived/Test/ToyasCard.lean, 'card_holds'). Laid BY PROGRAM, IN A SANDBOX (cutbox-door.mjs). By AI agents, Wed Nov 11 2026. No macro, syntax, notation, axiom, sorry.
-/
import Derived.Test.YtgfibgnolmogkaaDoorRows
import GoSem.ClaimSeven
namespace Go.Proofs.YtgfibgnolmogkaaDoor
namespace Rows

/-- THE TIED CARD OF 'cadenzalaw25.HeaderNames'. -/
def headerNamesCard : Claim7 := { stood := { row := headerNamesRow, standIns := [], harness := (true, "331d41f4ea101b0f201f8e7ed14d80b08442e6682d64601f6545028d4536b9c8"), looks := false }, kinds := [], alts := [], laidByText := true, laidKinds := [.data], laidTests := true, laidLooks := .later }
def HeaderNamesCardSaid : Prop := Claim7.holds Tryd.pinned (.plain (OpenSpec.ofChange headerNamesSpec)) headerNamesCard

/-- THE TIED CARD OF 'cadenzalaw25.HeaderBack'. -/
def headerBackCard : Claim7 := { stood := { row := headerBackRow, standIns := [], harness := (true, "331d41f4ea101b0f201f8e7ed14d80b08442e6682d64601f6545028d4536b9c8"), looks := false }, kinds := [], alts := [], laidByText := true, laidKinds := [.data], laidTests := true, laidLooks := .later }
def HeaderBackCardSaid : Prop := Claim7.holds Tryd.pinned (.plain (OpenSpec.ofChange headerBackSpec)) headerBackCard

/-- THE TIED CARD OF 'cadenzalaw25.HeaderReads'. -/
def headerReadsCard : Claim7 := { stood := { row := headerReadsRow, standIns := [], harness := (true, "331d41f4ea101b0f201f8e7ed14d80b08442e6682d64601f6545028d4536b9c8"), looks := false }, kinds := [], alts := [], laidByText := true, laidKinds := [.data], laidTests := true, laidLooks := .later }
def HeaderReadsCardSaid : Prop := Claim7.holds Tryd.pinned (.plain (OpenSpec.ofChange headerReadsSpec)) headerReadsCard

/-- THE TIED CARD OF 'cadenzalaw25.HeaderTells'. -/
def headerTellsCard : Claim7 := { stood := { row := headerTellsRow, standIns := [], harness := (true, "331d41f4ea101b0f201f8e7ed14d80b08442e6682d64601f6545028d4536b9c8"), looks := false }, kinds := [], alts := [], laidByText := true, laidKinds := [.data], laidTests := true, laidLooks := .later }
def HeaderTellsCardSaid : Prop := Claim7.holds Tryd.pinned (.plain (OpenSpec.ofChange headerTellsSpec)) headerTellsCard

/-- THE TIED CARD OF 'cadenzalaw25.HeaderOne'. -/
def headerOneCard : Claim7 := { stood := { row := headerOneRow, standIns := [], harness := (true, "331d41f4ea101b0f201f8e7ed14d80b08442e6682d64601f6545028d4536b9c8"), looks := false }, kinds := [], alts := [], laidByText := true, laidKinds := [.data], laidTests := true, laidLooks := .later }
def HeaderOneCardSaid : Prop := Claim7.holds Tryd.pinned (.plain (OpenSpec.ofChange headerOneSpec)) headerOneCard

/-- THE TIED CARD OF 'cadenzalaw25.HeaderFrames'. -/
def headerFramesCard : Claim7 := { stood := { row := headerFramesRow, standIns := [], harness := (true, "331d41f4ea101b0f201f8e7ed14d80b08442e6682d64601f6545028d4536b9c8"), looks := false }, kinds := [], alts := [], laidByText := true, laidKinds := [.data], laidTests := true, laidLooks := .later }
def HeaderFramesCardSaid : Prop := Claim7.holds Tryd.pinned (.plain (OpenSpec.ofChange headerFramesSpec)) headerFramesCard

/-- THE SECOND FORM's CARD OF 'cadenzalaw25.HeaderNames'. -/
def headerNamesUptoCard : Claim7 := { stood := { row := headerNamesUptoRow, standIns := [], harness := (true, "331d41f4ea101b0f201f8e7ed14d80b08442e6682d64601f6545028d4536b9c8"), looks := false }, kinds := [], alts := [], laidByText := true, laidKinds := [.data], laidTests := true, laidLooks := .later }
def HeaderNamesUptoCardSaid : Prop := Claim7.holds Tryd.pinned (.plain (OpenSpec.upto headerNamesSpec)) headerNamesUptoCard

/-- THE SECOND FORM's CARD OF 'cadenzalaw25.HeaderBack'. -/
def headerBackUptoCard : Claim7 := { stood := { row := headerBackUptoRow, standIns := [], harness := (true, "331d41f4ea101b0f201f8e7ed14d80b08442e6682d64601f6545028d4536b9c8"), looks := false }, kinds := [], alts := [], laidByText := true, laidKinds := [.data], laidTests := true, laidLooks := .later }
def HeaderBackUptoCardSaid : Prop := Claim7.holds Tryd.pinned (.plain (OpenSpec.upto headerBackSpec)) headerBackUptoCard

/-- THE SECOND FORM's CARD OF 'cadenzalaw25.HeaderReads'. -/
def headerReadsUptoCard : Claim7 := { stood := { row := headerReadsUptoRow, standIns := [], harness := (true, "331d41f4ea101b0f201f8e7ed14d80b08442e6682d64601f6545028d4536b9c8"), looks := false }, kinds := [], alts := [], laidByText := true, laidKinds := [.data], laidTests := true, laidLooks := .later }
def HeaderReadsUptoCardSaid : Prop := Claim7.holds Tryd.pinned (.plain (OpenSpec.upto headerReadsSpec)) headerReadsUptoCard

/-- THE SECOND FORM's CARD OF 'cadenzalaw25.HeaderTells'. -/
def headerTellsUptoCard : Claim7 := { stood := { row := headerTellsUptoRow, standIns := [], harness := (true, "331d41f4ea101b0f201f8e7ed14d80b08442e6682d64601f6545028d4536b9c8"), looks := false }, kinds := [], alts := [], laidByText := true, laidKinds := [.data], laidTests := true, laidLooks := .later }
def HeaderTellsUptoCardSaid : Prop := Claim7.holds Tryd.pinned (.plain (OpenSpec.upto headerTellsSpec)) headerTellsUptoCard

/-- THE SECOND FORM's CARD OF 'cadenzalaw25.HeaderOne'. -/
def headerOneUptoCard : Claim7 := { stood := { row := headerOneUptoRow, standIns := [], harness := (true, "331d41f4ea101b0f201f8e7ed14d80b08442e6682d64601f6545028d4536b9c8"), looks := false }, kinds := [], alts := [], laidByText := true, laidKinds := [.data], laidTests := true, laidLooks := .later }
def HeaderOneUptoCardSaid : Prop := Claim7.holds Tryd.pinned (.plain (OpenSpec.upto headerOneSpec)) headerOneUptoCard

/-- THE SECOND FORM's CARD OF 'cadenzalaw25.HeaderFrames'. -/
def headerFramesUptoCard : Claim7 := { stood := { row := headerFramesUptoRow, standIns := [], harness := (true, "331d41f4ea101b0f201f8e7ed14d80b08442e6682d64601f6545028d4536b9c8"), looks := false }, kinds := [], alts := [], laidByText := true, laidKinds := [.data], laidTests := true, laidLooks := .later }
def HeaderFramesUptoCardSaid : Prop := Claim7.holds Tryd.pinned (.plain (OpenSpec.upto headerFramesSpec)) headerFramesUptoCard
end Rows
end Go.Proofs.YtgfibgnolmogkaaDoor

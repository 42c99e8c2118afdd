/-
  The walk of the example of the law's package, and of its check. Conditions: the package variable widths as the text lays it.
-/
import Derived.Test.YtgfibgnolmogkaaDoorMake
import Derived.Test.YtgfibgnolmogkaaDoorHdEq
import Derived.Test.YtgfibgnolmogkaaDoorHdBack
import Derived.Test.YtgfibgnolmogkaaDoorSince
namespace Go.Proofs.YtgfibgnolmogkaaDoor
open Go.RowKit
set_option linter.unusedVariables false

set_option maxRecDepth 100000 in
set_option maxHeartbeats 1000000 in
theorem hdExample (w : World) :
    Calls Tryd.prog 16 #[] w fun e w' => ∃ A, e = .returned (.agg #[.int .i64 1, .int .i64 16, .int .i64 245, .slice A 2 2]) ∧ Sl w' w'.heap.size .i32 A [1, 2] ∧ Below w.heap.size w w' := by
  go_enter Tryd.func16, Tryd.ntmps16
  go_wp2_with fail
  have BK := (BlkH.new w 40 #[.int .i64 1, .int .i64 16, .int .i64 245, .slice (some ⟨w.heap.size + 1, 0, none⟩) 2 2]).up (.cells #[.int .i32 1, .int .i32 2] 21)
  have SL := Sl.lit' (w.alloc (.cells #[.int .i64 1, .int .i64 16, .int .i64 245, .slice (some ⟨w.heap.size + 1, 0, none⟩) 2 2] 40)) .i32 21 [1, 2] (cs := #[.int .i32 1, .int .i32 2]) rfl
  rw [size_alloc w] at SL
  refine bodyPost_ret (results_c1 Tryd.results16 _ _ rfl BK _ Tryd.underlying40 rfl (by kernel_rfl)) rfl ⟨_, rfl, SL, bel_up (bel_up (bel_self w) _) _⟩

def exW : List Int := hdW 1 1 16 245 2
theorem exE : hdE 1 1 16 245 2 = 0 := by decide +kernel
theorem exWR : hdWR 1 1 16 245 2 = exW := hdWR_ok exE
theorem exL : hdL 1 1 16 245 2 = [2] := by decide +kernel
theorem exT : exW.take 18 = [84, 84, 65, 49, 1, 0, 1, 0, 16, 0, 245, 0, 0, 0, 2, 0, 0, 0] := by decide +kernel
theorem exStr : (strOfNums [84, 84, 65, 49, 1, 0, 1, 0, 16, 0, 245, 0, 0, 0, 2, 0, 0, 0]).toList = [84, 84, 65, 49, 1, 0, 1, 0, 16, 0, 245, 0, 0, 0, 2, 0, 0, 0] := by rw [Lib.toList_data]; decide +kernel
theorem exM : mkE 1 16 245 [1, 2] 0 = 0 ∧ mkF 0 = 1 := by decide +kernel
theorem exV : mkV 1 16 245 [1, 2] 0 = .agg #[.int .i64 1, .int .i64 1, .int .i64 16, .int .i64 245, .int .i64 2] := by
  unfold mkV; rw [if_pos exM.1, exM.2]; rfl

set_option maxRecDepth 100000 in
set_option maxHeartbeats 1000000 in
theorem hdAlive (w : World) (hW : WdAt w) : Calls Tryd.prog 17 #[] w fun e w' => e = .returned (.bool true) ∧ Below w.heap.size w w' := by
  have BB := Lib.hid (bel_self w)
  have WD := Lib.hid hW
  have CM := Lib.hid (fun W A (hq : Sl W W.heap.size .i32 A [1, 2]) => hdMake 1 16 245 A 2 2 [1, 2] ByteArray.empty W rfl (by decide) (by decide) (by unfold I32; decide) hq (by decide) (by decide) (by decide) (by decide) (by decide) (by decide))
  rw [show ByteArray.empty.size = 0 from rfl, exV, exM.1] at CM
  have CW := Lib.hid (fun W (hq : WdAt W) => hdWrite 1 1 16 245 2 W (by decide) hq)
  rw [exE, exWR] at CW
  have CF := Lib.hid (fun W => hdFrames 1 1 16 245 2 W (by decide))
  rw [exE, exL] at CF
  have LW := Lib.hid (show exW.length = 22 from rfl)
  have TW := Lib.hid exT
  clear hW
  generalize exW = ew at *
  go_enter Tryd.func17, Tryd.ntmps17
  go_wp2_with fail
  refine (hdExample _).mono ?_
  rintro e w1 ⟨A, rfl, sl, bel1⟩
  have SX := Lib.hid sl
  have WD := Lib.hid (WD.out.next bel1)
  have BB := Lib.hid (bel_next BB.out bel1)
  clear bel1 sl
  go_wp2_with fail
  refine (CM.out _ _ SX.out).mono ?_
  rintro e w2 ⟨rfl, bel2⟩
  have BH := Lib.hid (BlkH.new w2 23 #[.int .i64 1, .int .i64 1, .int .i64 16, .int .i64 245, .int .i64 2])
  have WD := Lib.hid ((WD.out.next bel2).up (.cells #[.int .i64 1, .int .i64 1, .int .i64 16, .int .i64 245, .int .i64 2] 23))
  have BB := Lib.hid (bel_up (bel_next BB.out bel2) (.cells #[.int .i64 1, .int .i64 1, .int .i64 16, .int .i64 245, .int .i64 2] 23))
  clear bel2 SX
  have c0 := BH.out.cell 0
  have c1 := BH.out.cell 1
  have c2 := BH.out.cell 2
  have c3 := BH.out.cell 3
  have c4 := BH.out.cell 4
  have BHlt := BH.out.lt
  go_wp2_with fail
  refine (CW.out _ WD.out).mono ?_
  rintro e w3 ⟨v3, rfl, own3, bel3⟩
  have O3 := Lib.hid own3
  obtain ⟨A3, k3, rfl, hk3, hm3, sl3⟩ := own3.sln LW.out
  have S3 := Lib.hid sl3
  have BH := Lib.hid (BH.out.next bel3)
  have BB := Lib.hid (bel_next BB.out bel3)
  clear bel3 own3 sl3 c0 c1 c2 c3 c4 O3
  have c0 := BH.out.cell 0
  have c1 := BH.out.cell 1
  have c2 := BH.out.cell 2
  have c3 := BH.out.cell 3
  have c4 := BH.out.cell 4
  go_wp2_with fail
  refine (CF.out _).mono ?_
  rintro e w4 ⟨v4, rfl, own4, bel4⟩
  obtain ⟨A4, k4, rfl, hk4, hm4, sl4⟩ := own4.sln (n := 1) rfl
  obtain ⟨g4, rfl, hg4, hl4⟩ := own4.addr (by decide)
  obtain ⟨_, i0⟩ := sl4.at5 (i := 0) (by decide)
  have S3 := Lib.hid (S3.out.next bel4)
  have BH := Lib.hid (BH.out.next bel4)
  have BB := Lib.hid (bel_next BB.out bel4)
  clear bel4 own4 sl4 c0 c1 c2 c3 c4
  have c0 := BH.out.cell 0
  have c1 := BH.out.cell 1
  have c2 := BH.out.cell 2
  have c3 := BH.out.cell 3
  have c4 := BH.out.cell 4
  have he := fun W => hd_eq 1 1 16 245 2 1 1 16 245 2 W
  have ru := fun W => run_upto leElU8 A3 22 k3 18 (z := 18) rfl (by omega) W
  have T18 := S3.out.take 18
  rw [TW.out] at T18
  have cv := conv_sl (P := Tryd.prog) (n := 18) (c := k3) Tryd.underlying24 Tryd.underlying5 Tryd.underlying9 T18 rfl
  have st := exStr
  clear T18
  go_wp2_with fail
  go_ret
  exact ⟨rfl, BB.out⟩
end Go.Proofs.YtgfibgnolmogkaaDoor

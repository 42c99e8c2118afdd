/-
  What fails of the law's package computes, where the bytes have the error that is asked for. Conditions: the bytes lie below; the package variable widths as the text lays it.
-/
import Derived.Test.YtgfibgnolmogkaaDoorLaw25C
namespace Go.Proofs.YtgfibgnolmogkaaDoor
open Go.RowKit
set_option linter.unusedVariables false

set_option maxRecDepth 100000 in
set_option maxHeartbeats 1000000 in
theorem hdFails (A : Option Addr) (n c : Nat) (b : List Int) (E : Int) (w : World) (hn : b.length = n) (hc : n ≤ c) (hcm : c ≤ 9223372036854775807) (hx : U8 b) (hs : Sl w w.heap.size .u8 A b) (hW : WdAt w) (he : rhE b = E) (h0 : E ≠ 0) :
    Calls Tryd.prog 13 #[.slice A n c, .int .i64 E] w fun e w' => e = .returned (.bool true) ∧ Below w.heap.size w w' := by
  have P1 := Lib.hid (hdRead A n c b w hn hc hcm hx hs hW)
  rw [rhV_zero (by rw [he]; exact h0), he] at P1
  have y0 : (E == E) = true := by simp
  have HE := Lib.hid (fun W => hd_eq 0 0 0 0 0 0 0 0 0 0 W)
  clear hs hW hn hx he
  go_enter Tryd.func13, Tryd.ntmps13
  go_wp2_with fail
  refine P1.out.mono ?_
  rintro e w1 ⟨rfl, bel1⟩
  have BH := Lib.hid (BlkH.new w1 23 #[.int .i64 0, .int .i64 0, .int .i64 0, .int .i64 0, .int .i64 0])
  have BB := Lib.hid (bel_up bel1 (.cells #[.int .i64 0, .int .i64 0, .int .i64 0, .int .i64 0, .int .i64 0] 23))
  clear bel1
  have c0 := BH.out.cell 0
  have c1 := BH.out.cell 1
  have c2 := BH.out.cell 2
  have c3 := BH.out.cell 3
  have c4 := BH.out.cell 4
  have he := HE.out
  go_wp2_with fail
  go_ret
  exact ⟨rfl, BB.out⟩
end Go.Proofs.YtgfibgnolmogkaaDoor

/-
  What Count and Same of the reference of layer 22 compute. Conditions: numbers within their types.
-/
import Derived.Test.YtgfibgnolmogkaaMkRefA
namespace Go.Proofs.Ytgfibgnolmogkaa
open Go.RowKit
set_option linter.unusedVariables false

theorem alR_len (r n : Int) : ((alR r n).length : Int) = cnV r n := by
  by_cases h : cnE r n = 0
  · obtain ⟨hl, b1, b2, b3, b4, b5, b6, b7, b8, b9, b10, hv⟩ := cnE_ok h
    rw [alR_ok h, hv, alL_len b1 b5]; omega
  · rw [alR_bad h]; unfold cnV; rw [if_neg h]; rfl

set_option maxHeartbeats 400000 in
theorem recount_any (r n : Int) (w : World) (hr0 : -9223372036854775808 ≤ r) (hr1 : r ≤ 9223372036854775807) (hn0 : -9223372036854775808 ≤ n) (hn1 : n ≤ 9223372036854775807) :
    Calls Try.prog 22 #[.int .i64 r, .int .i64 n] w fun e w' =>
      e = .returned (.tuple #[.int .i64 (cnV r n), .int .i64 (cnE r n)]) ∧ Below w.heap.size w w' := by
  have AL := Lib.hid (reall_any r n w hr0 hr1 hn0 hn1)
  have LE := Lib.hid (alR_len r n)
  generalize alR r n = xs at *
  generalize cnV r n = V at *
  generalize cnE r n = E at *
  go_enter Try.func22, Try.ntmps22
  go_wp2_with fail
  refine AL.out.mono ?_
  rintro e w1 ⟨v, rfl, hown, hbel⟩
  obtain ⟨A1, c1, rfl, _, _, sl1⟩ := hown.sl
  clear hown
  go_wp2_with fail
  go_ret2
  exact ⟨by rw [LE.out]; rfl, hbel⟩

end Go.Proofs.Ytgfibgnolmogkaa

/-
  The walks of the laws of package fold that need no lists that came in. Conditions: numbers within their types.
-/
import Derived.Test.YtacclloligomeaaFoldWalks
namespace Go.Proofs.Ytacclloligomeaa
open Go.RowKit

set_option maxHeartbeats 1000000 in
theorem alive_any (w : World) : Calls Try.prog 14 #[] w fun e w' => e = .returned (.bool true) ∧ Below w.heap.size w w' := by
  go_enter Try.func14, Try.ntmps14
  go_wp2_with fail
  refine (all_any _ 7 [0, -1, 1, -2, 2, 2147483647, -2147483648] _ (by decide) (by unfold I32; decide) (by simpa using Sl.lit w .i32 _ [0, -1, 1, -2, 2, 2147483647, -2147483648] rfl)).mono ?_
  rintro e w1 ⟨v, rfl, hown, hbel⟩
  rw [show [0, -1, 1, -2, 2, 2147483647, -2147483648].map foldF = [0, 1, 2, 3, 4, 4294967294, 4294967295] from by decide] at hown
  obtain ⟨A, c, rfl, _, _, hsl⟩ := hown.sl
  have hb1 : Below w.heap.size w w1 := ((Below.refl _ w).alloc (Nat.le_refl _) _).trans (hbel.mono (by simp))
  have HB := Lib.hid hb1
  have HS := Lib.hid hsl
  clear hbel hown hb1 hsl
  go_wp2_with fail
  refine (same_any A _ c 7 [0, 1, 2, 3, 4, 4294967294, 4294967295] _ (by decide) ((HS.out.alloc (Nat.le_refl _) _).more (by simp)) (by simpa using Sl.lit w1 .u32 _ [0, 1, 2, 3, 4, 4294967294, 4294967295] rfl)).mono ?_
  rintro e w2 ⟨rfl, hbel⟩
  have hb2 : Below w.heap.size w w2 := (HB.out.alloc HB.out.size _).trans (hbel.mono (by have := HB.out.size; simp; omega))
  have HB2 := Lib.hid hb2
  clear hbel hb2
  go_wp2_with fail
  go_ret
  exact ⟨rfl, HB2.out⟩

set_option maxHeartbeats 400000 in
theorem foldNumbers_walk (x n : Int) (w : World) (h0 : -2147483648 ≤ x) (h1 : x ≤ 2147483647) (h2 : 0 ≤ n) (h3 : n ≤ 4294967295) :
    Calls Try.prog 3 #[.int .i32 x, .int .u32 n] w fun e w' => e = .returned (.bool true) ∧ Below w.heap.size w w' := by
  go_enter Try.func3, Try.ntmps3
  go_wp2_with fail
  refine (fold_any x _ h0 h1).mono ?_
  rintro e w1 ⟨rfl, rfl⟩
  go_wp2_with fail
  refine (refold_any x _ h0 h1).mono ?_
  rintro e w1 ⟨rfl, rfl⟩
  go_wp2_with fail
  refine (back_any n _ h2 h3).mono ?_
  rintro e w1 ⟨rfl, rfl⟩
  go_wp2_with fail
  refine (reback_any n _ h2 h3).mono ?_
  rintro e w1 ⟨rfl, rfl⟩
  go_wp2_with fail
  go_ret
  exact ⟨ret_bool (by simp), Below.refl _ _⟩
end Go.Proofs.Ytacclloligomeaa

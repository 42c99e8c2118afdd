/-
  What Great of the reference of layer 13 computes. No conditions.
-/
import Derived.Test.YtgnmpkembcdkcaaKit
namespace Go.Proofs.Ytgnmpkembcdkcaa
open Go.RowKit
set_option linter.unusedVariables false

set_option maxHeartbeats 400000 in
theorem great_no (A : Option Addr) (n c : Nat) (w : World) (h1 : n ≤ 600 ∨ 4000 < n) (h2 : n ≤ 4100) :
    Calls Try.prog 19 #[.slice A n c] w fun e w' => e = .returned (.bool false) ∧ w = w' := by
  rcases h1 with h1 | h1
  all_goals
    go_enter Try.func19, Try.ntmps19
    go_wp2_with fail
    go_ret
    exact ⟨ret_bool (by simp; omega), rfl⟩
set_option maxHeartbeats 400000 in
theorem great_yes (A : Option Addr) (n c : Nat) (w : World) (hm : n ≤ 9223372036854775807) (h : (600 < n ∧ n ≤ 4000) ∨ 4100 < n) :
    Calls Try.prog 19 #[.slice A n c] w fun e w' => e = .returned (.bool true) ∧ w = w' := by
  rcases h with ⟨h1, h2⟩ | h1
  all_goals
    go_enter Try.func19, Try.ntmps19
    go_wp2_with fail
    go_ret
    exact ⟨ret_bool (by simp <;> omega), rfl⟩
end Go.Proofs.Ytgnmpkembcdkcaa

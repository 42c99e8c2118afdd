/-
  What the functions of the reference of layer 13 compute. Conditions: numbers within their types.
-/
import Derived.Test.YtgnmpkembcdkcaaChFirst
namespace Go.Proofs.Ytgnmpkembcdkcaa
open Go.RowKit
set_option linter.unusedVariables false

theorem trunc_facts (a n : Int) (h : 0 < n) : n * a.tdiv n + a.tmod n = a ∧ -n < a.tmod n ∧ a.tmod n < n :=
  ⟨Int.mul_tdiv_add_tmod a n, Int.lt_tmod_of_pos a h, Int.tmod_lt_of_pos a h⟩

theorem behind5n {x : Int} (h0 : -2147483648 ≤ x) (h1 : x ≤ 2147483647) (h : (31 * x).tmod 32 < 0) : wrap32 (wrap64 ((31 * x).tdiv 32 - 1)) = gF 5 x := by
  obtain ⟨e, a, b⟩ := trunc_facts (31 * x) 32 (by omega)
  have h2 : (31 * x).tdiv 32 - 1 = 31 * x / 32 := by omega
  rw [h2, IntWalk.wrap64_in _ ⟨by omega, by omega⟩, IntWalk.wrap32_in _ ⟨by omega, by omega⟩]
  unfold gF; rw [if_neg (by omega)]
theorem behind5p {x : Int} (h0 : -2147483648 ≤ x) (h1 : x ≤ 2147483647) (h : 0 ≤ (31 * x).tmod 32) : wrap32 ((31 * x).tdiv 32) = gF 5 x := by
  obtain ⟨e, a, b⟩ := trunc_facts (31 * x) 32 (by omega)
  have h2 : (31 * x).tdiv 32 = 31 * x / 32 := by omega
  rw [h2, IntWalk.wrap32_in _ ⟨by omega, by omega⟩]
  unfold gF; rw [if_neg (by omega)]
theorem behind4n {x : Int} (h0 : -2147483648 ≤ x) (h1 : x ≤ 2147483647) (h : (15 * x).tmod 16 < 0) : wrap32 (wrap64 ((15 * x).tdiv 16 - 1)) = gF 4 x := by
  obtain ⟨e, a, b⟩ := trunc_facts (15 * x) 16 (by omega)
  have h2 : (15 * x).tdiv 16 - 1 = 15 * x / 16 := by omega
  rw [h2, IntWalk.wrap64_in _ ⟨by omega, by omega⟩, IntWalk.wrap32_in _ ⟨by omega, by omega⟩]
  unfold gF; rw [if_pos rfl]
theorem behind4p {x : Int} (h0 : -2147483648 ≤ x) (h1 : x ≤ 2147483647) (h : 0 ≤ (15 * x).tmod 16) : wrap32 ((15 * x).tdiv 16) = gF 4 x := by
  obtain ⟨e, a, b⟩ := trunc_facts (15 * x) 16 (by omega)
  have h2 : (15 * x).tdiv 16 = 15 * x / 16 := by omega
  rw [h2, IntWalk.wrap32_in _ ⟨by omega, by omega⟩]
  unfold gF; rw [if_pos rfl]

set_option maxHeartbeats 400000 in
theorem behind_any (s x : Int) (w : World) (hs : s = 4 ∨ s = 5) (h0 : -2147483648 ≤ x) (h1 : x ≤ 2147483647) :
    Calls Try.prog 49 #[.int .i64 s, .int .i32 x] w fun e w' => e = .returned (.int .i32 (gF s x)) ∧ w = w' := by
  rcases hs with rfl | rfl
  · by_cases h : (15 * x).tmod 16 < 0
    · have H := Lib.hid (behind4n h0 h1 h)
      go_enter Try.func49, Try.ntmps49
      go_wp2_with fail
      go_ret
      exact ⟨ret_int H.out, rfl⟩
    · have H := Lib.hid (behind4p h0 h1 (by omega))
      go_enter Try.func49, Try.ntmps49
      go_wp2_with fail
      go_ret
      exact ⟨ret_int H.out, rfl⟩
  · by_cases h : (31 * x).tmod 32 < 0
    · have H := Lib.hid (behind5n h0 h1 h)
      go_enter Try.func49, Try.ntmps49
      go_wp2_with fail
      go_ret
      exact ⟨ret_int H.out, rfl⟩
    · have H := Lib.hid (behind5p h0 h1 (by omega))
      go_enter Try.func49, Try.ntmps49
      go_wp2_with fail
      go_ret
      exact ⟨ret_int H.out, rfl⟩

theorem wrap_thrice (x : Int) : wrap32 (IntKind.u64.wrap x % 4294967296) = wrap32 x := by
  rw [IntKind.wrap_u64]; unfold wrap32; omega

set_option maxHeartbeats 400000 in
theorem Wrap_any (x : Int) (w : World) (h0 : -9223372036854775808 ≤ x) (h1 : x ≤ 9223372036854775807) :
    Calls Try.prog 42 #[.int .i64 x] w fun e w' => e = .returned (.int .i32 (wrap32 x)) ∧ w = w' := by
  go_enter Try.func42, Try.ntmps42
  go_wp2_with fail
  go_ret
  exact ⟨ret_int (wrap_thrice x), rfl⟩

def greatB (n : Nat) : Bool := (decide (600 < n) && decide (n ≤ 4000)) || decide (4100 < n)
set_option maxHeartbeats 400000 in
theorem great_no (A : Option Addr) (n c : Nat) (w : World) (h1 : n ≤ 600 ∨ 4000 < n) (h2 : n ≤ 4100) :
    Calls Try.prog 19 #[.slice A n c] w fun e w' => e = .returned (.bool false) ∧ w = w' := by
  rcases h1 with h1 | h1
  all_goals
    go_enter Try.func19, Try.ntmps19
    go_wp2_with fail
    go_ret
    exact ⟨ret_bool (by simp; omega), rfl⟩
set_option maxHeartbeats 400000 in
theorem great_yes (A : Option Addr) (n c : Nat) (w : World) (hm : n ≤ 9223372036854775807) (h : (600 < n ∧ n ≤ 4000) ∨ 4100 < n) :
    Calls Try.prog 19 #[.slice A n c] w fun e w' => e = .returned (.bool true) ∧ w = w' := by
  rcases h with ⟨h1, h2⟩ | h1
  all_goals
    go_enter Try.func19, Try.ntmps19
    go_wp2_with fail
    go_ret
    exact ⟨ret_bool (by simp <;> omega), rfl⟩
end Go.Proofs.Ytgnmpkembcdkcaa

/-
  What shaped of package header computes. Conditions: numbers within their types.
-/
import Derived.Test.YtgfibgnolmogkaaDoorHdPlain
import Derived.Test.YtgfibgnolmogkaaDoorLenAllA
import Derived.Test.YtgfibgnolmogkaaDoorKit5
namespace Go.Proofs.YtgfibgnolmogkaaDoor
open Go.RowKit
set_option linter.unusedVariables false

/-- a header as a value -/
def hdV (f c b r n : Int) : Value := .agg #[.int .i64 f, .int .i64 c, .int .i64 b, .int .i64 r, .int .i64 n]

set_option maxRecDepth 100000 in
set_option maxHeartbeats 1000000 in
theorem shaped_any (f c b r n : Int) (w : World) :
    Calls Tryd.prog 29 #[.agg #[.int .i64 f, .int .i64 c, .int .i64 b, .int .i64 r, .int .i64 n]] w fun e w' => e = .returned (.bool (hdS f c b r n)) ∧ Below w.heap.size w w' := by
  by_cases h : hdS f c b r n = true
  · have E := Lib.hid h
    obtain ⟨h1, h2, h3, h4, h5, h6, h7⟩ := hdS_ok h
    clear h
    have a1 : (0 : Int) < c := by omega
    have a2 : (0 : Int) < r := by omega
    have a3 : (0 : Int) < n := by omega
    rcases h1 with rfl | rfl | rfl <;> rcases h2 with rfl | rfl
    all_goals
      go_enter Tryd.func29, Tryd.ntmps29
      go_wp2_with fail
      go_ret
      exact ⟨by rw [E.out]; rfl, bel_up (bel_self w) _⟩
  · have h0 : hdS f c b r n = false := by simpa using h
    have E := Lib.hid h0
    have h1 := hdS_no h0
    clear h h0
    by_cases hb : b = 8 ∨ b = 16 ∨ b = 24
    · by_cases hf : f = 1 ∨ f = 2
      · have hk : c ≤ 0 ∨ (1 ≤ c ∧ 6 < c) ∨ (1 ≤ c ∧ c ≤ 6 ∧ r ≤ 0) ∨ (1 ≤ c ∧ c ≤ 6 ∧ 1 ≤ r ∧ 1048576 < r) ∨ (1 ≤ c ∧ c ≤ 6 ∧ 1 ≤ r ∧ r ≤ 1048576 ∧ n ≤ 0) := by omega
        clear h1
        rcases hb with rfl | rfl | rfl <;> rcases hf with rfl | rfl <;> rcases hk with hk | ⟨k1, k2⟩ | ⟨k1, k2, k3⟩ | ⟨k1, k2, k3, k4⟩ | ⟨k1, k2, k3, k4, k5⟩
        all_goals
          first | (have a1 : (0 : Int) < c := by omega) | skip
          first | (have a2 : (0 : Int) < r := by omega) | skip
          go_enter Tryd.func29, Tryd.ntmps29
          go_wp2_with fail
          go_ret
          exact ⟨by rw [E.out]; first | rfl | exact ret_bool (decide_eq_false (by omega)), bel_up (bel_self w) _⟩
      · have f1 : (f == 1) = false := by simp; omega
        have f2 : (f == 2) = false := by simp; omega
        clear hf h1
        rcases hb with rfl | rfl | rfl
        all_goals
          go_enter Tryd.func29, Tryd.ntmps29
          go_wp2_with fail
          go_ret
          exact ⟨by rw [E.out]; first | rfl | exact ret_bool (decide_eq_false (by omega)), bel_up (bel_self w) _⟩
    · have f1 : (b == 8) = false := by simp; omega
      have f2 : (b == 16) = false := by simp; omega
      have f3 : (b == 24) = false := by simp; omega
      clear hb h1
      go_enter Tryd.func29, Tryd.ntmps29
      go_wp2_with fail
      go_ret
      exact ⟨by rw [E.out]; first | rfl | exact ret_bool (decide_eq_false (by omega)), bel_up (bel_self w) _⟩

end Go.Proofs.YtgfibgnolmogkaaDoor

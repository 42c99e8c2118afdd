/-
  The walk of FirstNear. Conditions: numbers within their types.
-/
import Derived.Test.YtkdfjhblkcbfdaaLaw13B
namespace Go.Proofs.Ytkdfjhblkcbfdaa
open Go.RowKit
set_option linter.unusedVariables false

theorem gF_mono (s : Int) {x y : Int} (h : x ≤ y) : gF s x ≤ gF s y := by unfold gF; split <;> omega
theorem gF4 (x : Int) : 15 * x - 15 ≤ 16 * gF 4 x ∧ 16 * gF 4 x ≤ 15 * x := by unfold gF; rw [if_pos rfl]; omega
theorem gF5 (x : Int) : 31 * x - 31 ≤ 32 * gF 5 x ∧ 32 * gF 5 x ≤ 31 * x := by unfold gF; rw [if_neg (by omega)]; omega

set_option maxRecDepth 100000 in
set_option maxHeartbeats 1000000 in
theorem firstNear_s (b s x y g h : Int) (w : World) (hb0 : -9223372036854775808 ≤ b) (hb1 : b ≤ 9223372036854775807) (h0 : -2147483648 ≤ x) (h1 : x ≤ 2147483647) (h2 : -2147483648 ≤ y) (h3 : y ≤ 2147483647)
    (H0 : Hid (shE b = 0)) (HS : Hid (shS b = s)) (HG : Hid (guR b x = g)) (HH : Hid (guR b y = h)) (hmono : x ≤ y → g ≤ h)
    (hs : (s = 4 ∧ 15 * x - 15 ≤ 16 * g ∧ 16 * g ≤ 15 * x) ∨ (s = 5 ∧ 31 * x - 31 ≤ 32 * g ∧ 32 * g ≤ 31 * x)) :
    Calls Try.prog 4 #[.int .i64 b, .int .i32 x, .int .i32 y] w fun e w' => e = .returned (.bool true) ∧ Below w.heap.size w w' := by
  have BB := Lib.hid (bel_self w)
  by_cases hxy : x ≤ y
  · have hgh := hmono hxy
    clear hmono
    rcases hs with ⟨rfl, ha, hb⟩ | ⟨rfl, ha, hb⟩
    all_goals by_cases hx : x < 0
    all_goals
      go_enter Try.func4, Try.ntmps4
      go_wp2_with fail
      refine (alive_any w).mono ?_
      rintro e w1 ⟨rfl, bel1⟩
      have BB := Lib.hid (bel_next BB.out bel1)
      clear bel1
      go_wp2_with fail
      refine (Shift_v (e := 0) _ HS.out H0.out hb0 hb1).mono ?_
      rintro e w' ⟨rfl, rfl⟩
      go_wp2_with fail
      refine (Guess_v (r := g) (e := 0) _ HG.out H0.out hb0 hb1 h0 h1).mono ?_
      rintro e w' ⟨rfl, rfl⟩
      go_wp2_with fail
      refine (Guess_v (r := h) (e := 0) _ HH.out H0.out hb0 hb1 h2 h3).mono ?_
      rintro e w' ⟨rfl, rfl⟩
      go_wp2_with fail
      go_ret
      exact ⟨ret_bool (by simp <;> omega), BB.out⟩
  · clear hmono
    rcases hs with ⟨rfl, ha, hb⟩ | ⟨rfl, ha, hb⟩
    all_goals by_cases hx : x < 0
    all_goals
      go_enter Try.func4, Try.ntmps4
      go_wp2_with fail
      refine (alive_any w).mono ?_
      rintro e w1 ⟨rfl, bel1⟩
      have BB := Lib.hid (bel_next BB.out bel1)
      clear bel1
      go_wp2_with fail
      refine (Shift_v (e := 0) _ HS.out H0.out hb0 hb1).mono ?_
      rintro e w' ⟨rfl, rfl⟩
      go_wp2_with fail
      refine (Guess_v (r := g) (e := 0) _ HG.out H0.out hb0 hb1 h0 h1).mono ?_
      rintro e w' ⟨rfl, rfl⟩
      go_wp2_with fail
      refine (Guess_v (r := h) (e := 0) _ HH.out H0.out hb0 hb1 h2 h3).mono ?_
      rintro e w' ⟨rfl, rfl⟩
      go_wp2_with fail
      go_ret
      exact ⟨ret_bool (by simp <;> omega), BB.out⟩

set_option maxRecDepth 100000 in
set_option maxHeartbeats 1000000 in
theorem firstNear_walk (b x y : Int) (w : World) (hb0 : -9223372036854775808 ≤ b) (hb1 : b ≤ 9223372036854775807) (h0 : -2147483648 ≤ x) (h1 : x ≤ 2147483647) (h2 : -2147483648 ≤ y) (h3 : y ≤ 2147483647) :
    Calls Try.prog 4 #[.int .i64 b, .int .i32 x, .int .i32 y] w fun e w' => e = .returned (.bool true) ∧ Below w.heap.size w w' := by
  by_cases hb : shE b = 0
  · have e1 : guR b x = gF (shS b) x := if_pos hb
    have e2 : guR b y = gF (shS b) y := if_pos hb
    refine firstNear_s b (shS b) x y (guR b x) (guR b y) w hb0 hb1 h0 h1 h2 h3 hb rfl rfl rfl (fun h => by rw [e1, e2]; exact gF_mono _ h) ?_
    rw [e1]
    rcases shS_of hb with h | h <;> rw [h]
    · exact .inl ⟨rfl, (gF4 x).1, (gF4 x).2⟩
    · exact .inr ⟨rfl, (gF5 x).1, (gF5 x).2⟩
  · have BB := Lib.hid (bel_self w)
    have E1 := Lib.hid (show shE b = 2 by rcases shE_cases b with h | h <;> omega)
    have E2 := Lib.hid (shS_bad hb)
    obtain ⟨n1, n2, n3⟩ := shE_bad hb
    have m1 : (b == 8) = false := by simp [n1]
    have m2 : (b == 16) = false := by simp [n2]
    have m3 : (b == 24) = false := by simp [n3]
    clear hb n1 n2 n3
    go_enter Try.func4, Try.ntmps4
    go_wp2_with fail
    refine (alive_any w).mono ?_
    rintro e w1 ⟨rfl, bel1⟩
    have BB := Lib.hid (bel_next BB.out bel1)
    clear bel1
    go_wp2_with fail
    refine (Shift_v (r := 0) (e := 2) _ E2.out E1.out hb0 hb1).mono ?_
    rintro e w' ⟨rfl, rfl⟩
    go_wp2_with fail
    go_ret
    exact ⟨rfl, BB.out⟩
end Go.Proofs.Ytkdfjhblkcbfdaa

/-
  What the functions of package lengths compute. Conditions: numbers within their types.
-/
import Derived.Test.YtgfibgnolmogkaaDoorLenPlain
import Derived.Laws.CopyOwn
import Derived.Deep.RegionLaw
import Derived.Laws.MathBits
namespace Go.Proofs.YtgfibgnolmogkaaDoor
open Go.RowKit
set_option linter.unusedVariables false

theorem elI64 : Elem Tryd.prog 28 3 .i64 8 := Elem.mk' Tryd.underlying28 (by kernel_rfl)

set_option maxHeartbeats 400000 in
theorem long_any (r : Int) (w : World) (hr0 : -9223372036854775808 ≤ r) (hr1 : r ≤ 9223372036854775807) :
    Calls Tryd.prog 25 #[.int .i64 r] w fun e w' => e = .returned (.tuple #[.int .i64 (lgV r), .int .i64 (lgE r)]) ∧ w = w' := by
  by_cases h1 : r < 1
  · have e := Lib.hid (lg_no (r := r) (by omega))
    go_enter Tryd.func25, Tryd.ntmps25
    go_wp2_with fail
    go_ret2
    exact ⟨by rw [e.out.1, e.out.2]; rfl, rfl⟩
  · by_cases h2 : 1048576 < r
    · have e := Lib.hid (lg_no (r := r) (by omega))
      go_enter Tryd.func25, Tryd.ntmps25
      go_wp2_with fail
      go_ret2
      exact ⟨by rw [e.out.1, e.out.2]; rfl, rfl⟩
    · have e := Lib.hid (lg_ok (r := r) (by omega) (by omega))
      go_enter Tryd.func25, Tryd.ntmps25
      go_wp2_with fail
      all_goals
        go_ret2
        refine ⟨?_, rfl⟩
        rw [e.out.1, e.out.2]
        have q : ∀ a b : Int, a = b → Ending.returned (.tuple #[.int .i64 a, .int .i64 0]) = .returned (.tuple #[.int .i64 b, .int .i64 0]) := fun a b h => by rw [h]
        exact q _ _ (by omega)

set_option maxHeartbeats 400000 in
theorem mul64_one (m : Nat) (w : World) (hm : m ≤ 4000) :
    Calls Tryd.prog 69 #[.int .u64 1, .int .u64 m] w fun e w' => e = .returned (.tuple #[.int .u64 0, .int .u64 m]) ∧ w = w' := by
  have a1 : bits .and .u64 1 4294967295 = 1 := by decide +kernel
  have a0 : bits .and .u64 0 4294967295 = 0 := by decide +kernel
  have am : bits .and .u64 (m : Int) 4294967295 = (m : Int) := by rw [and_low32 _ (by omega) (by omega)]; omega
  have d1 : (m : Int) / 4294967296 = 0 := by omega
  go_enter Tryd.func69, Tryd.ntmps69
  go_wp2_with fail
  go_ret2
  exact ⟨rfl, rfl⟩

set_option maxHeartbeats 400000 in
theorem mul_one_ (m : Nat) (w : World) (hm : m ≤ 4000) :
    Calls Tryd.prog 59 #[.int .u64 1, .int .u64 m] w fun e w' => e = .returned (.tuple #[.int .u64 0, .int .u64 m]) ∧ w = w' := by
  go_enter Tryd.func59, Tryd.ntmps59
  go_wp2_with fail
  refine (mul64_one m _ hm).mono ?_
  rintro e w' ⟨rfl, rfl⟩
  go_wp2_with fail
  go_ret2
  exact ⟨rfl, rfl⟩

set_option maxHeartbeats 400000 in
theorem count_any (r n : Int) (w : World) (hr0 : -9223372036854775808 ≤ r) (hr1 : r ≤ 9223372036854775807) (hn0 : -9223372036854775808 ≤ n) (hn1 : n ≤ 9223372036854775807) :
    Calls Tryd.prog 43 #[.int .i64 r, .int .i64 n] w fun e w' => e = .returned (.tuple #[.int .i64 (cnV r n), .int .i64 (cnE r n)]) ∧ w = w' := by
  have LG := Lib.hid (long_any r w hr0 hr1)
  rcases cnE_cases r n with ⟨h, hl, h1, h2, h3⟩ | ⟨h, hl, h1, h2, h3⟩ | ⟨h, hl, h1⟩ | ⟨h, hl⟩
  · have e1 := Lib.hid (show cnV r n = (n + lgV r - 1) / lgV r by unfold cnV; rw [if_pos h]; rfl)
    have e2 := Lib.hid h
    obtain ⟨b1, b2, _⟩ := lgV_bd hl
    have h3' : ¬ (1000 < (n + lgV r - 1) / lgV r) := by unfold frN at h3; omega
    have h4 : (0 : Int) ≤ (n + lgV r - 1) / lgV r := Int.ediv_nonneg (by omega) (by omega)
    rw [hl] at LG
    clear h h3
    generalize lgV r = L at *
    go_enter Tryd.func43, Tryd.ntmps43
    go_wp2_with fail
    refine LG.out.mono ?_
    rintro e w' ⟨rfl, rfl⟩
    go_wp2_with fail
    go_ret2
    exact ⟨by rw [e1.out, e2.out]; rfl, rfl⟩
  · have e1 := Lib.hid (show cnV r n = 0 by unfold cnV; rw [if_neg (by omega)])
    have e2 := Lib.hid h
    obtain ⟨b1, b2, _⟩ := lgV_bd hl
    have h3' : (1000 < (n + lgV r - 1) / lgV r) := h3
    rw [hl] at LG
    clear h h3
    generalize lgV r = L at *
    go_enter Tryd.func43, Tryd.ntmps43
    go_wp2_with fail
    refine LG.out.mono ?_
    rintro e w' ⟨rfl, rfl⟩
    go_wp2_with fail
    go_ret2
    exact ⟨by rw [e1.out, e2.out]; rfl, rfl⟩
  · have e1 := Lib.hid (show cnV r n = 0 by unfold cnV; rw [if_neg (by omega)])
    have e2 := Lib.hid h
    rw [hl] at LG
    clear h
    generalize lgV r = L at *
    by_cases h5 : n < 1
    all_goals
      go_enter Tryd.func43, Tryd.ntmps43
      go_wp2_with fail
      refine LG.out.mono ?_
      rintro e w' ⟨rfl, rfl⟩
      go_wp2_with fail
      go_ret2
      exact ⟨by rw [e1.out, e2.out]; rfl, rfl⟩
  · have e1 := Lib.hid (show cnV r n = 0 by unfold cnV; rw [if_neg (by omega)])
    have e2 := Lib.hid h
    rw [hl] at LG
    clear h hl
    generalize lgV r = L at *
    go_enter Tryd.func43, Tryd.ntmps43
    go_wp2_with fail
    refine LG.out.mono ?_
    rintro e w' ⟨rfl, rfl⟩
    go_wp2_with fail
    go_ret2
    exact ⟨by rw [e1.out, e2.out]; rfl, rfl⟩
end Go.Proofs.YtgfibgnolmogkaaDoor

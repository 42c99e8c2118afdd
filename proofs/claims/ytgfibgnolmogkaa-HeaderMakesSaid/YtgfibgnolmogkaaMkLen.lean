/-
  What the functions of package lengths compute. Conditions: numbers within their types.
-/
import Derived.Test.YtgfibgnolmogkaaLenPlain
import Derived.Laws.CopyOwn
import Derived.Deep.RegionLaw
import Derived.Laws.MathBits
namespace Go.Proofs.Ytgfibgnolmogkaa
open Go.RowKit
set_option linter.unusedVariables false

theorem elI64 : Elem Try.prog 56 3 .i64 8 := Elem.mk' Try.underlying56 (by kernel_rfl)

set_option maxHeartbeats 400000 in
theorem long_any (r : Int) (w : World) (hr0 : -9223372036854775808 ≤ r) (hr1 : r ≤ 9223372036854775807) :
    Calls Try.prog 23 #[.int .i64 r] w fun e w' => e = .returned (.tuple #[.int .i64 (lgV r), .int .i64 (lgE r)]) ∧ w = w' := by
  by_cases h1 : r < 1
  · have e := Lib.hid (lg_no (r := r) (by omega))
    go_enter Try.func23, Try.ntmps23
    go_wp2_with fail
    go_ret2
    exact ⟨by rw [e.out.1, e.out.2]; rfl, rfl⟩
  · by_cases h2 : 1048576 < r
    · have e := Lib.hid (lg_no (r := r) (by omega))
      go_enter Try.func23, Try.ntmps23
      go_wp2_with fail
      go_ret2
      exact ⟨by rw [e.out.1, e.out.2]; rfl, rfl⟩
    · have e := Lib.hid (lg_ok (r := r) (by omega) (by omega))
      go_enter Try.func23, Try.ntmps23
      go_wp2_with fail
      all_goals
        go_ret2
        refine ⟨?_, rfl⟩
        rw [e.out.1, e.out.2]
        have q : ∀ a b : Int, a = b → Ending.returned (.tuple #[.int .i64 a, .int .i64 0]) = .returned (.tuple #[.int .i64 b, .int .i64 0]) := fun a b h => by rw [h]
        exact q _ _ (by omega)

set_option maxHeartbeats 400000 in
theorem count_any (r n : Int) (w : World) (hr0 : -9223372036854775808 ≤ r) (hr1 : r ≤ 9223372036854775807) (hn0 : -9223372036854775808 ≤ n) (hn1 : n ≤ 9223372036854775807) :
    Calls Try.prog 17 #[.int .i64 r, .int .i64 n] w fun e w' => e = .returned (.tuple #[.int .i64 (cnV r n), .int .i64 (cnE r n)]) ∧ w = w' := by
  have LG := Lib.hid (long_any r w hr0 hr1)
  rcases cnE_cases r n with ⟨h, hl, h1, h2, h3⟩ | ⟨h, hl, h1, h2, h3⟩ | ⟨h, hl, h1⟩ | ⟨h, hl⟩
  · have e1 := Lib.hid (show cnV r n = (n + lgV r - 1) / lgV r by unfold cnV; rw [if_pos h]; rfl)
    have e2 := Lib.hid h
    obtain ⟨b1, b2, _⟩ := lgV_bd hl
    have h3' : ¬ (1000 < (n + lgV r - 1) / lgV r) := by unfold frN at h3; omega
    have h4 : (0 : Int) ≤ (n + lgV r - 1) / lgV r := Int.ediv_nonneg (by omega) (by omega)
    rw [hl] at LG
    clear h h3
    generalize lgV r = L at *
    go_enter Try.func17, Try.ntmps17
    go_wp2_with fail
    refine LG.out.mono ?_
    rintro e w' ⟨rfl, rfl⟩
    go_wp2_with fail
    go_ret2
    exact ⟨by rw [e1.out, e2.out]; rfl, rfl⟩
  · have e1 := Lib.hid (show cnV r n = 0 by unfold cnV; rw [if_neg (by omega)])
    have e2 := Lib.hid h
    obtain ⟨b1, b2, _⟩ := lgV_bd hl
    have h3' : (1000 < (n + lgV r - 1) / lgV r) := h3
    rw [hl] at LG
    clear h h3
    generalize lgV r = L at *
    go_enter Try.func17, Try.ntmps17
    go_wp2_with fail
    refine LG.out.mono ?_
    rintro e w' ⟨rfl, rfl⟩
    go_wp2_with fail
    go_ret2
    exact ⟨by rw [e1.out, e2.out]; rfl, rfl⟩
  · have e1 := Lib.hid (show cnV r n = 0 by unfold cnV; rw [if_neg (by omega)])
    have e2 := Lib.hid h
    rw [hl] at LG
    clear h
    generalize lgV r = L at *
    by_cases h5 : n < 1
    all_goals
      go_enter Try.func17, Try.ntmps17
      go_wp2_with fail
      refine LG.out.mono ?_
      rintro e w' ⟨rfl, rfl⟩
      go_wp2_with fail
      go_ret2
      exact ⟨by rw [e1.out, e2.out]; rfl, rfl⟩
  · have e1 := Lib.hid (show cnV r n = 0 by unfold cnV; rw [if_neg (by omega)])
    have e2 := Lib.hid h
    rw [hl] at LG
    clear h hl
    generalize lgV r = L at *
    go_enter Try.func17, Try.ntmps17
    go_wp2_with fail
    refine LG.out.mono ?_
    rintro e w' ⟨rfl, rfl⟩
    go_wp2_with fail
    go_ret2
    exact ⟨by rw [e1.out, e2.out]; rfl, rfl⟩

theorem alR_bad {r n : Int} (h : cnE r n ≠ 0) : alR r n = [] := by unfold alR; rw [if_neg h]
theorem alR_ok {r n : Int} (h : cnE r n = 0) : alR r n = alL (lgV r) n := by unfold alR; rw [if_pos h]
theorem alL_len {L n : Int} (hL : 1 ≤ L) (hn : 1 ≤ n) : (alL L n).length = (frN L n).toNat := by
  have := (frN_spec hL hn).1
  simp [alL]; omega
theorem cnE_ok {r n : Int} (h : cnE r n = 0) : lgE r = 0 ∧ 1 ≤ lgV r ∧ lgV r ≤ 1095654 ∧ 1 ≤ r ∧ r ≤ 1048576 ∧ 1 ≤ n ∧ n ≤ 4000 ∧ 1 ≤ frN (lgV r) n ∧ frN (lgV r) n ≤ 1000 ∧ (frN (lgV r) n - 1) * lgV r < n ∧ n ≤ frN (lgV r) n * lgV r ∧ cnV r n = frN (lgV r) n := by
  have hv : cnV r n = frN (lgV r) n := by unfold cnV; rw [if_pos h]
  rcases cnE_cases r n with ⟨_, hl, h1, h2, h3⟩ | ⟨h', _⟩ | ⟨h', _⟩ | ⟨h', _⟩
  · obtain ⟨b1, b2, b3, b4⟩ := lgV_bd hl
    have b5 := frN_spec b1 h1
    exact ⟨hl, b1, b2, b3, b4, h1, h2, b5.1, h3, b5.2.1, b5.2.2, hv⟩
  all_goals omega

theorem own_nil (w : World) (base e : Nat) (k : IntKind) : Own w base e k (.slice none 0 0) [] := ⟨rfl, .inl ⟨rfl, rfl⟩⟩

end Go.Proofs.Ytgfibgnolmogkaa

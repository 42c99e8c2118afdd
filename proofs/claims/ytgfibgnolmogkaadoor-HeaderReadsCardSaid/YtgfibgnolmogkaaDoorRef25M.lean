/-
  What many of the reference of layer 25 computes. Conditions: numbers within their types.
-/
import Derived.Test.YtgfibgnolmogkaaDoorRef25
namespace Go.Proofs.YtgfibgnolmogkaaDoor
open Go.RowKit
set_option linter.unusedVariables false

set_option maxRecDepth 100000 in
set_option maxHeartbeats 2000000 in
theorem re25many (f c b r n : Int) (w : World) (hc0 : 1 ≤ c) (hc1 : c ≤ 6) (hr0 : 1 ≤ r) (hr1 : r ≤ 1048576) (hn0 : 1 ≤ n) (hn1 : n ≤ 9223372036854775807) :
    Calls Tryd.prog 40 #[.agg #[.int .i64 f, .int .i64 c, .int .i64 b, .int .i64 r, .int .i64 n]] w fun e w' => e = .returned (.bool (!hdF c r n)) ∧ Below w.heap.size w w' := by
  have q0 : 0 ≤ (4000 : Int) / c := Int.ediv_nonneg (by decide) (by omega)
  have q1 : (4000 : Int) / c ≤ 4000 := Int.ediv_le_self _ (by decide)
  have c0 : (c == 0) = false := by simp; omega
  by_cases hq : 4000 / c < n
  · have E := Lib.hid (show (!hdF c r n) = true by rw [show hdF c r n = false from decide_eq_false (by omega)]; rfl)
    go_enter Tryd.func40, Tryd.ntmps40
    go_wp2_with fail
    go_quiet (fail)
    go_wp2_with fail
    go_ret
    exact ⟨by rw [E.out]; rfl, below_drewN (bel_up (bel_self w) _) _⟩
  · have SP := Lib.hid (fun W => re25Split r n W hr0 hr1 hn0 (by omega))
    have LN := Lib.hid (show (alL (lgV r) n).length = (frN (lgV r) n).toNat from alL_len (lgV_bd (lg_ok hr0 hr1).1).1 hn0)
    have E := Lib.hid (show (!hdF c r n) = decide (1000 < (frN (lgV r) n).toNat) by
      have hl := (lg_ok hr0 hr1).1
      have : hdF c r n = decide ((frN (lgV r) n).toNat ≤ 1000) := by
        unfold hdF
        by_cases h : (frN (lgV r) n).toNat ≤ 1000
        · rw [decide_eq_true h]
          refine decide_eq_true ⟨by omega, ?_⟩
          unfold cnE; rw [if_pos ⟨hl, hn0, by omega⟩, if_pos (by omega)]
        · rw [decide_eq_false h]
          refine decide_eq_false (fun h' => ?_)
          have := h'.2
          unfold cnE at this; rw [if_pos ⟨hl, hn0, by omega⟩, if_neg (by omega)] at this
          omega
      rw [this]
      by_cases h : (frN (lgV r) n).toNat ≤ 1000
      · rw [decide_eq_true h, decide_eq_false (by omega)]; rfl
      · rw [decide_eq_false h, decide_eq_true (by omega)]; rfl)
    generalize (frN (lgV r) n).toNat = q at *
    generalize alL (lgV r) n = xs at *
    have hd : decide (4000 / c < n) = false := by simp; omega
    go_enter Tryd.func40, Tryd.ntmps40
    go_wp2_with fail
    go_region_with (go_at_call 42; refine (SP.out _).mono ?_; rintro e w1 ⟨v1, rfl, own1, bel1⟩; obtain ⟨A1, c1, rfl, _, _, sl1⟩ := own1.sln LN.out; have B1 := Lib.hid bel1; clear own1 sl1 bel1)
    all_goals
      have BB := Lib.hid (bel_next ((bel_up (bel_self w) (.cells #[.int .i64 f, .int .i64 c, .int .i64 b, .int .i64 r, .int .i64 n] 23)).drew) B1.out)
      go_wp2_with fail
      go_ret
      exact ⟨by rw [E.out]; exact ret_bool (by simp; omega), BB.out⟩
end Go.Proofs.YtgfibgnolmogkaaDoor

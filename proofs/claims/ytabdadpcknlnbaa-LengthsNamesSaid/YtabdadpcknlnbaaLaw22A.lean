/-
  The walks of the chapter's example of layer 22, and of LengthsTells and LengthsMore. Conditions: numbers within their types.
-/
import Derived.Test.YtabdadpcknlnbaaRef22B
namespace Go.Proofs.Ytabdadpcknlnbaa
open Go.RowKit
set_option linter.unusedVariables false

theorem long_v {r v e : Int} (w : World) (hv : lgV r = v) (he : lgE r = e) (hr0 : -9223372036854775808 ≤ r) (hr1 : r ≤ 9223372036854775807) :
    Calls Try.prog 9 #[.int .i64 r] w fun e' w' => e' = .returned (.tuple #[.int .i64 v, .int .i64 e]) ∧ w = w' := by
  subst hv he
  exact long_any r w hr0 hr1
theorem count_v {r n v e : Int} (w : World) (hv : cnV r n = v) (he : cnE r n = e) (hr0 : -9223372036854775808 ≤ r) (hr1 : r ≤ 9223372036854775807) (hn0 : -9223372036854775808 ≤ n) (hn1 : n ≤ 9223372036854775807) :
    Calls Try.prog 11 #[.int .i64 r, .int .i64 n] w fun e' w' => e' = .returned (.tuple #[.int .i64 v, .int .i64 e]) ∧ w = w' := by
  subst hv he
  exact count_any r n w hr0 hr1 hn0 hn1
theorem all_v {r n e : Int} (ys : List Int) (w : World) (hy : alR r n = ys) (he : cnE r n = e) (hr0 : -9223372036854775808 ≤ r) (hr1 : r ≤ 9223372036854775807) (hn0 : -9223372036854775808 ≤ n) (hn1 : n ≤ 9223372036854775807) :
    Calls Try.prog 13 #[.int .i64 r, .int .i64 n] w fun e' w' => ∃ v, e' = .returned (.tuple #[v, .int .i64 e]) ∧ Own w' w.heap.size 3 .i64 v ys ∧ Below w.heap.size w w' := by
  subst hy he
  exact all_any r n w hr0 hr1 hn0 hn1
theorem place_v {r n a f x e : Int} (w : World) (hf : plF r n a = f) (hx : plW r n a = x) (he : plE r n a = e) (hr0 : -9223372036854775808 ≤ r) (hr1 : r ≤ 9223372036854775807) (hn0 : -9223372036854775808 ≤ n) (hn1 : n ≤ 9223372036854775807) :
    Calls Try.prog 15 #[.int .i64 r, .int .i64 n, .int .i64 a] w fun e' w' => e' = .returned (.tuple #[.int .i64 f, .int .i64 x, .int .i64 e]) ∧ Below w.heap.size w w' := by
  subst hf hx he
  exact place_any r n a w hr0 hr1 hn0 hn1

theorem ex22 : alR 10 25 = [10, 10, 5] := by decide +kernel

set_option maxHeartbeats 1000000 in
theorem alive_any (w : World) : Calls Try.prog 18 #[] w fun e w' => e = .returned (.bool true) ∧ Below w.heap.size w w' := by
  have BB := Lib.hid (bel_self w)
  go_enter Try.func18, Try.ntmps18
  go_wp2_with fail
  refine (long_v (v := 256) (e := 0) w (by decide +kernel) (by decide +kernel) (by decide) (by decide)).mono ?_
  rintro e w' ⟨rfl, rfl⟩
  go_wp2_with fail
  refine (long_v (v := 1) (e := 0) w (by decide +kernel) (by decide +kernel) (by decide) (by decide)).mono ?_
  rintro e w' ⟨rfl, rfl⟩
  go_wp2_with fail
  refine (long_v (v := 46080) (e := 0) w (by decide +kernel) (by decide +kernel) (by decide) (by decide)).mono ?_
  rintro e w' ⟨rfl, rfl⟩
  go_wp2_with fail
  refine (all_v (e := 0) [10, 10, 5] w ex22 (by decide +kernel) (by decide) (by decide) (by decide) (by decide)).mono ?_
  rintro e w1 ⟨v1, rfl, own1, bel1⟩
  obtain ⟨Aa, ca, rfl, _, _, sl1⟩ := own1.sl
  have Sa := Lib.hid sl1
  have BB := Lib.hid (bel_next BB.out bel1)
  clear own1 bel1 sl1
  go_wp2_with fail
  refine (place_v (f := 1) (x := 2) (e := 0) w1 (by decide +kernel) (by decide +kernel) (by decide +kernel) (by decide) (by decide) (by decide) (by decide)).mono ?_
  rintro e w2 ⟨rfl, bel2⟩
  have Sa := Lib.hid (Sa.out.next bel2)
  have BB := Lib.hid (bel_next BB.out bel2)
  clear bel2
  go_wp2_with fail
  refine (same22 Aa _ 3 3 ca 3 [10, 10, 5] _ rfl rfl (by decide) (Sa.out.up _) (Sl.lit' w2 .i64 _ [10, 10, 5] rfl)).mono ?_
  rintro e w3 ⟨rfl, bel3⟩
  have Sa := Lib.hid ((Sa.out.up _).next bel3)
  have BB := Lib.hid (bel_next (bel_up BB.out _) bel3)
  clear bel3
  go_wp2_with fail
  go_ret
  exact ⟨rfl, BB.out⟩

set_option maxHeartbeats 1000000 in
theorem lengthsTells_walk (r n a : Int) (w : World) (hr0 : -9223372036854775808 ≤ r) (hr1 : r ≤ 9223372036854775807) (hn0 : -9223372036854775808 ≤ n) (hn1 : n ≤ 9223372036854775807) (ha0 : -9223372036854775808 ≤ a) (ha1 : a ≤ 9223372036854775807) :
    Calls Try.prog 3 #[.int .i64 r, .int .i64 n, .int .i64 a] w fun e w' => e = .returned (.bool true) ∧ Below w.heap.size w w' := by
  have BB := Lib.hid (bel_self w)
  have e1 : (lgV r == lgV r) = true := by simp
  have e2 : (lgE r == lgE r) = true := by simp
  have e3 : (cnV r n == cnV r n) = true := by simp
  have e4 : (cnE r n == cnE r n) = true := by simp
  have e5 : (plF r n a == plF r n a) = true := by simp
  have e6 : (plW r n a == plW r n a) = true := by simp
  have e7 : (plE r n a == plE r n a) = true := by simp
  have hl := Lib.hid (show (alR r n).length ≤ 9223372036854775807 by have h1 := alR_len r n; rcases cnE_cases r n with h | h | h | h <;> (by_cases h0 : cnE r n = 0; (have := cnE_ok h0; omega); (rw [alR_bad h0]; decide)))
  go_enter Try.func3, Try.ntmps3
  go_wp2_with fail
  refine (long_any r w hr0 hr1).mono ?_
  rintro e w' ⟨rfl, rfl⟩
  go_wp2_with fail
  refine (relong_any r w hr0 hr1).mono ?_
  rintro e w' ⟨rfl, rfl⟩
  go_wp2_with fail
  refine (count_any r n w hr0 hr1 hn0 hn1).mono ?_
  rintro e w' ⟨rfl, rfl⟩
  go_wp2_with fail
  refine (recount_any r n w hr0 hr1 hn0 hn1).mono ?_
  rintro e w1 ⟨rfl, bel1⟩
  have BB := Lib.hid (bel_next BB.out bel1)
  clear bel1
  go_wp2_with fail
  refine (all_any r n w1 hr0 hr1 hn0 hn1).mono ?_
  rintro e w2 ⟨v2, rfl, own2, bel2⟩
  obtain ⟨Aa, ca, rfl, _, _, sl2⟩ := own2.sl
  have Sa := Lib.hid sl2
  have BB := Lib.hid (bel_next BB.out bel2)
  clear own2 bel2 sl2
  go_wp2_with fail
  refine (reall_any r n w2 hr0 hr1 hn0 hn1).mono ?_
  rintro e w3 ⟨v3, rfl, own3, bel3⟩
  obtain ⟨Ab, cb, rfl, _, _, sl3⟩ := own3.sl
  have Sb := Lib.hid sl3
  have Sa := Lib.hid (Sa.out.next bel3)
  have BB := Lib.hid (bel_next BB.out bel3)
  clear own3 bel3 sl3
  go_wp2_with fail
  refine (place_any r n a w3 hr0 hr1 hn0 hn1).mono ?_
  rintro e w4 ⟨rfl, bel4⟩
  have Sa := Lib.hid (Sa.out.next bel4)
  have Sb := Lib.hid (Sb.out.next bel4)
  have BB := Lib.hid (bel_next BB.out bel4)
  clear bel4
  go_wp2_with fail
  refine (replace_any r n a w4 hr0 hr1 hn0 hn1 ha0 ha1).mono ?_
  rintro e w5 ⟨rfl, bel5⟩
  have Sa := Lib.hid (Sa.out.next bel5)
  have Sb := Lib.hid (Sb.out.next bel5)
  have BB := Lib.hid (bel_next BB.out bel5)
  clear bel5
  go_wp2_with fail
  refine (same22 Aa Ab _ _ ca cb (alR r n) _ rfl rfl hl.out Sa.out Sb.out).mono ?_
  rintro e w6 ⟨rfl, bel6⟩
  have Sa := Lib.hid (Sa.out.next bel6)
  have Sb := Lib.hid (Sb.out.next bel6)
  have BB := Lib.hid (bel_next BB.out bel6)
  clear bel6
  go_wp2_with fail
  go_ret
  exact ⟨rfl, BB.out⟩
end Go.Proofs.Ytabdadpcknlnbaa

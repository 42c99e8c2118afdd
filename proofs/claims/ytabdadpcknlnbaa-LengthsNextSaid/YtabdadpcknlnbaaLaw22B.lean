/-
  The walks of LengthsSum, LengthsPlace and LengthsMore. Conditions: numbers within their types.
-/
import Derived.Test.YtabdadpcknlnbaaLaw22A
namespace Go.Proofs.Ytabdadpcknlnbaa
open Go.RowKit
set_option linter.unusedVariables false

theorem alL_at {L n : Int} {q : Nat} (hL : 1 ≤ L) (hn : 1 ≤ n) (hq : frN L n = (q : Int)) :
    (alL L n).length = q ∧ 1 ≤ q ∧ lfK L n q = 0 ∧ ∀ k, k < q → 0 < lfK L n k ∧ lfK L n (k + 1) = lfK L n k - (alL L n).getD k 0 ∧ (alL L n).getD k 0 = min (lfK L n k) L ∧ (k + 1 < q → (alL L n).getD k 0 = L) := by
  have h1 := (frN_spec hL hn).1
  obtain ⟨m, rfl⟩ : ∃ m, q = m + 1 := ⟨q - 1, by omega⟩
  have hm : frN L n = (m : Int) + 1 := by rw [hq]; omega
  refine ⟨alL_length hm, by omega, lfK_last hL hn hm, fun k hk => ?_⟩
  obtain ⟨s1, s2, s3⟩ := alL_step hL hn hm hk
  refine ⟨s1, by rw [s3]; exact s2, s3, fun h => ?_⟩
  rw [alL_eq hm, List.getD_eq_getElem?_getD, List.getElem?_append_left (by simp; omega), List.getElem?_replicate, if_pos (by omega)]
  rfl

theorem cnE_err {r n : Int} (h : cnE r n ≠ 0) : (cnE r n = 4 ∧ lgE r = 0) ∨ (cnE r n = 2 ∧ lgE r = 0) ∨ (cnE r n = 2 ∧ lgE r = 2) := by
  rcases cnE_cases r n with ⟨h1, _⟩ | ⟨h1, h2, _⟩ | ⟨h1, h2, _⟩ | ⟨h1, h2⟩
  · exact absurd h1 h
  · exact .inl ⟨h1, h2⟩
  · exact .inr (.inl ⟨h1, h2⟩)
  · exact .inr (.inr ⟨h1, h2⟩)

set_option maxRecDepth 100000 in
set_option maxHeartbeats 1000000 in
theorem sum_bad (r n E F : Int) (w : World) (hr0 : -9223372036854775808 ≤ r) (hr1 : r ≤ 9223372036854775807) (hn0 : -9223372036854775808 ≤ n) (hn1 : n ≤ 9223372036854775807) (hE : cnE r n = E) (hF : lgE r = F) (h : E = 4 ∧ F = 0 ∨ E = 2 ∧ F = 0 ∨ E = 2 ∧ F = 2) :
    Calls Try.prog 5 #[.int .i64 r, .int .i64 n] w fun e w' => e = .returned (.bool true) ∧ Below w.heap.size w w' := by
  have BB := Lib.hid (bel_self w)
  have R := Lib.hid (alR_bad (r := r) (n := n) (by omega))
  have C := Lib.hid hE
  have D := Lib.hid hF
  have V := Lib.hid (show cnV r n = 0 by unfold cnV; rw [if_neg (by omega)])
  clear hE hF
  rcases h with ⟨rfl, rfl⟩ | ⟨rfl, rfl⟩ | ⟨rfl, rfl⟩
  all_goals
    go_enter Try.func5, Try.ntmps5
    go_wp2_with fail
    refine (alive_any w).mono ?_
    rintro e w1 ⟨rfl, bel1⟩
    have BB := Lib.hid (bel_next BB.out bel1)
    clear bel1
    go_wp2_with fail
    refine (long_v w1 rfl D.out hr0 hr1).mono ?_
    rintro e w' ⟨rfl, rfl⟩
    go_wp2_with fail
    refine (all_v [] w1 R.out C.out hr0 hr1 hn0 hn1).mono ?_
    rintro e w2 ⟨v2, rfl, own2, bel2⟩
    obtain ⟨Aa, ca, rfl, _, _, sl2⟩ := own2.sl
    have Sa := Lib.hid sl2
    have BB := Lib.hid (bel_next BB.out bel2)
    clear own2 bel2 sl2
    go_wp2_with fail
    refine (count_v w2 V.out C.out hr0 hr1 hn0 hn1).mono ?_
    rintro e w' ⟨rfl, rfl⟩
    go_wp2_with fail
    go_ret
    exact ⟨rfl, BB.out⟩

set_option maxRecDepth 100000 in
set_option maxHeartbeats 1000000 in
theorem sum_good (r n : Int) (w : World) (hr0 : -9223372036854775808 ≤ r) (hr1 : r ≤ 9223372036854775807) (hn0 : -9223372036854775808 ≤ n) (hn1 : n ≤ 9223372036854775807) (h : cnE r n = 0) :
    Calls Try.prog 5 #[.int .i64 r, .int .i64 n] w fun e w' => e = .returned (.bool true) ∧ Below w.heap.size w w' := by
  have BB := Lib.hid (bel_self w)
  obtain ⟨hl, b1, b2, b3, b4, b5, b6, b7, b8, b9, b10, hv⟩ := cnE_ok h
  have R := Lib.hid (alR_ok h)
  have C := Lib.hid h
  have D := Lib.hid hl
  obtain ⟨q, hq⟩ : ∃ q : Nat, frN (lgV r) n = (q : Int) := ⟨(frN (lgV r) n).toNat, by omega⟩
  have V := Lib.hid (hv.trans hq)
  obtain ⟨a1, a2, a3, a4⟩ := alL_at b1 b5 hq
  rw [hq] at b8
  have LN := Lib.hid a1
  have Z := Lib.hid a3
  have AT := Lib.hid a4
  have HL := Lib.hid (show lgV r = lgV r from rfl)
  clear h hl hv hq a1 a3 a4 b7 b9 b10
  obtain ⟨L, hL⟩ : ∃ L, lgV r = L := ⟨_, rfl⟩
  have G := Lib.hid hL
  rw [hL] at R b1 b2 LN Z AT
  clear hL HL
  have p1 : (n == n) = true := by simp
  have p2 : ((q : Int) == (q : Int)) = true := by simp
  have p3 : (1 : Int) ≤ (q : Int) := by omega
  have p4 : (q : Int) ≤ 1000 := by omega
  go_enter Try.func5, Try.ntmps5
  go_wp2_with fail
  refine (alive_any w).mono ?_
  rintro e w1 ⟨rfl, bel1⟩
  have BB := Lib.hid (bel_next BB.out bel1)
  clear bel1
  go_wp2_with fail
  refine (long_v w1 G.out D.out hr0 hr1).mono ?_
  rintro e w' ⟨rfl, rfl⟩
  go_wp2_with fail
  refine (all_v (alL L n) w1 R.out C.out hr0 hr1 hn0 hn1).mono ?_
  rintro e w2 ⟨v2, rfl, own2, bel2⟩
  obtain ⟨Aa, ca, rfl, hca, hma, sl2⟩ := own2.sln (LN.out)
  have Sa := Lib.hid sl2
  have BB := Lib.hid (bel_next BB.out bel2)
  clear own2 bel2 sl2
  go_wp2_with fail
  refine (count_v w2 V.out C.out hr0 hr1 hn0 hn1).mono ?_
  rintro e w' ⟨rfl, rfl⟩
  go_wp2_with fail
  go_loop [12, 13] (fun s i => ∃ k : Nat, k ≤ q ∧ i = .int .i64 k ∧ s = .int .i64 (n - lfK L n k)) (fun _ i => q - (intOf i).toNat)
  case atStart => exact ⟨0, by omega, rfl, by rw [lfK_zero L n b5]; go_num⟩
  case round =>
    obtain ⟨k, hk, rfl, rfl⟩ := hrel
    by_cases hlt : k < q
    · obtain ⟨t1, t2, t3, t4⟩ := AT.out k hlt
      obtain ⟨b, o, rfl, hb, hc⟩ := Sa.out (by rw [LN.out]; omega)
      have hcell := hc k (by rw [LN.out]; omega)
      have t5 := lfK_bd L n k b1
      have T2 := Lib.hid t2
      clear hc t2
      generalize (alL L n).getD k 0 = y at *
      generalize lfK L n k = t at *
      have hlt' : (k : Int) < (q : Int) := by omega
      have y1 : 1 ≤ y := by omega
      have y2 : y ≤ L := by omega
      clear t3
      by_cases hk2 : k + 1 < q
      · obtain rfl := t4 hk2
        have y3 : (y != y) = false := by simp
        have hk3 : (k : Int) + 1 < (q : Int) := by omega
        clear t4
        go_wp2_with fail
        go_round
        case rel => exact ⟨k + 1, by omega, by go_num, by rw [T2.out]; go_num⟩
        case measure => simp [intOf]; omega
      · clear t4
        have hk3 : ¬ (k : Int) + 1 < (q : Int) := by omega
        go_wp2_with fail
        go_round
        case rel => exact ⟨k + 1, by omega, by go_num, by rw [T2.out]; go_num⟩
        case measure => simp [intOf]; omega
    · obtain rfl : k = q := by omega
      have z : n - lfK L n k = n := by rw [Z.out]; omega
      rw [z]
      clear z
      go_wp2_with fail
      go_ret
      exact ⟨rfl, BB.out⟩

theorem lengthsSum_walk (r n : Int) (w : World) (hr0 : -9223372036854775808 ≤ r) (hr1 : r ≤ 9223372036854775807) (hn0 : -9223372036854775808 ≤ n) (hn1 : n ≤ 9223372036854775807) :
    Calls Try.prog 5 #[.int .i64 r, .int .i64 n] w fun e w' => e = .returned (.bool true) ∧ Below w.heap.size w w' := by
  by_cases h : cnE r n = 0
  · exact sum_good r n w hr0 hr1 hn0 hn1 h
  · exact sum_bad r n _ _ w hr0 hr1 hn0 hn1 rfl rfl (by have := cnE_err h; omega)
end Go.Proofs.Ytabdadpcknlnbaa

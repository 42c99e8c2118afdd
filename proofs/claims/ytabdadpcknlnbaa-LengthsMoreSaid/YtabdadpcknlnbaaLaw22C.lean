/-
  The walks of LengthsPlace and LengthsMore. Conditions: numbers within their types.
-/
import Derived.Test.YtabdadpcknlnbaaLaw22B
namespace Go.Proofs.Ytabdadpcknlnbaa
open Go.RowKit
set_option linter.unusedVariables false

set_option maxRecDepth 100000 in
set_option maxHeartbeats 1000000 in
theorem place_bad (r n a E : Int) (w : World) (hr0 : -9223372036854775808 ≤ r) (hr1 : r ≤ 9223372036854775807) (hn0 : -9223372036854775808 ≤ n) (hn1 : n ≤ 9223372036854775807) (hE : cnE r n = E) (h : E ≠ 0) :
    Calls Try.prog 6 #[.int .i64 r, .int .i64 n, .int .i64 a] w fun e w' => e = .returned (.bool true) ∧ Below w.heap.size w w' := by
  have BB := Lib.hid (bel_self w)
  have R := Lib.hid (alR_bad (r := r) (n := n) (by omega))
  have C := Lib.hid hE
  have P := Lib.hid (show plF r n a = 0 ∧ plW r n a = 0 ∧ plE r n a = E by rcases plE_cases r n a with h1 | h1 | h1 <;> (obtain ⟨h1, h2⟩ := h1; omega))
  have e1 : (E != 0) = true := by simp; exact h
  have e2 : (E == E) = true := by simp
  clear hE h
  go_enter Try.func6, Try.ntmps6
  go_wp2_with fail
  refine (alive_any w).mono ?_
  rintro e w1 ⟨rfl, bel1⟩
  have BB := Lib.hid (bel_next BB.out bel1)
  clear bel1
  go_wp2_with fail
  refine (all_v [] w1 R.out C.out hr0 hr1 hn0 hn1).mono ?_
  rintro e w2 ⟨v2, rfl, own2, bel2⟩
  obtain ⟨Aa, ca, rfl, _, _, sl2⟩ := own2.sl
  have Sa := Lib.hid sl2
  have BB := Lib.hid (bel_next BB.out bel2)
  clear own2 bel2 sl2
  go_wp2_with fail
  refine (place_v w2 P.out.1 P.out.2.1 P.out.2.2 hr0 hr1 hn0 hn1).mono ?_
  rintro e w3 ⟨rfl, bel3⟩
  have Sa := Lib.hid (Sa.out.next bel3)
  have BB := Lib.hid (bel_next BB.out bel3)
  clear bel3
  go_wp2_with fail
  go_ret
  exact ⟨rfl, BB.out⟩

set_option maxRecDepth 100000 in
set_option maxHeartbeats 1000000 in
theorem place_arg (r n a : Int) (w : World) (hr0 : -9223372036854775808 ≤ r) (hr1 : r ≤ 9223372036854775807) (hn0 : -9223372036854775808 ≤ n) (hn1 : n ≤ 9223372036854775807) (hE : cnE r n = 0) (h : a < 0 ∨ n ≤ a) :
    Calls Try.prog 6 #[.int .i64 r, .int .i64 n, .int .i64 a] w fun e w' => e = .returned (.bool true) ∧ Below w.heap.size w w' := by
  have BB := Lib.hid (bel_self w)
  have C := Lib.hid hE
  have P := Lib.hid (show plF r n a = 0 ∧ plW r n a = 0 ∧ plE r n a = 2 by rcases plE_cases r n a with h1 | h1 | h1 <;> (obtain ⟨h1, h2⟩ := h1; omega))
  clear hE
  by_cases h0 : a < 0
  all_goals
    go_enter Try.func6, Try.ntmps6
    go_wp2_with fail
    refine (alive_any w).mono ?_
    rintro e w1 ⟨rfl, bel1⟩
    have BB := Lib.hid (bel_next BB.out bel1)
    clear bel1
    go_wp2_with fail
    refine (all_v _ w1 rfl C.out hr0 hr1 hn0 hn1).mono ?_
    rintro e w2 ⟨v2, rfl, own2, bel2⟩
    obtain ⟨Aa, ca, rfl, _, _, sl2⟩ := own2.sl
    have Sa := Lib.hid sl2
    have BB := Lib.hid (bel_next BB.out bel2)
    clear own2 bel2 sl2
    go_wp2_with fail
    refine (place_v w2 P.out.1 P.out.2.1 P.out.2.2 hr0 hr1 hn0 hn1).mono ?_
    rintro e w3 ⟨rfl, bel3⟩
    have Sa := Lib.hid (Sa.out.next bel3)
    have BB := Lib.hid (bel_next BB.out bel3)
    clear bel3
    go_wp2_with fail
    go_ret
    exact ⟨rfl, BB.out⟩

/-- where a moment is -/
theorem place_at {L n a : Int} {q : Nat} (hL : 1 ≤ L) (hn : 1 ≤ n) (hq : frN L n = (q : Int)) (h0 : 0 ≤ a) (h1 : a < n) :
    ∃ k : Nat, k < q ∧ a / L = k ∧ 0 ≤ a % L ∧ a % L < (alL L n).getD k 0 ∧ a % L + (k : Int) * L = a ∧ ∀ j, j < k → (alL L n).getD j 0 = L := by
  obtain ⟨a1, a2, a3, a4⟩ := alL_at hL hn hq
  have hs := (frN_spec hL hn).2.2
  rw [hq] at hs
  have d0 : 0 ≤ a / L := Int.ediv_nonneg h0 (by omega)
  obtain ⟨k, hk⟩ := Int.eq_ofNat_of_zero_le d0
  have m0 := Int.emod_nonneg a (show L ≠ 0 by omega)
  have m1 := Int.emod_lt_of_pos a (show 0 < L by omega)
  have e := Int.mul_ediv_add_emod a L
  rw [hk, Int.mul_comm] at e
  have hkq : k < q := by
    have : a / L < q := by rw [Int.ediv_lt_iff_lt_mul (by omega)]; omega
    omega
  refine ⟨k, hkq, hk, m0, ?_, by omega, fun j hj => (a4 j (by omega)).2.2.2 (by omega)⟩
  have g := (a4 k hkq).2.2.1
  rw [g]
  unfold lfK; omega

set_option maxRecDepth 100000 in
set_option maxHeartbeats 1000000 in
theorem place_good (r n a : Int) (w : World) (hr0 : -9223372036854775808 ≤ r) (hr1 : r ≤ 9223372036854775807) (hn0 : -9223372036854775808 ≤ n) (hn1 : n ≤ 9223372036854775807) (h : cnE r n = 0) (h0 : 0 ≤ a) (h1 : a < n) :
    Calls Try.prog 6 #[.int .i64 r, .int .i64 n, .int .i64 a] w fun e w' => e = .returned (.bool true) ∧ Below w.heap.size w w' := by
  have BB := Lib.hid (bel_self w)
  obtain ⟨hl, b1, b2, b3, b4, b5, b6, b7, b8, b9, b10, hv⟩ := cnE_ok h
  have R := Lib.hid (alR_ok h)
  have C := Lib.hid h
  have P := Lib.hid (show plF r n a = a / lgV r ∧ plW r n a = a % lgV r ∧ plE r n a = 0 by rcases plE_cases r n a with h1 | h1 | h1 <;> (obtain ⟨h1, h2⟩ := h1; first | exact ⟨h2.2.2.2.1, h2.2.2.2.2, h2.2.2.1⟩ | omega))
  obtain ⟨q, hq⟩ : ∃ q : Nat, frN (lgV r) n = (q : Int) := ⟨(frN (lgV r) n).toNat, by omega⟩
  obtain ⟨a1, a2, a3, a4⟩ := alL_at b1 b5 hq
  obtain ⟨k, k1, k2, k3, k4, k5, k6⟩ := place_at b1 b5 hq h0 h1
  rw [hq] at b8
  rw [k2] at P
  have LN := Lib.hid a1
  have K5 := Lib.hid k5
  have K6 := Lib.hid k6
  have p0 : 0 ≤ (k : Int) * lgV r := Int.mul_nonneg (by omega) (by omega)
  have PB := Lib.hid (show ∀ j : Nat, j < k → ((j + 1 : Nat) : Int) * lgV r = (j : Int) * lgV r + lgV r ∧ 0 ≤ (j : Int) * lgV r ∧ (j : Int) * lgV r + lgV r ≤ (k : Int) * lgV r by
    intro j hj
    have e1 : ((j + 1 : Nat) : Int) * lgV r = (j : Int) * lgV r + lgV r := by rw [Int.natCast_add, Int.add_mul]; omega
    have e2 : ((j + 1 : Nat) : Int) * lgV r ≤ (k : Int) * lgV r := Int.mul_le_mul_of_nonneg_right (by omega) (by omega)
    exact ⟨e1, Int.mul_nonneg (by omega) (by omega), by rw [← e1]; exact e2⟩)
  clear h hl hv hq a1 a3 a4 b7 b9 b10 k2 k5 k6
  generalize lgV r = L at *
  have p1 : (a == a) = true := by simp
  have p2 : (k : Int) < (q : Int) := by omega
  generalize hv : a % L = v at *
  clear hv
  go_enter Try.func6, Try.ntmps6
  go_wp2_with fail
  refine (alive_any w).mono ?_
  rintro e w1 ⟨rfl, bel1⟩
  have BB := Lib.hid (bel_next BB.out bel1)
  clear bel1
  go_wp2_with fail
  refine (all_v (alL L n) w1 R.out C.out hr0 hr1 hn0 hn1).mono ?_
  rintro e w2 ⟨v2, rfl, own2, bel2⟩
  obtain ⟨Aa, ca, rfl, hca, hma, sl2⟩ := own2.sln (LN.out)
  have Sa := Lib.hid sl2
  have BB := Lib.hid (bel_next BB.out bel2)
  clear own2 bel2 sl2
  go_wp2_with fail
  refine (place_v w2 P.out.1 P.out.2.1 P.out.2.2 hr0 hr1 hn0 hn1).mono ?_
  rintro e w3 ⟨rfl, bel3⟩
  have Sa := Lib.hid (Sa.out.next bel3)
  have BB := Lib.hid (bel_next BB.out bel3)
  clear bel3
  obtain ⟨b, o, rfl, hb, hc⟩ := Sa.out (by rw [LN.out]; omega)
  have hcell := hc k (by rw [LN.out]; omega)
  have HC := Lib.hid hc
  clear hc
  have GK := Lib.hid (show (alL L n).getD k 0 = (alL L n).getD k 0 from rfl)
  obtain ⟨y, hy⟩ : ∃ y, (alL L n).getD k 0 = y := ⟨_, rfl⟩
  rw [hy] at hcell k4
  clear hy GK
  go_wp2_with fail
  go_loop [13, 14] (fun s i => ∃ j : Nat, j ≤ k ∧ i = .int .i64 j ∧ s = .int .i64 (v + (j : Int) * L)) (fun _ i => k - (intOf i).toNat)
  case atStart => exact ⟨0, by omega, rfl, by go_num⟩
  case round =>
    obtain ⟨j, hj, rfl, rfl⟩ := hrel
    by_cases hlt : j < k
    · have hcell2 := HC.out j (by rw [LN.out]; omega)
      rw [K6.out j hlt] at hcell2
      obtain ⟨pb1, pb2, pb3⟩ := PB.out j hlt
      have PB1 := Lib.hid pb1
      clear pb1 hcell k4
      have hlt' : (j : Int) < (k : Int) := by omega
      have k5 := K5.out
      generalize (j : Int) * L = z at *
      generalize (k : Int) * L = zk at *
      have hz : v + z + L ≤ 4000 := by omega
      have HK5 := Lib.hid k5
      clear k5
      go_wp2_with fail
      go_round
      case rel => exact ⟨j + 1, by omega, by go_num, by rw [PB1.out]; go_num⟩
      case measure => simp [intOf]; omega
    · obtain rfl : j = k := by omega
      rw [K5.out]
      clear K5 PB hcell k4
      go_wp2_with fail
      go_ret
      exact ⟨rfl, BB.out⟩

theorem lengthsPlace_walk (r n a : Int) (w : World) (hr0 : -9223372036854775808 ≤ r) (hr1 : r ≤ 9223372036854775807) (hn0 : -9223372036854775808 ≤ n) (hn1 : n ≤ 9223372036854775807) (ha0 : -9223372036854775808 ≤ a) (ha1 : a ≤ 9223372036854775807) :
    Calls Try.prog 6 #[.int .i64 r, .int .i64 n, .int .i64 a] w fun e w' => e = .returned (.bool true) ∧ Below w.heap.size w w' := by
  by_cases h : cnE r n = 0
  · by_cases h1 : a < 0 ∨ n ≤ a
    · exact place_arg r n a w hr0 hr1 hn0 hn1 h h1
    · exact place_good r n a w hr0 hr1 hn0 hn1 h (by omega) (by omega)
  · exact place_bad r n a _ w hr0 hr1 hn0 hn1 rfl h

theorem frN_mono {L L' n : Int} (hL : 1 ≤ L) (hLL : L ≤ L') (hn : 1 ≤ n) : frN L' n ≤ frN L n := by
  obtain ⟨h1, h2, h3⟩ := frN_spec hL hn
  obtain ⟨k1, k2, k3⟩ := frN_spec (show 1 ≤ L' by omega) hn
  have h4 : frN L n * L ≤ frN L n * L' := Int.mul_le_mul_of_nonneg_left hLL (by omega)
  rcases Int.lt_or_le (frN L n) (frN L' n) with h | h
  · have h5 : frN L n * L' ≤ (frN L' n - 1) * L' := Int.mul_le_mul_of_nonneg_right (by omega) (by omega)
    omega
  · exact h
theorem lgV_rate {r : Int} (h : lgE r = 0) : r ≤ lgV r ∧ lgV r ≤ r + r / 20 := by
  obtain ⟨_, _, h1, h2⟩ := lgV_bd h
  rw [(lg_ok h1 h2).2]; omega
theorem lgV_mono {r m : Int} (h : lgE r = 0) (h' : lgE m = 0) (hrm : r ≤ m) : lgV r ≤ lgV m := by
  obtain ⟨_, _, h1, h2⟩ := lgV_bd h
  obtain ⟨_, _, h3, h4⟩ := lgV_bd h'
  rw [(lg_ok h1 h2).2, (lg_ok h3 h4).2]; omega
theorem cn_more {r m n : Int} (h : cnE r n = 0) (h' : lgE m = 0) (hrm : r ≤ m) : cnE m n = 0 ∧ cnV m n ≤ cnV r n := by
  obtain ⟨hl, b1, b2, b3, b4, b5, b6, b7, b8, b9, b10, hv⟩ := cnE_ok h
  have h1 := lgV_mono hl h' hrm
  have h2 := frN_mono b1 h1 b5
  have h3 : cnE m n = 0 := by unfold cnE; rw [if_pos ⟨h', b5, b6⟩, if_pos (by omega)]
  refine ⟨h3, ?_⟩
  rw [hv]; unfold cnV; rw [if_pos h3]; exact h2

set_option maxRecDepth 100000 in
set_option maxHeartbeats 1000000 in
theorem more_bad (r m n E F : Int) (w : World) (hr0 : -9223372036854775808 ≤ r) (hr1 : r ≤ 9223372036854775807) (hm0 : -9223372036854775808 ≤ m) (hm1 : m ≤ 9223372036854775807) (hE : lgE r = E) (hF : lgE m = F) (h : E = 2 ∧ F = 0 ∨ E = 0 ∧ F = 2 ∨ E = 2 ∧ F = 2) :
    Calls Try.prog 7 #[.int .i64 r, .int .i64 m, .int .i64 n] w fun e w' => e = .returned (.bool true) ∧ Below w.heap.size w w' := by
  have BB := Lib.hid (bel_self w)
  have C := Lib.hid hE
  have D := Lib.hid hF
  clear hE hF
  rcases h with ⟨rfl, rfl⟩ | ⟨rfl, rfl⟩ | ⟨rfl, rfl⟩
  all_goals
    go_enter Try.func7, Try.ntmps7
    go_wp2_with fail
    refine (alive_any w).mono ?_
    rintro e w1 ⟨rfl, bel1⟩
    have BB := Lib.hid (bel_next BB.out bel1)
    clear bel1
    go_wp2_with fail
    refine (long_v w1 rfl C.out hr0 hr1).mono ?_
    rintro e w' ⟨rfl, rfl⟩
    go_wp2_with fail
    refine (long_v w1 rfl D.out hm0 hm1).mono ?_
    rintro e w' ⟨rfl, rfl⟩
    go_wp2_with fail
    go_ret
    exact ⟨rfl, BB.out⟩

set_option maxRecDepth 100000 in
set_option maxHeartbeats 1000000 in
theorem more_less (r m n : Int) (w : World) (hr0 : -9223372036854775808 ≤ r) (hr1 : r ≤ 9223372036854775807) (hm0 : -9223372036854775808 ≤ m) (hm1 : m ≤ 9223372036854775807) (hn0 : -9223372036854775808 ≤ n) (hn1 : n ≤ 9223372036854775807) (hE : lgE r = 0) (hF : lgE m = 0) (h : m < r) :
    Calls Try.prog 7 #[.int .i64 r, .int .i64 m, .int .i64 n] w fun e w' => e = .returned (.bool true) ∧ Below w.heap.size w w' := by
  have BB := Lib.hid (bel_self w)
  have C := Lib.hid hE
  have D := Lib.hid hF
  obtain ⟨l1, l2⟩ := lgV_rate hE
  obtain ⟨_, _, l3, l4⟩ := lgV_bd hE
  clear hE hF
  have q0 : (0 : Int) ≤ r / 20 := by omega
  have q1 : r / 20 ≤ 52429 := by omega
  obtain ⟨L, hL⟩ : ∃ L, lgV r = L := ⟨_, rfl⟩
  rw [hL] at l1 l2
  have G := Lib.hid hL
  clear hL
  go_enter Try.func7, Try.ntmps7
  go_wp2_with fail
  refine (alive_any w).mono ?_
  rintro e w1 ⟨rfl, bel1⟩
  have BB := Lib.hid (bel_next BB.out bel1)
  clear bel1
  go_wp2_with fail
  refine (long_v w1 G.out C.out hr0 hr1).mono ?_
  rintro e w' ⟨rfl, rfl⟩
  go_wp2_with fail
  refine (long_v w1 rfl D.out hm0 hm1).mono ?_
  rintro e w' ⟨rfl, rfl⟩
  go_wp2_with fail
  refine (count_any r n w1 hr0 hr1 hn0 hn1).mono ?_
  rintro e w' ⟨rfl, rfl⟩
  go_wp2_with fail
  refine (count_any m n w1 hm0 hm1 hn0 hn1).mono ?_
  rintro e w' ⟨rfl, rfl⟩
  go_wp2_with fail
  go_ret
  exact ⟨rfl, BB.out⟩

set_option maxRecDepth 100000 in
set_option maxHeartbeats 1000000 in
theorem more_more (r m n : Int) (w : World) (hr0 : -9223372036854775808 ≤ r) (hr1 : r ≤ 9223372036854775807) (hm0 : -9223372036854775808 ≤ m) (hm1 : m ≤ 9223372036854775807) (hn0 : -9223372036854775808 ≤ n) (hn1 : n ≤ 9223372036854775807) (hE : lgE r = 0) (hF : lgE m = 0) (h : r ≤ m) :
    Calls Try.prog 7 #[.int .i64 r, .int .i64 m, .int .i64 n] w fun e w' => e = .returned (.bool true) ∧ Below w.heap.size w w' := by
  have BB := Lib.hid (bel_self w)
  have C := Lib.hid hE
  have D := Lib.hid hF
  obtain ⟨l1, l2⟩ := lgV_rate hE
  obtain ⟨_, _, l3, l4⟩ := lgV_bd hE
  have l5 := lgV_mono hE hF h
  have q0 : (0 : Int) ≤ r / 20 := by omega
  have q1 : r / 20 ≤ 52429 := by omega
  obtain ⟨L, hL⟩ : ∃ L, lgV r = L := ⟨_, rfl⟩
  rw [hL] at l1 l2 l5
  have G := Lib.hid hL
  obtain ⟨L', hL'⟩ : ∃ L, lgV m = L := ⟨_, rfl⟩
  rw [hL'] at l5
  have G' := Lib.hid hL'
  clear hL hL'
  by_cases h0 : cnE r n = 0
  · obtain ⟨c1, c2⟩ := cn_more h0 hF h
    have E1 := Lib.hid h0
    have E2 := Lib.hid c1
    obtain ⟨x, hx⟩ : ∃ x, cnV r n = x := ⟨_, rfl⟩
    obtain ⟨y, hy⟩ : ∃ y, cnV m n = y := ⟨_, rfl⟩
    rw [hx, hy] at c2
    have F1 := Lib.hid hx
    have F2 := Lib.hid hy
    clear h0 c1 hx hy hE hF
    go_enter Try.func7, Try.ntmps7
    go_wp2_with fail
    refine (alive_any w).mono ?_
    rintro e w1 ⟨rfl, bel1⟩
    have BB := Lib.hid (bel_next BB.out bel1)
    clear bel1
    go_wp2_with fail
    refine (long_v w1 G.out C.out hr0 hr1).mono ?_
    rintro e w' ⟨rfl, rfl⟩
    go_wp2_with fail
    refine (long_v w1 G'.out D.out hm0 hm1).mono ?_
    rintro e w' ⟨rfl, rfl⟩
    go_wp2_with fail
    refine (count_v w1 F1.out E1.out hr0 hr1 hn0 hn1).mono ?_
    rintro e w' ⟨rfl, rfl⟩
    go_wp2_with fail
    refine (count_v w1 F2.out E2.out hm0 hm1 hn0 hn1).mono ?_
    rintro e w' ⟨rfl, rfl⟩
    go_wp2_with fail
    go_ret
    exact ⟨rfl, BB.out⟩
  · obtain ⟨E, h2⟩ : ∃ E, cnE r n = E := ⟨_, rfl⟩
    rw [h2] at h0
    have E1 := Lib.hid h2
    have h3 : (E != 0) = true := by simp; exact h0
    clear h0 h2 hE hF
    go_enter Try.func7, Try.ntmps7
    go_wp2_with fail
    refine (alive_any w).mono ?_
    rintro e w1 ⟨rfl, bel1⟩
    have BB := Lib.hid (bel_next BB.out bel1)
    clear bel1
    go_wp2_with fail
    refine (long_v w1 G.out C.out hr0 hr1).mono ?_
    rintro e w' ⟨rfl, rfl⟩
    go_wp2_with fail
    refine (long_v w1 G'.out D.out hm0 hm1).mono ?_
    rintro e w' ⟨rfl, rfl⟩
    go_wp2_with fail
    refine (count_v w1 rfl E1.out hr0 hr1 hn0 hn1).mono ?_
    rintro e w' ⟨rfl, rfl⟩
    go_wp2_with fail
    refine (count_any m n w1 hm0 hm1 hn0 hn1).mono ?_
    rintro e w' ⟨rfl, rfl⟩
    go_wp2_with fail
    go_ret
    exact ⟨rfl, BB.out⟩

theorem lengthsMore_walk (r m n : Int) (w : World) (hr0 : -9223372036854775808 ≤ r) (hr1 : r ≤ 9223372036854775807) (hm0 : -9223372036854775808 ≤ m) (hm1 : m ≤ 9223372036854775807) (hn0 : -9223372036854775808 ≤ n) (hn1 : n ≤ 9223372036854775807) :
    Calls Try.prog 7 #[.int .i64 r, .int .i64 m, .int .i64 n] w fun e w' => e = .returned (.bool true) ∧ Below w.heap.size w w' := by
  have h1 := lgE_cases r
  have h2 := lgE_cases m
  by_cases h : lgE r = 0 ∧ lgE m = 0
  · by_cases hrm : r ≤ m
    · exact more_more r m n w hr0 hr1 hm0 hm1 hn0 hn1 h.1 h.2 hrm
    · exact more_less r m n w hr0 hr1 hm0 hm1 hn0 hn1 h.1 h.2 (by omega)
  · exact more_bad r m n _ _ w hr0 hr1 hm0 hm1 rfl rfl (by omega)
end Go.Proofs.Ytabdadpcknlnbaa

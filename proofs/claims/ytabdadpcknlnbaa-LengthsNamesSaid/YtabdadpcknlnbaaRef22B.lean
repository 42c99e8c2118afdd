/-
  What Count, Place and Same of the reference of layer 22 compute. Conditions: numbers within their types.
-/
import Derived.Test.YtabdadpcknlnbaaRef22
namespace Go.Proofs.Ytabdadpcknlnbaa
open Go.RowKit
set_option linter.unusedVariables false

theorem alR_len (r n : Int) : ((alR r n).length : Int) = cnV r n := by
  by_cases h : cnE r n = 0
  · obtain ⟨hl, b1, b2, b3, b4, b5, b6, b7, b8, b9, b10, hv⟩ := cnE_ok h
    rw [alR_ok h, hv, alL_len b1 b5]; omega
  · rw [alR_bad h]; unfold cnV; rw [if_neg h]; rfl

set_option maxHeartbeats 400000 in
theorem recount_any (r n : Int) (w : World) (hr0 : -9223372036854775808 ≤ r) (hr1 : r ≤ 9223372036854775807) (hn0 : -9223372036854775808 ≤ n) (hn1 : n ≤ 9223372036854775807) :
    Calls Try.prog 12 #[.int .i64 r, .int .i64 n] w fun e w' =>
      e = .returned (.tuple #[.int .i64 (cnV r n), .int .i64 (cnE r n)]) ∧ Below w.heap.size w w' := by
  have AL := Lib.hid (reall_any r n w hr0 hr1 hn0 hn1)
  have LE := Lib.hid (alR_len r n)
  generalize alR r n = xs at *
  generalize cnV r n = V at *
  generalize cnE r n = E at *
  go_enter Try.func12, Try.ntmps12
  go_wp2_with fail
  refine AL.out.mono ?_
  rintro e w1 ⟨v, rfl, hown, hbel⟩
  obtain ⟨A1, c1, rfl, _, _, sl1⟩ := hown.sl
  clear hown
  go_wp2_with fail
  go_ret2
  exact ⟨by rw [LE.out]; rfl, hbel⟩

theorem div_of {a L : Int} {k : Nat} (h0 : 0 ≤ a - (k : Int) * L) (h1 : a - (k : Int) * L < L) : a / L = k ∧ a % L = a - (k : Int) * L := by
  have e : a / L = k := by
    rw [Int.ediv_eq_iff_of_pos (by omega)]
    omega
  refine ⟨e, ?_⟩
  have := Int.mul_ediv_add_emod a L
  rw [e, Int.mul_comm] at this
  omega

set_option maxHeartbeats 1000000 in
theorem replace_any (r n a : Int) (w : World) (hr0 : -9223372036854775808 ≤ r) (hr1 : r ≤ 9223372036854775807) (hn0 : -9223372036854775808 ≤ n) (hn1 : n ≤ 9223372036854775807) (ha0 : -9223372036854775808 ≤ a) (ha1 : a ≤ 9223372036854775807) :
    Calls Try.prog 16 #[.int .i64 r, .int .i64 n, .int .i64 a] w fun e w' =>
      e = .returned (.tuple #[.int .i64 (plF r n a), .int .i64 (plW r n a), .int .i64 (plE r n a)]) ∧ Below w.heap.size w w' := by
  have AL := Lib.hid (reall_any r n w hr0 hr1 hn0 hn1)
  rcases plE_cases r n a with ⟨h, h1, h2, h3⟩ | ⟨h, h0, h1, h2, h3⟩ | ⟨h, h4, h5, h1, h2, h3⟩
  · rw [h1, h2, h3]
    have h1 : (cnE r n != 0) = true := by simp; exact h
    generalize alR r n = xs at *
    generalize cnE r n = E at *
    clear h h2 h3
    go_enter Try.func16, Try.ntmps16
    go_wp2_with fail
    refine AL.out.mono ?_
    rintro e w1 ⟨v, rfl, hown, hbel⟩
    obtain ⟨A1, c1, rfl, _, _, sl1⟩ := hown.sl
    clear hown sl1
    go_wp2_with fail
    go_ret3
    exact ⟨rfl, hbel⟩
  · rw [h1, h2, h3]
    rw [h] at AL
    generalize alR r n = xs at *
    clear h h1 h2 h3
    by_cases hk : a < 0
    all_goals
      go_enter Try.func16, Try.ntmps16
      go_wp2_with fail
      refine AL.out.mono ?_
      rintro e w1 ⟨v, rfl, hown, hbel⟩
      obtain ⟨A1, c1, rfl, _, _, sl1⟩ := hown.sl
      clear hown sl1
      go_wp2_with fail
      go_ret3
      exact ⟨rfl, hbel⟩
  · rw [h1, h2, h3]
    obtain ⟨hl, b1, b2, b3, b4, b5, b6, b7, b8, b9, b10, _⟩ := cnE_ok h
    rw [h, alR_ok h] at AL
    obtain ⟨m, hm⟩ : ∃ m : Nat, frN (lgV r) n = (m : Int) + 1 := ⟨(frN (lgV r) n - 1).toNat, by omega⟩
    have HM := Lib.hid hm
    have LN := Lib.hid (alL_length hm)
    rw [hm, show (m : Int) + 1 - 1 = m by omega] at b9
    have hm8 : m + 1 ≤ 1000 := by omega
    generalize lgV r = L at *
    rw [hm, Int.add_mul] at b10
    have B9 := Lib.hid b9
    have B10 := Lib.hid b10
    clear h h1 h2 h3 hl hm b7 b8 b10 b9
    have GET := Lib.hid (show ∀ k : Nat, k < m + 1 → (alL L n).getD k 0 = min (lfK L n k) L from fun k hk => (alL_step b1 b5 HM.out hk).2.2)
    generalize alL L n = xs at *
    clear HM
    go_enter Try.func16, Try.ntmps16
    go_wp2_with fail
    refine AL.out.mono ?_
    rintro e w1 ⟨v, rfl, hown, hbel⟩
    obtain ⟨A1, c1, rfl, _, _, sl1⟩ := hown.sln LN.out
    have HB := Lib.hid hbel
    have S1 := Lib.hid sl1
    clear hown sl1 hbel
    go_wp2_with fail
    go_loop [2, 11] (fun t i => ∃ k : Nat, k ≤ m ∧ i = .int .i64 k ∧ t = .int .i64 (a - (k : Int) * L) ∧ 0 ≤ a - (k : Int) * L) (fun _ i => m + 1 - (intOf i).toNat)
    case atStart => exact ⟨0, by omega, rfl, by go_num, by omega⟩
    case round =>
      obtain ⟨k, hk, rfl, rfl, ht⟩ := hrel
      have g := GET.out k (by omega)
      obtain ⟨b, o, rfl, hb, hc⟩ := S1.out (by rw [LN.out]; omega)
      have hcell := hc k (by rw [LN.out]; omega)
      rw [g] at hcell
      have e1 : ((k + 1 : Nat) : Int) * L = (k : Int) * L + L := by rw [Int.natCast_add, Int.add_mul]; omega
      have D := Lib.hid (fun (h0 : 0 ≤ a - (k : Int) * L) (h1 : a - (k : Int) * L < L) => div_of h0 h1)
      have p0 : 0 ≤ (k : Int) * L := Int.mul_nonneg (by omega) (by omega)
      have hl : min (lfK L n k) L ≤ L := by omega
      have hend : min (lfK L n k) L = L ∧ k < m ∨ a - (k : Int) * L < min (lfK L n k) L := by
        rcases Nat.lt_or_ge k m with hlt | hge
        · have h3 : ((k + 1 : Nat) : Int) * L ≤ (m : Int) * L := Int.mul_le_mul_of_nonneg_right (by omega) (by omega)
          have := B9.out
          rw [e1] at h3
          refine .inl ⟨?_, hlt⟩
          unfold lfK; omega
        · obtain rfl : k = m := by omega
          by_cases hq : a - (k : Int) * L < min (lfK L n k) L
          · exact .inr hq
          · exfalso; unfold lfK at hq
            have := B9.out
            have := B10.out
            omega
      have E1 := Lib.hid e1
      clear hc g e1
      have hlt' : (k : Int) < ((m + 1 : Nat) : Int) := by omega
      generalize min (lfK L n k) L = y at *
      generalize (k : Int) * L = z at *
      by_cases hq : a - z < y
      · go_wp2_with fail
        go_ret3
        obtain ⟨d1, d2⟩ := D.out (by omega) (by omega)
        exact ⟨by rw [d1, d2]; rfl, HB.out⟩
      · obtain ⟨rfl, hkm⟩ : y = L ∧ k < m := by omega
        go_wp2_with fail
        go_round
        case rel => exact ⟨k + 1, by omega, by go_num, by rw [E1.out]; go_num, by rw [E1.out]; omega⟩
        case measure => simp [intOf]; omega

set_option maxHeartbeats 1000000 in
theorem same22 (A A' : Option Addr) (n m c c' : Nat) (xs : List Int) (w : World) (hn : xs.length = n) (hm : xs.length = m) (hl : xs.length ≤ 9223372036854775807) (hs : Sl w w.heap.size .i64 A xs) (hs' : Sl w w.heap.size .i64 A' xs) :
    Calls Try.prog 17 #[.slice A n c, .slice A' m c'] w fun e w' =>
      e = .returned (.bool true) ∧ Below w.heap.size w w' := by
  subst hn
  subst hm
  have hd : ((xs.length : Int) != (xs.length : Int)) = false := by simp
  go_enter Try.func17, Try.ntmps17
  go_wp2_with fail
  go_loopw [5] (fun i wr => ∃ k : Nat, k ≤ xs.length ∧ i = .int .i64 k ∧ Below w.heap.size w wr) (fun i _ => xs.length - (intOf i).toNat)
  case atStart => exact ⟨0, Nat.zero_le _, rfl, Below.refl _ _⟩
  case round =>
    obtain ⟨k, hk, rfl, hbel⟩ := hrel
    by_cases hlt : k < xs.length
    · obtain ⟨b, o, rfl, hb, hc⟩ := hs (by omega)
      obtain ⟨b', o', rfl, hb', hc'⟩ := hs' (by omega)
      have hcell := (hbel.cell (p := ⟨b, o + k, none⟩) hb).trans (hc k hlt)
      have hcell' := (hbel.cell (p := ⟨b', o' + k, none⟩) hb').trans (hc' k hlt)
      have HB := Lib.hid hbel
      clear hc hs hc' hs' hbel
      generalize xs.getD k 0 = y at *
      have hlt' : (k : Int) < (xs.length : Int) := by omega
      have hy : (y != y) = false := by simp
      go_wp2_with fail
      go_quiet (fail)
      go_wp2_with fail
      go_roundw
      case rel => exact ⟨k + 1, by omega, by go_num, below_drewN HB.out _⟩
      case measure => simp [intOf]; omega
    · go_wp2_with fail
      go_ret
      exact ⟨rfl, hbel⟩
end Go.Proofs.Ytabdadpcknlnbaa

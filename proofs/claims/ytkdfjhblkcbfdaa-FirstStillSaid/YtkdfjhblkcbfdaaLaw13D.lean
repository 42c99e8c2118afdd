/-
  The walk of FirstStill. Conditions: numbers within their types.
-/
import Derived.Test.YtkdfjhblkcbfdaaLaw13A
import Derived.Test.YtkdfjhblkcbfdaaKit2
namespace Go.Proofs.Ytkdfjhblkcbfdaa
open Go.RowKit
set_option linter.unusedVariables false

theorem fwd_same (s x : Int) : ∀ n : Nat, fwd s x (List.replicate n x) = List.replicate n (wrap32 (x - gF s x))
  | 0 => rfl
  | n + 1 => by simp [List.replicate_succ, fwd, fwd_same s x n]
theorem fwd_still (s x : Int) (m : Nat) (hx : -2147483648 ≤ x ∧ x ≤ 2147483647) : fwd s 0 (List.replicate (m + 1) x) = x :: List.replicate m (wrap32 (x - gF s x)) := by
  rw [List.replicate_succ, fwd, fwd_same, gF_zero, Int.sub_zero, IntWalk.wrap32_in _ hx]

set_option maxRecDepth 100000 in
set_option maxHeartbeats 1000000 in
theorem firstStill_main (b x : Int) (m : Nat) (w : World) (hb0 : -9223372036854775808 ≤ b) (hb1 : b ≤ 9223372036854775807) (h0 : -2147483648 ≤ x) (h1 : x ≤ 2147483647) (h2 : 2 ≤ m) (h3 : m ≤ 50) :
    Calls Try.prog 5 #[.int .i64 b, .int .i32 x, .int .i64 m] w fun e w' => e = .returned (.bool true) ∧ Below w.heap.size w w' := by
  have BB := Lib.hid (bel_self w)
  have mk : ∀ W, (Instr.makeSlice 34 (.int .i64 m) (.int .i64 m)).run Try.prog W = .ok (.slice (some ⟨W.heap.size, 0, none⟩) m m) (W.alloc (.cells (zerosA .i32 m) 21)) := run_make_ints elI32 m rfl (by omega) (by omega)
  go_enter Try.func5, Try.ntmps5
  go_wp2_with fail
  refine (alive_any w).mono ?_
  rintro e w1 ⟨rfl, bel1⟩
  have BB := Lib.hid (bel_next BB.out bel1)
  clear bel1
  go_wp2_with fail
  go_loopw [9] (fun i wr => ∃ k : Nat, k ≤ m ∧ i = .int .i64 k ∧ Own wr w1.heap.size 21 .i32 (.slice (some ⟨w1.heap.size, 0, none⟩) m m) (List.replicate k x ++ List.replicate (m - k) 0) ∧ Below w1.heap.size w1 wr) (fun i _ => m - (intOf i).toNat)
  case atStart =>
    exact ⟨0, Nat.zero_le _, rfl, by rw [List.replicate_zero, List.nil_append]; exact Own.zeros w1 w1.heap.size .i32 21 m (Nat.le_refl _) (by omega), bel_up (bel_self w1) _⟩
  case round =>
    obtain ⟨k, hk, rfl, hown, hbel⟩ := hrel
    by_cases hlt : k < m
    · have hcell := hown.cell k (by simp; omega)
      have hfr := hown.frozen k
      have hset := hown.set k x
      rw [set_replicate k m x hlt] at hset
      have HO := Lib.hid hset
      have HB := Lib.hid (hbel.setCell (p := ⟨w1.heap.size, k, none⟩) (Nat.le_refl _) (.int .i32 x))
      have hlt' : (k : Int) < (m : Int) := by omega
      clear hset hown hbel
      generalize (List.replicate k x ++ List.replicate (m - k) 0).getD k 0 = y at *
      go_wp2_with fail
      go_roundw
      case rel => exact ⟨k + 1, by omega, by go_num, HO.out, HB.out⟩
      case measure => simp [intOf]; omega
    · obtain rfl : k = m := by omega
      have hown' := hown
      rw [Nat.sub_self, List.replicate_zero, List.append_nil] at hown'
      have SL : Sl wr wr.heap.size .i32 (some ⟨w1.heap.size, 0, none⟩) (List.replicate k x) := by
        obtain ⟨A, c, e, _, _, h⟩ := hown'.sl
        injection e with e1
        rw [e1]; exact h
      have SL := Lib.hid SL
      have BB := Lib.hid (bel_next BB.out hbel)
      have HI : I32 (List.replicate k x) := fun y hy => by rw [List.eq_of_mem_replicate hy]; exact ⟨h0, h1⟩
      have HI := Lib.hid HI
      clear hown hown' hbel mk
      obtain ⟨w2, rfl⟩ : ∃ wo : World, wo = wr := ⟨_, rfl⟩
      by_cases hb : shE b = 0
      · have H0 := Lib.hid (chE_ok (n := k) hb (by omega))
        have HB := Lib.hid hb
        obtain ⟨j, rfl⟩ : ∃ j, k = j + 1 := ⟨k - 1, by omega⟩
        have HR := Lib.hid ((fwdR_ok (xs := List.replicate (j + 1) x) (b := b) (by rw [List.length_replicate]; exact H0.out)).trans (fwd_still (shS b) x j ⟨h0, h1⟩))
        have HG := Lib.hid (show guR b x = gF (shS b) x from if_pos hb)
        generalize gF (shS b) x = g at *
        have e0 : (((j + 1 : Nat) : Int) != ((j + 1 : Nat) : Int)) = false := by simp
        have e1 : (x != x) = false := by simp
        clear hb
        go_wp2_with fail
        refine (forward_v (e := 0) (List.replicate (j + 1) x) (x :: List.replicate j (wrap32 (x - g))) _ (by simp) (by omega) HI.out SL.out hb0 hb1 H0.out HR.out).mono ?_
        rintro e w3 ⟨v3, rfl, own3, bel3⟩
        obtain ⟨Aa, ca, rfl, hca, hma, sl3⟩ := own3.sln ((by simp : _ = j + 1))
        have Sa := Lib.hid sl3
        have SL := Lib.hid (SL.out.next bel3)
        have BB := Lib.hid (bel_next BB.out bel3)
        clear own3 bel3 sl3
        go_wp2_with fail
        refine (Guess_v (r := g) (e := 0) _ HG.out HB.out hb0 hb1 h0 h1).mono ?_
        rintro e w' ⟨rfl, rfl⟩
        obtain ⟨ba, oa, rfl, hba, hca⟩ := Sa.out (by simp)
        have c0 : w3.cell? ⟨ba, oa, none⟩ = some (.int .i32 x) := by simpa using hca 0 (by simp)
        have hj0 : (0 : Int) < ((j + 1 : Nat) : Int) := by omega
        have HC := Lib.hid hca
        clear hca Sa SL HI HR HG HB H0
        go_wp2_with fail
        go_loop [14] (fun i => ∃ k : Nat, 1 ≤ k ∧ k ≤ j + 1 ∧ i = .int .i64 k) (fun i => j + 1 - (intOf i).toNat)
        case atStart => exact ⟨1, Nat.le_refl _, by omega, rfl⟩
        case round =>
          obtain ⟨k, hk1, hk, rfl⟩ := hrel
          by_cases hlt : k < j + 1
          · have hcell := HC.out k (by simp; omega)
            rw [show (x :: List.replicate j (wrap32 (x - g))).getD k 0 = wrap32 (x - g) from by
              obtain ⟨i, rfl⟩ : ∃ i, k = i + 1 := ⟨k - 1, by omega⟩
              simp [List.getD_eq_getElem?_getD, show i < j by omega]] at hcell
            have hlt' : (k : Int) < ((j + 1 : Nat) : Int) := by omega
            have e2 : (wrap32 (x - g) != wrap32 (x - g)) = false := by simp
            go_wp2_with fail
            go_round
            case rel => exact ⟨k + 1, by omega, by omega, by go_num⟩
            case measure => simp [intOf]; omega
          · go_wp2_with fail
            go_ret
            exact ⟨rfl, BB.out⟩
      · have hne : chE b k ≠ 0 := fun h => hb (chE_zero h).1
        have H0 := Lib.hid (chE_bad (n := k) hb)
        have HB := Lib.hid (show shE b = 2 by rcases shE_cases b with h | h <;> omega)
        have HR := Lib.hid (fwdR_bad (xs := List.replicate k x) (b := b) (by rw [List.length_replicate]; exact hne))
        have HG := Lib.hid (show guR b x = 0 from if_neg hb)
        clear hb hne
        go_wp2_with fail
        refine (forward_v (e := 2) (List.replicate k x) [] _ (by simp) (by omega) HI.out SL.out hb0 hb1 H0.out HR.out).mono ?_
        rintro e w3 ⟨v3, rfl, own3, bel3⟩
        obtain ⟨Aa, ca, rfl, _, _, sl3⟩ := own3.sl
        have Sa := Lib.hid sl3
        have SL := Lib.hid (SL.out.next bel3)
        have BB := Lib.hid (bel_next BB.out bel3)
        clear own3 bel3 sl3
        go_wp2_with fail
        refine (Guess_v (r := 0) (e := 2) _ HG.out HB.out hb0 hb1 h0 h1).mono ?_
        rintro e w' ⟨rfl, rfl⟩
        go_wp2_with fail
        go_ret
        exact ⟨rfl, BB.out⟩

set_option maxRecDepth 100000 in
set_option maxHeartbeats 400000 in
theorem firstStill_walk (b x n : Int) (w : World) (hb0 : -9223372036854775808 ≤ b) (hb1 : b ≤ 9223372036854775807) (h0 : -2147483648 ≤ x) (h1 : x ≤ 2147483647) (hn0 : -9223372036854775808 ≤ n) (hn1 : n ≤ 9223372036854775807) :
    Calls Try.prog 5 #[.int .i64 b, .int .i32 x, .int .i64 n] w fun e w' => e = .returned (.bool true) ∧ Below w.heap.size w w' := by
  by_cases h2 : n < 2
  · have BB := Lib.hid (bel_self w)
    go_enter Try.func5, Try.ntmps5
    go_wp2_with fail
    refine (alive_any w).mono ?_
    rintro e w1 ⟨rfl, bel1⟩
    have BB := Lib.hid (bel_next BB.out bel1)
    clear bel1
    go_wp2_with fail
    go_ret
    exact ⟨rfl, BB.out⟩
  · by_cases h3 : 50 < n
    · have BB := Lib.hid (bel_self w)
      go_enter Try.func5, Try.ntmps5
      go_wp2_with fail
      refine (alive_any w).mono ?_
      rintro e w1 ⟨rfl, bel1⟩
      have BB := Lib.hid (bel_next BB.out bel1)
      clear bel1
      go_wp2_with fail
      go_ret
      exact ⟨rfl, BB.out⟩
    · obtain ⟨m, rfl⟩ := Int.eq_ofNat_of_zero_le (by omega : 0 ≤ n)
      exact firstStill_main b x m w hb0 hb1 h0 h1 (by omega) (by omega)
end Go.Proofs.Ytkdfjhblkcbfdaa

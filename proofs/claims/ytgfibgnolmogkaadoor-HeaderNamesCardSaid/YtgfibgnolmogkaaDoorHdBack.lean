/-
  Plain: reading what was written, cut, or changed. No conditions but the numbers' bounds.
-/
import Derived.Test.YtgfibgnolmogkaaDoorHdRead2
namespace Go.Proofs.YtgfibgnolmogkaaDoor
open Go.RowKit
set_option linter.unusedVariables false

theorem hdE_fit {f c b r n : Int} (h : hdE f c b r n = 0) : (0 ≤ f ∧ f ≤ 65535) ∧ (0 ≤ c ∧ c ≤ 65535) ∧ (0 ≤ b ∧ b ≤ 65535) ∧ (0 ≤ r ∧ r ≤ 4294967295) ∧ (0 ≤ n ∧ n ≤ 4294967295) := by
  obtain ⟨h1, h2, h3, h4, h5, h6, h7, h8, _⟩ := hdE_ok h
  omega
/-- the numbers that are read out of the bytes that were written -/
theorem hdW_reads (f c b r n : Int) (ys : List Int) : va2 (hdW f c b r n ++ ys) 4 = va2 (le2 f) 0 ∧ va2 (hdW f c b r n ++ ys) 6 = va2 (le2 c) 0 ∧ va2 (hdW f c b r n ++ ys) 8 = va2 (le2 b) 0 ∧
    va4 (hdW f c b r n ++ ys) 10 = va4 (le4 r) 0 ∧ va4 (hdW f c b r n ++ ys) 14 = va4 (le4 n) 0 ∧ va4 (hdW f c b r n ++ ys) 18 = va4 (le4 ((sumL (hdB f c b r n) : Nat) : Int)) 0 := ⟨rfl, rfl, rfl, rfl, rfl, rfl⟩
theorem sumL_bd (l : List Int) : 0 ≤ ((sumL l : Nat) : Int) ∧ ((sumL l : Nat) : Int) ≤ 4294967295 := by unfold sumL; omega
theorem hdW_pfx (f c b r n : Int) (ys : List Int) : pfx (hdW f c b r n ++ ys) = true := by
  refine decide_eq_true ?_
  show [84, 84, 65, 49] = _
  rw [List.take_of_length_le (by rw [List.length_append, hdW_len]; simp; omega)]
theorem hdW_take (f c b r n : Int) (ys : List Int) : (hdW f c b r n ++ ys).take 18 = hdB f c b r n := rfl
theorem hdW_vals {f c b r n : Int} (h : hdE f c b r n = 0) (ys : List Int) : va2 (hdW f c b r n ++ ys) 4 = f ∧ va2 (hdW f c b r n ++ ys) 6 = c ∧ va2 (hdW f c b r n ++ ys) 8 = b ∧
    va4 (hdW f c b r n ++ ys) 10 = r ∧ va4 (hdW f c b r n ++ ys) 14 = n ∧ va4 (hdW f c b r n ++ ys) 18 = ((sumL (hdB f c b r n) : Nat) : Int) := by
  obtain ⟨k1, k2, k3, k4, k5⟩ := hdE_fit h
  obtain ⟨e1, e2, e3, e4, e5, e6⟩ := hdW_reads f c b r n ys
  exact ⟨e1.trans (va2_le2 k1.1 k1.2), e2.trans (va2_le2 k2.1 k2.2), e3.trans (va2_le2 k3.1 k3.2), e4.trans (va4_le4 k4.1 k4.2), e5.trans (va4_le4 k5.1 k5.2), e6.trans (va4_le4 (sumL_bd _).1 (sumL_bd _).2)⟩
/-- read is what was written -/
theorem hdW_back {f c b r n : Int} (h : hdE f c b r n = 0) (ys : List Int) : rhE (hdW f c b r n ++ ys) = 0 ∧ rhV (hdW f c b r n ++ ys) = .agg #[.int .i64 f, .int .i64 c, .int .i64 b, .int .i64 r, .int .i64 n] := by
  obtain ⟨e1, e2, e3, e4, e5, e6⟩ := hdW_vals h ys
  have hS : hdS f c b r n = true ∧ hdF c r n = true := by
    rcases hdE_cases f c b r n with ⟨_, h1, h2⟩ | ⟨h1, _⟩ | ⟨h1, _⟩
    · exact ⟨h1, h2⟩
    · omega
    · omega
  have h0 : rhE (hdW f c b r n ++ ys) = 0 := by
    unfold rhE
    rw [hdW_pfx, if_neg (by decide), if_neg (by rw [List.length_append, hdW_len]; omega), hdW_take, e6, if_neg (by simp)]
    unfold rhS rhF
    rw [e1, e2, e3, e4, e5, hS.1, hS.2]
    rfl
  refine ⟨h0, ?_⟩
  unfold rhV
  rw [if_pos h0, e1, e2, e3, e4, e5]
theorem rhV_zero {b : List Int} (h : rhE b ≠ 0) : rhV b = .agg #[.int .i64 0, .int .i64 0, .int .i64 0, .int .i64 0, .int .i64 0] := by unfold rhV; rw [if_neg h]
/-- cut bytes are short -/
theorem hdW_cut (f c b r n : Int) {k : Nat} (hk : k < 22) : rhE ((hdW f c b r n).take k) = 24 := by
  have hl : ((hdW f c b r n).take k).length = k := by rw [List.length_take, hdW_len]; omega
  have hp : pfx ((hdW f c b r n).take k) = true := by
    refine decide_eq_true ?_
    rw [hl, List.take_take]
    rcases Nat.lt_or_ge k 4 with h | h
    · rw [Nat.min_eq_right (by omega)]
      obtain rfl | rfl | rfl | rfl : k = 0 ∨ k = 1 ∨ k = 2 ∨ k = 3 := by omega
      all_goals rfl
    · rw [Nat.min_eq_left h, List.take_of_length_le (i := k) (by simpa using h)]; rfl
  unfold rhE
  rw [hp, if_neg (by decide), if_pos (by omega)]
theorem take_set_ge (l : List Int) {i m : Nat} (h : m ≤ i) (y : Int) : (l.set i y).take m = l.take m := by
  apply List.ext_getElem?
  intro j
  rw [List.getElem?_take, List.getElem?_take]
  split
  · rw [List.getElem?_set_ne (by omega)]
  · rfl
theorem take_set_lt (l : List Int) {i m : Nat} (h : i < m) (y : Int) : (l.set i y).take m = (l.take m).set i y := by rw [List.take_set]
/-- a byte that is another one: the letters, or the sum -/
theorem hdW_other (f c b r n : Int) {i : Nat} (hi : i < 22) {y : Int} (hy : 0 ≤ y ∧ y ≤ 255) (hne : y ≠ (hdW f c b r n).getD i 0) : rhE ((hdW f c b r n).set i y) = if i < 4 then 12 else 22 := by
  have hl : ((hdW f c b r n).set i y).length = 22 := by rw [List.length_set, hdW_len]
  by_cases h4 : i < 4
  · rw [if_pos h4]
    have hp : pfx ((hdW f c b r n).set i y) = false := by
      refine decide_eq_false fun h => ?_
      rw [hl, List.take_of_length_le (l := [84, 84, 65, 49]) (by simp)] at h
      have h' := congrArg (fun l => l.getD i 0) h
      have e1 : (((hdW f c b r n).set i y).take 4).getD i 0 = y := by
        rw [List.getD_eq_getElem?_getD, List.getElem?_take_of_lt h4, ← List.getD_eq_getElem?_getD, getD_set _ _ _ _ (by rw [hdW_len]; exact hi), if_pos rfl]
      rw [e1] at h'
      apply hne
      rw [h']
      obtain rfl | rfl | rfl | rfl : i = 0 ∨ i = 1 ∨ i = 2 ∨ i = 3 := by omega
      all_goals rfl
    unfold rhE
    rw [if_pos hp]
  · rw [if_neg h4]
    have hp : pfx ((hdW f c b r n).set i y) = true := by
      refine decide_eq_true ?_
      rw [hl, take_set_ge _ (by omega), List.take_of_length_le (l := [84, 84, 65, 49]) (by simp)]
      rfl
    have hx : ((sumL (((hdW f c b r n).set i y).take 18) : Nat) : Int) ≠ va4 ((hdW f c b r n).set i y) 18 := by
      have e6 : va4 (hdW f c b r n) 18 = ((sumL (hdB f c b r n) : Nat) : Int) := (show va4 (hdW f c b r n) 18 = va4 (le4 ((sumL (hdB f c b r n) : Nat) : Int)) 0 from rfl).trans (va4_le4 (sumL_bd _).1 (sumL_bd _).2)
      rcases Nat.lt_or_ge i 18 with h | h
      · rw [take_set_lt _ h, va4_set_far _ (by rw [hdW_len]; exact hi) (.inl h), e6]
        have ht : (hdW f c b r n).take 18 = hdB f c b r n := rfl
        rw [ht]
        have := sumL_set (hdB_u8 f c b r n) (i := i) (by rw [hdB_len]; exact h) hy (by
          rw [← ht, List.getD_eq_getElem?_getD, List.getElem?_take_of_lt h, ← List.getD_eq_getElem?_getD]; exact hne)
        omega
      · rw [take_set_ge _ h]
        have := va4_set (hdW_u8 f c b r n) (i := i) (j := 18) (by rw [hdW_len]; exact hi) h (by omega) hy hne (by rw [hdW_len]; omega)
        rw [e6] at this
        exact fun h' => this h'.symm
    unfold rhE
    rw [hp, if_neg (by decide), if_neg (by omega), if_pos hx]

/-- the lengths of the frames, one by one, and their sum -/
theorem alL_parts {L n : Int} (hL : 1 ≤ L) (hn : 1 ≤ n) (hn1 : n ≤ 4000) (hq : frN L n ≤ 1000) : ∃ m : Nat, (alL L n).length = m + 1 ∧ m ≤ 999 ∧ 0 ≤ (m : Int) * L ∧ (m : Int) * L < n ∧ n - (m : Int) * L ≤ L ∧
    (∀ i, i < m → (alL L n).getD i 0 = L) ∧ (alL L n).getD m 0 = n - (m : Int) * L := by
  obtain ⟨h1, h2, h3⟩ := frN_spec hL hn
  refine ⟨(frN L n - 1).toNat, ?_, by omega, ?_, ?_, ?_, ?_, ?_⟩
  · unfold alL; simp
  · exact Int.mul_nonneg (by omega) (by omega)
  · rw [show (((frN L n - 1).toNat : Nat) : Int) = frN L n - 1 by omega]; exact h2
  · rw [show (((frN L n - 1).toNat : Nat) : Int) = frN L n - 1 by omega]; rw [Int.sub_mul]; omega
  · intro i hi
    unfold alL
    rw [List.getD_eq_getElem?_getD, List.getElem?_append_left (by simpa using hi), List.getElem?_replicate, if_pos hi]
    rfl
  · unfold alL
    rw [List.getD_eq_getElem?_getD, List.getElem?_append_right (by simp), List.length_replicate, Nat.sub_self]
    show n - (frN L n - 1) * L = _
    rw [show (((frN L n - 1).toNat : Nat) : Int) = frN L n - 1 by omega]
end Go.Proofs.YtgfibgnolmogkaaDoor

/-
  What All of package lengths compute. Conditions: numbers within their types.
-/
import Derived.Test.YtgfibgnolmogkaaDoorLenLib2
namespace Go.Proofs.YtgfibgnolmogkaaDoor
open Go.RowKit
set_option linter.unusedVariables false

set_option maxHeartbeats 400000 in
theorem behind_any (A A' : Option Addr) (n m c c' : Nat) (xs ys : List Int) (w : World) (hn : xs.length = n) (hm : ys.length = m) (h1 : 0 < m) (h2 : n + m ≤ 4000) (hs : Sl w w.heap.size .i64 A xs) (hs' : Sl w w.heap.size .i64 A' ys) :
    Calls Tryd.prog 45 #[.slice A n c, .slice A' m c'] w fun e w' =>
      ∃ v, e = .returned v ∧ Own w' w.heap.size 3 .i64 v (xs ++ ys) ∧ Below w.heap.size w w' := by
  go_enter Tryd.func45, Tryd.ntmps45
  go_wp2_with fail
  refine (concat2 A A' n m c c' w.heap.size xs ys _ hn hm h1 h2 (hs.up _) (hs'.up _) (by simp) (by go_simp) (by go_simp)).mono ?_
  rintro e w1 ⟨v, rfl, hown, hbel⟩
  have HO := Lib.hid (hown.rebase (base' := w.heap.size) (by simp))
  have HB := Lib.hid (bel_next (bel_up (bel_self w) _) hbel)
  clear hown hbel
  go_wp2_with fail
  go_ret
  exact ⟨_, rfl, HO.out, HB.out⟩

theorem alR_bad {r n : Int} (h : cnE r n ≠ 0) : alR r n = [] := by unfold alR; rw [if_neg h]
theorem alR_ok {r n : Int} (h : cnE r n = 0) : alR r n = alL (lgV r) n := by unfold alR; rw [if_pos h]
theorem alL_len {L n : Int} (hL : 1 ≤ L) (hn : 1 ≤ n) : (alL L n).length = (frN L n).toNat := by
  have := (frN_spec hL hn).1
  simp [alL]; omega
theorem cnE_ok {r n : Int} (h : cnE r n = 0) : lgE r = 0 ∧ 1 ≤ lgV r ∧ lgV r ≤ 1095654 ∧ 1 ≤ r ∧ r ≤ 1048576 ∧ 1 ≤ n ∧ n ≤ 4000 ∧ 1 ≤ frN (lgV r) n ∧ frN (lgV r) n ≤ 1000 ∧ (frN (lgV r) n - 1) * lgV r < n ∧ n ≤ frN (lgV r) n * lgV r ∧ cnV r n = frN (lgV r) n := by
  have hv : cnV r n = frN (lgV r) n := by unfold cnV; rw [if_pos h]
  rcases cnE_cases r n with ⟨_, hl, h1, h2, h3⟩ | ⟨h', _⟩ | ⟨h', _⟩ | ⟨h', _⟩
  · obtain ⟨b1, b2, b3, b4⟩ := lgV_bd hl
    have b5 := frN_spec b1 h1
    exact ⟨hl, b1, b2, b3, b4, h1, h2, b5.1, h3, b5.2.1, b5.2.2, hv⟩
  all_goals omega

theorem own_nil (w : World) (base e : Nat) (k : IntKind) : Own w base e k (.slice none 0 0) [] := ⟨rfl, .inl ⟨rfl, rfl⟩⟩

set_option maxHeartbeats 1000000 in
theorem all_any (r n : Int) (w : World) (hr0 : -9223372036854775808 ≤ r) (hr1 : r ≤ 9223372036854775807) (hn0 : -9223372036854775808 ≤ n) (hn1 : n ≤ 9223372036854775807) :
    Calls Tryd.prog 26 #[.int .i64 r, .int .i64 n] w fun e w' =>
      ∃ v, e = .returned (.tuple #[v, .int .i64 (cnE r n)]) ∧ Own w' w.heap.size 3 .i64 v (alR r n) ∧ Below w.heap.size w w' := by
  have CN := Lib.hid (count_any r n w hr0 hr1 hn0 hn1)
  by_cases h0 : cnE r n = 0
  · have R := Lib.hid (alR_ok h0)
    have LG := Lib.hid (long_any r w hr0 hr1)
    obtain ⟨hl, b1, b2, b3, b4, b5, b6, b7, b8, b9, b10, hv⟩ := cnE_ok h0
    rw [h0, hv] at CN
    rw [h0]
    rw [hl] at LG
    have AL := Lib.hid (show alL (lgV r) n = List.replicate (frN (lgV r) n - 1).toNat (lgV r) ++ [n - (frN (lgV r) n - 1) * lgV r] from rfl)
    clear hv h0 hl
    generalize frN (lgV r) n = q at *
    generalize alR r n = xs at *
    generalize alL (lgV r) n = ys at *
    generalize lgV r = L at *
    obtain ⟨m, rfl⟩ : ∃ m : Nat, q = (m : Int) + 1 := ⟨(q - 1).toNat, by omega⟩
    have e1 : (m : Int) + 1 - 1 = m := by omega
    have e2 : (m : Int).toNat = m := by omega
    rw [e1] at b9 AL
    rw [e2] at AL
    have p0 : 0 ≤ (m : Int) * L := Int.mul_nonneg (by omega) (by omega)
    clear b10 e2
    have E1 := Lib.hid e1
    clear e1
    go_enter Tryd.func26, Tryd.ntmps26
    go_wp2_with fail
    refine CN.out.mono ?_
    rintro e w' ⟨rfl, rfl⟩
    go_wp2_with fail
    refine LG.out.mono ?_
    rintro e w' ⟨rfl, rfl⟩
    go_wp2_with fail
    refine (repeat_one L (some ⟨w.heap.size, 0, none⟩) m _ (by omega) (Sl.lit' w .i64 _ [L] rfl)).mono ?_
    rintro e w1 ⟨v, rfl, hown, hbel⟩
    obtain ⟨A1, c1, rfl, _, _, sl1⟩ := hown.sln (n := m) (by simp)
    have HB := Lib.hid (bel_next (bel_up (bel_self w) _) hbel)
    have S1 := Lib.hid sl1
    clear hown hbel sl1
    go_wp2_with fail
    refine (behind_any A1 _ m 1 c1 1 (List.replicate m L) [n - (m : Int) * L] _ (by simp) rfl (by omega) (by omega) (S1.out.up _) (Sl.lit' w1 .i64 _ [n - (m : Int) * L] rfl)).mono ?_
    rintro e w2 ⟨v, rfl, hown, hbel⟩
    have HO := Lib.hid (hown.rebase (base' := w.heap.size) (Nat.le_trans HB.out.size (by simp)))
    have HB2 := Lib.hid (bel_next (bel_up HB.out _) hbel)
    clear hown hbel
    go_wp2_with fail
    go_ret2
    exact ⟨_, rfl, by rw [R.out, AL.out]; exact HO.out, HB2.out⟩
  · have R := Lib.hid (alR_bad h0)
    have h1 : (cnE r n != 0) = true := by simp; exact h0
    generalize cnV r n = V at *
    generalize alR r n = xs at *
    generalize cnE r n = E at *
    clear h0
    go_enter Tryd.func26, Tryd.ntmps26
    go_wp2_with fail
    refine CN.out.mono ?_
    rintro e w' ⟨rfl, rfl⟩
    go_wp2_with fail
    go_ret2
    exact ⟨_, rfl, by rw [R.out]; exact own_nil _ _ _ _, bel_self _⟩

end Go.Proofs.YtgfibgnolmogkaaDoor

/-
  The walks of FoldOrder and FoldRange. Conditions: numbers within their types.
-/
import Derived.Test.YtacclloligomeaaLaw05A
namespace Go.Proofs.Ytacclloligomeaa
open Go.RowKit
def sizeF (x : Int) : Int := if x < 0 then -x else x
theorem sizeF_bd (x : Int) (h0 : -2147483648 ≤ x) (h1 : x ≤ 2147483647) : 0 ≤ sizeF x ∧ sizeF x ≤ 2147483648 := by unfold sizeF; split <;> omega

set_option maxHeartbeats 400000 in
theorem size_any (x : Int) (w : World) (h0 : -2147483648 ≤ x) (h1 : x ≤ 2147483647) :
    Calls Try.prog 13 #[.int .i32 x] w fun e w' => e = .returned (.int .i64 (sizeF x)) ∧ w = w' := by
  by_cases hx : x < 0
  · go_enter Try.func13, Try.ntmps13
    go_wp2_with fail
    go_ret
    exact ⟨ret_int (if_pos hx).symm, rfl⟩
  · have H := Lib.hid hx
    go_enter Try.func13, Try.ntmps13
    go_wp2_with fail
    go_ret
    exact ⟨ret_int (if_neg (by have := H.out; omega)).symm, rfl⟩

theorem order1 {x y : Int} (h : sizeF x < sizeF y) : foldF x < foldF y := by
  unfold sizeF at h; unfold foldF; split at h <;> split at h <;> split <;> split <;> omega
theorem order2 {x y : Int} (h : sizeF x = sizeF y) (h1 : x < y) : foldF x + 1 = foldF y := by
  unfold sizeF at h; unfold foldF; split at h <;> split at h <;> split <;> split <;> omega

set_option maxHeartbeats 1000000 in
theorem foldOrder_walk (x y : Int) (w : World) (h0 : -2147483648 ≤ x) (h1 : x ≤ 2147483647) (h2 : -2147483648 ≤ y) (h3 : y ≤ 2147483647) :
    Calls Try.prog 4 #[.int .i32 x, .int .i32 y] w fun e w' => e = .returned (.bool true) ∧ Below w.heap.size w w' := by
  have bx := foldF_bd h0 h1
  have by_ := foldF_bd h2 h3
  have sx := sizeF_bd x h0 h1
  have sy := sizeF_bd y h2 h3
  have o1 := Lib.hid (@order1 x y)
  have o2 := Lib.hid (@order2 x y)
  have hne : ∃ q : Bool, (foldF x == foldF y) = q ∧ (x == y) = q ∧ (q == q) = true := by
    by_cases e : x = y
    · exact ⟨true, by simp [e], by simp [e], rfl⟩
    · have h : foldF x ≠ foldF y := fun h => e (fold_inj h)
      exact ⟨false, by simp [h], by simp [e], rfl⟩
  have FX := Lib.hid (fun W => fold_any x W h0 h1)
  have FY := Lib.hid (fun W => fold_any y W h2 h3)
  have SX := Lib.hid (fun W => size_any x W h0 h1)
  have SY := Lib.hid (fun W => size_any y W h2 h3)
  generalize foldF x = fx at *
  generalize foldF y = fy at *
  generalize sizeF x = szx at *
  generalize sizeF y = szy at *
  obtain ⟨q, q1, q2, q3⟩ := hne
  by_cases hlt : szx < szy
  · have hf := o1.out hlt
    clear o1 o2
    go_enter Try.func4, Try.ntmps4
    go_wp2_with fail
    refine (FX.out _).mono ?_
    rintro e w1 ⟨rfl, rfl⟩
    go_wp2_with fail
    refine (FY.out _).mono ?_
    rintro e w1 ⟨rfl, rfl⟩
    go_wp2_with fail
    refine (SX.out _).mono ?_
    rintro e w1 ⟨rfl, rfl⟩
    go_wp2_with fail
    refine (SY.out _).mono ?_
    rintro e w1 ⟨rfl, rfl⟩
    go_wp2_with fail
    refine (alive_any _).mono ?_
    rintro e w1 ⟨rfl, hb⟩
    go_wp2_with fail
    go_ret
    exact ⟨rfl, hb⟩
  · by_cases hs : szx = szy
    · subst hs
      have e0 : (szx == szx) = true := by simp
      by_cases hxy : x < y
      · have hf : (fx + 1 == fy) = true := by simp [o2.out rfl hxy]
        have hf' : fx + 1 ≤ 4294967295 := by have := o2.out rfl hxy; omega
        clear o1 o2 hlt
        go_enter Try.func4, Try.ntmps4
        go_wp2_with fail
        refine (FX.out _).mono ?_
        rintro e w1 ⟨rfl, rfl⟩
        go_wp2_with fail
        refine (FY.out _).mono ?_
        rintro e w1 ⟨rfl, rfl⟩
        go_wp2_with fail
        refine (SX.out _).mono ?_
        rintro e w1 ⟨rfl, rfl⟩
        go_wp2_with fail
        refine (SY.out _).mono ?_
        rintro e w1 ⟨rfl, rfl⟩
        go_wp2_with fail
        refine (SX.out _).mono ?_
        rintro e w1 ⟨rfl, rfl⟩
        go_wp2_with fail
        refine (SY.out _).mono ?_
        rintro e w1 ⟨rfl, rfl⟩
        go_wp2_with fail
        refine (alive_any _).mono ?_
        rintro e w1 ⟨rfl, hb⟩
        go_wp2_with fail
        go_ret
        exact ⟨rfl, hb⟩
      · clear o1 o2 hlt
        go_enter Try.func4, Try.ntmps4
        go_wp2_with fail
        refine (FX.out _).mono ?_
        rintro e w1 ⟨rfl, rfl⟩
        go_wp2_with fail
        refine (FY.out _).mono ?_
        rintro e w1 ⟨rfl, rfl⟩
        go_wp2_with fail
        refine (SX.out _).mono ?_
        rintro e w1 ⟨rfl, rfl⟩
        go_wp2_with fail
        refine (SY.out _).mono ?_
        rintro e w1 ⟨rfl, rfl⟩
        go_wp2_with fail
        refine (SX.out _).mono ?_
        rintro e w1 ⟨rfl, rfl⟩
        go_wp2_with fail
        refine (SY.out _).mono ?_
        rintro e w1 ⟨rfl, rfl⟩
        go_wp2_with fail
        refine (alive_any _).mono ?_
        rintro e w1 ⟨rfl, hb⟩
        go_wp2_with fail
        go_ret
        exact ⟨rfl, hb⟩
    · have e0 : (szx == szy) = false := by simp [hs]
      clear o1 o2 hs
      go_enter Try.func4, Try.ntmps4
      go_wp2_with fail
      refine (FX.out _).mono ?_
      rintro e w1 ⟨rfl, rfl⟩
      go_wp2_with fail
      refine (FY.out _).mono ?_
      rintro e w1 ⟨rfl, rfl⟩
      go_wp2_with fail
      refine (SX.out _).mono ?_
      rintro e w1 ⟨rfl, rfl⟩
      go_wp2_with fail
      refine (SY.out _).mono ?_
      rintro e w1 ⟨rfl, rfl⟩
      go_wp2_with fail
      refine (SX.out _).mono ?_
      rintro e w1 ⟨rfl, rfl⟩
      go_wp2_with fail
      refine (SY.out _).mono ?_
      rintro e w1 ⟨rfl, rfl⟩
      go_wp2_with fail
      refine (alive_any _).mono ?_
      rintro e w1 ⟨rfl, hb⟩
      go_wp2_with fail
      go_ret
      exact ⟨rfl, hb⟩

theorem pow_facts (k : Int) (h2 : 1 ≤ k) (h3 : k ≤ 32) : ∃ h : Int, wrap64 (2 ^ (k.toNat - 1)) = h ∧ IntKind.u64.wrap (2 ^ k.toNat) = 2 * h ∧ 1 ≤ h ∧ h ≤ 2147483648 := by
  obtain ⟨n, rfl⟩ := Int.eq_ofNat_of_zero_le (by omega : 0 ≤ k)
  obtain ⟨m, rfl⟩ : ∃ m, n = m + 1 := ⟨n - 1, by omega⟩
  have e : ((m + 1 : Nat) : Int).toNat = m + 1 := by omega
  have hm : (2 : Int) ^ m ≤ 2 ^ 31 := by exact_mod_cast Nat.pow_le_pow_right (by omega : 0 < 2) (by omega : m ≤ 31)
  have h1 : (1 : Int) ≤ 2 ^ m := by exact_mod_cast Nat.one_le_two_pow
  have hp : (2 : Int) ^ (m + 1) = 2 * 2 ^ m := by rw [Int.pow_succ]; omega
  rw [e, Nat.add_sub_cancel, hp]
  generalize (2 : Int) ^ m = h at *
  refine ⟨h, IntWalk.wrap64_in _ ⟨by omega, by omega⟩, ?_, h1, by omega⟩
  rw [IntKind.wrap_u64]
  omega

theorem foldF_odd {x : Int} (h : x < 0) : foldF x % 2 = 1 := by rw [foldF_neg h]; omega
theorem foldF_even {x : Int} (h : 0 ≤ x) : foldF x % 2 = 0 := by rw [foldF_pos h]; omega

set_option maxHeartbeats 1000000 in
theorem foldRange_in (x k : Int) (w : World) (h0 : -2147483648 ≤ x) (h1 : x ≤ 2147483647) (h2 : 1 ≤ k) (h3 : k ≤ 32) :
    Calls Try.prog 5 #[.int .i32 x, .int .i64 k] w fun e w' => e = .returned (.bool true) ∧ Below w.heap.size w w' := by
  have bx := foldF_bd h0 h1
  obtain ⟨h, E1, E2, g1, g2⟩ := pow_facts k h2 h3
  have FX := Lib.hid (fun W => fold_any x W h0 h1)
  by_cases hx : x < 0
  · have f1 := Lib.hid (foldF_neg hx)
    have f2 : (foldF x % 2 == 1) = true := by simp [foldF_odd hx]
    generalize foldF x = fx at *
    by_cases hin : -h ≤ x
    · have : fx < 2 * h := by have := f1.out; omega
      clear f1
      go_enter Try.func5, Try.ntmps5
      go_wp2_with fail
      refine (FX.out _).mono ?_
      rintro e w1 ⟨rfl, rfl⟩
      go_wp2_with fail
      refine (alive_any _).mono ?_
      rintro e w1 ⟨rfl, hb⟩
      go_wp2_with fail
      go_ret
      first | exact ⟨rfl, hb⟩ | exact ⟨ret_bool (by simp <;> omega), hb⟩
    · have : 2 * h ≤ fx := by have := f1.out; omega
      clear f1
      go_enter Try.func5, Try.ntmps5
      go_wp2_with fail
      refine (FX.out _).mono ?_
      rintro e w1 ⟨rfl, rfl⟩
      go_wp2_with fail
      refine (alive_any _).mono ?_
      rintro e w1 ⟨rfl, hb⟩
      go_wp2_with fail
      go_ret
      first | exact ⟨rfl, hb⟩ | exact ⟨ret_bool (by simp <;> omega), hb⟩
  · have f1 := Lib.hid (foldF_pos (by omega : 0 ≤ x))
    have f2 : (foldF x % 2 == 1) = false := by simp [foldF_even (by omega : 0 ≤ x)]
    generalize foldF x = fx at *
    by_cases hin : x < h
    · have : fx < 2 * h := by have := f1.out; omega
      clear f1
      go_enter Try.func5, Try.ntmps5
      go_wp2_with fail
      refine (FX.out _).mono ?_
      rintro e w1 ⟨rfl, rfl⟩
      go_wp2_with fail
      refine (alive_any _).mono ?_
      rintro e w1 ⟨rfl, hb⟩
      go_wp2_with fail
      go_ret
      first | exact ⟨rfl, hb⟩ | exact ⟨ret_bool (by simp <;> omega), hb⟩
    · have : 2 * h ≤ fx := by have := f1.out; omega
      clear f1
      go_enter Try.func5, Try.ntmps5
      go_wp2_with fail
      refine (FX.out _).mono ?_
      rintro e w1 ⟨rfl, rfl⟩
      go_wp2_with fail
      refine (alive_any _).mono ?_
      rintro e w1 ⟨rfl, hb⟩
      go_wp2_with fail
      go_ret
      first | exact ⟨rfl, hb⟩ | exact ⟨ret_bool (by simp <;> omega), hb⟩

set_option maxHeartbeats 1000000 in
theorem foldRange_walk (x k : Int) (w : World) (h0 : -2147483648 ≤ x) (h1 : x ≤ 2147483647) (h2 : -9223372036854775808 ≤ k) (h3 : k ≤ 9223372036854775807) :
    Calls Try.prog 5 #[.int .i32 x, .int .i64 k] w fun e w' => e = .returned (.bool true) ∧ Below w.heap.size w w' := by
  by_cases hk : k < 1
  · go_enter Try.func5, Try.ntmps5
    go_wp2_with fail
    refine (alive_any _).mono ?_
    rintro e w1 ⟨rfl, hb⟩
    go_wp2_with fail
    go_ret
    exact ⟨rfl, hb⟩
  · by_cases hk2 : 32 < k
    · go_enter Try.func5, Try.ntmps5
      go_wp2_with fail
      refine (alive_any _).mono ?_
      rintro e w1 ⟨rfl, hb⟩
      go_wp2_with fail
      go_ret
      exact ⟨rfl, hb⟩
    · exact foldRange_in x k w h0 h1 (by omega) (by omega)
end Go.Proofs.Ytacclloligomeaa

/-
  Folding and unfolding numbers, in plain integers. No conditions.
-/
import Derived.Test.YtacclloligomeaaKit
import Derived.Laws.DeepBits32
namespace Go.Proofs.Ytacclloligomeaa
open Go.RowKit

def foldF (x : Int) : Int := if 0 ≤ x then 2 * x else -2 * x - 1
def backF (n : Int) : Int := if n % 2 = 0 then n / 2 else -((n + 1) / 2)

theorem foldF_pos {x : Int} (h : 0 ≤ x) : foldF x = 2 * x := if_pos h
theorem foldF_neg {x : Int} (h : x < 0) : foldF x = -2 * x - 1 := if_neg (by omega)
theorem backF_even {x : Int} (h : x % 2 = 0) : backF x = x / 2 := if_pos h
theorem backF_odd {x : Int} (h : x % 2 ≠ 0) : backF x = -((x + 1) / 2) := if_neg h

theorem foldF_bd {x : Int} (h0 : -2147483648 ≤ x) (h1 : x ≤ 2147483647) : 0 ≤ foldF x ∧ foldF x ≤ 4294967295 := by
  unfold foldF; split <;> omega
theorem backF_bd {x : Int} (h0 : 0 ≤ x) (h1 : x ≤ 4294967295) : -2147483648 ≤ backF x ∧ backF x ≤ 2147483647 := by
  unfold backF; split <;> omega
theorem back_fold (x : Int) : backF (foldF x) = x := by
  unfold foldF backF; split <;> split <;> omega
theorem fold_back {n : Int} (h : 0 ≤ n) : foldF (backF n) = n := by
  unfold foldF backF; split <;> split <;> omega
theorem fold_inj {x y : Int} (h : foldF x = foldF y) : x = y := by rw [← back_fold x, h, back_fold]

theorem xor_ones32 (b : Nat) (hb : b < 4294967296) : b ^^^ 4294967295 = 4294967295 - b := by
  apply Nat.eq_of_testBit_eq
  intro i
  have e : 4294967295 = 2 ^ 32 - 1 := by decide
  have hb' : b < 2 ^ 32 := by omega
  rw [Nat.testBit_xor, e, Nat.testBit_two_pow_sub_one, show 2 ^ 32 - 1 - b = 2 ^ 32 - (b + 1) by omega, Nat.testBit_two_pow_sub_succ hb']
  by_cases hi : i < 32
  · simp [hi]
  · have : b.testBit i = false := Nat.testBit_lt_two_pow (Nat.lt_of_lt_of_le hb' (Nat.pow_le_pow_right (by decide) (by omega)))
    simp [hi, this]

theorem fold_xor {x : Int} (h0 : -2147483648 ≤ x) (h1 : x ≤ 2147483647) :
    bits .xor .u32 (x % 4294967296 * 2 % 4294967296) (x / 2147483648 % 4294967296) = foldF x := by
  rw [u32_xor _ _ (by omega) (by omega) (by omega) (by omega)]
  by_cases hx : 0 ≤ x
  · rw [show x / 2147483648 % 4294967296 = 0 by omega, foldF_pos hx]
    simp only [Int.toNat_zero, Nat.xor_zero]
    omega
  · rw [show x / 2147483648 % 4294967296 = 4294967295 by omega, foldF_neg (by omega)]
    rw [show (4294967295 : Int).toNat = 4294967295 from rfl, xor_ones32 _ (by omega)]
    omega

theorem xor_i32_zero {x : Int} (h0 : 0 ≤ x) (h1 : x ≤ 2147483647) : bits .xor .i32 x 0 = x := by
  obtain ⟨n, rfl⟩ := Int.eq_ofNat_of_zero_le h0
  show IntKind.i32.wrap ((BitVec.ofInt 32 (n : Int) ^^^ BitVec.ofInt 32 0).toNat : Int) = _
  have h2 : (BitVec.ofInt 32 0).toNat = 0 := by decide
  rw [BitVec.toNat_xor, ofInt_u32 n (by omega), h2, Nat.xor_zero]
  exact wrap_i32_small _ (by omega) (by omega)

theorem wrap_i32_big (n : Int) (h0 : 2147483648 ≤ n) (h1 : n < 4294967296) : IntKind.i32.wrap n = n - 4294967296 := by
  simp [IntKind.wrap, IntKind.bits, IntKind.signed]
  split <;> omega

theorem xor_i32_ones {x : Int} (h0 : 0 ≤ x) (h1 : x ≤ 2147483647) : bits .xor .i32 x (-1) = -x - 1 := by
  obtain ⟨n, rfl⟩ := Int.eq_ofNat_of_zero_le h0
  show IntKind.i32.wrap ((BitVec.ofInt 32 (n : Int) ^^^ BitVec.ofInt 32 (-1)).toNat : Int) = _
  have h2 : (BitVec.ofInt 32 (-1)).toNat = 4294967295 := by decide
  rw [BitVec.toNat_xor, ofInt_u32 n (by omega), h2, xor_ones32 n (by omega), wrap_i32_big _ (by omega) (by omega)]
  omega

theorem back_xor {x : Int} (h0 : 0 ≤ x) (h1 : x ≤ 4294967295) :
    bits .xor .i32 (x / 2) (wrap32 (-wrap32 (bits .and .u32 x 1))) = backF x := by
  have ha : bits .and .u32 x 1 = x % 2 := by
    have h := bits_mask .u32 32 (by decide) (fun n h2 h3 => by rw [IntKind.wrap_u32']; omega) 1 (by decide) x h0 (by omega)
    simpa using h
  rw [ha]
  by_cases hx : x % 2 = 0
  · have e : wrap32 (-wrap32 0) = 0 := by simp only [wrap32]; omega
    rw [hx, backF_even hx, e]
    exact xor_i32_zero (by omega) (by omega)
  · rw [show x % 2 = 1 by omega, backF_odd hx]
    have e : wrap32 (-wrap32 1) = -1 := by simp only [wrap32]; omega
    rw [e, xor_i32_ones (by omega) (by omega)]
    omega
end Go.Proofs.Ytacclloligomeaa

/-
  The sum CRC-32 in plain natural numbers: a step, the table, bytes; that steps are linear; that a burst of at most 32 bits is noticed. No conditions.
-/
import Derived.Test.YtgfibgnolmogkaaDoorKit
namespace Go.Proofs.YtgfibgnolmogkaaDoor
open Go.RowKit
set_option linter.unusedVariables false

def polyN : Nat := 3988292384
def crcStep (s : Nat) : Nat := (s / 2) ^^^ (if s % 2 = 1 then polyN else 0)
def crcN : Nat → Nat → Nat
  | 0, s => s
  | n + 1, s => crcN n (crcStep s)
def tabF (i : Nat) : Nat := crcN 8 i
def crcByte (s c : Nat) : Nat := crcN 8 (s ^^^ c)
def crcL (s : Nat) (xs : List Int) : Nat := xs.foldl (fun s c => crcByte s c.toNat) s

theorem crcN_succ (n s : Nat) : crcN (n + 1) s = crcStep (crcN n s) := by
  induction n generalizing s with
  | zero => rfl
  | succ n ih => exact ih (crcStep s)
theorem crcN_add (m n s : Nat) : crcN (m + n) s = crcN n (crcN m s) := by
  induction m generalizing s with
  | zero => rw [Nat.zero_add]; rfl
  | succ m ih => rw [Nat.succ_add]; exact ih (crcStep s)

theorem xor_div2 (a b : Nat) : (a ^^^ b) / 2 = (a / 2) ^^^ (b / 2) := by
  apply Nat.eq_of_testBit_eq
  intro i
  simp [← Nat.testBit_succ, Nat.testBit_xor]
theorem xor_mod2 (a b : Nat) : (a ^^^ b) % 2 = (a % 2 + b % 2) % 2 := by
  have h := Nat.testBit_xor a b 0
  simp only [Nat.testBit_zero] at h
  rcases Nat.mod_two_eq_zero_or_one a with ha | ha <;> rcases Nat.mod_two_eq_zero_or_one b with hb | hb <;> rcases Nat.mod_two_eq_zero_or_one (a ^^^ b) with hc | hc <;> simp [ha, hb, hc] at h ⊢
theorem step_xor (a b : Nat) : crcStep (a ^^^ b) = crcStep a ^^^ crcStep b := by
  unfold crcStep
  rw [xor_div2, xor_mod2]
  rcases Nat.mod_two_eq_zero_or_one a with ha | ha <;> rcases Nat.mod_two_eq_zero_or_one b with hb | hb
  all_goals simp only [ha, hb]
  · simp
  · simp [Nat.xor_assoc]
  · simp only [if_true, if_false, Nat.zero_ne_one, Nat.xor_zero]
    rw [Nat.xor_assoc, Nat.xor_comm (b / 2) polyN, ← Nat.xor_assoc]
  · simp only [Nat.reduceAdd, Nat.reduceMod, if_true, if_false, Nat.zero_ne_one, Nat.xor_zero]
    rw [Nat.xor_assoc, ← Nat.xor_assoc polyN, Nat.xor_comm polyN (b / 2), Nat.xor_assoc, Nat.xor_self, Nat.xor_zero]
theorem crcN_xor (n a b : Nat) : crcN n (a ^^^ b) = crcN n a ^^^ crcN n b := by
  induction n generalizing a b with
  | zero => rfl
  | succ n ih => simp only [crcN]; rw [step_xor, ih]
theorem step_even (a : Nat) : crcStep (2 * a) = a := by
  unfold crcStep
  rw [show 2 * a % 2 = 0 by omega, show 2 * a / 2 = a by omega]
  simp
theorem crcN_shift (n a : Nat) : crcN n (a * 2 ^ n) = a := by
  induction n with
  | zero => simp [crcN]
  | succ n ih =>
    rw [crcN, show a * 2 ^ (n + 1) = 2 * (a * 2 ^ n) by rw [Nat.pow_succ]; rw [Nat.mul_comm 2, Nat.mul_assoc], step_even, ih]
theorem step_lt {s : Nat} (h : s < 4294967296) : crcStep s < 4294967296 := by
  unfold crcStep
  have : s / 2 < 2 ^ 32 := by omega
  refine Nat.xor_lt_two_pow (n := 32) this ?_
  split
  · decide
  · decide
theorem crcN_lt {n s : Nat} (h : s < 4294967296) : crcN n s < 4294967296 := by
  induction n generalizing s with
  | zero => exact h
  | succ n ih => exact ih (step_lt h)
theorem step_zero {s : Nat} (h : s < 4294967296) (h0 : crcStep s = 0) : s = 0 := by
  unfold crcStep at h0
  by_cases hs : s % 2 = 1
  · rw [if_pos hs] at h0
    have h1 : s / 2 = polyN := by
      have := congrArg (· ^^^ polyN) h0
      simpa [Nat.xor_assoc] using this
    unfold polyN at h1
    omega
  · rw [if_neg hs, Nat.xor_zero] at h0
    omega
theorem crcN_zero {n s : Nat} (h : s < 4294967296) (h0 : crcN n s = 0) : s = 0 := by
  induction n generalizing s with
  | zero => exact h0
  | succ n ih => exact step_zero h (ih (step_lt h) h0)
theorem crcN_of_zero (n : Nat) : crcN n 0 = 0 := by
  induction n with
  | zero => rfl
  | succ n ih => exact ih

theorem xor_split (s k : Nat) : s = (s % 2 ^ k) ^^^ (s / 2 ^ k * 2 ^ k) := by
  apply Nat.eq_of_testBit_eq
  intro i
  rw [Nat.testBit_xor, Nat.testBit_mod_two_pow, Nat.testBit_mul_two_pow, Nat.testBit_div_two_pow]
  by_cases h : i < k
  · simp [h, show ¬ k ≤ i by omega]
  · simp [h, show k ≤ i by omega]
/-- a byte by the table -/
theorem byte_table (s c : Nat) (hc : c < 256) : (s / 256) ^^^ tabF ((s % 256) ^^^ c) = crcByte s c := by
  unfold crcByte tabF
  have h : s ^^^ c = ((s % 256) ^^^ c) ^^^ (s / 256 * 256) := by
    have := xor_split s 8
    rw [show (2 : Nat) ^ 8 = 256 from rfl] at this
    rw [Nat.xor_assoc, Nat.xor_comm c, ← Nat.xor_assoc, ← this]
  rw [h, crcN_xor 8 ((s % 256) ^^^ c)]
  have := crcN_shift 8 (s / 256)
  rw [show (2 : Nat) ^ 8 = 256 from rfl] at this
  rw [this, Nat.xor_comm]
theorem crcByte_lt {s c : Nat} (h : s < 4294967296) (hc : c < 256) : crcByte s c < 4294967296 := by
  unfold crcByte
  refine crcN_lt ?_
  have h1 : s < 2 ^ 32 := by omega
  have h2 : c < 2 ^ 32 := by omega
  have := Nat.xor_lt_two_pow h1 h2
  omega
theorem crcL_nil (s : Nat) : crcL s [] = s := rfl
theorem crcL_cons (s : Nat) (c : Int) (l : List Int) : crcL s (c :: l) = crcL (crcByte s c.toNat) l := rfl
theorem crcL_snoc (s : Nat) (l : List Int) (c : Int) : crcL s (l ++ [c]) = crcByte (crcL s l) c.toNat := by simp [crcL]
theorem crcL_append (s : Nat) (l m : List Int) : crcL s (l ++ m) = crcL (crcL s l) m := by simp [crcL]
theorem crcL_lt {s : Nat} (h : s < 4294967296) : ∀ {l : List Int}, U8 l → crcL s l < 4294967296 := by
  intro l
  induction l generalizing s with
  | nil => intro _; exact h
  | cons c l ih =>
    intro hl
    have hc := hl c (by simp)
    exact ih (crcByte_lt h (by omega)) (fun x hx => hl x (by simp [hx]))

/-- bytes as one number, the first one lowest -/
def numL : List Int → Nat
  | [] => 0
  | c :: l => c.toNat ^^^ (numL l * 256)
theorem crcL_num (s : Nat) (l : List Int) : crcL s l = crcN (8 * l.length) (s ^^^ numL l) := by
  induction l generalizing s with
  | nil => simp [crcL, numL, crcN]
  | cons c l ih =>
    rw [crcL_cons, ih, numL, List.length_cons, show 8 * (l.length + 1) = 8 + 8 * l.length by omega, crcN_add]
    congr 1
    rw [← Nat.xor_assoc, crcN_xor]
    have := crcN_shift 8 (numL l)
    rw [show (2 : Nat) ^ 8 = 256 from rfl] at this
    rw [this]
    rfl
/-- a change by a number of less than 32 bits, at some bit, is noticed -/
theorem burst (s : Nat) (l m : List Int) (e at_ : Nat) (hlen : l.length = m.length) (hat : at_ ≤ 8 * l.length) (he : e < 4294967296) (hm : numL m = numL l ^^^ (e * 2 ^ at_)) :
    (crcL s l = crcL s m ↔ e = 0) := by
  rw [crcL_num, crcL_num, ← hlen, hm, ← Nat.xor_assoc, crcN_xor (8 * l.length) (s ^^^ numL l)]
  have h1 : crcN (8 * l.length) (e * 2 ^ at_) = crcN (8 * l.length - at_) e := by
    conv => lhs; rw [show 8 * l.length = at_ + (8 * l.length - at_) by omega, crcN_add, crcN_shift]
  rw [h1]
  constructor
  · intro h
    have h2 : crcN (8 * l.length - at_) e = 0 := by
      have := congrArg (crcN (8 * l.length) (s ^^^ numL l) ^^^ ·) h
      simpa [← Nat.xor_assoc] using this.symm
    exact crcN_zero he h2
  · intro h
    subst h
    rw [crcN_of_zero, Nat.xor_zero]
end Go.Proofs.YtgfibgnolmogkaaDoor

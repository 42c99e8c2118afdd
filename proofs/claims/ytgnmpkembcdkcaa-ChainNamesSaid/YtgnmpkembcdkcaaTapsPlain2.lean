/-
  Products and signs, values behind, rounding: in plain integers and lists. No conditions.
-/
import Derived.Test.YtgnmpkembcdkcaaTapsPlain
namespace Go.Proofs.Ytgnmpkembcdkcaa
open Go.RowKit
set_option linter.unusedVariables false

def absZ (p : Int) : Int := if p < 0 then -p else p
def gnTo (ps : List Int) : Nat → Int
  | 0 => 0
  | k + 1 => gnTo ps k + stp k * absZ (ps.getD k 0)
theorem sgn_mul (p : Int) : sgn p * p = absZ p := by
  unfold sgn absZ
  by_cases h : p < 0
  · rw [if_pos h, if_pos h]; omega
  · rw [if_neg h, if_neg h]
    by_cases h' : 0 < p
    · rw [if_pos h']; omega
    · rw [if_neg h']; omega
theorem dot_lrn (ts ps : List Int) (x : Int) : ∀ k, k ≤ 16 → wrap32 (dotTo (lrn ts ps x) ps k) = wrap32 (dotTo ts ps k + sgn x * gnTo ps k)
  | 0, _ => by simp [dotTo, gnTo]
  | k + 1, h => by
    have ih := dot_lrn ts ps x k (by omega)
    simp only [dotTo, gnTo]
    rw [lrn_getD ts ps x (by omega)]
    generalize ht : ts.getD k 0 = t
    generalize hp : ps.getD k 0 = p
    have e1 : lrT ts ps x k = wrap32 (t + stp k * (sgn p * sgn x)) := by rw [← ht, ← hp]; rfl
    rw [e1, ← wrap32_add_r, wrap32_mul_l, wrap32_add_r, ← wrap32_add_l, ih, wrap32_add_l]
    congr 1
    have e2 : stp k * (sgn p * sgn x) * p = sgn x * (stp k * absZ p) := by
      rw [← sgn_mul p]
      rw [Int.mul_assoc, Int.mul_assoc, Int.mul_comm (sgn x) p, ← Int.mul_assoc (sgn p) p, ← Int.mul_assoc (stp k), Int.mul_comm _ (sgn x)]
    rw [Int.add_mul, e2, Int.mul_add]
    generalize sgn x * gnTo ps k = u
    generalize sgn x * (stp k * absZ p) = v
    generalize t * p = z
    omega
theorem sum_lrn (ts ps : List Int) (x : Int) : wrap32 (sumF (lrn ts ps x) ps - sumF ts ps) = wrap32 (sgn x * gnTo ps 16) := by
  unfold sumF
  rw [dot_lrn ts ps x 16 (Nat.le_refl _), wrap32_sub_l, wrap32_sub_r]
  congr 1
  generalize sgn x * gnTo ps 16 = u
  omega
theorem sgn_neg {x : Int} (h : x < 0) : sgn x = -1 := if_pos h
theorem sgn_pos {x : Int} (h : 0 < x) : sgn x = 1 := (if_neg (by omega)).trans (if_pos h)
theorem lrn_same {ts ps : List Int} {x y : Int} (h : sgn x = sgn y) : lrn ts ps y = lrn ts ps x := by
  unfold lrn
  refine List.map_congr_left fun i _ => ?_
  rw [lrT, lrT, h]
theorem lrn_back {ts ps : List Int} {x y : Int} (ht : ts.length = 16) (hI : I32 ts) (h : sgn y = -sgn x) : lrn (lrn ts ps x) ps y = ts := by
  conv => rhs; rw [← list16 ht]
  unfold lrn
  refine List.map_congr_left fun i hi => ?_
  have hi' : i < 16 := by simpa using hi
  rw [show List.map (lrT ts ps x) (List.range 16) = lrn ts ps x from rfl, lrT, lrn_getD ts ps x hi', lrT, wrap32_add_l, h]
  have b := getD_i32 hI i
  generalize ts.getD i 0 = t at *
  rw [Int.mul_neg, Int.mul_neg]
  generalize stp i * (sgn (ps.getD i 0) * sgn x) = u
  rw [show t + u + -u = t by omega, IntWalk.wrap32_in _ b]
theorem gn_step {p : Int} (s : Int) : wrap32 (s * (if p < 0 then wrap32 (-p) else p)) = wrap32 (s * absZ p) := by
  unfold absZ
  split
  · rw [wrap32_mul_r]
  · rfl
def pshL (ps : List Int) (l : List Int) : List Int := l.foldl psh ps
theorem pshL_snoc (ps l : List Int) (x : Int) : pshL ps (l ++ [x]) = psh (pshL ps l) x := by simp [pshL]
theorem pshL_len {ps : List Int} (hp : ps.length = 16) (l : List Int) : (pshL ps l).length = 16 := by
  induction l generalizing ps with
  | nil => exact hp
  | cons x l ih => exact ih (psh_len hp x)
theorem psh_0 (ps : List Int) (x : Int) : (psh ps x).getD 0 0 = x := rfl
theorem psh_succ {ps : List Int} (x : Int) {i : Nat} (hi : i < 15) : (psh ps x).getD (i + 1) 0 = ps.getD i 0 := by
  simp [psh, List.getD_eq_getElem?_getD, List.getElem?_take_of_lt hi]
theorem pshL_getD {ps : List Int} (l : List Int) : ∀ k, k ≤ l.length → ∀ i, i < 16 → (pshL ps (l.take k)).getD i 0 = if i < k then l.getD (k - 1 - i) 0 else ps.getD (i - k) 0
  | 0, _, i, _ => by simp [pshL]
  | k + 1, hk, i, hi => by
    rw [take_snoc l k (by omega), pshL_snoc]
    cases i with
    | zero => rw [psh_0, if_pos (by omega)]; rfl
    | succ i =>
      rw [psh_succ _ (by omega), pshL_getD l k (by omega) i (by omega)]
      by_cases h : i < k
      · rw [if_pos h, if_pos (by omega)]
        congr 1
        omega
      · rw [if_neg h, if_neg (by omega)]
        congr 1
        omega
end Go.Proofs.Ytgnmpkembcdkcaa

/-
  A filter's sums, in plain integers and lists. No conditions.
-/
import Derived.Test.YtnhdhjcpbonfjaaKit
namespace Go.Proofs.Ytnhdhjcpbonfjaa
open Go.RowKit
set_option linter.unusedVariables false

def ckF (sh : Int) : Int := if sh = 9 ∨ sh = 10 then 0 else 8
def nwE (b : Int) : Int := if b = 8 ∨ b = 16 ∨ b = 24 then 0 else 2
def nwS (b : Int) : Int := if b = 16 then 9 else 10
def stp (i : Nat) : Int := if i = 0 then 4 else if i < 4 then 2 else 1
def sgn (x : Int) : Int := if x < 0 then -1 else if 0 < x then 1 else 0
def hlf (sh : Int) : Int := if sh = 9 then 256 else 512
def dotTo (ts ps : List Int) : Nat → Int
  | 0 => 0
  | k + 1 => dotTo ts ps k + ts.getD k 0 * ps.getD k 0
def sumF (ts ps : List Int) : Int := wrap32 (dotTo ts ps 16)
def gsV (sh : Int) (ts ps : List Int) : Int := wrap32 (hlf sh + dotTo ts ps 16) / (2 * hlf sh)
def lrT (ts ps : List Int) (x : Int) : Nat → Int := fun i => wrap32 (ts.getD i 0 + stp i * (sgn (ps.getD i 0) * sgn x))
/-- the taps when the first k have learned -/
def lrK (ts ps : List Int) (x : Int) (k : Nat) : List Int := (List.range 16).map fun i => if i < k then lrT ts ps x i else ts.getD i 0
def lrn (ts ps : List Int) (x : Int) : List Int := (List.range 16).map (lrT ts ps x)
def psh (ps : List Int) (x : Int) : List Int := x :: ps.take 15

theorem wrap32_bd (n : Int) : -2147483648 ≤ wrap32 n ∧ wrap32 n ≤ 2147483647 := by unfold wrap32; omega
theorem wrap32_wrap (n : Int) : wrap32 (wrap32 n) = wrap32 n := by unfold wrap32; omega
theorem wrap32_add_r (a b : Int) : wrap32 (a + wrap32 b) = wrap32 (a + b) := by unfold wrap32; omega
theorem wrap32_add_l (a b : Int) : wrap32 (wrap32 a + b) = wrap32 (a + b) := by unfold wrap32; omega
theorem wrap32_sub_r (a b : Int) : wrap32 (a - wrap32 b) = wrap32 (a - b) := by unfold wrap32; omega
theorem wrap32_sub_l (a b : Int) : wrap32 (wrap32 a - b) = wrap32 (a - b) := by unfold wrap32; omega
theorem wrap32_congr {a b k : Int} (h : a = b + 4294967296 * k) : wrap32 a = wrap32 b := by unfold wrap32; omega
theorem wrap32_split (a : Int) : ∃ k, a = wrap32 a + 4294967296 * k := ⟨(a + 2147483648) / 4294967296, by unfold wrap32; omega⟩
theorem wrap32_mul_r (a b : Int) : wrap32 (a * wrap32 b) = wrap32 (a * b) := by
  obtain ⟨k, hk⟩ := wrap32_split b
  have e : a * b = a * wrap32 b + 4294967296 * (a * k) := by
    conv => lhs; rw [hk]
    rw [Int.mul_add, ← Int.mul_assoc, Int.mul_comm a 4294967296, Int.mul_assoc]
  exact (wrap32_congr e).symm
theorem wrap32_mul_l (a b : Int) : wrap32 (wrap32 a * b) = wrap32 (a * b) := by rw [Int.mul_comm, wrap32_mul_r, Int.mul_comm]

theorem getD_i32 {xs : List Int} (h : I32 xs) (i : Nat) : -2147483648 ≤ xs.getD i 0 ∧ xs.getD i 0 ≤ 2147483647 := by
  rcases Nat.lt_or_ge i xs.length with h' | h'
  · exact h _ (mem_getD h')
  · rw [List.getD_eq_getElem?_getD, List.getElem?_eq_none h']; simp
theorem lrT_bd (ts ps : List Int) (x : Int) (i : Nat) : -2147483648 ≤ lrT ts ps x i ∧ lrT ts ps x i ≤ 2147483647 := wrap32_bd _
theorem lrn_len (ts ps : List Int) (x : Int) : (lrn ts ps x).length = 16 := by simp [lrn]
theorem lrn_i32 (ts ps : List Int) (x : Int) : I32 (lrn ts ps x) := fun y hy => by
  simp only [lrn, List.mem_map] at hy
  obtain ⟨i, _, rfl⟩ := hy
  exact lrT_bd ts ps x i
theorem lrn_getD (ts ps : List Int) (x : Int) {i : Nat} (hi : i < 16) : (lrn ts ps x).getD i 0 = lrT ts ps x i := by
  simp [lrn, List.getD_eq_getElem?_getD, List.getElem?_map, List.getElem?_range hi]
theorem list16 {ts : List Int} (ht : ts.length = 16) : (List.range 16).map (fun i => ts.getD i 0) = ts := by
  apply List.ext_getElem
  · simp [ht]
  · intro i h1 h2
    simp [List.getD_eq_getElem?_getD, List.getElem?_eq_getElem h2]
theorem lrK_0 {ts : List Int} (ht : ts.length = 16) (ps : List Int) (x : Int) : lrK ts ps x 0 = ts := by
  unfold lrK; simpa using list16 ht
theorem lrK_16 (ts ps : List Int) (x : Int) : lrK ts ps x 16 = lrn ts ps x := by
  unfold lrK lrn
  refine List.map_congr_left fun i hi => ?_
  rw [if_pos (by simpa using hi)]
theorem lrK_len (ts ps : List Int) (x : Int) (k : Nat) : (lrK ts ps x k).length = 16 := by simp [lrK]
theorem lrK_getD (ts ps : List Int) (x : Int) (k : Nat) {i : Nat} (hi : i < 16) : (lrK ts ps x k).getD i 0 = if i < k then lrT ts ps x i else ts.getD i 0 := by
  simp only [lrK, List.getD_eq_getElem?_getD, List.getElem?_map, List.getElem?_range hi]; rfl
theorem lrK_succ (ts ps : List Int) (x : Int) {k : Nat} (hk : k < 16) : (lrK ts ps x k).set k (lrT ts ps x k) = lrK ts ps x (k + 1) := by
  apply List.ext_getElem
  · simp [lrK]
  · intro i h1 h2
    have hi : i < 16 := by simpa [lrK] using h2
    rw [List.getElem_set]
    simp only [lrK, List.getElem_map, List.getElem_range]
    by_cases e : k = i
    · subst e; simp
    · by_cases e2 : i < k
      · simp [e, e2, Nat.lt_succ_of_lt e2]
      · simp [e, e2, show ¬ i < k + 1 by omega]
theorem lrn_zero {ts ps : List Int} (ht : ts.length = 16) (h : I32 ts) : lrn ts ps 0 = ts := by
  unfold lrn
  rw [← list16 ht]
  refine List.map_congr_left fun i hi => ?_
  have := getD_i32 h i
  rw [list16 ht]
  rw [lrT, show sgn 0 = 0 from rfl, Int.mul_zero, Int.mul_zero, Int.add_zero, IntWalk.wrap32_in _ this]
theorem psh_len {ps : List Int} (hp : ps.length = 16) (x : Int) : (psh ps x).length = 16 := by simp [psh, hp]
theorem psh_i32 {ps : List Int} (hp : I32 ps) {x : Int} (hx : -2147483648 ≤ x ∧ x ≤ 2147483647) : I32 (psh ps x) := fun y hy => by
  simp only [psh, List.mem_cons] at hy
  rcases hy with rfl | hy
  · exact hx
  · exact hp y (List.mem_of_mem_take hy)
theorem ckF_cases {sh : Int} (h : ckF sh = 0) : sh = 9 ∨ sh = 10 := by
  unfold ckF at h
  split at h
  · assumption
  · omega
theorem gsV_bd (sh : Int) (ts ps : List Int) : -2147483648 ≤ gsV sh ts ps ∧ gsV sh ts ps ≤ 2147483647 := by
  unfold gsV
  have := wrap32_bd (hlf sh + dotTo ts ps 16)
  generalize wrap32 (hlf sh + dotTo ts ps 16) = z at *
  unfold hlf
  split <;> omega
theorem sgn_same {p x : Int} (hp : p ≠ 0) (hx : x ≠ 0) (h : (p < 0) = (x < 0)) : sgn p * sgn x = 1 := by
  unfold sgn
  by_cases h1 : p < 0
  · have h2 : x < 0 := by rw [← h]; exact h1
    rw [if_pos h1, if_pos h2]; rfl
  · have h2 : ¬ x < 0 := by rw [← h]; exact h1
    rw [if_neg h1, if_neg h2, if_pos (by omega), if_pos (by omega)]; rfl
theorem sgn_other {p x : Int} (hp : p ≠ 0) (hx : x ≠ 0) (h : ¬ (p < 0) = (x < 0)) : sgn p * sgn x = -1 := by
  unfold sgn
  by_cases h1 : p < 0
  · have h2 : ¬ x < 0 := fun h2 => h (by simp [h1, h2])
    rw [if_pos h1, if_neg h2, if_pos (by omega)]; rfl
  · have h2 : x < 0 := by
      refine Decidable.by_contra fun h2 => h (by simp [h1, h2])
    rw [if_neg h1, if_pos h2, if_pos (by omega)]; rfl
theorem set_getD (l : List Int) (k : Nat) : l.set k (l.getD k 0) = l := by
  apply List.ext_getElem
  · simp
  · intro i h1 h2
    rw [List.getElem_set]
    split
    · rename_i e
      subst e
      simp [List.getD_eq_getElem?_getD, List.getElem?_eq_getElem h2]
    · rfl
/-- the values behind when those from index k + 1 on were moved -/
def shK (ps : List Int) (k : Nat) : List Int := (List.range 16).map fun j => if k < j then ps.getD (j - 1) 0 else ps.getD j 0
theorem shK_15 {ps : List Int} (hp : ps.length = 16) : shK ps 15 = ps := by
  unfold shK
  refine Eq.trans (List.map_congr_left fun i hi => ?_) (list16 hp)
  rw [if_neg (by have := List.mem_range.1 hi; omega)]
theorem shK_len (ps : List Int) (k : Nat) : (shK ps k).length = 16 := by simp [shK]
theorem shK_getD (ps : List Int) (k : Nat) {i : Nat} (hi : i < 16) : (shK ps k).getD i 0 = if k < i then ps.getD (i - 1) 0 else ps.getD i 0 := by
  simp only [shK, List.getD_eq_getElem?_getD, List.getElem?_map, List.getElem?_range hi]; rfl
theorem shK_pred (ps : List Int) {k : Nat} (hk : k + 1 < 16) : (shK ps (k + 1)).set (k + 1) (ps.getD k 0) = shK ps k := by
  apply List.ext_getElem
  · simp [shK]
  · intro i h1 h2
    have hi : i < 16 := by simpa [shK] using h2
    rw [List.getElem_set]
    simp only [shK, List.getElem_map, List.getElem_range]
    by_cases e : k + 1 = i
    · subst e; simp
    · by_cases e2 : k + 1 < i
      · rw [if_neg e, if_pos e2, if_pos (by omega)]
      · rw [if_neg e, if_neg e2, if_neg (by omega)]
theorem shK_set (ps : List Int) (hp : ps.length = 16) (x : Int) : (shK ps 0).set 0 x = psh ps x := by
  apply List.ext_getElem
  · simp [shK, psh, hp]
  · intro i h1 h2
    have hi : i < 16 := by simpa [shK] using h1
    rw [List.getElem_set]
    cases i with
    | zero => simp [psh]
    | succ i =>
      simp only [shK, psh, List.getElem_map, List.getElem_range, List.getElem_cons_succ, List.getElem_take]
      simp [List.getD_eq_getElem?_getD, List.getElem?_eq_getElem (show i < ps.length by omega)]
theorem told9 {x : Int} (h : -2147483648 ≤ x ∧ x ≤ 2147483647) : (x.tmod 512 < 0 → x.tdiv 512 - 1 = x / 512) ∧ (¬ x.tmod 512 < 0 → x.tdiv 512 = x / 512) := by
  have e := Int.mul_tdiv_add_tmod x 512
  have a := Int.lt_tmod_of_pos x (show (0 : Int) < 512 by omega)
  have b := Int.tmod_lt_of_pos x (show (0 : Int) < 512 by omega)
  constructor <;> intro <;> omega
theorem told10 {x : Int} (h : -2147483648 ≤ x ∧ x ≤ 2147483647) : (x.tmod 1024 < 0 → x.tdiv 1024 - 1 = x / 1024) ∧ (¬ x.tmod 1024 < 0 → x.tdiv 1024 = x / 1024) := by
  have e := Int.mul_tdiv_add_tmod x 1024
  have a := Int.lt_tmod_of_pos x (show (0 : Int) < 1024 by omega)
  have b := Int.tmod_lt_of_pos x (show (0 : Int) < 1024 by omega)
  constructor <;> intro <;> omega
end Go.Proofs.Ytnhdhjcpbonfjaa

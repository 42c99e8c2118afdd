/-
  Prediction by a shift, in plain integers and lists. No conditions.
-/
import Derived.Test.YtgnmpkembcdkcaaKit
namespace Go.Proofs.Ytgnmpkembcdkcaa
open Go.RowKit
set_option linter.unusedVariables false

def shS (b : Int) : Int := if b = 8 then 4 else if b = 16 ∨ b = 24 then 5 else 0
def shE (b : Int) : Int := if b = 8 then 0 else if b = 16 ∨ b = 24 then 0 else 2
def chE (b : Int) (n : Nat) : Int := if shE b = 0 then (if n ≤ 4000 then 0 else 4) else 2
def gF (s x : Int) : Int := if s = 4 then 15 * x / 16 else 31 * x / 32

theorem shS_of {b : Int} (h : shE b = 0) : shS b = 4 ∨ shS b = 5 := by
  unfold shE at h; unfold shS; split at h
  · simp [*]
  · split at h
    · simp [*]
    · omega
theorem shS_bad {b : Int} (h : shE b ≠ 0) : shS b = 0 := by
  unfold shE at h; unfold shS; split at h
  · omega
  · split at h
    · omega
    · simp [*]
theorem shE_cases (b : Int) : shE b = 0 ∨ shE b = 2 := by
  unfold shE; split
  · simp
  · split <;> simp
theorem chE_ok {b : Int} {n : Nat} (h : shE b = 0) (hn : n ≤ 4000) : chE b n = 0 := by unfold chE; rw [if_pos h, if_pos hn]
theorem chE_many {b : Int} {n : Nat} (h : shE b = 0) (hn : 4000 < n) : chE b n = 4 := by unfold chE; rw [if_pos h, if_neg (by omega)]
theorem chE_bad {b : Int} {n : Nat} (h : shE b ≠ 0) : chE b n = 2 := by unfold chE; rw [if_neg h]
theorem chE_zero {b : Int} {n : Nat} (h : chE b n = 0) : shE b = 0 ∧ n ≤ 4000 := by
  unfold chE at h; split at h
  · split at h
    · exact ⟨by assumption, by assumption⟩
    · omega
  · omega
theorem chE_bd (b : Int) (n : Nat) : 0 ≤ chE b n ∧ chE b n ≤ 4 := by
  unfold chE; split
  · split <;> omega
  · omega

theorem gF_bd (s x : Int) (h0 : -2147483648 ≤ x) (h1 : x ≤ 2147483647) : -2147483648 ≤ gF s x ∧ gF s x ≤ 2147483647 := by
  unfold gF; split <;> omega

def fwd (s : Int) : Int → List Int → List Int
  | _, [] => []
  | d, x :: l => wrap32 (x - gF s d) :: fwd s x l
def bck (s : Int) : Int → List Int → List Int
  | _, [] => []
  | d, y :: l => wrap32 (y + gF s d) :: bck s (wrap32 (y + gF s d)) l
def lastI (d : Int) (l : List Int) : Int := l.getLast?.getD d

theorem lastI_nil (d : Int) : lastI d [] = d := rfl
theorem lastI_snoc (d x : Int) (l : List Int) : lastI d (l ++ [x]) = x := by simp [lastI]
theorem lastI_cons (d x : Int) (l : List Int) : lastI d (x :: l) = lastI x l := by
  cases l with
  | nil => rfl
  | cons y l => simp [lastI, List.getLast?_cons]
theorem lastI_bd {l : List Int} (h : I32 l) : -2147483648 ≤ lastI 0 l ∧ lastI 0 l ≤ 2147483647 := by
  unfold lastI
  cases e : l.getLast? with
  | none => simp
  | some x => exact h x (List.mem_of_getLast? e)

theorem fwd_len (s : Int) : ∀ (d : Int) (l : List Int), (fwd s d l).length = l.length
  | _, [] => rfl
  | _, x :: l => by simp [fwd, fwd_len s x l]
theorem bck_len (s : Int) : ∀ (d : Int) (l : List Int), (bck s d l).length = l.length
  | _, [] => rfl
  | d, y :: l => by simp [bck, bck_len s _ l]
theorem fwd_snoc (s : Int) : ∀ (d : Int) (l : List Int) (x : Int), fwd s d (l ++ [x]) = fwd s d l ++ [wrap32 (x - gF s (lastI d l))]
  | d, [], x => rfl
  | d, y :: l, x => by
    rw [lastI_cons]
    simp [fwd, fwd_snoc s y l x]
theorem bck_snoc (s : Int) : ∀ (d : Int) (l : List Int) (y : Int), bck s d (l ++ [y]) = bck s d l ++ [wrap32 (y + gF s (lastI d (bck s d l)))]
  | d, [], y => rfl
  | d, z :: l, y => by
    have h : bck s d (z :: l) = wrap32 (z + gF s d) :: bck s (wrap32 (z + gF s d)) l := rfl
    rw [h, lastI_cons]
    simp [bck, bck_snoc s _ l y]
theorem wrap32_bd (x : Int) : -2147483648 ≤ wrap32 x ∧ wrap32 x ≤ 2147483647 := by unfold wrap32; omega
theorem fwd_i32 (s : Int) : ∀ (d : Int) (l : List Int), I32 (fwd s d l)
  | _, [] => fun x hx => by cases hx
  | d, x :: l => fun y hy => by
    rcases List.mem_cons.1 hy with rfl | hy
    · exact wrap32_bd _
    · exact fwd_i32 s x l y hy
theorem bck_i32 (s : Int) : ∀ (d : Int) (l : List Int), I32 (bck s d l)
  | _, [] => fun x hx => by cases hx
  | d, x :: l => fun y hy => by
    rcases List.mem_cons.1 hy with rfl | hy
    · exact wrap32_bd _
    · exact bck_i32 s _ l y hy
theorem fwd_take (s : Int) : ∀ (d : Int) (l : List Int) (n : Nat), fwd s d (l.take n) = (fwd s d l).take n
  | _, _, 0 => by simp [fwd]
  | _, [], n + 1 => by simp [fwd]
  | d, x :: l, n + 1 => by simp [fwd, fwd_take s x l n]
theorem bck_take (s : Int) : ∀ (d : Int) (l : List Int) (n : Nat), bck s d (l.take n) = (bck s d l).take n
  | _, _, 0 => by simp [bck]
  | _, [], n + 1 => by simp [bck]
  | d, x :: l, n + 1 => by simp [bck, bck_take s _ l n]
theorem wrap_back {x g : Int} (h : -2147483648 ≤ x ∧ x ≤ 2147483647) : wrap32 (wrap32 (x - g) + g) = x := by unfold wrap32; omega
theorem wrap_forth {x g : Int} (h : -2147483648 ≤ x ∧ x ≤ 2147483647) : wrap32 (wrap32 (x + g) - g) = x := by unfold wrap32; omega
theorem bck_fwd (s : Int) : ∀ (d : Int) (l : List Int), I32 l → bck s d (fwd s d l) = l
  | _, [], _ => rfl
  | d, x :: l, h => by
    have e : wrap32 (wrap32 (x - gF s d) + gF s d) = x := wrap_back (h x (by simp))
    have ih := bck_fwd s x l (fun y hy => h y (by simp [hy]))
    simp only [fwd, bck, e, ih]
theorem fwd_bck (s : Int) : ∀ (d : Int) (l : List Int), I32 l → fwd s d (bck s d l) = l
  | _, [], _ => rfl
  | d, x :: l, h => by
    have e : wrap32 (wrap32 (x + gF s d) - gF s d) = x := wrap_forth (h x (by simp))
    have ih := fwd_bck s (wrap32 (x + gF s d)) l (fun y hy => h y (by simp [hy]))
    simp only [fwd, bck, e, ih]
theorem i32_take {l : List Int} (h : I32 l) (n : Nat) : I32 (l.take n) := fun x hx => h x (List.mem_of_mem_take hx)
theorem i32_drop {l : List Int} (h : I32 l) (n : Nat) : I32 (l.drop n) := fun x hx => h x (List.mem_of_mem_drop hx)
theorem i32_zeros (n : Nat) : I32 (List.replicate n 0) := fun x hx => by have := List.eq_of_mem_replicate hx; omega

theorem gF_zero (s : Int) : gF s 0 = 0 := by unfold gF; split <;> rfl
theorem lastI_take (xs : List Int) (k : Nat) (h0 : 0 < k) (h : k ≤ xs.length) : lastI 0 (xs.take k) = xs.getD (k - 1) 0 := by
  obtain ⟨j, rfl⟩ : ∃ j, k = j + 1 := ⟨k - 1, by omega⟩
  rw [take_snoc xs j (by omega), lastI_snoc, Nat.add_sub_cancel]
theorem lastI_getD (xs : List Int) (k : Nat) (hk : xs.length = k) (h0 : 0 < k) : lastI 0 xs = xs.getD (k - 1) 0 := by
  have := lastI_take xs k h0 (by omega)
  rwa [List.take_of_length_le (by omega)] at this
def fwdR (b : Int) (xs : List Int) : List Int := if chE b xs.length = 0 then fwd (shS b) 0 xs else []
def bckR (b : Int) (xs : List Int) : List Int := if chE b xs.length = 0 then bck (shS b) 0 xs else []
theorem fwdR_ok {b : Int} {xs : List Int} (h : chE b xs.length = 0) : fwdR b xs = fwd (shS b) 0 xs := if_pos h
theorem fwdR_bad {b : Int} {xs : List Int} (h : chE b xs.length ≠ 0) : fwdR b xs = [] := if_neg h
theorem bckR_ok {b : Int} {xs : List Int} (h : chE b xs.length = 0) : bckR b xs = bck (shS b) 0 xs := if_pos h
theorem bckR_bad {b : Int} {xs : List Int} (h : chE b xs.length ≠ 0) : bckR b xs = [] := if_neg h
theorem fwdR_len (b : Int) (xs : List Int) : (fwdR b xs).length ≤ 4000 := by
  by_cases h : chE b xs.length = 0
  · rw [fwdR_ok h, fwd_len]; exact (chE_zero h).2
  · rw [fwdR_bad h]; simp
theorem bckR_len (b : Int) (xs : List Int) : (bckR b xs).length ≤ 4000 := by
  by_cases h : chE b xs.length = 0
  · rw [bckR_ok h, bck_len]; exact (chE_zero h).2
  · rw [bckR_bad h]; simp
end Go.Proofs.Ytgnmpkembcdkcaa

/-
  What strings.HasPrefix of the four letters computes. Conditions: at most four bytes are asked for.
-/
import Derived.Test.YtgfibgnolmogkaaDoorHdWrite
import Derived.Lib.Strings
namespace Go.Proofs.YtgfibgnolmogkaaDoor
open Go.RowKit
set_option linter.unusedVariables false

/-- do bytes begin as the four letters do -/
def pfx (b : List Int) : Bool := decide (b.take 4 = [84, 84, 65, 49].take b.length)

theorem tta_extract (m : Nat) (h : m ≤ 4) : (⟨#[84, 84, 65, 49]⟩ : ByteArray).extract 0 m = strOfNums (([84, 84, 65, 49] : List Int).take m) := by
  obtain rfl | rfl | rfl | rfl | rfl : m = 0 ∨ m = 1 ∨ m = 2 ∨ m = 3 ∨ m = 4 := by omega
  all_goals decide +kernel

theorem pfx_cmp (b : List Int) (hb : U8 b) : (((⟨#[84, 84, 65, 49]⟩ : ByteArray).extract 0 (b.take 4).length).toList == (strOfNums (b.take 4)).toList) = pfx b ∧
    ((strOfNums (b.take 4)).toList == ((⟨#[84, 84, 65, 49]⟩ : ByteArray).extract 0 (b.take 4).length).toList) = pfx b := by
  have hl : (b.take 4).length ≤ 4 := by rw [List.length_take]; omega
  have ht : ([84, 84, 65, 49] : List Int).take (b.take 4).length = [84, 84, 65, 49].take b.length := by
    rw [List.length_take]
    rcases Nat.lt_or_ge b.length 4 with h | h
    · rw [Nat.min_eq_right (by omega)]
    · rw [Nat.min_eq_left h, List.take_of_length_le (i := b.length) (show ([84, 84, 65, 49] : List Int).length ≤ b.length from h)]; rfl
  rw [tta_extract _ hl, ht, Lib.toList_data, Lib.toList_data]
  have hu : U8 (([84, 84, 65, 49] : List Int).take b.length) := fun x hx => (show U8 [84, 84, 65, 49] by unfold U8; decide) x (List.mem_of_mem_take hx)
  have hu2 : U8 (b.take 4) := fun x hx => hb x (List.mem_of_mem_take hx)
  by_cases h : b.take 4 = [84, 84, 65, 49].take b.length
  · have : pfx b = true := decide_eq_true h
    rw [this, h]
    simp
  · have h1 : pfx b = false := decide_eq_false h
    rw [h1]
    have key : ∀ xs ys : List Int, U8 xs → U8 ys → xs ≠ ys → ((strOfNums xs).data.toList == (strOfNums ys).data.toList) = false := fun xs ys hx hy hne => by
      rw [Bool.eq_false_iff]
      intro he
      apply hne
      apply str_inj hx hy
      have := eq_of_beq he
      cases h1 : strOfNums xs
      cases h2 : strOfNums ys
      rw [h1, h2] at this
      congr
      exact Array.ext' this
    exact ⟨key _ _ hu hu2 (fun e => h e.symm), key _ _ hu2 hu h⟩

set_option maxRecDepth 100000 in
set_option maxHeartbeats 1000000 in
theorem slHasPrefix (p : ByteArray) (w : World) (hp : p.size ≤ 4) :
    Calls Tryd.prog 48 #[.string ⟨#[84, 84, 65, 49]⟩, .string p] w fun e w' => e = .returned (.bool (((⟨#[84, 84, 65, 49]⟩ : ByteArray).extract 0 p.size).toList == p.toList)) ∧ w = w' := by
  go_enter Tryd.func48, Tryd.ntmps48
  go_wp2_with fail
  go_ret
  exact ⟨rfl, rfl⟩

set_option maxRecDepth 100000 in
set_option maxHeartbeats 1000000 in
theorem hasPrefix (b : List Int) (w : World) (hb : U8 b) :
    Calls Tryd.prog 31 #[.string ⟨#[84, 84, 65, 49]⟩, .string (strOfNums (b.take 4))] w fun e w' => e = .returned (.bool (pfx b)) ∧ w = w' := by
  have hs := strOfNums_size (b.take 4)
  have H := slHasPrefix (strOfNums (b.take 4)) w (by rw [hs, List.length_take]; omega)
  rw [hs, (pfx_cmp b hb).1] at H
  have HH := Lib.hid H
  clear H hs
  generalize strOfNums (b.take 4) = s at *
  go_enter Tryd.func31, Tryd.ntmps31
  go_wp2_with fail
  refine HH.out.mono ?_
  rintro e w' ⟨rfl, rfl⟩
  go_wp2_with fail
  go_ret
  exact ⟨rfl, rfl⟩
end Go.Proofs.YtgfibgnolmogkaaDoor

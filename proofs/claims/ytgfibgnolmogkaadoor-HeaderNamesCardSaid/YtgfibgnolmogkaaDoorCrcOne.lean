/-
  A byte that is another one changes the sum, and the number of four bytes. No conditions but that bytes are bytes.
-/
import Derived.Test.YtgfibgnolmogkaaDoorLe
import Derived.Test.YtgfibgnolmogkaaDoorCrcA
namespace Go.Proofs.YtgfibgnolmogkaaDoor
set_option linter.unusedVariables false

theorem xor_zero_eq {a b : Nat} (h : a ^^^ b = 0) : a = b := by
  have : (a ^^^ b) ^^^ b = b := by rw [h, Nat.zero_xor]
  rwa [Nat.xor_assoc, Nat.xor_self, Nat.xor_zero] at this
theorem crcN_inj {n a b : Nat} (ha : a < 4294967296) (hb : b < 4294967296) (h : crcN n a = crcN n b) : a = b := by
  apply xor_zero_eq
  have hx : a ^^^ b < 2 ^ 32 := Nat.xor_lt_two_pow (by omega) (by omega)
  refine crcN_zero (n := n) (by omega) ?_
  rw [crcN_xor, h, Nat.xor_self]
theorem xor_byte_lt {s c : Nat} (hs : s < 4294967296) (hc : c < 256) : s ^^^ c < 4294967296 := by
  have := Nat.xor_lt_two_pow (n := 32) (x := s) (y := c) (by omega) (by omega)
  omega
theorem crcByte_inj {s t c : Nat} (hs : s < 4294967296) (ht : t < 4294967296) (hc : c < 256) (h : crcByte s c = crcByte t c) : s = t := by
  have := crcN_inj (xor_byte_lt hs hc) (xor_byte_lt ht hc) h
  have e : (s ^^^ c) ^^^ c = (t ^^^ c) ^^^ c := by rw [this]
  rwa [Nat.xor_assoc, Nat.xor_assoc, Nat.xor_self, Nat.xor_zero, Nat.xor_zero] at e
theorem crcByte_inj2 {s c d : Nat} (hs : s < 4294967296) (hc : c < 256) (hd : d < 256) (h : crcByte s c = crcByte s d) : c = d := by
  have := crcN_inj (xor_byte_lt hs hc) (xor_byte_lt hs hd) h
  have e : s ^^^ (s ^^^ c) = s ^^^ (s ^^^ d) := by rw [this]
  rwa [← Nat.xor_assoc, ← Nat.xor_assoc, Nat.xor_self, Nat.zero_xor, Nat.zero_xor] at e
theorem crcL_inj {l : List Int} (h : U8 l) {s t : Nat} (hs : s < 4294967296) (ht : t < 4294967296) (he : crcL s l = crcL t l) : s = t := by
  induction l generalizing s t with
  | nil => exact he
  | cons x r ih =>
    have hx := h x (by simp)
    have hr : U8 r := fun y hy => h y (by simp [hy])
    exact crcByte_inj hs ht (by omega) (ih hr (crcByte_lt hs (by omega)) (crcByte_lt ht (by omega)) he)
theorem crcL_set {l : List Int} (h : U8 l) {s : Nat} (hs : s < 4294967296) {i : Nat} (hi : i < l.length) {y : Int} (hy : 0 ≤ y ∧ y ≤ 255) (hne : y ≠ l.getD i 0) : crcL s (l.set i y) ≠ crcL s l := by
  induction l generalizing s i with
  | nil => simp at hi
  | cons x r ih =>
    have hx := h x (by simp)
    have hr : U8 r := fun z hz => h z (by simp [hz])
    cases i with
    | zero =>
      intro he
      rw [List.set_cons_zero, crcL_cons, crcL_cons] at he
      have e1 := crcL_inj hr (crcByte_lt hs (by omega)) (crcByte_lt hs (by omega)) he
      have e2 := crcByte_inj2 hs (by omega) (by omega) e1
      apply hne
      simp only [List.getD_cons_zero]
      omega
    | succ i =>
      rw [List.set_cons_succ, crcL_cons, crcL_cons]
      exact ih hr (crcByte_lt hs (by omega)) (by simpa using hi) (by simpa using hne)
theorem u8_set {l : List Int} (h : U8 l) (i : Nat) {y : Int} (hy : 0 ≤ y ∧ y ≤ 255) : U8 (l.set i y) := fun x hx => by
  rcases List.mem_or_eq_of_mem_set hx with h1 | h1
  · exact h x h1
  · rw [h1]; exact hy
theorem sumL_set {l : List Int} (h : U8 l) {i : Nat} (hi : i < l.length) {y : Int} (hy : 0 ≤ y ∧ y ≤ 255) (hne : y ≠ l.getD i 0) : sumL (l.set i y) ≠ sumL l := by
  have h1 := crcL_set h (s := 4294967295) (by decide) hi hy hne
  have h2 := crcL_lt (s := 4294967295) (by decide) (u8_set h i hy)
  have h3 := crcL_lt (s := 4294967295) (by decide) h
  unfold sumL; omega

theorem getD_app (a b : List Int) (i : Nat) : (a ++ b).getD (a.length + i) 0 = b.getD i 0 := by
  rw [List.getD_eq_getElem?_getD, List.getD_eq_getElem?_getD, List.getElem?_append_right (by omega), Nat.add_sub_cancel_left]
theorem getD_app_l (a b : List Int) (i : Nat) (h : i < a.length) : (a ++ b).getD i 0 = a.getD i 0 := by
  rw [List.getD_eq_getElem?_getD, List.getD_eq_getElem?_getD, List.getElem?_append_left h]
theorem getD_set (l : List Int) (i j : Nat) (y : Int) (h : i < l.length) : (l.set i y).getD j 0 = if i = j then y else l.getD j 0 := by
  rw [List.getD_eq_getElem?_getD, List.getD_eq_getElem?_getD]
  split
  · rename_i e; subst e; rw [List.getElem?_set_self h]; rfl
  · rename_i e; rw [List.getElem?_set_ne e]
theorem va4_app (a b : List Int) (i : Nat) : va4 (a ++ b) (a.length + i) = va4 b i := by
  unfold va4
  rw [getD_app, Nat.add_assoc, getD_app, Nat.add_assoc, getD_app, Nat.add_assoc, getD_app]
theorem va4_app_l (a b : List Int) (i : Nat) (h : i + 4 ≤ a.length) : va4 (a ++ b) i = va4 a i := by
  unfold va4
  rw [getD_app_l _ _ _ (by omega), getD_app_l _ _ _ (by omega), getD_app_l _ _ _ (by omega), getD_app_l _ _ _ (by omega)]
/-- a number of four bytes, one of which is another one -/
theorem va4_set {l : List Int} (h : U8 l) {i j : Nat} (hi : i < l.length) (h1 : j ≤ i) (h2 : i < j + 4) {y : Int} (hy : 0 ≤ y ∧ y ≤ 255) (hne : y ≠ l.getD i 0) (hj : j + 4 ≤ l.length) : va4 (l.set i y) j ≠ va4 l j := by
  have b0 := h _ (mem_getD (show j < l.length by omega))
  have b1 := h _ (mem_getD (show j + 1 < l.length by omega))
  have b2 := h _ (mem_getD (show j + 2 < l.length by omega))
  have b3 := h _ (mem_getD (show j + 3 < l.length by omega))
  unfold va4
  rw [getD_set _ _ _ _ hi, getD_set _ _ _ _ hi, getD_set _ _ _ _ hi, getD_set _ _ _ _ hi]
  obtain rfl | rfl | rfl | rfl : i = j ∨ i = j + 1 ∨ i = j + 2 ∨ i = j + 3 := by omega
  · rw [if_pos rfl, if_neg (by omega), if_neg (by omega), if_neg (by omega)]; omega
  · rw [if_neg (by omega), if_pos rfl, if_neg (by omega), if_neg (by omega)]; omega
  · rw [if_neg (by omega), if_neg (by omega), if_pos rfl, if_neg (by omega)]; omega
  · rw [if_neg (by omega), if_neg (by omega), if_neg (by omega), if_pos rfl]; omega
theorem va4_set_far (l : List Int) {i j : Nat} (hi : i < l.length) (h1 : i < j ∨ j + 4 ≤ i) (y : Int) : va4 (l.set i y) j = va4 l j := by
  unfold va4
  rw [getD_set _ _ _ _ hi, getD_set _ _ _ _ hi, getD_set _ _ _ _ hi, getD_set _ _ _ _ hi, if_neg (by omega), if_neg (by omega), if_neg (by omega), if_neg (by omega)]
/-- the exclusive or of bytes -/
theorem xor8_bd {x y : Int} (hx : 0 ≤ x ∧ x ≤ 255) (hy : 0 ≤ y ∧ y ≤ 255) (h0 : y ≠ 0) : 0 ≤ bits .xor .u8 x y ∧ bits .xor .u8 x y ≤ 255 ∧ bits .xor .u8 x y ≠ x := by
  rw [u8_xor x y (by omega) (by omega) (by omega) (by omega)]
  have h1 := Nat.xor_lt_two_pow (n := 8) (x := x.toNat) (y := y.toNat) (by omega) (by omega)
  refine ⟨by omega, by omega, fun h => h0 ?_⟩
  have h2 : x.toNat ^^^ y.toNat = x.toNat := by omega
  have h3 : x.toNat ^^^ (x.toNat ^^^ y.toNat) = x.toNat ^^^ x.toNat := by rw [h2]
  rw [← Nat.xor_assoc, Nat.xor_self, Nat.zero_xor] at h3
  omega
end Go.Proofs.YtgfibgnolmogkaaDoor

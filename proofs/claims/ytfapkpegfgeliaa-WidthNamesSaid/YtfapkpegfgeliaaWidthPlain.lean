/-
  Samples as bytes, in plain integers and lists. No conditions.
-/
import Derived.Test.YtfapkpegfgeliaaKit
namespace Go.Proofs.Ytfapkpegfgeliaa
open Go.RowKit
set_option linter.unusedVariables false

def wdH (b : Int) : Int := if b = 8 then 128 else if b = 16 then 32768 else if b = 24 then 8388608 else 0
def wdE (b : Int) : Int := if wdH b = 0 then 2 else 0
def wdHi (b : Int) : Int := if wdH b = 0 then 0 else wdH b - 1
def inR (h : Int) (xs : List Int) : Prop := ∀ x ∈ xs, -h ≤ x ∧ x < h
instance (h : Int) (xs : List Int) : Decidable (inR h xs) := by unfold inR; infer_instance
def ckE (b : Int) (xs : List Int) : Int := if wdH b = 0 then 2 else if 4000 < xs.length then 4 else if inR (wdH b) xs then 0 else 16
def oneB (b x : Int) : List Int := if b = 8 then [(x + 128) % 256] else if b = 16 then [x % 256, x / 256 % 256] else [x % 256, x / 256 % 256, x / 65536 % 256]
def byL (b : Int) (xs : List Int) : List Int := xs.flatMap (oneB b)
def nB (b : Int) : Nat := if b = 8 then 1 else if b = 16 then 2 else 3
def sgH (h v : Int) : Int := if h ≤ v then v - 2 * h else v
def sampAt (b : Int) (l : List Int) (p : Nat) : Int :=
  if b = 8 then l.getD p 0 - 128
  else if b = 16 then sgH 32768 (l.getD p 0 + 256 * l.getD (p + 1) 0)
  else sgH 8388608 (l.getD p 0 + 256 * l.getD (p + 1) 0 + 65536 * l.getD (p + 2) 0)
def sampTo (b : Int) (l : List Int) (k : Nat) : List Int := (List.range k).map fun j => sampAt b l (nB b * j)
def saE (b : Int) (n : Nat) : Int := if wdH b = 0 then 2 else if n % nB b ≠ 0 then 12 else if 4000 < n / nB b then 4 else 0
def saL (b : Int) (l : List Int) : List Int := if saE b l.length = 0 then sampTo b l (l.length / nB b) else []
def byR (b : Int) (xs : List Int) : List Int := if ckE b xs = 0 then byL b xs else []

theorem ok_cases {b : Int} (h : wdH b ≠ 0) : b = 8 ∨ b = 16 ∨ b = 24 := by
  unfold wdH at h
  by_cases h8 : b = 8
  · exact .inl h8
  · by_cases h16 : b = 16
    · exact .inr (.inl h16)
    · by_cases h24 : b = 24
      · exact .inr (.inr h24)
      · simp [h8, h16, h24] at h
theorem bad_ne {b : Int} (h : wdH b = 0) : b ≠ 8 ∧ b ≠ 16 ∧ b ≠ 24 := by
  refine ⟨?_, ?_, ?_⟩ <;> (intro e; subst e; exact absurd h (by decide))
theorem oneB_len {b x : Int} (h : wdH b ≠ 0) : (oneB b x).length = nB b := by
  rcases ok_cases h with rfl | rfl | rfl <;> rfl
theorem oneB_u8 (b x : Int) : U8 (oneB b x) := by
  unfold oneB
  intro y hy
  split at hy
  · simp at hy; omega
  · split at hy
    · simp at hy; omega
    · simp at hy; omega
theorem byL_u8 (b : Int) (xs : List Int) : U8 (byL b xs) := by
  intro y hy
  obtain ⟨x, _, hx⟩ := List.mem_flatMap.1 hy
  exact oneB_u8 b x y hx
theorem byL_len {b : Int} (h : wdH b ≠ 0) (xs : List Int) : (byL b xs).length = nB b * xs.length := by
  induction xs with
  | nil => rfl
  | cons x l ih =>
    show ((oneB b x) ++ byL b l).length = _
    rw [List.length_append, oneB_len h, ih, List.length_cons, Nat.mul_succ, Nat.add_comm]
theorem byL_snoc (b : Int) (l : List Int) (x : Int) : byL b (l ++ [x]) = byL b l ++ oneB b x := by simp [byL]
theorem byL_append (b : Int) (l m : List Int) : byL b (l ++ m) = byL b l ++ byL b m := by simp [byL]
theorem sampTo_succ (b : Int) (l : List Int) (k : Nat) : sampTo b l (k + 1) = sampTo b l k ++ [sampAt b l (nB b * k)] := by
  simp [sampTo, List.range_succ]
theorem sampTo_len (b : Int) (l : List Int) (k : Nat) : (sampTo b l k).length = k := by simp [sampTo]
theorem nB_pos (b : Int) : 0 < nB b := by
  unfold nB; split
  · decide
  · split <;> decide
theorem sampAt_bd {b : Int} (h : wdH b ≠ 0) {l : List Int} (hl : U8 l) (p : Nat) (hp : p + nB b ≤ l.length) : -wdH b ≤ sampAt b l p ∧ sampAt b l p < wdH b := by
  have g : ∀ i, i < l.length → 0 ≤ l.getD i 0 ∧ l.getD i 0 ≤ 255 := fun i hi => hl _ (mem_getD hi)
  rcases ok_cases h with rfl | rfl | rfl
  · have h1 := g p (by simp [nB] at hp; omega)
    simp only [sampAt, wdH, if_true]; omega
  · have h1 := g p (by simp [nB] at hp; omega)
    have h2 := g (p + 1) (by simp [nB] at hp; omega)
    simp only [sampAt, wdH, sgH]
    generalize l.getD p 0 = x0 at *
    generalize l.getD (p + 1) 0 = x1 at *
    simp
    split <;> omega
  · have h1 := g p (by simp [nB] at hp; omega)
    have h2 := g (p + 1) (by simp [nB] at hp; omega)
    have h3 := g (p + 2) (by simp [nB] at hp; omega)
    simp only [sampAt, wdH, sgH]
    generalize l.getD p 0 = x0 at *
    generalize l.getD (p + 1) 0 = x1 at *
    generalize l.getD (p + 2) 0 = x2 at *
    simp
    split <;> omega
theorem sampTo_in {b : Int} (h : wdH b ≠ 0) {l : List Int} (hl : U8 l) (k : Nat) (hk : nB b * k ≤ l.length) : inR (wdH b) (sampTo b l k) := by
  intro x hx
  simp only [sampTo, List.mem_map, List.mem_range] at hx
  obtain ⟨j, hj, rfl⟩ := hx
  refine sampAt_bd h hl _ ?_
  have : nB b * (j + 1) ≤ nB b * k := Nat.mul_le_mul_left _ (by omega)
  rw [Nat.mul_succ] at this
  omega
/-- the bytes of a sample that was read -/
theorem oneB_sampAt {b : Int} (h : wdH b ≠ 0) {l : List Int} (hl : U8 l) (p : Nat) (hp : p + nB b ≤ l.length) : oneB b (sampAt b l p) = (l.drop p).take (nB b) := by
  have g : ∀ i, i < l.length → 0 ≤ l.getD i 0 ∧ l.getD i 0 ≤ 255 := fun i hi => hl _ (mem_getD hi)
  have dr : ∀ i, i < l.length → l.drop i = l.getD i 0 :: l.drop (i + 1) := fun i hi => by
    rw [List.drop_eq_getElem_cons hi, List.getD_eq_getElem?_getD, List.getElem?_eq_getElem hi]; rfl
  rcases ok_cases h with rfl | rfl | rfl
  · simp [nB] at hp
    have h1 := g p (by omega)
    rw [dr p (by omega)]
    simp only [oneB, sampAt, nB, if_true]
    generalize l.getD p 0 = x0 at *
    simp
    omega
  · simp [nB] at hp
    have h1 := g p (by omega)
    have h2 := g (p + 1) (by omega)
    rw [dr p (by omega), dr (p + 1) (by omega)]
    simp only [oneB, sampAt, nB, sgH]
    generalize l.getD p 0 = x0 at *
    generalize l.getD (p + 1) 0 = x1 at *
    simp
    split <;> omega
  · simp [nB] at hp
    have h1 := g p (by omega)
    have h2 := g (p + 1) (by omega)
    have h3 := g (p + 2) (by omega)
    rw [dr p (by omega), dr (p + 1) (by omega), dr (p + 1 + 1) (by omega)]
    simp only [oneB, sampAt, nB, sgH]
    rw [show p + 1 + 1 = p + 2 from rfl]
    generalize l.getD p 0 = x0 at *
    generalize l.getD (p + 1) 0 = x1 at *
    generalize l.getD (p + 2) 0 = x2 at *
    simp
    split <;> omega
theorem byL_sampTo {b : Int} (h : wdH b ≠ 0) {l : List Int} (hl : U8 l) : ∀ k, nB b * k ≤ l.length → byL b (sampTo b l k) = l.take (nB b * k)
  | 0, _ => by simp [sampTo, byL]
  | k + 1, hk => by
    have hk' : nB b * k + nB b ≤ l.length := by rw [Nat.mul_succ] at hk; exact hk
    rw [sampTo_succ, byL_snoc, byL_sampTo h hl k (by omega), oneB_sampAt h hl _ hk', Nat.mul_succ, List.take_add]
theorem sampAt_byL {b : Int} (h : wdH b ≠ 0) {x : Int} (hx : -wdH b ≤ x ∧ x < wdH b) (pre post : List Int) (p : Nat) (hp : pre.length = p) : sampAt b (pre ++ oneB b x ++ post) p = x := by
  subst hp
  have gd : ∀ i, (pre ++ oneB b x ++ post).getD (pre.length + i) 0 = (oneB b x ++ post).getD i 0 := fun i => by
    rw [List.append_assoc, List.getD_eq_getElem?_getD, List.getElem?_append_right (by omega), Nat.add_sub_cancel_left, ← List.getD_eq_getElem?_getD]
  have g0 := gd 0
  rw [Nat.add_zero] at g0
  rcases ok_cases h with rfl | rfl | rfl
  · simp only [sampAt, if_true, g0]
    simp [oneB, wdH] at hx ⊢
    omega
  · simp only [sampAt, g0, gd]
    simp [oneB, wdH, sgH] at hx ⊢
    split <;> omega
  · simp only [sampAt, g0, gd]
    simp [oneB, wdH, sgH] at hx ⊢
    split <;> omega
theorem sampTo_byL {b : Int} (h : wdH b ≠ 0) {xs : List Int} (hx : inR (wdH b) xs) : sampTo b (byL b xs) xs.length = xs := by
  have key : ∀ k, k ≤ xs.length → sampTo b (byL b xs) k = xs.take k := by
    intro k
    induction k with
    | zero => intro _; simp [sampTo]
    | succ k ih =>
      intro hk
      rw [sampTo_succ, ih (by omega), take_snoc xs k (by omega)]
      congr 1
      have e : byL b xs = byL b (xs.take k) ++ oneB b (xs.getD k 0) ++ byL b (xs.drop (k + 1)) := by
        rw [← byL_snoc, ← take_snoc xs k (by omega), ← byL_append, List.take_append_drop]
      rw [e]
      congr 1
      refine sampAt_byL h (hx _ (mem_getD (by omega))) _ _ _ ?_
      rw [byL_len h, List.length_take]
      congr 1
      omega
  have := key xs.length (Nat.le_refl _)
  rwa [List.take_of_length_le (Nat.le_refl _)] at this
theorem inR_i32 {b : Int} {xs : List Int} (h : inR (wdH b) xs) : I32 xs := fun x hx => by
  have := h x hx
  have hb : wdH b ≤ 8388608 := by
    unfold wdH; split
    · omega
    · split
      · omega
      · split <;> omega
  omega
end Go.Proofs.Ytfapkpegfgeliaa

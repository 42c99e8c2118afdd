/-
  Plain numbers and lists: seek tables. No conditions.
-/
import Derived.Test.YtdhiiknjdkmjjaaLe
import Derived.Test.YtdhiiknjdkmjjaaCrcPlain
namespace Go.Proofs.Ytdhiiknjdkmjjaa
set_option linter.unusedVariables false

def sumI (l : List Int) : Int := l.foldl (· + ·) 0
theorem foldl_add (l : List Int) (a : Int) : l.foldl (· + ·) a = a + sumI l := by
  unfold sumI
  induction l generalizing a with
  | nil => simp
  | cons x r ih => simp only [List.foldl_cons]; rw [ih (a + x), ih (0 + x)]; omega
theorem sumI_nil : sumI [] = 0 := rfl
theorem sumI_cons (x : Int) (r : List Int) : sumI (x :: r) = x + sumI r := by
  unfold sumI; rw [List.foldl_cons, foldl_add, foldl_add]; simp [sumI]
theorem sumI_append (a b : List Int) : sumI (a ++ b) = sumI a + sumI b := by
  induction a with
  | nil => simp [sumI_nil]
  | cons x r ih => rw [List.cons_append, sumI_cons, sumI_cons, ih]; omega
theorem sumI_snoc (a : List Int) (x : Int) : sumI (a ++ [x]) = sumI a + x := by rw [sumI_append, sumI_cons, sumI_nil]; omega
theorem sumI_ge {l : List Int} {m : Int} (h : ∀ x ∈ l, m ≤ x) : m * l.length ≤ sumI l := by
  induction l with
  | nil => simp [sumI_nil]
  | cons x r ih =>
    have h1 := h x (by simp)
    have h2 := ih (fun y hy => h y (by simp [hy]))
    rw [sumI_cons, List.length_cons, Int.natCast_add, Int.mul_add]; omega

/-- the error of a table -/
def skOk (l : List Int) : Bool := decide (1 ≤ l.length) && decide (l.length ≤ 1000) && l.all (fun x => decide (5 ≤ x)) && decide (sumI l ≤ 100000)
def skE (l : List Int) : Int := if skOk l = true then 0 else 8
theorem skE_ok {l : List Int} (h : skE l = 0) : 1 ≤ l.length ∧ l.length ≤ 1000 ∧ (∀ x ∈ l, 5 ≤ x) ∧ sumI l ≤ 100000 := by
  unfold skE at h
  split at h
  · rename_i h1
    simp only [skOk, Bool.and_eq_true, decide_eq_true_eq, List.all_eq_true] at h1
    exact ⟨h1.1.1.1, h1.1.1.2, h1.1.2, h1.2⟩
  · omega
theorem skE_mk {l : List Int} (h1 : 1 ≤ l.length) (h2 : l.length ≤ 1000) (h3 : ∀ x ∈ l, 5 ≤ x) (h4 : sumI l ≤ 100000) : skE l = 0 := by
  unfold skE
  rw [if_pos]
  simp only [skOk, Bool.and_eq_true, decide_eq_true_eq, List.all_eq_true]
  exact ⟨⟨⟨h1, h2⟩, h3⟩, h4⟩
theorem skE_bad {l : List Int} (h : skE l ≠ 0) : skE l = 8 := by
  unfold skE at *
  split at h
  · exact absurd rfl h
  · rw [if_neg (by assumption)]
theorem skE_cases (l : List Int) : skE l = 0 ∨ skE l = 8 := by by_cases h : skE l = 0; exact .inl h; exact .inr (skE_bad h)
/-- each part of a table that is valid -/
theorem skE_part {l : List Int} (h : skE l = 0) (k : Nat) (hk : k < l.length) :
    5 ≤ l.getD k 0 ∧ 0 ≤ sumI (l.take k) ∧ sumI (l.take k) + l.getD k 0 ≤ 100000 ∧ sumI (l.take (k + 1)) = sumI (l.take k) + l.getD k 0 := by
  obtain ⟨h1, h2, h3, h4⟩ := skE_ok h
  have a1 := h3 _ (mem_getD hk)
  have a2 := sumI_ge (m := 5) (l := l.take k) (fun x hx => h3 x (List.mem_of_mem_take hx))
  have a3 := sumI_ge (m := 5) (l := l.drop (k + 1)) (fun x hx => h3 x (List.mem_of_mem_drop hx))
  have e1 : sumI (l.take (k + 1)) = sumI (l.take k) + l.getD k 0 := by rw [take_snoc l k hk, sumI_snoc]
  have e2 : sumI l = sumI (l.take (k + 1)) + sumI (l.drop (k + 1)) := by rw [← sumI_append, List.take_append_drop]
  refine ⟨a1, by omega, by omega, e1⟩
theorem skE_small {l : List Int} (k : Nat) (hk : k < l.length) (h : l.getD k 0 < 5) : skE l = 8 := by
  refine skE_bad (fun h0 => ?_)
  have := (skE_ok h0).2.2.1 _ (mem_getD hk)
  omega
theorem skE_great {l : List Int} (k : Nat) (hk : k < l.length) (h : 100000 < sumI (l.take k) + l.getD k 0) : skE l = 8 := by
  refine skE_bad (fun h0 => ?_)
  have := (skE_part h0 k hk).2.2.1
  omega
theorem skE_len {l : List Int} (h : l.length < 1 ∨ 1000 < l.length) : skE l = 8 := by
  refine skE_bad (fun h0 => ?_)
  have := skE_ok h0
  omega

/-- the bytes of numbers, of a table -/
def skB (l : List Int) : List Int := l.flatMap le4
theorem skB_nil : skB [] = [] := rfl
theorem skB_snoc (l : List Int) (x : Int) : skB (l ++ [x]) = skB l ++ le4 x := by simp [skB]
theorem skB_len (l : List Int) : (skB l).length = 4 * l.length := by
  induction l with
  | nil => rfl
  | cons x r ih =>
    have : skB (x :: r) = le4 x ++ skB r := by simp [skB]
    rw [this, List.length_append, ih, List.length_cons]; simp [le4]; omega
theorem le4_u8 (x : Int) : U8 (le4 x) := by
  intro y hy
  simp only [le4, List.mem_cons, List.not_mem_nil, or_false] at hy
  rcases hy with rfl | rfl | rfl | rfl <;> omega
theorem skB_u8 (l : List Int) : U8 (skB l) := by
  intro y hy
  obtain ⟨x, _, hx⟩ := List.mem_flatMap.1 hy
  exact le4_u8 x y hx
theorem u8_append {a b : List Int} (ha : U8 a) (hb : U8 b) : U8 (a ++ b) := fun x hx => by
  rcases List.mem_append.1 hx with h | h
  · exact ha x h
  · exact hb x h
end Go.Proofs.Ytdhiiknjdkmjjaa

/-
  Plain numbers and lists: headers. No conditions.
-/
import Derived.Test.YtgfibgnolmogkaaDoorCrcOne
import Derived.Test.YtgfibgnolmogkaaDoorLenPlain
namespace Go.Proofs.YtgfibgnolmogkaaDoor
set_option linter.unusedVariables false

/-- a header's five numbers: is all but the count right, is there no more than there may be, its error -/
def hdS (f c b r n : Int) : Bool := decide ((b = 8 ∨ b = 16 ∨ b = 24) ∧ (f = 1 ∨ f = 2) ∧ 1 ≤ c ∧ c ≤ 6 ∧ 1 ≤ r ∧ r ≤ 1048576 ∧ 1 ≤ n)
def hdF (c r n : Int) : Bool := decide (n ≤ 4000 / c ∧ cnE r n = 0)
def hdE (f c b r n : Int) : Int := if hdS f c b r n = true ∧ hdF c r n = true then 0 else 8
theorem hdS_ok {f c b r n : Int} (h : hdS f c b r n = true) : (b = 8 ∨ b = 16 ∨ b = 24) ∧ (f = 1 ∨ f = 2) ∧ 1 ≤ c ∧ c ≤ 6 ∧ 1 ≤ r ∧ r ≤ 1048576 ∧ 1 ≤ n := of_decide_eq_true h
theorem hdS_no {f c b r n : Int} (h : hdS f c b r n = false) : ¬ ((b = 8 ∨ b = 16 ∨ b = 24) ∧ (f = 1 ∨ f = 2) ∧ 1 ≤ c ∧ c ≤ 6 ∧ 1 ≤ r ∧ r ≤ 1048576 ∧ 1 ≤ n) := of_decide_eq_false h
theorem hdF_ok {c r n : Int} (h : hdF c r n = true) : n ≤ 4000 / c ∧ cnE r n = 0 := of_decide_eq_true h
theorem hdE_cases (f c b r n : Int) : (hdE f c b r n = 0 ∧ hdS f c b r n = true ∧ hdF c r n = true) ∨ (hdE f c b r n = 8 ∧ hdS f c b r n = true ∧ hdF c r n = false) ∨ (hdE f c b r n = 8 ∧ hdS f c b r n = false) := by
  unfold hdE
  cases hdS f c b r n <;> cases hdF c r n <;> simp
theorem hdE_ok {f c b r n : Int} (h : hdE f c b r n = 0) : (b = 8 ∨ b = 16 ∨ b = 24) ∧ (f = 1 ∨ f = 2) ∧ 1 ≤ c ∧ c ≤ 6 ∧ 1 ≤ r ∧ r ≤ 1048576 ∧ 1 ≤ n ∧ n ≤ 4000 ∧ cnE r n = 0 := by
  rcases hdE_cases f c b r n with ⟨_, h1, h2⟩ | ⟨h1, _⟩ | ⟨h1, _⟩
  · obtain ⟨a1, a2, a3, a4, a5, a6, a7⟩ := hdS_ok h1
    obtain ⟨b1, b2⟩ := hdF_ok h2
    have : (4000 : Int) / c ≤ 4000 := Int.ediv_le_self _ (by decide)
    exact ⟨a1, a2, a3, a4, a5, a6, a7, by omega, b2⟩
  · omega
  · omega

/-- the bytes of a header -/
def hdB (f c b r n : Int) : List Int := [84, 84, 65, 49] ++ le2 f ++ le2 c ++ le2 b ++ le4 r ++ le4 n
def hdW (f c b r n : Int) : List Int := hdB f c b r n ++ le4 ((sumL (hdB f c b r n) : Nat) : Int)
def hdWR (f c b r n : Int) : List Int := if hdE f c b r n = 0 then hdW f c b r n else []
theorem hdB_len (f c b r n : Int) : (hdB f c b r n).length = 18 := rfl
theorem hdW_len (f c b r n : Int) : (hdW f c b r n).length = 22 := rfl
theorem le2_u8 (x : Int) : U8 (le2 x) := by
  intro y hy
  simp only [le2, List.mem_cons, List.not_mem_nil, or_false] at hy
  rcases hy with rfl | rfl <;> omega
theorem le4_u8' (x : Int) : U8 (le4 x) := by
  intro y hy
  simp only [le4, List.mem_cons, List.not_mem_nil, or_false] at hy
  rcases hy with rfl | rfl | rfl | rfl <;> omega
theorem u8_app {a b : List Int} (ha : U8 a) (hb : U8 b) : U8 (a ++ b) := fun x hx => by
  rcases List.mem_append.1 hx with h | h
  · exact ha x h
  · exact hb x h
theorem hdB_u8 (f c b r n : Int) : U8 (hdB f c b r n) := u8_app (u8_app (u8_app (u8_app (u8_app (by unfold U8; decide) (le2_u8 _)) (le2_u8 _)) (le2_u8 _)) (le4_u8' _)) (le4_u8' _)
theorem hdW_u8 (f c b r n : Int) : U8 (hdW f c b r n) := u8_app (hdB_u8 _ _ _ _ _) (le4_u8' _)
theorem hdWR_ok {f c b r n : Int} (h : hdE f c b r n = 0) : hdWR f c b r n = hdW f c b r n := by unfold hdWR; rw [if_pos h]
theorem hdWR_bad {f c b r n : Int} (h : hdE f c b r n ≠ 0) : hdWR f c b r n = [] := by unfold hdWR; rw [if_neg h]
/-- the frames -/
def hdL (f c b r n : Int) : List Int := if hdE f c b r n = 0 then alL (lgV r) n else []
end Go.Proofs.YtgfibgnolmogkaaDoor

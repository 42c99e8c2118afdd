/-
  Plain numbers and lists: how long frames are. No conditions.
-/
import Derived.Test.YtgfibgnolmogkaaDoorKit2
namespace Go.Proofs.YtgfibgnolmogkaaDoor
set_option linter.unusedVariables false

def lgE (r : Int) : Int := if 1 ≤ r ∧ r ≤ 1048576 then 0 else 2
def lgV (r : Int) : Int := if 1 ≤ r ∧ r ≤ 1048576 then max 1 (256 * r / 245) else 0
/-- how many frames of the length L there are for n moments -/
def frN (L n : Int) : Int := (n + L - 1) / L
def cnE (r n : Int) : Int := if lgE r = 0 ∧ 1 ≤ n ∧ n ≤ 4000 then (if frN (lgV r) n ≤ 1000 then 0 else 4) else 2
def cnV (r n : Int) : Int := if cnE r n = 0 then frN (lgV r) n else 0
/-- the frames' lengths -/
def alL (L n : Int) : List Int := List.replicate (frN L n - 1).toNat L ++ [n - (frN L n - 1) * L]
def alR (r n : Int) : List Int := if cnE r n = 0 then alL (lgV r) n else []
def plE (r n a : Int) : Int := if cnE r n = 0 then (if a < 0 ∨ n ≤ a then 2 else 0) else cnE r n
def plF (r n a : Int) : Int := if plE r n a = 0 then a / lgV r else 0
def plW (r n a : Int) : Int := if plE r n a = 0 then a % lgV r else 0

theorem lg_ok {r : Int} (h1 : 1 ≤ r) (h2 : r ≤ 1048576) : lgE r = 0 ∧ lgV r = max 1 (256 * r / 245) := by
  unfold lgE lgV; rw [if_pos ⟨h1, h2⟩, if_pos ⟨h1, h2⟩]; exact ⟨rfl, rfl⟩
theorem lg_no {r : Int} (h : r < 1 ∨ 1048576 < r) : lgE r = 2 ∧ lgV r = 0 := by
  unfold lgE lgV; rw [if_neg (by omega), if_neg (by omega)]; exact ⟨rfl, rfl⟩
theorem lgE_cases (r : Int) : (lgE r = 0 ∧ 1 ≤ r ∧ r ≤ 1048576) ∨ (lgE r = 2 ∧ lgV r = 0 ∧ (r < 1 ∨ 1048576 < r)) := by
  by_cases h : 1 ≤ r ∧ r ≤ 1048576
  · exact .inl ⟨(lg_ok h.1 h.2).1, h⟩
  · exact .inr ⟨(lg_no (by omega)).1, (lg_no (by omega)).2, by omega⟩
theorem lgV_bd {r : Int} (h : lgE r = 0) : 1 ≤ lgV r ∧ lgV r ≤ 1095654 ∧ 1 ≤ r ∧ r ≤ 1048576 := by
  rcases lgE_cases r with ⟨_, h1, h2⟩ | ⟨h', _⟩
  · rw [(lg_ok h1 h2).2]; omega
  · omega
theorem cnE_cases (r n : Int) : (cnE r n = 0 ∧ lgE r = 0 ∧ 1 ≤ n ∧ n ≤ 4000 ∧ frN (lgV r) n ≤ 1000) ∨ (cnE r n = 4 ∧ lgE r = 0 ∧ 1 ≤ n ∧ n ≤ 4000 ∧ 1000 < frN (lgV r) n) ∨
    (cnE r n = 2 ∧ lgE r = 0 ∧ (n < 1 ∨ 4000 < n)) ∨ (cnE r n = 2 ∧ lgE r = 2) := by
  unfold cnE
  by_cases h : lgE r = 0 ∧ 1 ≤ n ∧ n ≤ 4000
  · rw [if_pos h]
    by_cases h' : frN (lgV r) n ≤ 1000
    · rw [if_pos h']; exact .inl ⟨rfl, h.1, h.2.1, h.2.2, h'⟩
    · rw [if_neg h']; exact .inr (.inl ⟨rfl, h.1, h.2.1, h.2.2, by omega⟩)
  · rw [if_neg h]
    rcases lgE_cases r with ⟨h1, _⟩ | ⟨h1, _⟩
    · exact .inr (.inr (.inl ⟨rfl, h1, by omega⟩))
    · exact .inr (.inr (.inr ⟨rfl, h1⟩))

/-- n moments are q - 1 whole frames and one with at least one moment -/
theorem frN_spec {L n : Int} (hL : 1 ≤ L) (hn : 1 ≤ n) : 1 ≤ frN L n ∧ (frN L n - 1) * L < n ∧ n ≤ frN L n * L := by
  unfold frN
  have h1 := Int.ediv_mul_le (n + L - 1) (show L ≠ 0 by omega)
  have h2 := Int.lt_ediv_add_one_mul_self (n + L - 1) (show 0 < L by omega)
  have h3 : 1 ≤ (n + L - 1) / L := by
    rw [Int.le_ediv_iff_mul_le (by omega)]; omega
  rw [Int.add_mul] at h2
  refine ⟨h3, ?_, ?_⟩
  · rw [Int.sub_mul]; omega
  · omega
theorem frN_le {L n : Int} (hL : 1 ≤ L) (hn : 1 ≤ n) : frN L n ≤ n := by
  have h := (frN_spec hL hn).2.1
  have : (frN L n - 1) * 1 ≤ (frN L n - 1) * L := Int.mul_le_mul_of_nonneg_left hL (by have := (frN_spec hL hn).1; omega)
  omega
/-- frames of another kind: q is how many, if q - 1 of them are not enough and q are -/
theorem frN_uniq {L n q : Int} (hL : 1 ≤ L) (h1 : (q - 1) * L < n) (h2 : n ≤ q * L) : frN L n = q := by
  unfold frN
  have a : q ≤ (n + L - 1) / L := by rw [Int.le_ediv_iff_mul_le (by omega)]; rw [Int.sub_mul] at h1; omega
  have b : (n + L - 1) / L < q + 1 := by rw [Int.ediv_lt_iff_lt_mul (by omega), Int.add_mul]; omega
  omega
end Go.Proofs.YtgfibgnolmogkaaDoor

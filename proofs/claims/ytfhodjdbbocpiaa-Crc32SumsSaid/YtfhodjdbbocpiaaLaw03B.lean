/-
  The walk of Crc32Sums. Conditions: numbers within their types.
-/
import Derived.Test.YtfhodjdbbocpiaaLaw03A
namespace Go.Proofs.Ytfhodjdbbocpiaa
open Go.RowKit
set_option linter.unusedVariables false

def manyE (n : Nat) : Int := if n ≤ 100000 then 0 else 4
def nextV (s : Nat) (xs : List Int) : Int := if xs.length ≤ 100000 then ((crcL s xs : Nat) : Int) else 0
def sumV (xs : List Int) : Int := if xs.length ≤ 100000 then ((sumL xs : Nat) : Int) else 0

theorem next_comb (s : Nat) (A : Option Addr) (n c : Nat) (xs : List Int) (w : World) (hs : s < 4294967296) (hn : xs.length = n) (hm : n ≤ 9223372036854775807) (hx : U8 xs) (hsl : Sl w w.heap.size .u8 A xs) :
    Calls Try.prog 10 #[.int .u32 (s : Int), .slice A n c] w fun e w' => e = .returned (.tuple #[.int .u32 (nextV s xs), .int .i64 (manyE n)]) ∧ Below w.heap.size w w' := by
  subst hn
  by_cases hl : xs.length ≤ 100000
  · refine (next_ok s A _ c xs w hs rfl hl hx hsl).mono ?_
    rintro e w' ⟨rfl, bel⟩
    exact ⟨by rw [show manyE xs.length = 0 from if_pos hl, show nextV s xs = _ from if_pos hl], bel⟩
  · refine (next_many s A xs.length c w (by omega) hm).mono ?_
    rintro e w' ⟨rfl, rfl⟩
    exact ⟨by rw [show manyE xs.length = 4 from if_neg hl, show nextV s xs = 0 from if_neg hl], bel_self _⟩

theorem renext_comb (s : Nat) (A : Option Addr) (n c : Nat) (xs : List Int) (w : World) (hs : s < 4294967296) (hn : xs.length = n) (hm : n ≤ 9223372036854775807) (hx : U8 xs) (hsl : Sl w w.heap.size .u8 A xs) :
    Calls Try.prog 11 #[.int .u32 (s : Int), .slice A n c] w fun e w' => e = .returned (.tuple #[.int .u32 (nextV s xs), .int .i64 (manyE n)]) ∧ w = w' := by
  subst hn
  by_cases hl : xs.length ≤ 100000
  · refine (renext_ok s A _ c xs w hs rfl hl hx hsl).mono ?_
    rintro e w' ⟨rfl, bel⟩
    exact ⟨by rw [show manyE xs.length = 0 from if_pos hl, show nextV s xs = _ from if_pos hl], bel⟩
  · refine (renext_many s A xs.length c w (by omega) hm).mono ?_
    rintro e w' ⟨rfl, rfl⟩
    exact ⟨by rw [show manyE xs.length = 4 from if_neg hl, show nextV s xs = 0 from if_neg hl], rfl⟩

theorem sum_comb (A : Option Addr) (n c : Nat) (xs : List Int) (w : World) (hn : xs.length = n) (hm : n ≤ 9223372036854775807) (hx : U8 xs) (hsl : Sl w w.heap.size .u8 A xs) :
    Calls Try.prog 12 #[.slice A n c] w fun e w' => e = .returned (.tuple #[.int .u32 (sumV xs), .int .i64 (manyE n)]) ∧ Below w.heap.size w w' := by
  subst hn
  by_cases hl : xs.length ≤ 100000
  · refine (sum_ok A _ c xs w rfl hl hx hsl).mono ?_
    rintro e w' ⟨rfl, bel⟩
    exact ⟨by rw [show manyE xs.length = 0 from if_pos hl, show sumV xs = _ from if_pos hl], bel⟩
  · refine (sum_many A xs.length c w (by omega) hm).mono ?_
    rintro e w' ⟨rfl, rfl⟩
    exact ⟨by rw [show manyE xs.length = 4 from if_neg hl, show sumV xs = 0 from if_neg hl], bel_self _⟩

theorem resum_comb (A : Option Addr) (n c : Nat) (xs : List Int) (w : World) (hn : xs.length = n) (hm : n ≤ 9223372036854775807) (hx : U8 xs) (hsl : Sl w w.heap.size .u8 A xs) :
    Calls Try.prog 13 #[.slice A n c] w fun e w' => e = .returned (.tuple #[.int .u32 (sumV xs), .int .i64 (manyE n)]) ∧ w = w' := by
  subst hn
  by_cases hl : xs.length ≤ 100000
  · refine (resum_ok A _ c xs w rfl hl hx hsl).mono ?_
    rintro e w' ⟨rfl, bel⟩
    exact ⟨by rw [show manyE xs.length = 0 from if_pos hl, show sumV xs = _ from if_pos hl], bel⟩
  · refine (resum_many A xs.length c w (by omega) hm).mono ?_
    rintro e w' ⟨rfl, rfl⟩
    exact ⟨by rw [show manyE xs.length = 4 from if_neg hl, show sumV xs = 0 from if_neg hl], rfl⟩

set_option maxHeartbeats 400000 in
theorem great_no (A : Option Addr) (n c : Nat) (w : World) (h1 : n ≤ 1000 ∨ 100000 < n) (h2 : n ≤ 100100) :
    Calls Try.prog 9 #[.slice A n c] w fun e w' => e = .returned (.bool false) ∧ w = w' := by
  rcases h1 with h1 | h1
  all_goals
    go_enter Try.func9, Try.ntmps9
    go_wp2_with fail
    go_ret
    exact ⟨ret_bool (by simp; omega), rfl⟩
set_option maxHeartbeats 400000 in
theorem great_yes (A : Option Addr) (n c : Nat) (w : World) (hm : n ≤ 9223372036854775807) (h : (1000 < n ∧ n ≤ 100000) ∨ 100100 < n) :
    Calls Try.prog 9 #[.slice A n c] w fun e w' => e = .returned (.bool true) ∧ w = w' := by
  rcases h with ⟨h1, h2⟩ | h1
  all_goals
    go_enter Try.func9, Try.ntmps9
    go_wp2_with fail
    go_ret
    exact ⟨ret_bool (by simp <;> omega), rfl⟩

set_option maxHeartbeats 1000000 in
theorem crc32Sums_main (s : Nat) (A : Option Addr) (c : Nat) (xs : List Int) (w : World) (hs : s < 4294967296)
    (hx : U8 xs) (hsl : Sl w w.heap.size .u8 A xs) (h1 : xs.length ≤ 1000 ∨ 100000 < xs.length) (h2 : xs.length ≤ 100100) :
    Calls Try.prog 3 #[.int .u32 (s : Int), .slice A xs.length c] w fun e w' => e = .returned (.bool true) ∧ Below w.heap.size w w' := by
  have GR := Lib.hid (great_no A xs.length c w h1 h2)
  have SX := Lib.hid hsl
  have HX := Lib.hid hx
  have e1 : (manyE xs.length == manyE xs.length) = true := by simp
  have e2 : (nextV s xs == nextV s xs) = true := by simp
  have e3 : (sumV xs == sumV xs) = true := by simp
  have B0 := Lib.hid (bel_up (bel_self w) (.cells #[] 5))
  clear hsl hx h1
  go_enter Try.func3, Try.ntmps3
  go_wp2_with fail
  refine (GR.out).mono ?_
  rintro e w' ⟨rfl, rfl⟩
  go_wp2_with (at_builtin; refine appN (xs := []) (ys := xs) elU8 _ _ rfl rfl rfl rfl (Own.lit w w.heap.size .u8 5 [] rfl rfl (Nat.le_refl _) (by decide)) (SX.out.alloc (Nat.le_refl _) _) (by simp; omega) (by simp; omega) B0.out.size ?_; intro v1 w1 own1 bel1; have BB := Lib.hid (B0.out.trans bel1); have O1 := Lib.hid own1; clear own1 bel1 B0)
  obtain ⟨Ao, co, rfl, _, _, sl1⟩ := O1.out.sln (n := xs.length) (by simp)
  have SO := Lib.hid sl1
  have SX := Lib.hid (SX.out.next BB.out)
  clear sl1 O1
  simp only [List.nil_append] at SO
  go_wp2_with fail
  refine (next_comb s Ao _ co xs _ hs rfl (by omega) HX.out SO.out).mono ?_
  rintro e w2 ⟨rfl, bel2⟩
  have SO := Lib.hid (SO.out.next bel2)
  have SX := Lib.hid (SX.out.next bel2)
  have BB := Lib.hid (bel_next BB.out bel2)
  clear bel2
  go_wp2_with fail
  refine (renext_comb s A _ c xs _ hs rfl (by omega) HX.out SX.out).mono ?_
  rintro e w' ⟨rfl, rfl⟩
  go_wp2_with fail
  refine (sum_comb Ao _ co xs _ rfl (by omega) HX.out SO.out).mono ?_
  rintro e w3 ⟨rfl, bel3⟩
  have SO := Lib.hid (SO.out.next bel3)
  have SX := Lib.hid (SX.out.next bel3)
  have BB := Lib.hid (bel_next BB.out bel3)
  clear bel3
  go_wp2_with fail
  refine (resum_comb A _ c xs _ rfl (by omega) HX.out SX.out).mono ?_
  rintro e w' ⟨rfl, rfl⟩
  have k1 := conv_sl (P := Try.prog) (c := co) Try.underlying23 Try.underlying5 Try.underlying9 SO.out rfl
  have k2 := conv_sl (P := Try.prog) (c := c) Try.underlying23 Try.underlying5 Try.underlying9 SX.out rfl
  generalize strOfNums xs = str at *
  go_wp2_with fail
  go_ret
  exact ⟨rfl, BB.out⟩

set_option maxHeartbeats 400000 in
theorem crc32Sums_walk (s : Int) (A : Option Addr) (c : Nat) (xs : List Int) (w : World) (hs0 : 0 ≤ s) (hs1 : s ≤ 4294967295)
    (hc : xs.length ≤ c) (hm : c ≤ 9223372036854775807) (hx : U8 xs) (hsl : Sl w w.heap.size .u8 A xs) :
    Calls Try.prog 3 #[.int .u32 s, .slice A xs.length c] w fun e w' => e = .returned (.bool true) ∧ Below w.heap.size w w' := by
  obtain ⟨t, rfl⟩ := Int.eq_ofNat_of_zero_le hs0
  by_cases h : (xs.length ≤ 1000 ∨ 100000 < xs.length) ∧ xs.length ≤ 100100
  · exact crc32Sums_main t A c xs w (by omega) hx hsl h.1 h.2
  · have GR := Lib.hid (great_yes A xs.length c w (by omega) (by omega))
    have BB := Lib.hid (bel_self w)
    clear hsl hx h
    go_enter Try.func3, Try.ntmps3
    go_wp2_with fail
    refine (GR.out).mono ?_
    rintro e w' ⟨rfl, rfl⟩
    go_wp2_with fail
    go_ret
    exact ⟨rfl, BB.out⟩
end Go.Proofs.Ytfhodjdbbocpiaa

/-
  What Count and Same of the reference of layer 22 compute. Conditions: numbers within their types.
-/
import Derived.Test.YtgfibgnolmogkaaDoorRef22A
namespace Go.Proofs.YtgfibgnolmogkaaDoor
open Go.RowKit
set_option linter.unusedVariables false

theorem alR_len (r n : Int) : ((alR r n).length : Int) = cnV r n := by
  by_cases h : cnE r n = 0
  · obtain ⟨hl, b1, b2, b3, b4, b5, b6, b7, b8, b9, b10, hv⟩ := cnE_ok h
    rw [alR_ok h, hv, alL_len b1 b5]; omega
  · rw [alR_bad h]; unfold cnV; rw [if_neg h]; rfl

set_option maxHeartbeats 400000 in
theorem recount_any (r n : Int) (w : World) (hr0 : -9223372036854775808 ≤ r) (hr1 : r ≤ 9223372036854775807) (hn0 : -9223372036854775808 ≤ n) (hn1 : n ≤ 9223372036854775807) :
    Calls Tryd.prog 55 #[.int .i64 r, .int .i64 n] w fun e w' =>
      e = .returned (.tuple #[.int .i64 (cnV r n), .int .i64 (cnE r n)]) ∧ Below w.heap.size w w' := by
  have AL := Lib.hid (reall_any r n w hr0 hr1 hn0 hn1)
  have LE := Lib.hid (alR_len r n)
  generalize alR r n = xs at *
  generalize cnV r n = V at *
  generalize cnE r n = E at *
  go_enter Tryd.func55, Tryd.ntmps55
  go_wp2_with fail
  refine AL.out.mono ?_
  rintro e w1 ⟨v, rfl, hown, hbel⟩
  obtain ⟨A1, c1, rfl, _, _, sl1⟩ := hown.sl
  clear hown
  go_wp2_with fail
  go_ret2
  exact ⟨by rw [LE.out]; rfl, hbel⟩

set_option maxHeartbeats 1000000 in
theorem same22 (A A' : Option Addr) (n m c c' : Nat) (xs : List Int) (w : World) (hn : xs.length = n) (hm : xs.length = m) (hl : xs.length ≤ 9223372036854775807) (hs : Sl w w.heap.size .i64 A xs) (hs' : Sl w w.heap.size .i64 A' xs) :
    Calls Tryd.prog 18 #[.slice A n c, .slice A' m c'] w fun e w' =>
      e = .returned (.bool true) ∧ Below w.heap.size w w' := by
  subst hn
  subst hm
  have hd : ((xs.length : Int) != (xs.length : Int)) = false := by simp
  go_enter Tryd.func18, Tryd.ntmps18
  go_wp2_with fail
  go_loopw [5] (fun i wr => ∃ k : Nat, k ≤ xs.length ∧ i = .int .i64 k ∧ Below w.heap.size w wr) (fun i _ => xs.length - (intOf i).toNat)
  case atStart => exact ⟨0, Nat.zero_le _, rfl, Below.refl _ _⟩
  case round =>
    obtain ⟨k, hk, rfl, hbel⟩ := hrel
    by_cases hlt : k < xs.length
    · obtain ⟨b, o, rfl, hb, hc⟩ := hs (by omega)
      obtain ⟨b', o', rfl, hb', hc'⟩ := hs' (by omega)
      have hcell := (hbel.cell (p := ⟨b, o + k, none⟩) hb).trans (hc k hlt)
      have hcell' := (hbel.cell (p := ⟨b', o' + k, none⟩) hb').trans (hc' k hlt)
      have HB := Lib.hid hbel
      clear hc hs hc' hs' hbel
      generalize xs.getD k 0 = y at *
      have hlt' : (k : Int) < (xs.length : Int) := by omega
      have hy : (y != y) = false := by simp
      go_wp2_with fail
      go_quiet (fail)
      go_wp2_with fail
      go_roundw
      case rel => exact ⟨k + 1, by omega, by go_num, below_drewN HB.out _⟩
      case measure => simp [intOf]; omega
    · go_wp2_with fail
      go_ret
      exact ⟨rfl, hbel⟩
end Go.Proofs.YtgfibgnolmogkaaDoor

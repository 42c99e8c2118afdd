/-
  What Same of the reference of layer 13 computes, of two lists that are the same. No conditions.
-/
import Derived.Test.YtfapkpegfgeliaaKit
namespace Go.Proofs.Ytfapkpegfgeliaa
open Go.RowKit
set_option linter.unusedVariables false

set_option maxHeartbeats 1000000 in
theorem same13 (A A' : Option Addr) (n m c c' : Nat) (xs : List Int) (w : World) (hn : xs.length = n) (hm : xs.length = m) (hl : xs.length ≤ 9223372036854775807) (hs : Sl w w.heap.size .i32 A xs) (hs' : Sl w w.heap.size .i32 A' xs) :
    Calls Try.prog 12 #[.slice A n c, .slice A' m c'] w fun e w' =>
      e = .returned (.bool true) ∧ Below w.heap.size w w' := by
  subst hn
  subst hm
  have hd : ((xs.length : Int) != (xs.length : Int)) = false := by simp
  go_enter Try.func12, Try.ntmps12
  go_wp2_with fail
  go_loopw [5] (fun i wr => ∃ k : Nat, k ≤ xs.length ∧ i = .int .i64 k ∧ Below w.heap.size w wr) (fun i _ => xs.length - (intOf i).toNat)
  case atStart => exact ⟨0, Nat.zero_le _, rfl, Below.refl _ _⟩
  case round =>
    obtain ⟨k, hk, rfl, hbel⟩ := hrel
    by_cases hlt : k < xs.length
    · obtain ⟨b, o, rfl, hb, hc⟩ := hs (by omega)
      obtain ⟨b', o', rfl, hb', hc'⟩ := hs' (by omega)
      have hcell := (hbel.cell (p := ⟨b, o + k, none⟩) hb).trans (hc k hlt)
      have hcell' := (hbel.cell (p := ⟨b', o' + k, none⟩) hb').trans (hc' k hlt)
      have HB := Lib.hid hbel
      clear hc hs hc' hs' hbel
      generalize xs.getD k 0 = y at *
      have hlt' : (k : Int) < (xs.length : Int) := by omega
      have hy : (y != y) = false := by simp
      go_wp2_with fail
      go_quiet (fail)
      go_wp2_with fail
      go_roundw
      case rel => exact ⟨k + 1, by omega, by go_num, below_drewN HB.out _⟩
      case measure => simp [intOf]; omega
    · go_wp2_with fail
      go_ret
      exact ⟨rfl, hbel⟩
end Go.Proofs.Ytfapkpegfgeliaa

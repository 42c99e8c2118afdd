/-
  What Half and Check of the reference of layer 18 compute. Conditions: numbers within their types.
-/
import Derived.Test.YtgfibgnolmogkaaDoorWidthWalks
import Derived.Test.YtgfibgnolmogkaaDoorKit3
namespace Go.Proofs.YtgfibgnolmogkaaDoor
open Go.RowKit
set_option linter.unusedVariables false

set_option maxHeartbeats 400000 in
theorem half_any (b : Int) (w : World) (hb0 : -9223372036854775808 ≤ b) (hb1 : b ≤ 9223372036854775807) :
    Calls Tryd.prog 65 #[.int .i64 b] w fun e w' => e = .returned (.int .i64 (wdH b)) ∧ w = w' := by
  by_cases h : wdH b = 0
  · obtain ⟨h8, h16, h24⟩ := bad_ne h
    have e1 := Lib.hid h
    have q1 : (b == 8) = false := by simp [h8]
    have q2 : (b == 16) = false := by simp [h16]
    have q3 : (b == 24) = false := by simp [h24]
    clear h h8 h16 h24
    go_enter Tryd.func65, Tryd.ntmps65
    go_wp2_with fail
    go_ret
    exact ⟨ret_int e1.out.symm, rfl⟩
  · rcases ok_cases h with rfl | rfl | rfl
    all_goals
      clear h
      go_enter Tryd.func65, Tryd.ntmps65
      go_wp2_with fail
      go_ret
      exact ⟨rfl, rfl⟩

set_option maxHeartbeats 1000000 in
theorem rewcheck_any (b : Int) (A : Option Addr) (n c : Nat) (xs : List Int) (w : World) (hn : xs.length = n) (hm : n ≤ 9223372036854775807) (hx : I32 xs) (hs : Sl w w.heap.size .i32 A xs)
    (hb0 : -9223372036854775808 ≤ b) (hb1 : b ≤ 9223372036854775807) :
    Calls Tryd.prog 53 #[.int .i64 b, .slice A n c] w fun e w' => e = .returned (.int .i64 (ckE b xs)) ∧ Below w.heap.size w w' := by
  subst hn
  have CR := half_any b w hb0 hb1
  by_cases h : wdH b = 0
  · rw [h] at CR
    have E := Lib.hid (show ckE b xs = 2 from if_pos h)
    have CR := Lib.hid CR
    clear h hs
    go_enter Tryd.func53, Tryd.ntmps53
    go_wp2_with fail
    refine CR.out.mono ?_
    rintro e w' ⟨rfl, rfl⟩
    clear CR
    go_wp2_with fail
    go_ret
    exact ⟨ret_int E.out.symm, bel_self _⟩
  · have hbd := wdH_bd h
    have E0 := Lib.hid (show ckE b xs = _ from if_neg h)
    have hne : (wdH b == 0) = false := by simp [h]
    have CR := Lib.hid CR
    generalize wdH b = hh at *
    by_cases hl : 4000 < xs.length
    · have E := Lib.hid (E0.out.trans (if_pos hl))
      clear h hs E0
      go_enter Tryd.func53, Tryd.ntmps53
      go_wp2_with fail
      refine CR.out.mono ?_
      rintro e w' ⟨rfl, rfl⟩
      clear CR
      go_wp2_with fail
      go_ret
      exact ⟨ret_int E.out.symm, bel_self _⟩
    · have E := Lib.hid (E0.out.trans (if_neg hl))
      have d1 : decide ((4000 : Int) < (xs.length : Int)) = false := by simp; omega
      clear h E0
      go_enter Tryd.func53, Tryd.ntmps53
      go_wp2_with fail
      refine CR.out.mono ?_
      rintro e w' ⟨rfl, rfl⟩
      clear CR
      go_wp2_with fail
      go_loopw [6] (fun i wr => ∃ k : Nat, k ≤ xs.length ∧ i = .int .i64 k ∧ Hid (inR hh (xs.take k)) ∧ Below w.heap.size w wr) (fun i _ => xs.length - (intOf i).toNat)
      case atStart => exact ⟨0, by omega, rfl, fun x hx => by simp at hx, bel_self _⟩
      case round =>
        obtain ⟨k, hk, rfl, hin, hbel⟩ := hrel
        by_cases hlt : k < xs.length
        · obtain ⟨bb, o, rfl, hbb, hc⟩ := hs (by omega)
          have hcell := (hbel.cell (p := ⟨bb, o + k, none⟩) hbb).trans (hc k hlt)
          have hxb := hx _ (mem_getD hlt)
          have hmem := Lib.hid (mem_getD hlt)
          have HI := Lib.hid (fun h2 => inR_take_snoc hlt hin.out h2)
          have HB := Lib.hid hbel
          have hlt' : (k : Int) < (xs.length : Int) := by omega
          clear hc hs hbel
          generalize xs.getD k 0 = y at *
          by_cases h1 : y < -hh
          · have h1' : decide (y < -hh) = true := by simp [h1]
            go_wp2_with fail
            first | go_quiet (fail) | skip
            go_wp2_with fail
            go_ret
            exact ⟨ret_int (by rw [E.out, if_neg (fun hall => by have := hall _ hmem.out; omega)]), by first | exact HB.out | exact below_drewN HB.out _⟩
          · have h1' : decide (y < -hh) = false := by simp; omega
            by_cases h2 : hh ≤ y
            · go_wp2_with fail
              first | go_quiet (fail) | skip
              go_wp2_with fail
              go_ret
              exact ⟨ret_int (by rw [E.out, if_neg (fun hall => by have := hall _ hmem.out; omega)]), by first | exact HB.out | exact below_drewN HB.out _⟩
            · have HJ := Lib.hid (HI.out ⟨by omega, by omega⟩)
              clear HI
              go_wp2_with fail
              first | go_quiet (fail) | skip
              go_wp2_with fail
              go_roundw
              case rel => exact ⟨k + 1, by omega, by go_num, HJ, by first | exact HB.out | exact below_drewN HB.out _⟩
              case measure => simp [intOf]; omega
        · have hin' := hin.out
          rw [List.take_of_length_le (by omega)] at hin'
          have E2 := Lib.hid (E.out.trans (if_pos hin'))
          have HB := Lib.hid hbel
          clear hin hin' hbel
          go_wp2_with fail
          go_ret
          exact ⟨ret_int E2.out.symm, HB.out⟩
end Go.Proofs.YtgfibgnolmogkaaDoor

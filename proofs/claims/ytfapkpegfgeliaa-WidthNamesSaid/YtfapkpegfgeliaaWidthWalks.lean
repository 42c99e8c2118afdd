/-
  What Range and Check of package width compute. Conditions: numbers within their types.
-/
import Derived.Test.YtfapkpegfgeliaaWidthPlain
import Derived.Test.YtfapkpegfgeliaaKit2
namespace Go.Proofs.Ytfapkpegfgeliaa
open Go.RowKit
set_option linter.unusedVariables false

theorem elI32 : Elem Try.prog 24 21 .i32 4 := Elem.mk' Try.underlying24 (by kernel_rfl)
theorem elU8 : Elem Try.prog 22 5 .u8 1 := Elem.mk' Try.underlying22 (by kernel_rfl)

set_option maxHeartbeats 400000 in
theorem range_any (b : Int) (w : World) (hb0 : -9223372036854775808 ≤ b) (hb1 : b ≤ 9223372036854775807) :
    Calls Try.prog 14 #[.int .i64 b] w fun e w' => e = .returned (.tuple #[.int .i32 (-wdH b), .int .i32 (wdHi b), .int .i64 (wdE b)]) ∧ w = w' := by
  by_cases h : wdH b = 0
  · obtain ⟨h8, h16, h24⟩ := bad_ne h
    have e1 := Lib.hid (show -wdH b = 0 by rw [h]; rfl)
    have e2 := Lib.hid (show wdHi b = 0 from if_pos h)
    have e3 := Lib.hid (show wdE b = 2 from if_pos h)
    have q1 : (b == 8) = false := by simp [h8]
    have q2 : (b == 16) = false := by simp [h16]
    have q3 : (b == 24) = false := by simp [h24]
    clear h h8 h16 h24
    go_enter Try.func14, Try.ntmps14
    go_wp2_with fail
    go_ret3
    exact ⟨by rw [e1.out, e2.out, e3.out]; rfl, rfl⟩
  · rcases ok_cases h with rfl | rfl | rfl
    all_goals
      clear h
      go_enter Try.func14, Try.ntmps14
      go_wp2_with fail
      go_ret3
      exact ⟨rfl, rfl⟩

theorem inR_take_snoc {h : Int} {xs : List Int} {k : Nat} (hk : k < xs.length) (h1 : inR h (xs.take k)) (h2 : -h ≤ xs.getD k 0 ∧ xs.getD k 0 < h) : inR h (xs.take (k + 1)) := by
  rw [take_snoc xs k hk]
  intro x hx
  rcases List.mem_append.1 hx with hx | hx
  · exact h1 x hx
  · rw [List.mem_singleton.1 hx]; exact h2
theorem wdH_bd {b : Int} (h : wdH b ≠ 0) : 1 ≤ wdH b ∧ wdH b ≤ 8388608 := by
  rcases ok_cases h with rfl | rfl | rfl <;> decide

set_option maxHeartbeats 1000000 in
theorem wcheck_any (b : Int) (A : Option Addr) (n c : Nat) (xs : List Int) (w : World) (hn : xs.length = n) (hm : n ≤ 9223372036854775807) (hx : I32 xs) (hs : Sl w w.heap.size .i32 A xs)
    (hb0 : -9223372036854775808 ≤ b) (hb1 : b ≤ 9223372036854775807) :
    Calls Try.prog 18 #[.int .i64 b, .slice A n c] w fun e w' => e = .returned (.int .i64 (ckE b xs)) ∧ w = w' := by
  subst hn
  have CR := range_any b w hb0 hb1
  by_cases h : wdH b = 0
  · rw [show wdE b = 2 from if_pos h] at CR
    have E := Lib.hid (show ckE b xs = 2 from if_pos h)
    have CR := Lib.hid CR
    generalize wdH b = hh at *
    generalize wdHi b = hi at *
    clear h hs
    go_enter Try.func18, Try.ntmps18
    go_wp2_with fail
    refine CR.out.mono ?_
    rintro e w' ⟨rfl, rfl⟩
    clear CR
    go_wp2_with fail
    go_ret
    exact ⟨ret_int E.out.symm, rfl⟩
  · rw [show wdE b = 0 from if_neg h, show wdHi b = wdH b - 1 from if_neg h] at CR
    have hbd := wdH_bd h
    have E0 := Lib.hid (show ckE b xs = _ from if_neg h)
    have CR := Lib.hid CR
    generalize wdH b = hh at *
    by_cases hl : 4000 < xs.length
    · have E := Lib.hid (E0.out.trans (if_pos hl))
      clear h hs E0
      go_enter Try.func18, Try.ntmps18
      go_wp2_with fail
      refine CR.out.mono ?_
      rintro e w' ⟨rfl, rfl⟩
      clear CR
      go_wp2_with fail
      go_ret
      exact ⟨ret_int E.out.symm, rfl⟩
    · have E := Lib.hid (E0.out.trans (if_neg hl))
      have d1 : decide ((4000 : Int) < (xs.length : Int)) = false := by simp; omega
      clear h E0
      go_enter Try.func18, Try.ntmps18
      go_wp2_with fail
      refine CR.out.mono ?_
      rintro e w' ⟨rfl, rfl⟩
      clear CR
      go_wp2_with fail
      go_loop [24] (fun i => ∃ k : Nat, k ≤ xs.length ∧ i = .int .i64 k ∧ Hid (inR hh (xs.take k))) (fun i => xs.length - (intOf i).toNat)
      case atStart => exact ⟨0, by omega, rfl, fun x hx => by simp at hx⟩
      case round =>
        obtain ⟨k, hk, rfl, hin⟩ := hrel
        by_cases hlt : k < xs.length
        · obtain ⟨bb, o, rfl, hbb, hc⟩ := hs (by omega)
          have hcell := hc k hlt
          have hxb := hx _ (mem_getD hlt)
          have hmem := Lib.hid (mem_getD hlt)
          have HI := Lib.hid (fun h2 => inR_take_snoc hlt hin.out h2)
          clear hc hs
          generalize xs.getD k 0 = y at *
          by_cases h1 : y < -hh
          · go_wp2_with fail
            go_ret
            exact ⟨ret_int (by rw [E.out, if_neg (fun hall => by have := hall _ hmem.out; omega)]), rfl⟩
          · by_cases h2 : hh - 1 < y
            · go_wp2_with fail
              go_ret
              exact ⟨ret_int (by rw [E.out, if_neg (fun hall => by have := hall _ hmem.out; omega)]), rfl⟩
            · have HJ := Lib.hid (HI.out ⟨by omega, by omega⟩)
              clear HI
              go_wp2_with fail
              go_round
              case rel => exact ⟨k + 1, by omega, by go_num, HJ⟩
              case measure => simp [intOf]; omega
        · have hin' := hin.out
          rw [List.take_of_length_le (by omega)] at hin'
          have E2 := Lib.hid (E.out.trans (if_pos hin'))
          clear hin hin'
          go_wp2_with fail
          go_ret
          exact ⟨ret_int E2.out.symm, rfl⟩
end Go.Proofs.Ytfapkpegfgeliaa

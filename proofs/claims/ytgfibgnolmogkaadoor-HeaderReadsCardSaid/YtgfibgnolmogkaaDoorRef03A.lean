/-
  What the functions of the reference of layer 3 compute. Conditions: numbers within their types.
-/
import Derived.Test.YtgfibgnolmogkaaDoorCrcA
namespace Go.Proofs.YtgfibgnolmogkaaDoor
open Go.RowKit
set_option linter.unusedVariables false

theorem xor_poly {s : Nat} (h : s < 4294967296) : bits .xor .u32 ((s : Int) / 2) 3988292384 = (((s / 2) ^^^ polyN : Nat) : Int) := by
  rw [show (s : Int) / 2 = ((s / 2 : Nat) : Int) by omega, show (3988292384 : Int) = ((polyN : Nat) : Int) from rfl, u32_xor_nat _ _ (by omega) (by decide)]
theorem step_odd {s : Nat} (h : s % 2 = 1) : crcStep s = (s / 2) ^^^ polyN := by unfold crcStep; rw [if_pos h]
theorem step_even' {s : Nat} (h : s % 2 = 0) : crcStep s = s / 2 := by unfold crcStep; rw [if_neg (by omega), Nat.xor_zero]
theorem xor_one (s : Nat) : (s ^^^ 1) / 2 = s / 2 ∧ (s ^^^ 1) % 2 = 1 - s % 2 := by
  refine ⟨by rw [xor_div2]; simp, ?_⟩
  rw [xor_mod2]
  rcases Nat.mod_two_eq_zero_or_one s with h | h <;> rw [h]

set_option maxHeartbeats 400000 in
theorem Step_any (s : Nat) (bit : Int) (w : World) (hs : s < 4294967296) (hb : bit = 0 ∨ bit = 1) :
    Calls Tryd.prog 72 #[.int .u32 (s : Int), .int .i64 bit] w fun e w' => e = .returned (.int .u32 ((crcStep (s ^^^ bit.toNat) : Nat) : Int)) ∧ w = w' := by
  have hx := Lib.hid (xor_poly hs)
  rcases hb with rfl | rfl
  · rcases Nat.mod_two_eq_zero_or_one s with h | h
    · have H := Lib.hid (show crcStep (s ^^^ (0 : Int).toNat) = s / 2 by simpa using step_even' h)
      have h1 : ((s : Int) % 2 == 1) = false := by simp; omega
      clear h
      go_enter Tryd.func72, Tryd.ntmps72
      go_wp2_with fail
      go_ret
      exact ⟨ret_int (by rw [H.out]; omega), rfl⟩
    · have H := Lib.hid (show crcStep (s ^^^ (0 : Int).toNat) = (s / 2) ^^^ polyN by simpa using step_odd h)
      have h1 : ((s : Int) % 2 == 1) = true := by simp; omega
      clear h
      go_enter Tryd.func72, Tryd.ntmps72
      go_wp2_with fail
      go_ret
      exact ⟨ret_int (by rw [H.out]; exact hx.out), rfl⟩
  · rcases Nat.mod_two_eq_zero_or_one s with h | h
    · have H := Lib.hid (show crcStep (s ^^^ (1 : Int).toNat) = (s / 2) ^^^ polyN by
        have h2 := (xor_one s).2
        rw [show (1 : Int).toNat = 1 from rfl, step_odd (by omega), (xor_one s).1])
      have h1 : ((s : Int) % 2 == 1) = false := by simp; omega
      clear h
      go_enter Tryd.func72, Tryd.ntmps72
      go_wp2_with fail
      go_ret
      exact ⟨ret_int (by rw [H.out]; exact hx.out), rfl⟩
    · have H := Lib.hid (show crcStep (s ^^^ (1 : Int).toNat) = s / 2 by
        have h2 := (xor_one s).2
        rw [show (1 : Int).toNat = 1 from rfl, step_even' (by omega), (xor_one s).1])
      have h1 : ((s : Int) % 2 == 1) = true := by simp; omega
      clear h
      go_enter Tryd.func72, Tryd.ntmps72
      go_wp2_with fail
      go_ret
      exact ⟨ret_int (by rw [H.out]; omega), rfl⟩

def byteAt (s c i : Nat) : Nat := crcN i (s ^^^ c) ^^^ (c / 2 ^ i)
theorem byteAt_zero (s c : Nat) : byteAt s c 0 = s := by simp [byteAt, crcN, Nat.xor_assoc]
theorem byteAt_last (s c : Nat) (hc : c < 256) : byteAt s c 8 = crcByte s c := by
  unfold byteAt crcByte
  rw [show c / 2 ^ 8 = 0 from Nat.div_eq_of_lt (by omega), Nat.xor_zero]
theorem xor_low (d : Nat) : d ^^^ (d % 2) = 2 * (d / 2) := by
  have h1 : (d ^^^ (d % 2)) / 2 = d / 2 := by rw [xor_div2, show d % 2 / 2 = 0 by omega, Nat.xor_zero]
  have h2 : (d ^^^ (d % 2)) % 2 = 0 := by rw [xor_mod2]; omega
  omega
theorem byteAt_succ (s c i : Nat) : byteAt s c (i + 1) = crcStep (byteAt s c i ^^^ (c / 2 ^ i % 2)) := by
  unfold byteAt
  rw [crcN_succ, Nat.xor_assoc, step_xor, xor_low, step_even, Nat.pow_succ, Nat.div_div_eq_div_mul]
theorem byteAt_lt {s c i : Nat} (hs : s < 4294967296) (hc : c < 256) : byteAt s c i < 4294967296 := by
  unfold byteAt
  have h1 : s ^^^ c < 2 ^ 32 := Nat.xor_lt_two_pow (by omega) (by omega)
  have h2 : crcN i (s ^^^ c) < 2 ^ 32 := crcN_lt (by omega)
  have h3 : c / 2 ^ i ≤ c := Nat.div_le_self _ _
  have := Nat.xor_lt_two_pow h2 (show c / 2 ^ i < 2 ^ 32 by omega)
  omega

set_option maxHeartbeats 400000 in
theorem Byte_any (s c : Nat) (w : World) (hs : s < 4294967296) (hc : c < 256) :
    Calls Tryd.prog 67 #[.int .u32 (s : Int), .int .u8 (c : Int)] w fun e w' => e = .returned (.int .u32 ((crcByte s c : Nat) : Int)) ∧ w = w' := by
  go_enter Tryd.func67, Tryd.ntmps67
  go_wp2_with fail
  go_loop [0, 1, 5] (fun st b i => ∃ k : Nat, k ≤ 8 ∧ i = .int .i64 k ∧ st = .int .u32 ((byteAt s c k : Nat) : Int) ∧ b = .int .u8 ((c / 2 ^ k : Nat) : Int)) (fun _ _ i => 8 - (intOf i).toNat)
  case atStart => exact ⟨0, by omega, rfl, by rw [byteAt_zero], by simp⟩
  case round =>
    obtain ⟨k, hk, rfl, rfl, rfl⟩ := hrel
    by_cases hlt : k < 8
    · have hb := byteAt_lt (i := k) hs hc
      have HT := Lib.hid (byteAt_succ s c k)
      have HD := Lib.hid (show c / 2 ^ (k + 1) = c / 2 ^ k / 2 by rw [Nat.pow_succ, Nat.div_div_eq_div_mul])
      have hd : c / 2 ^ k ≤ c := Nat.div_le_self _ _
      generalize byteAt s c k = t at *
      generalize c / 2 ^ k = d at *
      have hlt' : (k : Int) < 8 := by omega
      have hdd : 0 ≤ (d : Int) % 2 ∧ (d : Int) % 2 ≤ 1 := by omega
      have E := Lib.hid (show ((d : Int) % 2).toNat = d % 2 by omega)
      go_wp2_with fail
      refine (Step_any t ((d : Int) % 2) _ hb (by omega)).mono ?_
      rintro e w' ⟨rfl, rfl⟩
      go_wp2_with fail
      go_round
      case rel => exact ⟨k + 1, by omega, by go_num, by rw [HT.out, E.out], by rw [HD.out]; go_num⟩
      case measure => simp [intOf]; omega
    · obtain rfl : k = 8 := by omega
      go_wp2_with fail
      go_ret
      exact ⟨ret_int (by rw [byteAt_last s c hc]), rfl⟩

set_option maxHeartbeats 1000000 in
theorem Behind_any (s : Nat) (A : Option Addr) (n c : Nat) (xs : List Int) (w : World) (hs : s < 4294967296) (hn : xs.length = n) (hl : n ≤ 9223372036854775807) (hx : U8 xs) (hsl : Sl w w.heap.size .u8 A xs) :
    Calls Tryd.prog 56 #[.int .u32 (s : Int), .slice A n c] w fun e w' => e = .returned (.int .u32 ((crcL s xs : Nat) : Int)) ∧ w = w' := by
  subst hn
  go_enter Tryd.func56, Tryd.ntmps56
  go_wp2_with fail
  go_loop [0, 5] (fun st i => ∃ k : Nat, k ≤ xs.length ∧ i = .int .i64 k ∧ st = .int .u32 ((crcL s (xs.take k) : Nat) : Int)) (fun _ i => xs.length - (intOf i).toNat)
  case atStart => exact ⟨0, by omega, rfl, rfl⟩
  case round =>
    obtain ⟨k, hk, rfl, rfl⟩ := hrel
    by_cases hlt : k < xs.length
    · obtain ⟨b, o, rfl, hb, hc⟩ := hsl (by omega)
      have hcell := hc k hlt
      have hbd := hx _ (mem_getD hlt)
      have hst := crcL_lt hs (l := xs.take k) (fun x h => hx x (List.mem_of_mem_take h))
      have hT := (congrArg (crcL s) (take_snoc xs k hlt)).trans (crcL_snoc s (xs.take k) (xs.getD k 0))
      obtain ⟨y, hy⟩ := Int.eq_ofNat_of_zero_le hbd.1
      rw [hy] at hcell hT hbd
      rw [Int.toNat_natCast] at hT
      clear hy hc hsl
      generalize crcL s (xs.take k) = t at *
      have HT := Lib.hid hT
      clear hT
      go_wp2_with fail
      refine (Byte_any t y _ hst (by omega)).mono ?_
      rintro e w' ⟨rfl, rfl⟩
      go_wp2_with fail
      go_round
      case rel => exact ⟨k + 1, by omega, by go_num, by rw [HT.out]⟩
      case measure => simp [intOf]; omega
    · go_wp2_with fail
      go_ret
      rw [List.take_of_length_le (by omega)]
      exact ⟨rfl, rfl⟩

set_option maxHeartbeats 400000 in
theorem Of_any (A : Option Addr) (n c : Nat) (xs : List Int) (w : World) (hn : xs.length = n) (hl : n ≤ 9223372036854775807) (hx : U8 xs) (hsl : Sl w w.heap.size .u8 A xs) :
    Calls Tryd.prog 38 #[.slice A n c] w fun e w' => e = .returned (.int .u32 ((sumL xs : Nat) : Int)) ∧ w = w' := by
  have hst := crcL_lt (s := 4294967295) (by decide) hx
  have E := Lib.hid (show 4294967295 - ((crcL 4294967295 xs : Nat) : Int) = ((sumL xs : Nat) : Int) by unfold sumL; omega)
  have C := Lib.hid (Behind_any 4294967295 A n c xs w (by decide) hn hl hx hsl)
  generalize crcL 4294967295 xs = t at *
  clear hsl hn
  go_enter Tryd.func38, Tryd.ntmps38
  go_wp2_with fail
  refine C.out.mono ?_
  rintro e w1 ⟨rfl, rfl⟩
  go_wp2_with fail
  go_ret
  exact ⟨ret_int E.out, rfl⟩
end Go.Proofs.YtgfibgnolmogkaaDoor

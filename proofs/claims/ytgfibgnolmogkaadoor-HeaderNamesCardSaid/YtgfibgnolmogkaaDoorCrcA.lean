/-
  What the functions of package crc32 compute. Conditions: numbers within their types; at most 100,000 bytes (more are refused).
-/
import Derived.Test.YtgfibgnolmogkaaDoorCrcPlain
import Derived.Test.YtgfibgnolmogkaaDoorKit2
namespace Go.Proofs.YtgfibgnolmogkaaDoor
open Go.RowKit
set_option linter.unusedVariables false

theorem step_bits {c : Nat} (h : c < 4294967296) : bits .xor .u32 ((c : Int) / 2) (3988292384 * bits .and .u32 (c : Int) 1 % 4294967296) = ((crcStep c : Nat) : Int) := by
  have ha : bits .and .u32 (c : Int) 1 = (c : Int) % 2 := by
    have h := bits_mask .u32 32 (by decide) (fun n h2 h3 => by rw [IntKind.wrap_u32']; omega) 1 (by decide) (c : Int) (by omega) (by omega)
    simpa using h
  rw [ha, u32_xor _ _ (by omega) (by omega) (by omega) (by omega)]
  congr 1
  unfold crcStep
  rcases Nat.mod_two_eq_zero_or_one c with hc | hc
  · rw [show ((c : Int) / 2).toNat = c / 2 by omega, show (3988292384 * ((c : Int) % 2) % 4294967296).toNat = 0 by omega, if_neg (by omega)]
  · rw [show ((c : Int) / 2).toNat = c / 2 by omega, show (3988292384 * ((c : Int) % 2) % 4294967296).toNat = polyN by unfold polyN; omega, if_pos hc]

def tabL (k : Nat) : List Int := (List.range 256).map fun i => if i < k then ((tabF i : Nat) : Int) else 0
theorem tabL_len (k : Nat) : (tabL k).length = 256 := by simp [tabL]
theorem tabL_zero : tabL 0 = List.replicate 256 0 := by
  unfold tabL
  simp [List.map_const']
theorem tabL_set (k : Nat) (h : k < 256) : (tabL k).set k ((tabF k : Nat) : Int) = tabL (k + 1) := by
  apply List.ext_getElem
  · simp [tabL]
  · intro i h1 h2
    simp only [tabL, List.getElem_set, List.getElem_map, List.getElem_range]
    by_cases hk : k = i
    · subst hk; simp
    · rw [if_neg hk]
      by_cases hi : i < k
      · rw [if_pos hi, if_pos (by omega)]
      · rw [if_neg hi, if_neg (by omega)]
theorem tabL_get (i : Nat) (h : i < 256) : (tabL 256).getD i 0 = ((tabF i : Nat) : Int) := by
  simp [tabL, List.getD_eq_getElem?_getD, h]

theorem zero256 (W : World) : (zeroValue 112).run Tryd.prog W = .ok (.agg (zerosA .u32 256)) W := by kernel_rfl

set_option maxRecDepth 100000 in
set_option maxHeartbeats 1000000 in
theorem table_any (w : World) : Calls Tryd.prog 61 #[] w fun e w' =>
    ∃ g, e = .returned (.pointer (some ⟨g, 0, none⟩)) ∧ Own w' w.heap.size 112 .u32 (.slice (some ⟨g, 0, none⟩) 256 256) (tabL 256) ∧ Below w.heap.size w w' := by
  have hz := zero256
  go_enter Tryd.func61, Tryd.ntmps61
  go_wp2_with fail
  go_loopw [5] (fun i wr => ∃ k : Nat, k ≤ 256 ∧ i = .int .i64 k ∧ Own wr w.heap.size 112 .u32 (.slice (some ⟨w.heap.size, 0, none⟩) 256 256) (tabL k) ∧ Below w.heap.size w wr) (fun i _ => 256 - (intOf i).toNat)
  case atStart => exact ⟨0, by omega, rfl, by rw [tabL_zero]; exact Own.zeros w w.heap.size .u32 _ 256 (Nat.le_refl _) (by decide), bel_up (bel_self w) _⟩
  case round =>
    obtain ⟨k, hk, rfl, hown, hbel⟩ := hrel
    by_cases hlt : k < 256
    · have hcell := hown.cell k (by rw [tabL_len]; exact hlt)
      have hfr := hown.frozen k
      have hset := hown.set k ((tabF k : Nat) : Int)
      rw [tabL_set k hlt] at hset
      have HO := Lib.hid hset
      have HB := Lib.hid (hbel.setCell (p := ⟨w.heap.size, k, none⟩) (Nat.le_refl _) (.int .u32 ((tabF k : Nat) : Int)))
      have hlt' : (k : Int) < 256 := by omega
      clear hset hown hbel hz
      generalize (tabL k).getD k 0 = y at *
      obtain ⟨wo, rfl⟩ : ∃ wo : World, wo = wr := ⟨_, rfl⟩
      go_wp2_with fail
      go_loop [3, 10] (fun c j => ∃ m : Nat, m ≤ 8 ∧ j = .int .i64 m ∧ c = .int .u32 ((crcN m k : Nat) : Int)) (fun _ j => 8 - (intOf j).toNat)
      case atStart => exact ⟨0, by omega, rfl, by simp [crcN]⟩
      case round =>
        obtain ⟨m, hm, rfl, rfl⟩ := hrel
        by_cases hmlt : m < 8
        · have hb := crcN_lt (n := m) (s := k) (by omega)
          have HN := Lib.hid (crcN_succ m k)
          generalize crcN m k = cc at *
          have hst := Lib.hid (step_bits hb)
          have hmlt' : (m : Int) < 8 := by omega
          go_wp2_with fail
          go_round
          case rel => exact ⟨m + 1, by omega, by go_num, by rw [HN.out, ← hst.out]⟩
          case measure => simp [intOf]; omega
        · obtain rfl : m = 8 := by omega
          go_wp2_with fail
          go_roundw
          case rel => exact ⟨k + 1, by omega, by go_num, HO.out, HB.out⟩
          case measure => simp [intOf]; omega
    · obtain rfl : k = 256 := by omega
      go_wp2_with fail
      go_ret
      exact ⟨_, rfl, hown, hbel⟩

theorem next_bits {s c : Nat} (hs : s < 4294967296) (hc : c < 256) : bits .xor .u32 ((s : Int) / 256) (((tabF ((s % 256) ^^^ c) : Nat)) : Int) = ((crcByte s c : Nat) : Int) := by
  have h2 : (s % 256) ^^^ c < 256 := Nat.xor_lt_two_pow (n := 8) (by omega) (by omega)
  have h3 : tabF ((s % 256) ^^^ c) < 4294967296 := crcN_lt (by omega)
  rw [← byte_table s c hc]
  rw [show (s : Int) / 256 = ((s / 256 : Nat) : Int) by omega, u32_xor_nat _ _ (by omega) h3]
theorem idx_bits {s c : Nat} (hc : c < 256) : bits .xor .u8 ((s : Int) % 256) (c : Int) = (((s % 256) ^^^ c : Nat) : Int) := by
  rw [show (s : Int) % 256 = ((s % 256 : Nat) : Int) by omega, u8_xor_nat _ _ (by omega) hc]

set_option maxHeartbeats 1000000 in
theorem next_ok (s : Nat) (A : Option Addr) (n c : Nat) (xs : List Int) (w : World) (hs : s < 4294967296) (hn : xs.length = n) (hl : n ≤ 100000) (hx : U8 xs) (hsl : Sl w w.heap.size .u8 A xs) :
    Calls Tryd.prog 47 #[.int .u32 (s : Int), .slice A n c] w fun e w' => e = .returned (.tuple #[.int .u32 ((crcL s xs : Nat) : Int), .int .i64 0]) ∧ Below w.heap.size w w' := by
  subst hn
  have d1 : decide ((100000 : Int) < (xs.length : Int)) = false := by simp; omega
  go_enter Tryd.func47, Tryd.ntmps47
  go_wp2_with fail
  refine (table_any w).mono ?_
  rintro e w1 ⟨g, rfl, hown, hbel⟩
  have HO := Lib.hid hown
  have HB := Lib.hid hbel
  have HS := Lib.hid (hsl.next hbel)
  clear hown hbel hsl
  go_wp2_with fail
  go_loop [0, 15] (fun st i => ∃ k : Nat, k ≤ xs.length ∧ i = .int .i64 k ∧ st = .int .u32 ((crcL s (xs.take k) : Nat) : Int)) (fun _ i => xs.length - (intOf i).toNat)
  case atStart => exact ⟨0, by omega, rfl, rfl⟩
  case round =>
    obtain ⟨k, hk, rfl, rfl⟩ := hrel
    by_cases hlt : k < xs.length
    · obtain ⟨b, o, rfl, hb, hc⟩ := HS.out (by omega)
      have hcell := hc k hlt
      have hbd := hx _ (mem_getD hlt)
      have hst := crcL_lt hs (l := xs.take k) (fun x h => hx x (List.mem_of_mem_take h))
      have hT := (congrArg (crcL s) (take_snoc xs k hlt)).trans (crcL_snoc s (xs.take k) (xs.getD k 0))
      obtain ⟨y, hy⟩ := Int.eq_ofNat_of_zero_le hbd.1
      rw [hy] at hcell hT hbd
      rw [Int.toNat_natCast] at hT
      clear hy hc HS
      generalize crcL s (xs.take k) = t at *
      have hi : (t % 256) ^^^ y < 256 := Nat.xor_lt_two_pow (n := 8) (by omega) (by omega)
      have e1 := idx_bits (s := t) (c := y) (by omega)
      have e2 := Lib.hid (next_bits (c := y) hst (by omega))
      have hcell2 := HO.out.cell ((t % 256) ^^^ y) (by rw [tabL_len]; exact hi)
      rw [tabL_get _ hi] at hcell2
      have HT := Lib.hid hT
      clear hT
      generalize (t % 256) ^^^ y = j at *
      have hj : (j : Int) < 256 := by omega
      go_wp2_with fail
      go_round
      case rel => exact ⟨k + 1, by omega, by go_num, by rw [HT.out, ← e2.out]⟩
      case measure => simp [intOf]; omega
    · go_wp2_with fail
      go_ret2
      rw [List.take_of_length_le (by omega)]
      exact ⟨rfl, HB.out⟩

theorem next_many (s : Int) (A : Option Addr) (n c : Nat) (w : World) (hl : 100000 < n) (hm : n ≤ 9223372036854775807) :
    Calls Tryd.prog 47 #[.int .u32 s, .slice A n c] w fun e w' => e = .returned (.tuple #[.int .u32 0, .int .i64 4]) ∧ w = w' := by
  go_enter Tryd.func47, Tryd.ntmps47
  go_wp2_with fail
  go_ret2
  exact ⟨rfl, rfl⟩

theorem xor_all32 (b : Nat) (hb : b < 4294967296) : 4294967295 ^^^ b = 4294967295 - b := by
  apply Nat.eq_of_testBit_eq
  intro i
  have e : 4294967295 = 2 ^ 32 - 1 := by decide
  have hb' : b < 2 ^ 32 := by omega
  rw [Nat.testBit_xor, e, Nat.testBit_two_pow_sub_one, show 2 ^ 32 - 1 - b = 2 ^ 32 - (b + 1) by omega, Nat.testBit_two_pow_sub_succ hb']
  by_cases hi : i < 32
  · simp [hi]
  · have : b.testBit i = false := Nat.testBit_lt_two_pow (Nat.lt_of_lt_of_le hb' (Nat.pow_le_pow_right (by decide) (by omega)))
    simp [hi, this]
theorem not32 {t : Nat} (h : t < 4294967296) : bits .xor .u32 IntKind.u32.max (t : Int) = 4294967295 - (t : Int) := by
  rw [show IntKind.u32.max = ((4294967295 : Nat) : Int) from by decide, u32_xor_nat _ _ (by decide) h, xor_all32 t h]
  omega
theorem ret_int2 {k : IntKind} {a b : Int} {v : Value} (h : a = b) : Ending.returned (.tuple #[.int k a, v]) = .returned (.tuple #[.int k b, v]) := by rw [h]
def sumL (xs : List Int) : Nat := 4294967295 - crcL 4294967295 xs
theorem sumL_lt (xs : List Int) : sumL xs < 4294967296 := by unfold sumL; omega

set_option maxHeartbeats 400000 in
theorem sum_ok (A : Option Addr) (n c : Nat) (xs : List Int) (w : World) (hn : xs.length = n) (hl : n ≤ 100000) (hx : U8 xs) (hsl : Sl w w.heap.size .u8 A xs) :
    Calls Tryd.prog 28 #[.slice A n c] w fun e w' => e = .returned (.tuple #[.int .u32 ((sumL xs : Nat) : Int), .int .i64 0]) ∧ Below w.heap.size w w' := by
  have hst := crcL_lt (s := 4294967295) (by decide) hx
  have E := Lib.hid ((not32 hst).trans (show 4294967295 - ((crcL 4294967295 xs : Nat) : Int) = ((sumL xs : Nat) : Int) by unfold sumL; omega))
  have C := Lib.hid (next_ok 4294967295 A n c xs w (by decide) hn hl hx hsl)
  generalize crcL 4294967295 xs = t at *
  generalize sumL xs = u at *
  clear hsl
  go_enter Tryd.func28, Tryd.ntmps28
  go_wp2_with fail
  refine C.out.mono ?_
  rintro e w1 ⟨rfl, hbel⟩
  clear C
  go_wp2_with fail
  go_ret2
  exact ⟨ret_int2 E.out, hbel⟩
theorem sum_many (A : Option Addr) (n c : Nat) (w : World) (hl : 100000 < n) (hm : n ≤ 9223372036854775807) :
    Calls Tryd.prog 28 #[.slice A n c] w fun e w' => e = .returned (.tuple #[.int .u32 0, .int .i64 4]) ∧ w = w' := by
  go_enter Tryd.func28, Tryd.ntmps28
  go_wp2_with fail
  refine (next_many _ _ _ _ _ hl hm).mono ?_
  rintro e w1 ⟨rfl, rfl⟩
  go_wp2_with fail
  go_ret2
  exact ⟨rfl, rfl⟩
end Go.Proofs.YtgfibgnolmogkaaDoor

/-
  The walks of Crc32Parts, Crc32Table and Crc32Linear. Conditions: numbers within their types.
-/
import Derived.Test.YtfhodjdbbocpiaaLaw03A
import Derived.StillTailTactics
namespace Go.Proofs.Ytfhodjdbbocpiaa
open Go.RowKit
set_option linter.unusedVariables false

theorem next_v {s : Nat} {A : Option Addr} {n c : Nat} {v : Nat} (xs : List Int) (w : World) (hs : s < 4294967296) (hn : xs.length = n) (hl : n ≤ 100000) (hx : U8 xs) (hsl : Sl w w.heap.size .u8 A xs) (hv : crcL s xs = v) :
    Calls Try.prog 10 #[.int .u32 (s : Int), .slice A n c] w fun e w' => e = .returned (.tuple #[.int .u32 (v : Int), .int .i64 0]) ∧ Below w.heap.size w w' := by
  subst hv
  exact next_ok s A n c xs w hs hn hl hx hsl
theorem u8_append {xs ys : List Int} (hx : U8 xs) (hy : U8 ys) : U8 (xs ++ ys) := fun z hz => by
  rcases List.mem_append.1 hz with h | h
  · exact hx z h
  · exact hy z h

set_option maxHeartbeats 1000000 in
theorem crc32Parts_main (s : Nat) (A : Option Addr) (c : Nat) (xs : List Int) (A' : Option Addr) (c' : Nat) (ys : List Int) (w : World) (hs : s < 4294967296)
    (hx : U8 xs) (hsl : Sl w w.heap.size .u8 A xs) (hy : U8 ys) (hsl' : Sl w w.heap.size .u8 A' ys) (h1 : xs.length ≤ 1000) (h2 : ys.length ≤ 1000) :
    Calls Try.prog 6 #[.int .u32 (s : Int), .slice A xs.length c, .slice A' ys.length c'] w fun e w' => e = .returned (.bool true) ∧ Below w.heap.size w w' := by
  have SX := Lib.hid hsl
  have SY := Lib.hid hsl'
  have HX := Lib.hid hx
  have HY := Lib.hid hy
  have b1 := crcL_lt hs hx
  have b2 := crcL_lt b1 hy
  have f1 := crcL_lt (s := 4294967295) (by decide) hx
  have f2 := crcL_lt f1 hy
  have E1 := Lib.hid (crcL_append s xs ys)
  have E2 := Lib.hid (show ((sumL (xs ++ ys) : Nat) : Int) = 4294967295 - ((crcL (crcL 4294967295 xs) ys : Nat) : Int) by unfold sumL; rw [crcL_append]; omega)
  have G1 := Lib.hid (rfl : crcL s xs = crcL s xs)
  have G2 := Lib.hid (rfl : crcL (crcL s xs) ys = crcL (crcL s xs) ys)
  have G3 := Lib.hid (rfl : crcL 4294967295 xs = crcL 4294967295 xs)
  have G4 := Lib.hid (rfl : crcL (crcL 4294967295 xs) ys = crcL (crcL 4294967295 xs) ys)
  generalize h3 : crcL (crcL s xs) ys = t2 at *
  generalize h4 : crcL s xs = t1 at *
  generalize h5 : crcL (crcL 4294967295 xs) ys = t4 at *
  generalize h6 : crcL 4294967295 xs = t3 at *
  have H3 := Lib.hid h3
  have H4 := Lib.hid h4
  have H5 := Lib.hid h5
  have H6 := Lib.hid h6
  have B0 := Lib.hid (bel_up (bel_self w) (.cells #[] 5))
  clear hsl hsl' hx hy h3 h4 h5 h6 G1 G2 G3 G4
  go_enter Try.func6, Try.ntmps6
  go_wp2_with (first
    | (at_builtin; refine appN (xs := []) (ys := xs) elU8 _ _ rfl rfl rfl rfl (Own.lit w w.heap.size .u8 5 [] rfl rfl (Nat.le_refl _) (by decide)) (SX.out.alloc (Nat.le_refl _) _) (by simp; omega) (by simp; omega) B0.out.size ?_; intro v1 w1 own1 bel1; have B1 := Lib.hid (B0.out.trans bel1); have O1 := Lib.hid own1; clear own1 bel1 B0)
    | (at_builtin; refine appN (xs := [] ++ xs) (ys := ys) elU8 _ _ rfl rfl rfl rfl O1.out (SY.out.below B1.out) (by simp; omega) (by simp; omega) B1.out.size ?_; intro v2 w2 own2 bel2; have BB := Lib.hid (B1.out.trans bel2); have O2 := Lib.hid own2; clear own2 bel2 B1 O1))
  obtain ⟨Ao, co, rfl, _, _, sl1⟩ := O2.out.sln (n := xs.length + ys.length) (by simp)
  have SO := Lib.hid sl1
  have SX := Lib.hid (SX.out.next BB.out)
  have SY := Lib.hid (SY.out.next BB.out)
  clear sl1 O2
  simp only [List.nil_append] at SO
  go_wp2_with fail
  refine (next_v (v := t1) xs _ hs rfl (by omega) HX.out SX.out H4.out).mono ?_
  rintro e w3 ⟨rfl, bel3⟩
  have SO := Lib.hid (SO.out.next bel3)
  have SX := Lib.hid (SX.out.next bel3)
  have SY := Lib.hid (SY.out.next bel3)
  have BB := Lib.hid (bel_next BB.out bel3)
  clear bel3
  go_wp2_with fail
  refine (next_v (v := t2) ys _ b1 rfl (by omega) HY.out SY.out H3.out).mono ?_
  rintro e w4 ⟨rfl, bel4⟩
  have SO := Lib.hid (SO.out.next bel4)
  have SX := Lib.hid (SX.out.next bel4)
  have SY := Lib.hid (SY.out.next bel4)
  have BB := Lib.hid (bel_next BB.out bel4)
  clear bel4
  go_wp2_with fail
  refine (next_v (v := t2) (xs ++ ys) _ hs (by simp) (by omega) (u8_append HX.out HY.out) SO.out E1.out).mono ?_
  rintro e w5 ⟨rfl, bel5⟩
  have SO := Lib.hid (SO.out.next bel5)
  have SX := Lib.hid (SX.out.next bel5)
  have SY := Lib.hid (SY.out.next bel5)
  have BB := Lib.hid (bel_next BB.out bel5)
  clear bel5
  go_wp2_with fail
  refine (next_v (s := 4294967295) (v := t3) xs _ (by decide) rfl (by omega) HX.out SX.out H6.out).mono ?_
  rintro e w6 ⟨rfl, bel6⟩
  have SO := Lib.hid (SO.out.next bel6)
  have SX := Lib.hid (SX.out.next bel6)
  have SY := Lib.hid (SY.out.next bel6)
  have BB := Lib.hid (bel_next BB.out bel6)
  clear bel6
  go_wp2_with fail
  refine (next_v (v := t4) ys _ f1 rfl (by omega) HY.out SY.out H5.out).mono ?_
  rintro e w7 ⟨rfl, bel7⟩
  have SO := Lib.hid (SO.out.next bel7)
  have SX := Lib.hid (SX.out.next bel7)
  have SY := Lib.hid (SY.out.next bel7)
  have BB := Lib.hid (bel_next BB.out bel7)
  clear bel7
  go_wp2_with fail
  refine (sum_v (v := 4294967295 - (t4 : Int)) (xs ++ ys) _ (by simp) (by omega) (u8_append HX.out HY.out) SO.out E2.out).mono ?_
  rintro e w8 ⟨rfl, bel8⟩
  have SO := Lib.hid (SO.out.next bel8)
  have SX := Lib.hid (SX.out.next bel8)
  have SY := Lib.hid (SY.out.next bel8)
  have BB := Lib.hid (bel_next BB.out bel8)
  clear bel8
  go_wp2_with fail
  refine (alive_any w8).mono ?_
  rintro e w9 ⟨rfl, bel9⟩
  have SO := Lib.hid (SO.out.next bel9)
  have SX := Lib.hid (SX.out.next bel9)
  have SY := Lib.hid (SY.out.next bel9)
  have BB := Lib.hid (bel_next BB.out bel9)
  clear bel9
  go_wp2_with fail
  go_ret
  exact ⟨ret_bool (by simp), BB.out⟩

set_option maxHeartbeats 400000 in
theorem crc32Parts_walk (s : Int) (A : Option Addr) (c : Nat) (xs : List Int) (A' : Option Addr) (c' : Nat) (ys : List Int) (w : World) (hs0 : 0 ≤ s) (hs1 : s ≤ 4294967295)
    (hc : xs.length ≤ c) (hm : c ≤ 9223372036854775807) (hx : U8 xs) (hsl : Sl w w.heap.size .u8 A xs) (hc' : ys.length ≤ c') (hm' : c' ≤ 9223372036854775807) (hy : U8 ys) (hsl' : Sl w w.heap.size .u8 A' ys) :
    Calls Try.prog 6 #[.int .u32 s, .slice A xs.length c, .slice A' ys.length c'] w fun e w' => e = .returned (.bool true) ∧ Below w.heap.size w w' := by
  obtain ⟨t, rfl⟩ := Int.eq_ofNat_of_zero_le hs0
  by_cases h1 : xs.length ≤ 1000
  · by_cases h2 : ys.length ≤ 1000
    · exact crc32Parts_main t A c xs A' c' ys w (by omega) hx hsl hy hsl' h1 h2
    · have BB := Lib.hid (bel_self w)
      clear hsl hx hsl' hy
      go_enter Try.func6, Try.ntmps6
      go_wp2_with fail
      refine (alive_any w).mono ?_
      rintro e w1 ⟨rfl, bel1⟩
      have BB := Lib.hid (bel_next BB.out bel1)
      clear bel1
      go_wp2_with fail
      go_ret
      exact ⟨rfl, BB.out⟩
  · have BB := Lib.hid (bel_self w)
    clear hsl hx hsl' hy
    go_enter Try.func6, Try.ntmps6
    go_wp2_with fail
    refine (alive_any w).mono ?_
    rintro e w1 ⟨rfl, bel1⟩
    have BB := Lib.hid (bel_next BB.out bel1)
    clear bel1
    go_wp2_with fail
    go_ret
    exact ⟨rfl, BB.out⟩

set_option maxHeartbeats 1000000 in
theorem crc32Table_main (s b : Nat) (w : World) (hs : s < 4294967296) (hb : b < 256) :
    Calls Try.prog 8 #[.int .u32 (s : Int), .int .u8 (b : Int)] w fun e w' => e = .returned (.bool true) ∧ Below w.heap.size w w' := by
  have BB := Lib.hid (bel_self w)
  have hi : (s % 256) ^^^ b < 256 := Nat.xor_lt_two_pow (n := 8) (by omega) (by omega)
  have e1 := idx_bits (s := s) (c := b) hb
  have e2 := next_bits hs hb
  have E3 := Lib.hid (show crcL s [(b : Int)] = crcByte s b by rfl)
  generalize crcByte s b = t at *
  have e4 : ((t : Int) == (t : Int)) = true := by simp
  have H1 := Lib.hid e1
  have H2 := Lib.hid e2
  clear e1 e2
  go_enter Try.func8, Try.ntmps8
  go_wp2_with fail
  refine (Table_any _).mono ?_
  rintro e w1 ⟨v, rfl, own3, bel3⟩
  obtain ⟨A, c, rfl, hc, hm, sl3⟩ := own3.sln (tabL_len 256)
  have ST := Lib.hid sl3
  have BB := Lib.hid (bel_next BB.out bel3)
  clear sl3 own3 bel3
  go_wp2_with fail
  refine (next_v (n := 1) (v := t) [(b : Int)] _ hs rfl (by decide) (by intro x hx; simp at hx; omega) (Sl.lit' w1 .u8 _ [(b : Int)] rfl) E3.out).mono ?_
  rintro e w2 ⟨rfl, bel2⟩
  have ST := Lib.hid ((ST.out.up _).next bel2)
  have BB := Lib.hid (bel_next (bel_up BB.out _) bel2)
  clear bel2
  obtain ⟨bb, o, rfl, _, hcell⟩ := ST.out (by rw [tabL_len]; decide)
  have cc := hcell ((s % 256) ^^^ b) (by rw [tabL_len]; exact hi)
  rw [tabL_get _ hi] at cc
  have e1 := H1.out
  have e2 := H2.out
  clear hcell ST H1 H2
  generalize (s % 256) ^^^ b = j at *
  have hj : (j : Int) < 256 := by omega
  go_wp2_with fail
  refine (alive_any w2).mono ?_
  rintro e w3 ⟨rfl, bel3⟩
  have BB := Lib.hid (bel_next BB.out bel3)
  clear bel3
  go_wp2_with fail
  go_ret
  exact ⟨rfl, BB.out⟩

theorem crc32Table_walk (s b : Int) (w : World) (hs0 : 0 ≤ s) (hs1 : s ≤ 4294967295) (hb0 : 0 ≤ b) (hb1 : b ≤ 255) :
    Calls Try.prog 8 #[.int .u32 s, .int .u8 b] w fun e w' => e = .returned (.bool true) ∧ Below w.heap.size w w' := by
  obtain ⟨t, rfl⟩ := Int.eq_ofNat_of_zero_le hs0
  obtain ⟨u, rfl⟩ := Int.eq_ofNat_of_zero_le hb0
  exact crc32Table_main t u w (by omega) (by omega)
end Go.Proofs.Ytfhodjdbbocpiaa

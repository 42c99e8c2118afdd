/-
  The walk of HeaderFrames. Conditions: numbers within their types; the package variable widths as the text lays it.
-/
import Derived.Test.YtgfibgnolmogkaaDoorLaw25C
import Derived.Test.YtgfibgnolmogkaaDoorRef22C
namespace Go.Proofs.YtgfibgnolmogkaaDoor
open Go.RowKit
set_option linter.unusedVariables false

set_option maxRecDepth 100000 in
set_option maxHeartbeats 1000000 in
theorem headerFrames_bad (f c b r n : Int) (w : World) (hn1 : n ≤ 9223372036854775807) (hW : WdAt w) (h0 : hdE f c b r n ≠ 0) :
    Calls Tryd.prog 8 #[.agg #[.int .i64 f, .int .i64 c, .int .i64 b, .int .i64 r, .int .i64 n]] w fun e w' => e = .returned (.bool true) ∧ Below w.heap.size w w' := by
  have BB := Lib.hid (bel_up (bel_self w) (.cells #[.int .i64 f, .int .i64 c, .int .i64 b, .int .i64 r, .int .i64 n] 23))
  have WD := Lib.hid (hW.up (.cells #[.int .i64 f, .int .i64 c, .int .i64 b, .int .i64 r, .int .i64 n] 23))
  have BH := Lib.hid (BlkH.new w 23 #[.int .i64 f, .int .i64 c, .int .i64 b, .int .i64 r, .int .i64 n])
  have CF := Lib.hid (fun W => hdFrames f c b r n W hn1)
  have CK := Lib.hid (fun W => hdCheck f c b r n W hn1)
  rw [hdL_bad h0] at CF
  have e1 : (hdE f c b r n != 0) = true := by simp; exact h0
  have e2 : (hdE f c b r n == hdE f c b r n) = true := by simp
  generalize hdE f c b r n = E at *
  clear h0 hW
  go_enter Tryd.func8, Tryd.ntmps8
  go_wp2_with fail
  generalize w.alloc (.cells #[.int .i64 f, .int .i64 c, .int .i64 b, .int .i64 r, .int .i64 n] 23) = wb at *
  go_wp2_with fail
  refine (hdAlive _ WD.out).mono ?_
  rintro e w1 ⟨rfl, bel1⟩
  have BH := Lib.hid (BH.out.next bel1)
  have BB := Lib.hid (bel_next BB.out bel1)
  clear bel1
  have c0 := BH.out.cell 0
  have c1 := BH.out.cell 1
  have c2 := BH.out.cell 2
  have c3 := BH.out.cell 3
  have c4 := BH.out.cell 4
  go_wp2_with fail
  refine (CF.out _).mono ?_
  rintro e w2 ⟨v2, rfl, own2, bel2⟩
  obtain ⟨A2, k2, rfl, hk2, hm2, sl2⟩ := own2.sln (n := 0) rfl
  have BH := Lib.hid (BH.out.next bel2)
  have BB := Lib.hid (bel_next BB.out bel2)
  clear bel2 own2 sl2 c0 c1 c2 c3 c4
  have c0 := BH.out.cell 0
  have c1 := BH.out.cell 1
  have c2 := BH.out.cell 2
  have c3 := BH.out.cell 3
  have c4 := BH.out.cell 4
  go_wp2_with fail
  refine (CK.out _).mono ?_
  rintro e w3 ⟨rfl, bel3⟩
  have BH := Lib.hid (BH.out.next bel3)
  have BB := Lib.hid (bel_next BB.out bel3)
  clear bel3
  go_wp2_with fail
  go_ret
  exact ⟨rfl, BB.out⟩

set_option maxRecDepth 100000 in
set_option maxHeartbeats 1000000 in
theorem headerFrames_ok (f c b r n : Int) (w : World) (hn1 : n ≤ 9223372036854775807) (hW : WdAt w) (h0 : hdE f c b r n = 0) :
    Calls Tryd.prog 8 #[.agg #[.int .i64 f, .int .i64 c, .int .i64 b, .int .i64 r, .int .i64 n]] w fun e w' => e = .returned (.bool true) ∧ Below w.heap.size w w' := by
  obtain ⟨_, _, _, _, h5, h6, h7, h8, h9⟩ := hdE_ok h0
  obtain ⟨hl, g1, g2, _, _, _, _, g3, g4, _⟩ := cnE_ok h9
  obtain ⟨m, ml, m9, m0, m1, m2, mi, mm⟩ := alL_parts g1 h7 h8 g4
  have BB := Lib.hid (bel_up (bel_self w) (.cells #[.int .i64 f, .int .i64 c, .int .i64 b, .int .i64 r, .int .i64 n] 23))
  have WD := Lib.hid (hW.up (.cells #[.int .i64 f, .int .i64 c, .int .i64 b, .int .i64 r, .int .i64 n] 23))
  have BH := Lib.hid (BlkH.new w 23 #[.int .i64 f, .int .i64 c, .int .i64 b, .int .i64 r, .int .i64 n])
  have CF := Lib.hid (fun W => hdFrames f c b r n W hn1)
  have CL := Lib.hid (fun W => long_any r W (by omega) (by omega))
  have CA := Lib.hid (fun W => all_any r n W (by omega) (by omega) (by omega) (by omega))
  rw [hdL_ok h0, h0, alR_ok h9] at CF
  rw [hl] at CL
  rw [h9, alR_ok h9] at CA
  generalize alL (lgV r) n = l at *
  generalize lgV r = L at *
  clear h0 hW hl h9 h5 h6 g3 g4
  go_enter Tryd.func8, Tryd.ntmps8
  go_wp2_with fail
  generalize w.alloc (.cells #[.int .i64 f, .int .i64 c, .int .i64 b, .int .i64 r, .int .i64 n] 23) = wb at *
  go_wp2_with fail
  refine (hdAlive _ WD.out).mono ?_
  rintro e w1 ⟨rfl, bel1⟩
  have BH := Lib.hid (BH.out.next bel1)
  have BB := Lib.hid (bel_next BB.out bel1)
  clear bel1
  have c0 := BH.out.cell 0
  have c1 := BH.out.cell 1
  have c2 := BH.out.cell 2
  have c3 := BH.out.cell 3
  have c4 := BH.out.cell 4
  go_wp2_with fail
  refine (CF.out _).mono ?_
  rintro e w2 ⟨v2, rfl, own2, bel2⟩
  obtain ⟨A2, k2, rfl, hk2, hm2, sl2⟩ := own2.sln (n := m + 1) ml
  obtain ⟨ga, rfl, hga, hgl⟩ := own2.addr (by omega)
  have SL := Lib.hid sl2
  have BH := Lib.hid (BH.out.next bel2)
  have BB := Lib.hid (bel_next BB.out bel2)
  clear bel2 own2 sl2 c0 c1 c2 c3 c4
  have c3 := BH.out.cell 3
  have c4 := BH.out.cell 4
  go_wp2_with fail
  refine (CL.out _).mono ?_
  rintro e w' ⟨rfl, rfl⟩
  go_wp2_with fail
  refine (CA.out _).mono ?_
  rintro e w3 ⟨v3, rfl, own3, bel3⟩
  obtain ⟨A3, k3, rfl, hk3, hm3, sl3⟩ := own3.sln (n := m + 1) ml
  have SM := Lib.hid sl3
  have SL := Lib.hid (SL.out.next bel3)
  have BH := Lib.hid (BH.out.next bel3)
  have BB := Lib.hid (bel_next BB.out bel3)
  clear bel3 own3 sl3 c3 c4
  have lz : ((m : Int) + 1 == 0) = false := by simp; omega
  go_wp2_with fail
  refine (same22 _ A3 _ _ k2 k3 l _ ml ml (by omega) SL.out SM.out).mono ?_
  rintro e w4 ⟨rfl, bel4⟩
  have BH := Lib.hid (BH.out.next bel4)
  have SL := Lib.hid (SL.out.next bel4)
  have SM := Lib.hid (SM.out.next bel4)
  have BB := Lib.hid (bel_next BB.out bel4)
  clear bel4
  have lm := Lib.hid ml
  have M0 := Lib.hid m0
  have M1 := Lib.hid m1
  have M2 := Lib.hid m2
  have MI := Lib.hid mi
  have MM := Lib.hid mm
  clear m0 m1 m2 mi mm ml
  go_wp2_with fail
  generalize hW4 : w4 = W4 at *
  go_loopw [11, 10] (fun i s wr => ∃ k : Nat, k ≤ m + 1 ∧ i = .int .i64 k ∧ s = .int .i64 (if k ≤ m then (k : Int) * L else n) ∧ W4 = wr) (fun i _ _ => m + 1 - (intOf i).toNat)
  case atStart => exact ⟨0, by omega, rfl, by simp, rfl⟩
  case round =>
    obtain ⟨k, hk, rfl, rfl, rfl⟩ := hrel
    by_cases hlt : k < m + 1
    · obtain ⟨_, ci⟩ := SL.out.at5 (i := k) (by rw [lm.out]; exact hlt)
      have hlt' : (k : Int) < (m : Int) + 1 := by omega
      have l1 : ¬ (L < 1) := by omega
      have l2 : ¬ (L < L) := by omega
      have l3 : (L != L) = false := by simp
      have m0 := M0.out
      have m1 := M1.out
      have m2 := M2.out
      have hkm : k ≤ m := by omega
      have z0 : 0 ≤ (k : Int) * L := Int.mul_nonneg (by omega) (by omega)
      have z1 : (k : Int) * L ≤ (m : Int) * L := Int.mul_le_mul_of_nonneg_right (by omega) (by omega)
      have zk : (((k + 1 : Nat) : Int)) * L = (k : Int) * L + L := by rw [show (((k + 1 : Nat) : Int)) = (k : Int) + 1 by omega, Int.add_mul, Int.one_mul]
      simp only [if_pos hkm]
      by_cases hm : k < m
      · rw [MI.out k hm] at ci
        have z2 : (((k + 1 : Nat) : Int)) * L ≤ (m : Int) * L := Int.mul_le_mul_of_nonneg_right (by omega) (by omega)
        have E1 := Lib.hid (show (if k + 1 ≤ m then (((k + 1 : Nat) : Int)) * L else n) = (k : Int) * L + L by rw [if_pos (by omega), zk])
        rw [zk] at z2
        clear zk
        generalize (k : Int) * L = s at *
        generalize (m : Int) * L = t at *
        have hk1 : (k : Int) + 1 < (m : Int) + 1 := by omega
        go_wp2_with fail
        go_roundw
        case rel => exact ⟨k + 1, by omega, by go_num, by rw [E1.out] <;> go_num, trivial⟩
        case measure => simp [intOf] <;> omega
      · obtain rfl : k = m := by omega
        rw [MM.out] at ci
        have E1 := Lib.hid (show (if k + 1 ≤ k then (((k + 1 : Nat) : Int)) * L else n) = n by rw [if_neg (by omega)])
        clear zk
        generalize (k : Int) * L = s at *
        have l1 : ¬ (n - s < 1) := by omega
        have l2 : ¬ (L < n - s) := by omega
        have hk1 : ¬ (k : Int) + 1 < (k : Int) + 1 := by omega
        go_wp2_with fail
        go_roundw
        case rel => exact ⟨k + 1, by omega, by go_num, by rw [E1.out] <;> go_num, trivial⟩
        case measure => simp [intOf] <;> omega
    · have hlt' : ¬ (k : Int) < (m : Int) + 1 := by omega
      have hkm : ¬ k ≤ m := by omega
      have nn : (n == n) = true := by simp
      simp only [if_neg hkm]
      have c4 := BH.out.cell 4
      go_wp2_with fail
      go_ret
      exact ⟨rfl, BB.out⟩

theorem headerFrames_walk (f c b r n : Int) (w : World) (lf : -9223372036854775808 ≤ f) (uf : f ≤ 9223372036854775807) (lc : -9223372036854775808 ≤ c) (uc : c ≤ 9223372036854775807) (lb : -9223372036854775808 ≤ b) (ub : b ≤ 9223372036854775807)
    (lr : -9223372036854775808 ≤ r) (ur : r ≤ 9223372036854775807) (ln : -9223372036854775808 ≤ n) (un : n ≤ 9223372036854775807) (hW : WdAt w) :
    Calls Tryd.prog 8 #[.agg #[.int .i64 f, .int .i64 c, .int .i64 b, .int .i64 r, .int .i64 n]] w fun e w' => e = .returned (.bool true) ∧ Below w.heap.size w w' := by
  by_cases h : hdE f c b r n = 0
  · exact headerFrames_ok f c b r n w un hW h
  · exact headerFrames_bad f c b r n w un hW h
end Go.Proofs.YtgfibgnolmogkaaDoor

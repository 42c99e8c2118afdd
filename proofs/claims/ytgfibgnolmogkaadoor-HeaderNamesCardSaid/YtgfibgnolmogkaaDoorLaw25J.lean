/-
  The walk of HeaderNames. Conditions: the package variable widths as the text lays it.
-/
import Derived.Test.YtgfibgnolmogkaaDoorNmPlain
import Derived.Test.YtgfibgnolmogkaaDoorHeldG
namespace Go.Proofs.YtgfibgnolmogkaaDoor
open Go.RowKit
set_option linter.unusedVariables false

def nmB : List Int := hdW 2 6 24 1048576 666
theorem nmE : hdE 2 6 24 1048576 666 = 0 := by decide +kernel
theorem nmL1 : hdE 1 1 8 1 1000 = 0 := by decide +kernel
theorem nmL2 : hdE 1 2 8 245 600 = 0 ∧ hdL 1 2 8 245 600 = [256, 256, 88] := by decide +kernel
theorem nmL1l : (hdL 1 1 8 1 1000).length = 1000 ∧ (hdL 1 1 8 1 1000).getD 999 0 = 1 := by decide +kernel

set_option maxRecDepth 100000 in
set_option maxHeartbeats 40000000 in
theorem headerNames_walk (w : World) (hW : WdAt w) :
    Calls Tryd.prog 3 #[] w fun e w' => e = .returned (.bool true) ∧ Below w.heap.size w w' := by
  have BB := Lib.hid (bel_up (bel_self w) (.cells #[.int .i64 2, .int .i64 6, .int .i64 24, .int .i64 1048576, .int .i64 666] 23))
  have WD := Lib.hid (hW.up (.cells #[.int .i64 2, .int .i64 6, .int .i64 24, .int .i64 1048576, .int .i64 666] 23))
  have BK := Lib.hid (BlkH.new w 23 #[.int .i64 2, .int .i64 6, .int .i64 24, .int .i64 1048576, .int .i64 666])
  have CW := Lib.hid (fun W hq => hdWrite 2 6 24 1048576 666 W (by decide) hq)
  rw [nmE, hdWR_ok nmE] at CW
  have CF1 := Lib.hid (fun W => hdFrames 1 1 8 1 1000 W (by decide))
  rw [nmL1] at CF1
  have CF2 := Lib.hid (fun W => hdFrames 1 2 8 245 600 W (by decide))
  rw [nmL2.1, nmL2.2] at CF2
  have L1 := Lib.hid nmL1l.1
  have L1v := Lib.hid nmL1l.2
  have LW := Lib.hid (hdW_len 2 6 24 1048576 666)
  have U := Lib.hid (hdW_u8 2 6 24 1048576 666)
  have RB := Lib.hid (hdW_back nmE [1])
  have RC := Lib.hid (hdW_cut 2 6 24 1048576 666 (show 21 < 22 by decide))
  have RS := Lib.hid (show rhE ((hdW 2 6 24 1048576 666).set 4 9) = 22 from hdW_other 2 6 24 1048576 666 (i := 4) (by decide) (by decide) (by decide))
  have CWr := Lib.hid (fun W => hdWritten 2 6 24 1048576 666 W (by decide) (by decide) (by decide) (by decide) (by decide))
  generalize hdW 2 6 24 1048576 666 = bw at *
  generalize hdL 1 1 8 1 1000 = ll at *
  have cvA : ∀ W : World, (convert 24 24 (.slice (some ⟨W.heap.size, 0, none⟩) 4 4)).run Tryd.prog (W.alloc (.cells #[.int .u8 84, .int .u8 84, .int .u8 65, .int .u8 50] 5)) = .ok (.slice (some ⟨W.heap.size, 0, none⟩) 4 4) (W.alloc (.cells #[.int .u8 84, .int .u8 84, .int .u8 65, .int .u8 50] 5 (4, 5))) := fun W => Lib.run_convert_bytes_const (P := Tryd.prog) W 24 5 #[.int .u8 84, .int .u8 84, .int .u8 65, .int .u8 50] 4 4 Tryd.underlying24 Tryd.underlying5
  have cvB : ∀ W : World, (convert 24 24 (.slice (some ⟨W.heap.size, 0, none⟩) 2 2)).run Tryd.prog (W.alloc (.cells #[.int .u8 84, .int .u8 85] 5)) = .ok (.slice (some ⟨W.heap.size, 0, none⟩) 2 2) (W.alloc (.cells #[.int .u8 84, .int .u8 85] 5 (2, 3))) := fun W => Lib.run_convert_bytes_const (P := Tryd.prog) W 24 5 #[.int .u8 84, .int .u8 85] 2 2 Tryd.underlying24 Tryd.underlying5
  have cvC : ∀ W : World, (convert 24 24 (.slice (some ⟨W.heap.size, 0, none⟩) 3 3)).run Tryd.prog (W.alloc (.cells #[.int .u8 84, .int .u8 84, .int .u8 65] 5)) = .ok (.slice (some ⟨W.heap.size, 0, none⟩) 3 3) (W.alloc (.cells #[.int .u8 84, .int .u8 84, .int .u8 65] 5 (3, 4))) := fun W => Lib.run_convert_bytes_const (P := Tryd.prog) W 24 5 #[.int .u8 84, .int .u8 84, .int .u8 65] 3 3 Tryd.underlying24 Tryd.underlying5
  have UL : U8 [84, 84, 65, 50] ∧ U8 [84, 85] ∧ U8 [84, 84, 65] := by unfold U8; decide
  have UL := Lib.hid UL
  obtain ⟨ls, hls⟩ : ∃ ls, ls = strOfNums (List.replicate 65 0) := ⟨_, rfl⟩
  have LZ : ls.size = 65 := by rw [hls, strOfNums_size, List.length_replicate]
  have mkz : ∀ W, (Instr.makeSlice 24 (.int .i64 65) (.int .i64 65)).run Tryd.prog W = .ok (.slice (some ⟨W.heap.size, 0, none⟩) 65 65) (W.alloc (.cells (zerosA .u8 65) 5)) := run_make_ints leElU8 65 rfl (by decide) (by decide)
  have cvz : ∀ W : World, (convert 24 9 (.slice (some ⟨W.heap.size, 0, none⟩) 65 65)).run Tryd.prog (W.alloc (.cells (zerosA .u8 65) 5)) = .ok (.string ls) (W.alloc (.cells (zerosA .u8 65) 5)) := fun W => by
    rw [hls]; exact conv_sl Tryd.underlying24 Tryd.underlying5 Tryd.underlying9 (Sl.zeros' W .u8 5 65) (by simp)
  have bc : ∀ W, (Instr.build 40 #[]).run Tryd.prog W = .ok (.agg #[.int .i64 0, .int .i64 0, .int .i64 0, .slice none 0 0]) W := fun W => by kernel_rfl
  have mz : ∀ (ch b r : Int) (xs : List Int) (m : Nat), mkE ch b r xs m ≠ 0 → mkV ch b r xs m = .agg #[.int .i64 0, .int .i64 0, .int .i64 0, .int .i64 0, .int .i64 0] := fun ch b r xs m h => if_neg h
  have CM1 := Lib.hid (fun W A (hq : Sl W W.heap.size .i32 A [1, 2]) => hdMake 1 16 245 A 2 2 [1, 2] ls W rfl (by decide) (by rw [LZ]; decide) (by unfold I32; decide) hq (by decide) (by decide) (by decide) (by decide) (by decide) (by decide))
  have q1 : mkE 1 16 245 [1, 2] 65 = 2 := by decide +kernel
  rw [LZ, mz _ _ _ _ _ (by rw [q1]; decide), q1] at CM1
  have CM2 := Lib.hid (fun W => hdMake 0 0 0 none 0 0 [] ls W rfl (by decide) (by rw [LZ]; decide) (by unfold I32; decide) Sl.nil_ (by decide) (by decide) (by decide) (by decide) (by decide) (by decide))
  have q2 : mkE 0 0 0 [] 65 = 8 := by decide +kernel
  rw [LZ, mz _ _ _ _ _ (by rw [q2]; decide), q2] at CM2
  obtain ⟨lt, hlt⟩ : ∃ lt, lt = ls.extract 0 64 := ⟨_, rfl⟩
  have LT : lt.size = 64 := by rw [hlt, ByteArray.size_extract, LZ]; rfl
  have CM3 := Lib.hid (fun W A (hq : Sl W W.heap.size .i32 A [1, 2]) => hdMake 1 16 245 A 2 2 [1, 2] lt W rfl (by decide) (by rw [LT]; decide) (by unfold I32; decide) hq (by decide) (by decide) (by decide) (by decide) (by decide) (by decide))
  have q3 : mkE 1 16 245 [1, 2] 64 = 0 := by decide +kernel
  rw [LT, show mkV 1 16 245 [1, 2] 64 = .agg #[.int .i64 2, .int .i64 1, .int .i64 16, .int .i64 245, .int .i64 2] by unfold mkV; rw [if_pos q3]; rfl, q3] at CM3
  have C24 := Lib.hid (fun W => re24Check 0 0 0 none 0 0 [] W rfl (by decide) (by unfold I32; decide) Sl.nil_ (by decide) (by decide) (by decide) (by decide) (by decide) (by decide))
  rw [show clE 0 0 0 [] = 8 by decide +kernel] at C24
  have CK := Lib.hid (fun W => hdCheck 2 1 16 245 2 W (by decide))
  rw [show hdE 2 1 16 245 2 = 0 by decide +kernel] at CK
  have HE := Lib.hid (fun W => hd_eq 2 6 24 1048576 666 2 6 24 1048576 666 W)
  have HLT := Lib.hid hlt
  have MKZ := Lib.hid mkz
  have CVZ := Lib.hid cvz
  have BCZ := Lib.hid bc
  have LZ := Lib.hid LZ
  clear hW mz q1 q2 q3 hls hlt mkz cvz bc LT
  go_enter Tryd.func3, Tryd.ntmps3
  go_wp2_with fail
  generalize w.alloc (.cells #[.int .i64 2, .int .i64 6, .int .i64 24, .int .i64 1048576, .int .i64 666] 23) = W1 at *
  go_loopw [2] (fun i wr => ∃ k : Nat, k ≤ 12 ∧ i = .int .i64 k ∧ Below W1.heap.size W1 wr) (fun i _ => 12 - (intOf i).toNat)
  case atStart => exact ⟨0, by omega, rfl, bel_self _⟩
  case round =>
    obtain ⟨k, hk, rfl, hbel⟩ := hrel
    have BK := Lib.hid (BK.out.next hbel)
    have WD := Lib.hid (WD.out.next hbel)
    by_cases hlt : k < 12
    · have HB := Lib.hid hbel
      clear hbel
      have c0 := BK.out.cell 0
      have c1 := BK.out.cell 1
      have c2 := BK.out.cell 2
      have c3 := BK.out.cell 3
      have c4 := BK.out.cell 4
      obtain rfl | rfl | rfl | rfl | rfl | rfl | rfl | rfl | rfl | rfl | rfl | rfl : k = 0 ∨ k = 1 ∨ k = 2 ∨ k = 3 ∨ k = 4 ∨ k = 5 ∨ k = 6 ∨ k = 7 ∨ k = 8 ∨ k = 9 ∨ k = 10 ∨ k = 11 := by omega
      · as_aux_lemma =>
        have BN := Lib.hid (BlkH.new wr 23 #[.int .i64 0, .int .i64 6, .int .i64 24, .int .i64 1048576, .int .i64 666])
        have WD := Lib.hid (WD.out.up (.cells #[.int .i64 0, .int .i64 6, .int .i64 24, .int .i64 1048576, .int .i64 666] 23))
        have HB := Lib.hid (bel_up HB.out (.cells #[.int .i64 0, .int .i64 6, .int .i64 24, .int .i64 1048576, .int .i64 666] 23))
        have hE : hdE 0 6 24 1048576 666 = 8 := by decide +kernel
        have hN : (666 : Int) ≤ 9223372036854775807 := by decide
        go_wp2_with fail
        clear c0 c1 c2 c3 c4
        refine (nmW hE hN WD.out).mono ?_
        rintro e wa ⟨v, rfl, own, bel⟩
        obtain ⟨A, c, rfl, _, _, _⟩ := own.sl
        have BN := Lib.hid (BN.out.next bel)
        have HB := Lib.hid (bel_next HB.out bel)
        clear own bel WD
        have c0 := BN.out.cell 0
        have c1 := BN.out.cell 1
        have c2 := BN.out.cell 2
        have c3 := BN.out.cell 3
        have c4 := BN.out.cell 4
        go_wp2_with fail
        refine (nmF hE hN).mono ?_
        rintro e wb ⟨v, rfl, own, bel⟩
        obtain ⟨A', c', rfl, _, _, _⟩ := own.sl
        have BN := Lib.hid (BN.out.next bel)
        have HB := Lib.hid (bel_next HB.out bel)
        clear own bel c0 c1 c2 c3 c4
        have c0 := BN.out.cell 0
        have c1 := BN.out.cell 1
        have c2 := BN.out.cell 2
        have c3 := BN.out.cell 3
        have c4 := BN.out.cell 4
        go_wp2_with fail
        refine (nmC hE hN).mono ?_
        rintro e wc ⟨rfl, bel⟩
        have HB := Lib.hid (bel_next HB.out bel)
        clear bel c0 c1 c2 c3 c4
        go_wp2_with fail
        go_roundw
        case rel => exact ⟨_, by decide, rfl, HB.out⟩
        case measure => simp [intOf] <;> omega
      · as_aux_lemma =>
        have BN := Lib.hid (BlkH.new wr 23 #[.int .i64 3, .int .i64 6, .int .i64 24, .int .i64 1048576, .int .i64 666])
        have WD := Lib.hid (WD.out.up (.cells #[.int .i64 3, .int .i64 6, .int .i64 24, .int .i64 1048576, .int .i64 666] 23))
        have HB := Lib.hid (bel_up HB.out (.cells #[.int .i64 3, .int .i64 6, .int .i64 24, .int .i64 1048576, .int .i64 666] 23))
        have hE : hdE 3 6 24 1048576 666 = 8 := by decide +kernel
        have hN : (666 : Int) ≤ 9223372036854775807 := by decide
        go_wp2_with fail
        clear c0 c1 c2 c3 c4
        refine (nmW hE hN WD.out).mono ?_
        rintro e wa ⟨v, rfl, own, bel⟩
        obtain ⟨A, c, rfl, _, _, _⟩ := own.sl
        have BN := Lib.hid (BN.out.next bel)
        have HB := Lib.hid (bel_next HB.out bel)
        clear own bel WD
        have c0 := BN.out.cell 0
        have c1 := BN.out.cell 1
        have c2 := BN.out.cell 2
        have c3 := BN.out.cell 3
        have c4 := BN.out.cell 4
        go_wp2_with fail
        refine (nmF hE hN).mono ?_
        rintro e wb ⟨v, rfl, own, bel⟩
        obtain ⟨A', c', rfl, _, _, _⟩ := own.sl
        have BN := Lib.hid (BN.out.next bel)
        have HB := Lib.hid (bel_next HB.out bel)
        clear own bel c0 c1 c2 c3 c4
        have c0 := BN.out.cell 0
        have c1 := BN.out.cell 1
        have c2 := BN.out.cell 2
        have c3 := BN.out.cell 3
        have c4 := BN.out.cell 4
        go_wp2_with fail
        refine (nmC hE hN).mono ?_
        rintro e wc ⟨rfl, bel⟩
        have HB := Lib.hid (bel_next HB.out bel)
        clear bel c0 c1 c2 c3 c4
        go_wp2_with fail
        go_roundw
        case rel => exact ⟨_, by decide, rfl, HB.out⟩
        case measure => simp [intOf] <;> omega
      · as_aux_lemma =>
        have BN := Lib.hid (BlkH.new wr 23 #[.int .i64 2, .int .i64 0, .int .i64 24, .int .i64 1048576, .int .i64 666])
        have WD := Lib.hid (WD.out.up (.cells #[.int .i64 2, .int .i64 0, .int .i64 24, .int .i64 1048576, .int .i64 666] 23))
        have HB := Lib.hid (bel_up HB.out (.cells #[.int .i64 2, .int .i64 0, .int .i64 24, .int .i64 1048576, .int .i64 666] 23))
        have hE : hdE 2 0 24 1048576 666 = 8 := by decide +kernel
        have hN : (666 : Int) ≤ 9223372036854775807 := by decide
        go_wp2_with fail
        clear c0 c1 c2 c3 c4
        refine (nmW hE hN WD.out).mono ?_
        rintro e wa ⟨v, rfl, own, bel⟩
        obtain ⟨A, c, rfl, _, _, _⟩ := own.sl
        have BN := Lib.hid (BN.out.next bel)
        have HB := Lib.hid (bel_next HB.out bel)
        clear own bel WD
        have c0 := BN.out.cell 0
        have c1 := BN.out.cell 1
        have c2 := BN.out.cell 2
        have c3 := BN.out.cell 3
        have c4 := BN.out.cell 4
        go_wp2_with fail
        refine (nmF hE hN).mono ?_
        rintro e wb ⟨v, rfl, own, bel⟩
        obtain ⟨A', c', rfl, _, _, _⟩ := own.sl
        have BN := Lib.hid (BN.out.next bel)
        have HB := Lib.hid (bel_next HB.out bel)
        clear own bel c0 c1 c2 c3 c4
        have c0 := BN.out.cell 0
        have c1 := BN.out.cell 1
        have c2 := BN.out.cell 2
        have c3 := BN.out.cell 3
        have c4 := BN.out.cell 4
        go_wp2_with fail
        refine (nmC hE hN).mono ?_
        rintro e wc ⟨rfl, bel⟩
        have HB := Lib.hid (bel_next HB.out bel)
        clear bel c0 c1 c2 c3 c4
        go_wp2_with fail
        go_roundw
        case rel => exact ⟨_, by decide, rfl, HB.out⟩
        case measure => simp [intOf] <;> omega
      · as_aux_lemma =>
        have BN := Lib.hid (BlkH.new wr 23 #[.int .i64 2, .int .i64 7, .int .i64 24, .int .i64 1048576, .int .i64 666])
        have WD := Lib.hid (WD.out.up (.cells #[.int .i64 2, .int .i64 7, .int .i64 24, .int .i64 1048576, .int .i64 666] 23))
        have HB := Lib.hid (bel_up HB.out (.cells #[.int .i64 2, .int .i64 7, .int .i64 24, .int .i64 1048576, .int .i64 666] 23))
        have hE : hdE 2 7 24 1048576 666 = 8 := by decide +kernel
        have hN : (666 : Int) ≤ 9223372036854775807 := by decide
        go_wp2_with fail
        clear c0 c1 c2 c3 c4
        refine (nmW hE hN WD.out).mono ?_
        rintro e wa ⟨v, rfl, own, bel⟩
        obtain ⟨A, c, rfl, _, _, _⟩ := own.sl
        have BN := Lib.hid (BN.out.next bel)
        have HB := Lib.hid (bel_next HB.out bel)
        clear own bel WD
        have c0 := BN.out.cell 0
        have c1 := BN.out.cell 1
        have c2 := BN.out.cell 2
        have c3 := BN.out.cell 3
        have c4 := BN.out.cell 4
        go_wp2_with fail
        refine (nmF hE hN).mono ?_
        rintro e wb ⟨v, rfl, own, bel⟩
        obtain ⟨A', c', rfl, _, _, _⟩ := own.sl
        have BN := Lib.hid (BN.out.next bel)
        have HB := Lib.hid (bel_next HB.out bel)
        clear own bel c0 c1 c2 c3 c4
        have c0 := BN.out.cell 0
        have c1 := BN.out.cell 1
        have c2 := BN.out.cell 2
        have c3 := BN.out.cell 3
        have c4 := BN.out.cell 4
        go_wp2_with fail
        refine (nmC hE hN).mono ?_
        rintro e wc ⟨rfl, bel⟩
        have HB := Lib.hid (bel_next HB.out bel)
        clear bel c0 c1 c2 c3 c4
        go_wp2_with fail
        go_roundw
        case rel => exact ⟨_, by decide, rfl, HB.out⟩
        case measure => simp [intOf] <;> omega
      · as_aux_lemma =>
        have BN := Lib.hid (BlkH.new wr 23 #[.int .i64 2, .int .i64 6, .int .i64 32, .int .i64 1048576, .int .i64 666])
        have WD := Lib.hid (WD.out.up (.cells #[.int .i64 2, .int .i64 6, .int .i64 32, .int .i64 1048576, .int .i64 666] 23))
        have HB := Lib.hid (bel_up HB.out (.cells #[.int .i64 2, .int .i64 6, .int .i64 32, .int .i64 1048576, .int .i64 666] 23))
        have hE : hdE 2 6 32 1048576 666 = 8 := by decide +kernel
        have hN : (666 : Int) ≤ 9223372036854775807 := by decide
        go_wp2_with fail
        clear c0 c1 c2 c3 c4
        refine (nmW hE hN WD.out).mono ?_
        rintro e wa ⟨v, rfl, own, bel⟩
        obtain ⟨A, c, rfl, _, _, _⟩ := own.sl
        have BN := Lib.hid (BN.out.next bel)
        have HB := Lib.hid (bel_next HB.out bel)
        clear own bel WD
        have c0 := BN.out.cell 0
        have c1 := BN.out.cell 1
        have c2 := BN.out.cell 2
        have c3 := BN.out.cell 3
        have c4 := BN.out.cell 4
        go_wp2_with fail
        refine (nmF hE hN).mono ?_
        rintro e wb ⟨v, rfl, own, bel⟩
        obtain ⟨A', c', rfl, _, _, _⟩ := own.sl
        have BN := Lib.hid (BN.out.next bel)
        have HB := Lib.hid (bel_next HB.out bel)
        clear own bel c0 c1 c2 c3 c4
        have c0 := BN.out.cell 0
        have c1 := BN.out.cell 1
        have c2 := BN.out.cell 2
        have c3 := BN.out.cell 3
        have c4 := BN.out.cell 4
        go_wp2_with fail
        refine (nmC hE hN).mono ?_
        rintro e wc ⟨rfl, bel⟩
        have HB := Lib.hid (bel_next HB.out bel)
        clear bel c0 c1 c2 c3 c4
        go_wp2_with fail
        go_roundw
        case rel => exact ⟨_, by decide, rfl, HB.out⟩
        case measure => simp [intOf] <;> omega
      · as_aux_lemma =>
        have BN := Lib.hid (BlkH.new wr 23 #[.int .i64 2, .int .i64 6, .int .i64 24, .int .i64 0, .int .i64 666])
        have WD := Lib.hid (WD.out.up (.cells #[.int .i64 2, .int .i64 6, .int .i64 24, .int .i64 0, .int .i64 666] 23))
        have HB := Lib.hid (bel_up HB.out (.cells #[.int .i64 2, .int .i64 6, .int .i64 24, .int .i64 0, .int .i64 666] 23))
        have hE : hdE 2 6 24 0 666 = 8 := by decide +kernel
        have hN : (666 : Int) ≤ 9223372036854775807 := by decide
        go_wp2_with fail
        clear c0 c1 c2 c3 c4
        refine (nmW hE hN WD.out).mono ?_
        rintro e wa ⟨v, rfl, own, bel⟩
        obtain ⟨A, c, rfl, _, _, _⟩ := own.sl
        have BN := Lib.hid (BN.out.next bel)
        have HB := Lib.hid (bel_next HB.out bel)
        clear own bel WD
        have c0 := BN.out.cell 0
        have c1 := BN.out.cell 1
        have c2 := BN.out.cell 2
        have c3 := BN.out.cell 3
        have c4 := BN.out.cell 4
        go_wp2_with fail
        refine (nmF hE hN).mono ?_
        rintro e wb ⟨v, rfl, own, bel⟩
        obtain ⟨A', c', rfl, _, _, _⟩ := own.sl
        have BN := Lib.hid (BN.out.next bel)
        have HB := Lib.hid (bel_next HB.out bel)
        clear own bel c0 c1 c2 c3 c4
        have c0 := BN.out.cell 0
        have c1 := BN.out.cell 1
        have c2 := BN.out.cell 2
        have c3 := BN.out.cell 3
        have c4 := BN.out.cell 4
        go_wp2_with fail
        refine (nmC hE hN).mono ?_
        rintro e wc ⟨rfl, bel⟩
        have HB := Lib.hid (bel_next HB.out bel)
        clear bel c0 c1 c2 c3 c4
        go_wp2_with fail
        go_roundw
        case rel => exact ⟨_, by decide, rfl, HB.out⟩
        case measure => simp [intOf] <;> omega
      · as_aux_lemma =>
        have BN := Lib.hid (BlkH.new wr 23 #[.int .i64 2, .int .i64 6, .int .i64 24, .int .i64 1048577, .int .i64 666])
        have WD := Lib.hid (WD.out.up (.cells #[.int .i64 2, .int .i64 6, .int .i64 24, .int .i64 1048577, .int .i64 666] 23))
        have HB := Lib.hid (bel_up HB.out (.cells #[.int .i64 2, .int .i64 6, .int .i64 24, .int .i64 1048577, .int .i64 666] 23))
        have hE : hdE 2 6 24 1048577 666 = 8 := by decide +kernel
        have hN : (666 : Int) ≤ 9223372036854775807 := by decide
        go_wp2_with fail
        clear c0 c1 c2 c3 c4
        refine (nmW hE hN WD.out).mono ?_
        rintro e wa ⟨v, rfl, own, bel⟩
        obtain ⟨A, c, rfl, _, _, _⟩ := own.sl
        have BN := Lib.hid (BN.out.next bel)
        have HB := Lib.hid (bel_next HB.out bel)
        clear own bel WD
        have c0 := BN.out.cell 0
        have c1 := BN.out.cell 1
        have c2 := BN.out.cell 2
        have c3 := BN.out.cell 3
        have c4 := BN.out.cell 4
        go_wp2_with fail
        refine (nmF hE hN).mono ?_
        rintro e wb ⟨v, rfl, own, bel⟩
        obtain ⟨A', c', rfl, _, _, _⟩ := own.sl
        have BN := Lib.hid (BN.out.next bel)
        have HB := Lib.hid (bel_next HB.out bel)
        clear own bel c0 c1 c2 c3 c4
        have c0 := BN.out.cell 0
        have c1 := BN.out.cell 1
        have c2 := BN.out.cell 2
        have c3 := BN.out.cell 3
        have c4 := BN.out.cell 4
        go_wp2_with fail
        refine (nmC hE hN).mono ?_
        rintro e wc ⟨rfl, bel⟩
        have HB := Lib.hid (bel_next HB.out bel)
        clear bel c0 c1 c2 c3 c4
        go_wp2_with fail
        go_roundw
        case rel => exact ⟨_, by decide, rfl, HB.out⟩
        case measure => simp [intOf] <;> omega
      · as_aux_lemma =>
        have BN := Lib.hid (BlkH.new wr 23 #[.int .i64 2, .int .i64 6, .int .i64 24, .int .i64 1048576, .int .i64 0])
        have WD := Lib.hid (WD.out.up (.cells #[.int .i64 2, .int .i64 6, .int .i64 24, .int .i64 1048576, .int .i64 0] 23))
        have HB := Lib.hid (bel_up HB.out (.cells #[.int .i64 2, .int .i64 6, .int .i64 24, .int .i64 1048576, .int .i64 0] 23))
        have hE : hdE 2 6 24 1048576 0 = 8 := by decide +kernel
        have hN : (0 : Int) ≤ 9223372036854775807 := by decide
        go_wp2_with fail
        clear c0 c1 c2 c3 c4
        refine (nmW hE hN WD.out).mono ?_
        rintro e wa ⟨v, rfl, own, bel⟩
        obtain ⟨A, c, rfl, _, _, _⟩ := own.sl
        have BN := Lib.hid (BN.out.next bel)
        have HB := Lib.hid (bel_next HB.out bel)
        clear own bel WD
        have c0 := BN.out.cell 0
        have c1 := BN.out.cell 1
        have c2 := BN.out.cell 2
        have c3 := BN.out.cell 3
        have c4 := BN.out.cell 4
        go_wp2_with fail
        refine (nmF hE hN).mono ?_
        rintro e wb ⟨v, rfl, own, bel⟩
        obtain ⟨A', c', rfl, _, _, _⟩ := own.sl
        have BN := Lib.hid (BN.out.next bel)
        have HB := Lib.hid (bel_next HB.out bel)
        clear own bel c0 c1 c2 c3 c4
        have c0 := BN.out.cell 0
        have c1 := BN.out.cell 1
        have c2 := BN.out.cell 2
        have c3 := BN.out.cell 3
        have c4 := BN.out.cell 4
        go_wp2_with fail
        refine (nmC hE hN).mono ?_
        rintro e wc ⟨rfl, bel⟩
        have HB := Lib.hid (bel_next HB.out bel)
        clear bel c0 c1 c2 c3 c4
        go_wp2_with fail
        go_roundw
        case rel => exact ⟨_, by decide, rfl, HB.out⟩
        case measure => simp [intOf] <;> omega
      · as_aux_lemma =>
        have BN := Lib.hid (BlkH.new wr 23 #[.int .i64 2, .int .i64 6, .int .i64 24, .int .i64 1048576, .int .i64 667])
        have WD := Lib.hid (WD.out.up (.cells #[.int .i64 2, .int .i64 6, .int .i64 24, .int .i64 1048576, .int .i64 667] 23))
        have HB := Lib.hid (bel_up HB.out (.cells #[.int .i64 2, .int .i64 6, .int .i64 24, .int .i64 1048576, .int .i64 667] 23))
        have hE : hdE 2 6 24 1048576 667 = 8 := by decide +kernel
        have hN : (667 : Int) ≤ 9223372036854775807 := by decide
        go_wp2_with fail
        clear c0 c1 c2 c3 c4
        refine (nmW hE hN WD.out).mono ?_
        rintro e wa ⟨v, rfl, own, bel⟩
        obtain ⟨A, c, rfl, _, _, _⟩ := own.sl
        have BN := Lib.hid (BN.out.next bel)
        have HB := Lib.hid (bel_next HB.out bel)
        clear own bel WD
        have c0 := BN.out.cell 0
        have c1 := BN.out.cell 1
        have c2 := BN.out.cell 2
        have c3 := BN.out.cell 3
        have c4 := BN.out.cell 4
        go_wp2_with fail
        refine (nmF hE hN).mono ?_
        rintro e wb ⟨v, rfl, own, bel⟩
        obtain ⟨A', c', rfl, _, _, _⟩ := own.sl
        have BN := Lib.hid (BN.out.next bel)
        have HB := Lib.hid (bel_next HB.out bel)
        clear own bel c0 c1 c2 c3 c4
        have c0 := BN.out.cell 0
        have c1 := BN.out.cell 1
        have c2 := BN.out.cell 2
        have c3 := BN.out.cell 3
        have c4 := BN.out.cell 4
        go_wp2_with fail
        refine (nmC hE hN).mono ?_
        rintro e wc ⟨rfl, bel⟩
        have HB := Lib.hid (bel_next HB.out bel)
        clear bel c0 c1 c2 c3 c4
        go_wp2_with fail
        go_roundw
        case rel => exact ⟨_, by decide, rfl, HB.out⟩
        case measure => simp [intOf] <;> omega
      · as_aux_lemma =>
        have BN := Lib.hid (BlkH.new wr 23 #[.int .i64 2, .int .i64 6, .int .i64 24, .int .i64 1048576, .int .i64 9223372036854775807])
        have WD := Lib.hid (WD.out.up (.cells #[.int .i64 2, .int .i64 6, .int .i64 24, .int .i64 1048576, .int .i64 9223372036854775807] 23))
        have HB := Lib.hid (bel_up HB.out (.cells #[.int .i64 2, .int .i64 6, .int .i64 24, .int .i64 1048576, .int .i64 9223372036854775807] 23))
        have hE : hdE 2 6 24 1048576 9223372036854775807 = 8 := by decide +kernel
        have hN : (9223372036854775807 : Int) ≤ 9223372036854775807 := by decide
        go_wp2_with fail
        clear c0 c1 c2 c3 c4
        refine (nmW hE hN WD.out).mono ?_
        rintro e wa ⟨v, rfl, own, bel⟩
        obtain ⟨A, c, rfl, _, _, _⟩ := own.sl
        have BN := Lib.hid (BN.out.next bel)
        have HB := Lib.hid (bel_next HB.out bel)
        clear own bel WD
        have c0 := BN.out.cell 0
        have c1 := BN.out.cell 1
        have c2 := BN.out.cell 2
        have c3 := BN.out.cell 3
        have c4 := BN.out.cell 4
        go_wp2_with fail
        refine (nmF hE hN).mono ?_
        rintro e wb ⟨v, rfl, own, bel⟩
        obtain ⟨A', c', rfl, _, _, _⟩ := own.sl
        have BN := Lib.hid (BN.out.next bel)
        have HB := Lib.hid (bel_next HB.out bel)
        clear own bel c0 c1 c2 c3 c4
        have c0 := BN.out.cell 0
        have c1 := BN.out.cell 1
        have c2 := BN.out.cell 2
        have c3 := BN.out.cell 3
        have c4 := BN.out.cell 4
        go_wp2_with fail
        refine (nmC hE hN).mono ?_
        rintro e wc ⟨rfl, bel⟩
        have HB := Lib.hid (bel_next HB.out bel)
        clear bel c0 c1 c2 c3 c4
        go_wp2_with fail
        go_roundw
        case rel => exact ⟨_, by decide, rfl, HB.out⟩
        case measure => simp [intOf] <;> omega
      · as_aux_lemma =>
        have BN := Lib.hid (BlkH.new wr 23 #[.int .i64 1, .int .i64 1, .int .i64 8, .int .i64 1, .int .i64 1001])
        have WD := Lib.hid (WD.out.up (.cells #[.int .i64 1, .int .i64 1, .int .i64 8, .int .i64 1, .int .i64 1001] 23))
        have HB := Lib.hid (bel_up HB.out (.cells #[.int .i64 1, .int .i64 1, .int .i64 8, .int .i64 1, .int .i64 1001] 23))
        have hE : hdE 1 1 8 1 1001 = 8 := by decide +kernel
        have hN : (1001 : Int) ≤ 9223372036854775807 := by decide
        go_wp2_with fail
        clear c0 c1 c2 c3 c4
        refine (nmW hE hN WD.out).mono ?_
        rintro e wa ⟨v, rfl, own, bel⟩
        obtain ⟨A, c, rfl, _, _, _⟩ := own.sl
        have BN := Lib.hid (BN.out.next bel)
        have HB := Lib.hid (bel_next HB.out bel)
        clear own bel WD
        have c0 := BN.out.cell 0
        have c1 := BN.out.cell 1
        have c2 := BN.out.cell 2
        have c3 := BN.out.cell 3
        have c4 := BN.out.cell 4
        go_wp2_with fail
        refine (nmF hE hN).mono ?_
        rintro e wb ⟨v, rfl, own, bel⟩
        obtain ⟨A', c', rfl, _, _, _⟩ := own.sl
        have BN := Lib.hid (BN.out.next bel)
        have HB := Lib.hid (bel_next HB.out bel)
        clear own bel c0 c1 c2 c3 c4
        have c0 := BN.out.cell 0
        have c1 := BN.out.cell 1
        have c2 := BN.out.cell 2
        have c3 := BN.out.cell 3
        have c4 := BN.out.cell 4
        go_wp2_with fail
        refine (nmC hE hN).mono ?_
        rintro e wc ⟨rfl, bel⟩
        have HB := Lib.hid (bel_next HB.out bel)
        clear bel c0 c1 c2 c3 c4
        go_wp2_with fail
        go_roundw
        case rel => exact ⟨_, by decide, rfl, HB.out⟩
        case measure => simp [intOf] <;> omega
      · as_aux_lemma =>
        have BN := Lib.hid (BlkH.new wr 23 #[.int .i64 2, .int .i64 (-1), .int .i64 24, .int .i64 1048576, .int .i64 666])
        have WD := Lib.hid (WD.out.up (.cells #[.int .i64 2, .int .i64 (-1), .int .i64 24, .int .i64 1048576, .int .i64 666] 23))
        have HB := Lib.hid (bel_up HB.out (.cells #[.int .i64 2, .int .i64 (-1), .int .i64 24, .int .i64 1048576, .int .i64 666] 23))
        have hE : hdE 2 (-1) 24 1048576 666 = 8 := by decide +kernel
        have hN : (666 : Int) ≤ 9223372036854775807 := by decide
        go_wp2_with fail
        clear c0 c1 c2 c3 c4
        refine (nmW hE hN WD.out).mono ?_
        rintro e wa ⟨v, rfl, own, bel⟩
        obtain ⟨A, c, rfl, _, _, _⟩ := own.sl
        have BN := Lib.hid (BN.out.next bel)
        have HB := Lib.hid (bel_next HB.out bel)
        clear own bel WD
        have c0 := BN.out.cell 0
        have c1 := BN.out.cell 1
        have c2 := BN.out.cell 2
        have c3 := BN.out.cell 3
        have c4 := BN.out.cell 4
        go_wp2_with fail
        refine (nmF hE hN).mono ?_
        rintro e wb ⟨v, rfl, own, bel⟩
        obtain ⟨A', c', rfl, _, _, _⟩ := own.sl
        have BN := Lib.hid (BN.out.next bel)
        have HB := Lib.hid (bel_next HB.out bel)
        clear own bel c0 c1 c2 c3 c4
        have c0 := BN.out.cell 0
        have c1 := BN.out.cell 1
        have c2 := BN.out.cell 2
        have c3 := BN.out.cell 3
        have c4 := BN.out.cell 4
        go_wp2_with fail
        refine (nmC hE hN).mono ?_
        rintro e wc ⟨rfl, bel⟩
        have HB := Lib.hid (bel_next HB.out bel)
        clear bel c0 c1 c2 c3 c4
        go_wp2_with fail
        go_roundw
        case rel => exact ⟨_, by decide, rfl, HB.out⟩
        case measure => simp [intOf] <;> omega
    · as_aux_lemma =>
      have BB := Lib.hid (bel_next BB.out hbel)
      clear hbel
      obtain ⟨w9, rfl⟩ : ∃ wo : World, wo = wr := ⟨_, rfl⟩
      have c0 := BK.out.cell 0
      have c1 := BK.out.cell 1
      have c2 := BK.out.cell 2
      have c3 := BK.out.cell 3
      have c4 := BK.out.cell 4
      go_wp2_with fail
      refine (CW.out _ WD.out).mono ?_
      rintro e w1 ⟨v1, rfl, own1, bel1⟩
      obtain ⟨Ab, cb, rfl, hcb, hmb, sl1⟩ := own1.sln (LW.out)
      have Sb := Lib.hid sl1
      have BK := Lib.hid (BK.out.next bel1)
      have WD := Lib.hid (WD.out.next bel1)
      have BB := Lib.hid (bel_next BB.out bel1)
      clear own1 bel1 sl1
      clear c0 c1 c2 c3 c4
      go_wp2_with fail
      refine (CF1.out _).mono ?_
      rintro e w2 ⟨v2, rfl, own2, bel2⟩
      obtain ⟨Am, cm, rfl, hcm, hmm, slm⟩ := own2.sln L1.out
      obtain ⟨gm, rfl, _, _⟩ := own2.addr (by rw [L1.out]; decide)
      have Sm := Lib.hid slm
      have BK := Lib.hid (BK.out.next bel2)
      have WD := Lib.hid (WD.out.next bel2)
      have Sb := Lib.hid (Sb.out.next bel2)
      have BB := Lib.hid (bel_next BB.out bel2)
      clear own2 bel2 slm
      go_wp2_with fail
      refine (CF2.out _).mono ?_
      rintro e w3 ⟨v3, rfl, own3, bel3⟩
      obtain ⟨Ap, cp, rfl, hcp, hmp, sl3⟩ := own3.sln ((show ([256, 256, 88] : List Int).length = 3 from rfl))
      have Sp := Lib.hid sl3
      have BK := Lib.hid (BK.out.next bel3)
      have WD := Lib.hid (WD.out.next bel3)
      have Sb := Lib.hid (Sb.out.next bel3)
      have Sm := Lib.hid (Sm.out.next bel3)
      have BB := Lib.hid (bel_next BB.out bel3)
      clear own3 bel3 sl3
      go_upto_region 37 with fail
      go_cut [116] (fun s wx => s = .bool false ∧ Below w3.heap.size w3 wx)
      case first =>
        as_aux_lemma =>
        have K1 := Lib.hid (fun W (h : SinceG w3 W) => conv_sl (P := Tryd.prog) (W := W) (n := 22) (c := cb) Tryd.underlying24 Tryd.underlying5 Tryd.underlying9 (Sb.out.next h) LW.out)
        have K2 := Lib.hid (fun W A c (h : Sl W W.heap.size .u8 A bw) => conv_sl (P := Tryd.prog) (W := W) (A := A) (n := 22) (c := c) Tryd.underlying24 Tryd.underlying5 Tryd.underlying9 h LW.out)
        generalize strOfNums bw = sb at *
        refine hg_begin (S := SinceG w3) (by kernel_rfl) rfl ?_
        have S0 : Below w3.heap.size w3 { w3 with drawn := w3.drawn + 1 } := (bel_self w3).drew
        generalize ({ w3 with drawn := w3.drawn + 1 } : World) = wd at *
        refine hg_take 0 rfl (by kernel_rfl) (by kernel_rfl) (by kernel_rfl) (fun _ _ _ h => h) (by go_simp) (fun W hW => by go_simp <;> rfl) S0 rfl (by go_simp <;> rfl) ?_
        refine hg_take 1 rfl (by kernel_rfl) (by kernel_rfl) (by kernel_rfl) (fun _ _ _ h => h) (by go_simp) (fun W hW => by go_simp <;> rfl) S0 rfl (by go_simp <;> rfl) ?_
        refine hg_take 2 rfl (by kernel_rfl) (by kernel_rfl) (by kernel_rfl) (fun _ _ _ h => h) (by go_simp) (fun W hW => by go_simp <;> rfl) S0 rfl (by go_simp <;> rfl) ?_
        refine hg_take 3 rfl (by kernel_rfl) (by kernel_rfl) (by kernel_rfl) (fun _ _ _ h => h) (by go_simp) (fun W hW => by go_simp <;> rfl) S0 rfl (by go_simp <;> rfl) ?_
        refine hg_take 4 rfl (by kernel_rfl) (by kernel_rfl) (by kernel_rfl) (fun _ _ _ h => h) (by go_simp) (fun W hW => by go_simp <;> rfl) S0 rfl (by go_simp <;> rfl) ?_
        refine hg_take 5 rfl (by kernel_rfl) (by kernel_rfl) (by kernel_rfl) (fun _ _ _ h => h) (by go_simp) (fun W hW => by go_simp <;> rfl) S0 rfl (by go_simp <;> rfl) ?_
        refine hg_take 6 rfl (by kernel_rfl) (by kernel_rfl) (by kernel_rfl) (fun _ _ _ h => h) (by go_simp) (fun W hW => by go_simp <;> rfl) S0 rfl (by go_simp <;> rfl) ?_
        refine hg_take 7 rfl (by kernel_rfl) (by kernel_rfl) (by kernel_rfl) (fun _ _ _ h => h) (by go_simp) (fun W hW => by go_simp <;> rfl) S0 rfl (by go_simp <;> rfl) ?_
        refine hg_take 8 rfl (by kernel_rfl) (by kernel_rfl) (by kernel_rfl) (fun _ _ _ h => h) (by go_simp) (fun W hW => by go_simp <;> rfl) S0 rfl (by go_simp <;> rfl) ?_
        refine hg_take 9 rfl (by kernel_rfl) (by kernel_rfl) (by kernel_rfl) (fun _ _ _ h => h) (by go_simp) (fun W hW => by have k1 := K1.out W hW; go_simp <;> rfl) S0 rfl (by go_simp <;> rfl) ?_
        refine hg_one 10 (by kernel_rfl) rfl (by go_simp) rfl ?_
        refine wp_callV (CWr.out _) (by go_simp <;> rfl) (fun u => by go_simp <;> rfl) ?_
        intro v wy own bel
        have SY : Below w3.heap.size w3 wy := bel_next S0 bel
        refine ⟨SY, ?_⟩
        obtain ⟨Av, cv, rfl, _, _, slv⟩ := own.sln LW.out
        refine hg_one 11 (by kernel_rfl) rfl (by go_simp) rfl ?_
        refine wp_val1 (by have k2 := K2.out _ _ cv slv; go_simp <;> rfl) (by go_simp <;> rfl) ?_
        refine ⟨SY, ?_⟩
        refine hg_take 12 rfl (by kernel_rfl) (by kernel_rfl) (by kernel_rfl) (fun _ _ _ h => h) (by go_simp) (fun W hW => by go_simp <;> rfl) SY rfl (by go_simp <;> rfl) ?_
        refine hg_take 13 rfl (by kernel_rfl) (by kernel_rfl) (by kernel_rfl) (fun _ _ _ h => h) (by go_simp) (fun W hW => by go_simp <;> rfl) SY rfl (by go_simp <;> rfl) ?_
        refine hg_done (by kernel_rfl) ?_
        go_wp2_with fail
        go_meet
        exact ⟨rfl, SY⟩
      case rest =>
        as_aux_lemma =>
        obtain ⟨rfl, hb⟩ := hcut
        obtain ⟨w4, rfl⟩ : ∃ wo : World, wo = wc := ⟨_, rfl⟩
        have BK := Lib.hid (BK.out.next hb)
        have WD := Lib.hid (WD.out.next hb)
        have Sb := Lib.hid (Sb.out.next hb)
        have Sm := Lib.hid (Sm.out.next hb)
        have Sp := Lib.hid (Sp.out.next hb)
        have BB := Lib.hid (bel_next BB.out hb)
        clear hb CWr CW CF1 CF2
        have B0 := Lib.hid (bel_up (bel_self w4) (.cells #[] 5))
        go_upto_region 40 with (at_builtin; refine appNh (xs := []) (ys := bw) leElU8 _ _ rfl rfl rfl rfl LW.out (Own.lit w4 w4.heap.size .u8 5 [] rfl rfl (Nat.le_refl _) (by decide)) (Sb.out.alloc (Nat.le_refl _) _) (by simp) (by simp) B0.out.size ?_; intro v5 w5 own5 bel5; have O5 := Lib.hid (show Own w5 w4.heap.size 5 .u8 v5 bw by simpa using own5); have B5 := Lib.hid (B0.out.trans bel5); clear own5 bel5)
        obtain ⟨Aw, cw, rfl, hcw, hmw, _⟩ := O5.out.sln LW.out
        obtain ⟨gw, rfl, hgw, _⟩ := O5.out.addr (by rw [LW.out]; decide)
        have cl4 := O5.out.cell 4 (by rw [LW.out]; decide)
        have fr4 := O5.out.frozen 4
        have O6 := O5.out.set 4 9
        have bel6 : Below w4.heap.size w4 (w5.setCell ⟨gw, 4, none⟩ (.int .u8 9)) := B5.out.setCell (p := ⟨gw, 4, none⟩) hgw (.int .u8 9)
        have LS := Lib.hid (show (bw.set 4 9).length = 22 by rw [List.length_set]; exact LW.out)
        obtain ⟨_, _, hv6, _, _, sl6⟩ := O6.sln LS.out
        injection hv6 with hA6 hn6 hc6
        subst hA6 hc6
        have Sw := Lib.hid sl6
        clear sl6 O6 O5 B5 B0
        go_upto_region 41 with fail
        clear cl4 fr4
        as_aux_lemma =>
        generalize w5.setCell ⟨gw, 4, none⟩ (.int .u8 9) = w6 at *
        have BK := Lib.hid (BK.out.next bel6)
        have WD := Lib.hid (WD.out.next bel6)
        have Sb := Lib.hid (Sb.out.next bel6)
        have Sm := Lib.hid (Sm.out.next bel6)
        have Sp := Lib.hid (Sp.out.next bel6)
        have BB := Lib.hid (bel_next BB.out bel6)
        clear bel6
        go_wp2_with fail
        refine (nmL (xs := [84, 84, 65, 50]) rfl (by decide) (by decide) UL.out.1 (Sl.marked w6 .u8 5 [84, 84, 65, 50] rfl) (WD.out.up _) (by decide +kernel) (by decide)).mono ?_
        rintro e w7 ⟨rfl, bel7⟩
        have BK := Lib.hid ((BK.out.up _).next bel7)
        have WD := Lib.hid ((WD.out.up _).next bel7)
        have Sb := Lib.hid ((Sb.out.up _).next bel7)
        have Sm := Lib.hid ((Sm.out.up _).next bel7)
        have Sp := Lib.hid ((Sp.out.up _).next bel7)
        have Sw := Lib.hid ((Sw.out.up _).next bel7)
        have BB := Lib.hid (bel_next (bel_up BB.out _) bel7)
        clear bel7
        go_wp2_with fail
        refine (nmL (xs := [84, 85]) rfl (by decide) (by decide) UL.out.2.1 (Sl.marked w7 .u8 5 [84, 85] rfl) (WD.out.up _) (by decide +kernel) (by decide)).mono ?_
        rintro e w8 ⟨rfl, bel8⟩
        have BK := Lib.hid ((BK.out.up _).next bel8)
        have WD := Lib.hid ((WD.out.up _).next bel8)
        have Sb := Lib.hid ((Sb.out.up _).next bel8)
        have Sm := Lib.hid ((Sm.out.up _).next bel8)
        have Sp := Lib.hid ((Sp.out.up _).next bel8)
        have Sw := Lib.hid ((Sw.out.up _).next bel8)
        have BB := Lib.hid (bel_next (bel_up BB.out _) bel8)
        clear bel8
        go_wp2_with fail
        refine (hdWritten 0 1 8 1 1 _ (by decide) (by decide) (by decide) (by decide) (by decide)).mono ?_
        rintro e w9 ⟨v9, rfl, own9, bel9⟩
        obtain ⟨Aa, ca, rfl, hca, hma, sl9⟩ := own9.sln ((hdW_len _ _ _ _ _))
        have Sa := Lib.hid sl9
        have BK := Lib.hid (BK.out.next bel9)
        have WD := Lib.hid (WD.out.next bel9)
        have Sb := Lib.hid (Sb.out.next bel9)
        have Sm := Lib.hid (Sm.out.next bel9)
        have Sp := Lib.hid (Sp.out.next bel9)
        have Sw := Lib.hid (Sw.out.next bel9)
        have BB := Lib.hid (bel_next BB.out bel9)
        clear own9 bel9 sl9
        go_wp2_with fail
        refine (nmFw hca hma Sa.out WD.out ((hdW_rh (by decide) (by decide) (by decide) (by decide) (by decide)).trans (by decide +kernel)) (by decide)).mono ?_
        rintro e w10 ⟨rfl, bel10⟩
        have BK := Lib.hid (BK.out.next bel10)
        have WD := Lib.hid (WD.out.next bel10)
        have Sb := Lib.hid (Sb.out.next bel10)
        have Sm := Lib.hid (Sm.out.next bel10)
        have Sp := Lib.hid (Sp.out.next bel10)
        have Sw := Lib.hid (Sw.out.next bel10)
        have Sa := Lib.hid (Sa.out.next bel10)
        have BB := Lib.hid (bel_next BB.out bel10)
        clear bel10
        clear Sa
        go_wp2_with fail
        refine (hdWritten 3 1 8 1 1 _ (by decide) (by decide) (by decide) (by decide) (by decide)).mono ?_
        rintro e w11 ⟨v11, rfl, own11, bel11⟩
        obtain ⟨Aa, ca, rfl, hca, hma, sl11⟩ := own11.sln ((hdW_len _ _ _ _ _))
        have Sa := Lib.hid sl11
        have BK := Lib.hid (BK.out.next bel11)
        have WD := Lib.hid (WD.out.next bel11)
        have Sb := Lib.hid (Sb.out.next bel11)
        have Sm := Lib.hid (Sm.out.next bel11)
        have Sp := Lib.hid (Sp.out.next bel11)
        have Sw := Lib.hid (Sw.out.next bel11)
        have BB := Lib.hid (bel_next BB.out bel11)
        clear own11 bel11 sl11
        go_wp2_with fail
        refine (nmFw hca hma Sa.out WD.out ((hdW_rh (by decide) (by decide) (by decide) (by decide) (by decide)).trans (by decide +kernel)) (by decide)).mono ?_
        rintro e w12 ⟨rfl, bel12⟩
        have BK := Lib.hid (BK.out.next bel12)
        have WD := Lib.hid (WD.out.next bel12)
        have Sb := Lib.hid (Sb.out.next bel12)
        have Sm := Lib.hid (Sm.out.next bel12)
        have Sp := Lib.hid (Sp.out.next bel12)
        have Sw := Lib.hid (Sw.out.next bel12)
        have Sa := Lib.hid (Sa.out.next bel12)
        have BB := Lib.hid (bel_next BB.out bel12)
        clear bel12
        clear Sa
        go_wp2_with fail
        refine (hdWritten 1 0 8 1 1 _ (by decide) (by decide) (by decide) (by decide) (by decide)).mono ?_
        rintro e w13 ⟨v13, rfl, own13, bel13⟩
        obtain ⟨Aa, ca, rfl, hca, hma, sl13⟩ := own13.sln ((hdW_len _ _ _ _ _))
        have Sa := Lib.hid sl13
        have BK := Lib.hid (BK.out.next bel13)
        have WD := Lib.hid (WD.out.next bel13)
        have Sb := Lib.hid (Sb.out.next bel13)
        have Sm := Lib.hid (Sm.out.next bel13)
        have Sp := Lib.hid (Sp.out.next bel13)
        have Sw := Lib.hid (Sw.out.next bel13)
        have BB := Lib.hid (bel_next BB.out bel13)
        clear own13 bel13 sl13
        go_wp2_with fail
        refine (nmFw hca hma Sa.out WD.out ((hdW_rh (by decide) (by decide) (by decide) (by decide) (by decide)).trans (by decide +kernel)) (by decide)).mono ?_
        rintro e w14 ⟨rfl, bel14⟩
        have BK := Lib.hid (BK.out.next bel14)
        have WD := Lib.hid (WD.out.next bel14)
        have Sb := Lib.hid (Sb.out.next bel14)
        have Sm := Lib.hid (Sm.out.next bel14)
        have Sp := Lib.hid (Sp.out.next bel14)
        have Sw := Lib.hid (Sw.out.next bel14)
        have Sa := Lib.hid (Sa.out.next bel14)
        have BB := Lib.hid (bel_next BB.out bel14)
        clear bel14
        clear Sa
        go_wp2_with fail
        refine (hdWritten 1 7 8 1 1 _ (by decide) (by decide) (by decide) (by decide) (by decide)).mono ?_
        rintro e w15 ⟨v15, rfl, own15, bel15⟩
        obtain ⟨Aa, ca, rfl, hca, hma, sl15⟩ := own15.sln ((hdW_len _ _ _ _ _))
        have Sa := Lib.hid sl15
        have BK := Lib.hid (BK.out.next bel15)
        have WD := Lib.hid (WD.out.next bel15)
        have Sb := Lib.hid (Sb.out.next bel15)
        have Sm := Lib.hid (Sm.out.next bel15)
        have Sp := Lib.hid (Sp.out.next bel15)
        have Sw := Lib.hid (Sw.out.next bel15)
        have BB := Lib.hid (bel_next BB.out bel15)
        clear own15 bel15 sl15
        go_wp2_with fail
        refine (nmFw hca hma Sa.out WD.out ((hdW_rh (by decide) (by decide) (by decide) (by decide) (by decide)).trans (by decide +kernel)) (by decide)).mono ?_
        rintro e w16 ⟨rfl, bel16⟩
        have BK := Lib.hid (BK.out.next bel16)
        have WD := Lib.hid (WD.out.next bel16)
        have Sb := Lib.hid (Sb.out.next bel16)
        have Sm := Lib.hid (Sm.out.next bel16)
        have Sp := Lib.hid (Sp.out.next bel16)
        have Sw := Lib.hid (Sw.out.next bel16)
        have Sa := Lib.hid (Sa.out.next bel16)
        have BB := Lib.hid (bel_next BB.out bel16)
        clear bel16
        clear Sa
        go_wp2_with fail
        refine (hdWritten 1 1 12 1 1 _ (by decide) (by decide) (by decide) (by decide) (by decide)).mono ?_
        rintro e w17 ⟨v17, rfl, own17, bel17⟩
        obtain ⟨Aa, ca, rfl, hca, hma, sl17⟩ := own17.sln ((hdW_len _ _ _ _ _))
        have Sa := Lib.hid sl17
        have BK := Lib.hid (BK.out.next bel17)
        have WD := Lib.hid (WD.out.next bel17)
        have Sb := Lib.hid (Sb.out.next bel17)
        have Sm := Lib.hid (Sm.out.next bel17)
        have Sp := Lib.hid (Sp.out.next bel17)
        have Sw := Lib.hid (Sw.out.next bel17)
        have BB := Lib.hid (bel_next BB.out bel17)
        clear own17 bel17 sl17
        go_wp2_with fail
        refine (nmFw hca hma Sa.out WD.out ((hdW_rh (by decide) (by decide) (by decide) (by decide) (by decide)).trans (by decide +kernel)) (by decide)).mono ?_
        rintro e w18 ⟨rfl, bel18⟩
        have BK := Lib.hid (BK.out.next bel18)
        have WD := Lib.hid (WD.out.next bel18)
        have Sb := Lib.hid (Sb.out.next bel18)
        have Sm := Lib.hid (Sm.out.next bel18)
        have Sp := Lib.hid (Sp.out.next bel18)
        have Sw := Lib.hid (Sw.out.next bel18)
        have Sa := Lib.hid (Sa.out.next bel18)
        have BB := Lib.hid (bel_next BB.out bel18)
        clear bel18
        clear Sa
        go_wp2_with fail
        refine (hdWritten 1 1 8 0 1 _ (by decide) (by decide) (by decide) (by decide) (by decide)).mono ?_
        rintro e w19 ⟨v19, rfl, own19, bel19⟩
        obtain ⟨Aa, ca, rfl, hca, hma, sl19⟩ := own19.sln ((hdW_len _ _ _ _ _))
        have Sa := Lib.hid sl19
        have BK := Lib.hid (BK.out.next bel19)
        have WD := Lib.hid (WD.out.next bel19)
        have Sb := Lib.hid (Sb.out.next bel19)
        have Sm := Lib.hid (Sm.out.next bel19)
        have Sp := Lib.hid (Sp.out.next bel19)
        have Sw := Lib.hid (Sw.out.next bel19)
        have BB := Lib.hid (bel_next BB.out bel19)
        clear own19 bel19 sl19
        go_wp2_with fail
        refine (nmFw hca hma Sa.out WD.out ((hdW_rh (by decide) (by decide) (by decide) (by decide) (by decide)).trans (by decide +kernel)) (by decide)).mono ?_
        rintro e w20 ⟨rfl, bel20⟩
        have BK := Lib.hid (BK.out.next bel20)
        have WD := Lib.hid (WD.out.next bel20)
        have Sb := Lib.hid (Sb.out.next bel20)
        have Sm := Lib.hid (Sm.out.next bel20)
        have Sp := Lib.hid (Sp.out.next bel20)
        have Sw := Lib.hid (Sw.out.next bel20)
        have Sa := Lib.hid (Sa.out.next bel20)
        have BB := Lib.hid (bel_next BB.out bel20)
        clear bel20
        clear Sa
        go_wp2_with fail
        refine (hdWritten 1 1 8 1048577 1 _ (by decide) (by decide) (by decide) (by decide) (by decide)).mono ?_
        rintro e w21 ⟨v21, rfl, own21, bel21⟩
        obtain ⟨Aa, ca, rfl, hca, hma, sl21⟩ := own21.sln ((hdW_len _ _ _ _ _))
        have Sa := Lib.hid sl21
        have BK := Lib.hid (BK.out.next bel21)
        have WD := Lib.hid (WD.out.next bel21)
        have Sb := Lib.hid (Sb.out.next bel21)
        have Sm := Lib.hid (Sm.out.next bel21)
        have Sp := Lib.hid (Sp.out.next bel21)
        have Sw := Lib.hid (Sw.out.next bel21)
        have BB := Lib.hid (bel_next BB.out bel21)
        clear own21 bel21 sl21
        go_wp2_with fail
        refine (nmFw hca hma Sa.out WD.out ((hdW_rh (by decide) (by decide) (by decide) (by decide) (by decide)).trans (by decide +kernel)) (by decide)).mono ?_
        rintro e w22 ⟨rfl, bel22⟩
        have BK := Lib.hid (BK.out.next bel22)
        have WD := Lib.hid (WD.out.next bel22)
        have Sb := Lib.hid (Sb.out.next bel22)
        have Sm := Lib.hid (Sm.out.next bel22)
        have Sp := Lib.hid (Sp.out.next bel22)
        have Sw := Lib.hid (Sw.out.next bel22)
        have Sa := Lib.hid (Sa.out.next bel22)
        have BB := Lib.hid (bel_next BB.out bel22)
        clear bel22
        clear Sa
        go_wp2_with fail
        refine (hdWritten 1 1 8 1 0 _ (by decide) (by decide) (by decide) (by decide) (by decide)).mono ?_
        rintro e w23 ⟨v23, rfl, own23, bel23⟩
        obtain ⟨Aa, ca, rfl, hca, hma, sl23⟩ := own23.sln ((hdW_len _ _ _ _ _))
        have Sa := Lib.hid sl23
        have BK := Lib.hid (BK.out.next bel23)
        have WD := Lib.hid (WD.out.next bel23)
        have Sb := Lib.hid (Sb.out.next bel23)
        have Sm := Lib.hid (Sm.out.next bel23)
        have Sp := Lib.hid (Sp.out.next bel23)
        have Sw := Lib.hid (Sw.out.next bel23)
        have BB := Lib.hid (bel_next BB.out bel23)
        clear own23 bel23 sl23
        go_wp2_with fail
        refine (nmFw hca hma Sa.out WD.out ((hdW_rh (by decide) (by decide) (by decide) (by decide) (by decide)).trans (by decide +kernel)) (by decide)).mono ?_
        rintro e w24 ⟨rfl, bel24⟩
        have BK := Lib.hid (BK.out.next bel24)
        have WD := Lib.hid (WD.out.next bel24)
        have Sb := Lib.hid (Sb.out.next bel24)
        have Sm := Lib.hid (Sm.out.next bel24)
        have Sp := Lib.hid (Sp.out.next bel24)
        have Sw := Lib.hid (Sw.out.next bel24)
        have Sa := Lib.hid (Sa.out.next bel24)
        have BB := Lib.hid (bel_next BB.out bel24)
        clear bel24
        clear Sa
        go_wp2_with fail
        refine (hdWritten 1 1 8 4294967295 4294967295 _ (by decide) (by decide) (by decide) (by decide) (by decide)).mono ?_
        rintro e w25 ⟨v25, rfl, own25, bel25⟩
        obtain ⟨Aa, ca, rfl, hca, hma, sl25⟩ := own25.sln ((hdW_len _ _ _ _ _))
        have Sa := Lib.hid sl25
        have BK := Lib.hid (BK.out.next bel25)
        have WD := Lib.hid (WD.out.next bel25)
        have Sb := Lib.hid (Sb.out.next bel25)
        have Sm := Lib.hid (Sm.out.next bel25)
        have Sp := Lib.hid (Sp.out.next bel25)
        have Sw := Lib.hid (Sw.out.next bel25)
        have BB := Lib.hid (bel_next BB.out bel25)
        clear own25 bel25 sl25
        go_wp2_with fail
        refine (nmFw hca hma Sa.out WD.out ((hdW_rh (by decide) (by decide) (by decide) (by decide) (by decide)).trans (by decide +kernel)) (by decide)).mono ?_
        rintro e w26 ⟨rfl, bel26⟩
        have BK := Lib.hid (BK.out.next bel26)
        have WD := Lib.hid (WD.out.next bel26)
        have Sb := Lib.hid (Sb.out.next bel26)
        have Sm := Lib.hid (Sm.out.next bel26)
        have Sp := Lib.hid (Sp.out.next bel26)
        have Sw := Lib.hid (Sw.out.next bel26)
        have Sa := Lib.hid (Sa.out.next bel26)
        have BB := Lib.hid (bel_next BB.out bel26)
        clear bel26
        clear Sa
        as_aux_lemma =>
        go_wp2_with fail
        refine (nmL (xs := []) (n := 0) (k := 0) rfl (by decide) (by decide) (fun x h => by simp at h) Sl.nil_ WD.out (by decide +kernel) (by decide)).mono ?_
        rintro e w27 ⟨rfl, bel27⟩
        have BK := Lib.hid (BK.out.next bel27)
        have WD := Lib.hid (WD.out.next bel27)
        have Sb := Lib.hid (Sb.out.next bel27)
        have Sm := Lib.hid (Sm.out.next bel27)
        have Sp := Lib.hid (Sp.out.next bel27)
        have Sw := Lib.hid (Sw.out.next bel27)
        have BB := Lib.hid (bel_next BB.out bel27)
        clear bel27
        go_wp2_with fail
        refine (nmL (xs := [84, 84, 65]) rfl (by decide) (by decide) UL.out.2.2 (Sl.marked w27 .u8 5 [84, 84, 65] rfl) (WD.out.up _) (by decide +kernel) (by decide)).mono ?_
        rintro e w28 ⟨rfl, bel28⟩
        have BK := Lib.hid ((BK.out.up _).next bel28)
        have WD := Lib.hid ((WD.out.up _).next bel28)
        have Sb := Lib.hid ((Sb.out.up _).next bel28)
        have Sm := Lib.hid ((Sm.out.up _).next bel28)
        have Sp := Lib.hid ((Sp.out.up _).next bel28)
        have Sw := Lib.hid ((Sw.out.up _).next bel28)
        have BB := Lib.hid (bel_next (bel_up BB.out _) bel28)
        clear bel28
        have r21 : ∀ W, (Instr.slice 24 (.slice Ab 22 cb) none (some (.int .i64 21)) none).run Tryd.prog W = .ok (.slice Ab 21 cb) W := run_upto leElU8 _ 22 cb 21 rfl (by omega)
        go_wp2_with fail
        refine (nmL (xs := bw.take 21) (n := 21) (by rw [List.length_take, LW.out]; rfl) (by omega) hmb (fun x h => U.out x (List.mem_of_mem_take h)) (Sb.out.take 21) WD.out RC.out (by decide)).mono ?_
        rintro e w29 ⟨rfl, bel29⟩
        have BK := Lib.hid (BK.out.next bel29)
        have WD := Lib.hid (WD.out.next bel29)
        have Sb := Lib.hid (Sb.out.next bel29)
        have Sm := Lib.hid (Sm.out.next bel29)
        have Sp := Lib.hid (Sp.out.next bel29)
        have Sw := Lib.hid (Sw.out.next bel29)
        have BB := Lib.hid (bel_next BB.out bel29)
        clear bel29
        clear r21
        go_wp2_with fail
        refine (nmL (xs := bw.set 4 9) LS.out hcw hmw (u8_set U.out 4 (by decide)) Sw.out WD.out RS.out (by decide)).mono ?_
        rintro e w30 ⟨rfl, bel30⟩
        have BK := Lib.hid (BK.out.next bel30)
        have WD := Lib.hid (WD.out.next bel30)
        have Sb := Lib.hid (Sb.out.next bel30)
        have Sm := Lib.hid (Sm.out.next bel30)
        have Sp := Lib.hid (Sp.out.next bel30)
        have Sw := Lib.hid (Sw.out.next bel30)
        have BB := Lib.hid (bel_next BB.out bel30)
        clear bel30
        clear Sw
        go_wp2_with fail
        refine (hdWritten 1 1 8 1 1001 _ (by decide) (by decide) (by decide) (by decide) (by decide)).mono ?_
        rintro e w31 ⟨v31, rfl, own31, bel31⟩
        obtain ⟨Aa, ca, rfl, hca, hma, sl31⟩ := own31.sln ((hdW_len _ _ _ _ _))
        have Sa := Lib.hid sl31
        have BK := Lib.hid (BK.out.next bel31)
        have WD := Lib.hid (WD.out.next bel31)
        have Sb := Lib.hid (Sb.out.next bel31)
        have Sm := Lib.hid (Sm.out.next bel31)
        have Sp := Lib.hid (Sp.out.next bel31)
        have BB := Lib.hid (bel_next BB.out bel31)
        clear own31 bel31 sl31
        go_wp2_with fail
        refine (nmFw hca hma Sa.out WD.out ((hdW_rh (by decide) (by decide) (by decide) (by decide) (by decide)).trans (by decide +kernel)) (by decide)).mono ?_
        rintro e w32 ⟨rfl, bel32⟩
        have BK := Lib.hid (BK.out.next bel32)
        have WD := Lib.hid (WD.out.next bel32)
        have Sb := Lib.hid (Sb.out.next bel32)
        have Sm := Lib.hid (Sm.out.next bel32)
        have Sp := Lib.hid (Sp.out.next bel32)
        have Sa := Lib.hid (Sa.out.next bel32)
        have BB := Lib.hid (bel_next BB.out bel32)
        clear bel32
        clear Sa
        go_wp2_with fail
        refine (hdWritten 1 6 8 1000 667 _ (by decide) (by decide) (by decide) (by decide) (by decide)).mono ?_
        rintro e w33 ⟨v33, rfl, own33, bel33⟩
        obtain ⟨Aa, ca, rfl, hca, hma, sl33⟩ := own33.sln ((hdW_len _ _ _ _ _))
        have Sa := Lib.hid sl33
        have BK := Lib.hid (BK.out.next bel33)
        have WD := Lib.hid (WD.out.next bel33)
        have Sb := Lib.hid (Sb.out.next bel33)
        have Sm := Lib.hid (Sm.out.next bel33)
        have Sp := Lib.hid (Sp.out.next bel33)
        have BB := Lib.hid (bel_next BB.out bel33)
        clear own33 bel33 sl33
        go_wp2_with fail
        refine (nmFw hca hma Sa.out WD.out ((hdW_rh (by decide) (by decide) (by decide) (by decide) (by decide)).trans (by decide +kernel)) (by decide)).mono ?_
        rintro e w34 ⟨rfl, bel34⟩
        have BK := Lib.hid (BK.out.next bel34)
        have WD := Lib.hid (WD.out.next bel34)
        have Sb := Lib.hid (Sb.out.next bel34)
        have Sm := Lib.hid (Sm.out.next bel34)
        have Sp := Lib.hid (Sp.out.next bel34)
        have Sa := Lib.hid (Sa.out.next bel34)
        have BB := Lib.hid (bel_next BB.out bel34)
        clear bel34
        clear Sa
        go_wp2_with fail
        refine (hdWritten 1 1 8 1048576 4294967295 _ (by decide) (by decide) (by decide) (by decide) (by decide)).mono ?_
        rintro e w35 ⟨v35, rfl, own35, bel35⟩
        obtain ⟨Aa, ca, rfl, hca, hma, sl35⟩ := own35.sln ((hdW_len _ _ _ _ _))
        have Sa := Lib.hid sl35
        have BK := Lib.hid (BK.out.next bel35)
        have WD := Lib.hid (WD.out.next bel35)
        have Sb := Lib.hid (Sb.out.next bel35)
        have Sm := Lib.hid (Sm.out.next bel35)
        have Sp := Lib.hid (Sp.out.next bel35)
        have BB := Lib.hid (bel_next BB.out bel35)
        clear own35 bel35 sl35
        go_wp2_with fail
        refine (nmFw hca hma Sa.out WD.out ((hdW_rh (by decide) (by decide) (by decide) (by decide) (by decide)).trans (by decide +kernel)) (by decide)).mono ?_
        rintro e w36 ⟨rfl, bel36⟩
        have BK := Lib.hid (BK.out.next bel36)
        have WD := Lib.hid (WD.out.next bel36)
        have Sb := Lib.hid (Sb.out.next bel36)
        have Sm := Lib.hid (Sm.out.next bel36)
        have Sp := Lib.hid (Sp.out.next bel36)
        have Sa := Lib.hid (Sa.out.next bel36)
        have BB := Lib.hid (bel_next BB.out bel36)
        clear bel36
        clear Sa
        as_aux_lemma =>
        have B0 := Lib.hid (bel_up (bel_self w36) (.cells #[] 5))
        go_wp2_with (first
          | (at_builtin; refine appNh (xs := []) (ys := bw) leElU8 _ _ rfl rfl rfl rfl LW.out (Own.lit w36 w36.heap.size .u8 5 [] rfl rfl (Nat.le_refl _) (by decide)) (Sb.out.alloc (Nat.le_refl _) _) (by simp) (by simp) B0.out.size ?_; intro v37 w37 own37 bel37; have O7 := Lib.hid (show Own w37 w36.heap.size 5 .u8 v37 bw by simpa using own37); have B7 := Lib.hid (B0.out.trans bel37); clear own37 bel37 B0)
          | (at_builtin; refine app1 (xs := bw) (y := 1) leElU8 _ _ rfl rfl rfl rfl O7.out (by rw [LW.out]; decide) (by rw [LW.out]; decide) B7.out.size ?_; intro v38 w38 own38 bel38; have O8 := Lib.hid own38; have B8 := Lib.hid (B7.out.trans bel38); clear own38 bel38 O7 B7))
        obtain ⟨Ac, cc, rfl, hcc, hmc, sl8⟩ := O8.out.sln (n := 23) (by rw [List.length_append, LW.out]; rfl)
        have BK := Lib.hid (BK.out.next B8.out)
        have WD := Lib.hid (WD.out.next B8.out)
        have Sm := Lib.hid (Sm.out.next B8.out)
        have Sp := Lib.hid (Sp.out.next B8.out)
        have BB := Lib.hid (bel_next BB.out B8.out)
        have RD := Lib.hid (hdRead Ac 23 cc (bw ++ [1]) w38 (by rw [List.length_append, LW.out]; rfl) hcc hmc (u8_app U.out (by unfold U8; decide)) sl8 WD.out)
        rw [RB.out.1, RB.out.2] at RD
        clear sl8 O8 B8 Sb
        go_wp2_with fail
        refine RD.out.mono ?_
        rintro e w39 ⟨rfl, bel39⟩
        have BG := Lib.hid ((BlkH.new w39 23 #[.int .i64 2, .int .i64 6, .int .i64 24, .int .i64 1048576, .int .i64 666]).up (.cells (zerosA .u8 65) 5))
        have BK := Lib.hid ((BK.out.next bel39).up (.cells #[.int .i64 2, .int .i64 6, .int .i64 24, .int .i64 1048576, .int .i64 666] 23) |>.up (.cells (zerosA .u8 65) 5))
        have WD := Lib.hid ((WD.out.next bel39).up (.cells #[.int .i64 2, .int .i64 6, .int .i64 24, .int .i64 1048576, .int .i64 666] 23) |>.up (.cells (zerosA .u8 65) 5))
        have Sm := Lib.hid ((Sm.out.next bel39).up (.cells #[.int .i64 2, .int .i64 6, .int .i64 24, .int .i64 1048576, .int .i64 666] 23) |>.up (.cells (zerosA .u8 65) 5))
        have Sp := Lib.hid ((Sp.out.next bel39).up (.cells #[.int .i64 2, .int .i64 6, .int .i64 24, .int .i64 1048576, .int .i64 666] 23) |>.up (.cells (zerosA .u8 65) 5))
        have BB := Lib.hid (bel_up (bel_up (bel_next BB.out bel39) (.cells #[.int .i64 2, .int .i64 6, .int .i64 24, .int .i64 1048576, .int .i64 666] 23)) (.cells (zerosA .u8 65) 5))
        clear bel39 RD
        have mkz := MKZ.out
        have cvz := CVZ.out (w39.alloc (.cells #[.int .i64 2, .int .i64 6, .int .i64 24, .int .i64 1048576, .int .i64 666] 23))
        rw [size_alloc w39] at cvz
        go_upto_region 45 with fail
        clear mkz cvz
        generalize (w39.alloc (.cells #[.int .i64 2, .int .i64 6, .int .i64 24, .int .i64 1048576, .int .i64 666] 23)).alloc (.cells (zerosA .u8 65) 5) = w40 at *
        go_wp2_with fail
        refine (hdExample _).mono ?_
        rintro e w41 ⟨A1, rfl, slx, bel41⟩
        have SX := Lib.hid slx
        have BK := Lib.hid (BK.out.next bel41)
        have WD := Lib.hid (WD.out.next bel41)
        have Sm := Lib.hid (Sm.out.next bel41)
        have Sp := Lib.hid (Sp.out.next bel41)
        have BG := Lib.hid (BG.out.next bel41)
        have BB := Lib.hid (bel_next BB.out bel41)
        clear bel41 slx
        go_wp2_with fail
        refine (CM1.out _ _ SX.out).mono ?_
        rintro e w42 ⟨rfl, bel42⟩
        have BK := Lib.hid ((BK.out.next bel42).up (.cells #[.int .i64 0, .int .i64 0, .int .i64 0, .int .i64 0, .int .i64 0] 23))
        have WD := Lib.hid ((WD.out.next bel42).up (.cells #[.int .i64 0, .int .i64 0, .int .i64 0, .int .i64 0, .int .i64 0] 23))
        have Sm := Lib.hid ((Sm.out.next bel42).up (.cells #[.int .i64 0, .int .i64 0, .int .i64 0, .int .i64 0, .int .i64 0] 23))
        have Sp := Lib.hid ((Sp.out.next bel42).up (.cells #[.int .i64 0, .int .i64 0, .int .i64 0, .int .i64 0, .int .i64 0] 23))
        have BG := Lib.hid ((BG.out.next bel42).up (.cells #[.int .i64 0, .int .i64 0, .int .i64 0, .int .i64 0, .int .i64 0] 23))
        have BB := Lib.hid (bel_up (bel_next BB.out bel42) (.cells #[.int .i64 0, .int .i64 0, .int .i64 0, .int .i64 0, .int .i64 0] 23))
        clear bel42 SX
        have bc := BCZ.out
        go_wp2_with fail
        clear bc
        refine (CM2.out _).mono ?_
        generalize w42.alloc (.cells #[.int .i64 0, .int .i64 0, .int .i64 0, .int .i64 0, .int .i64 0] 23) = w43 at *
        rintro e w44 ⟨rfl, bel44⟩
        have BK := Lib.hid ((BK.out.next bel44).up (.cells #[.int .i64 0, .int .i64 0, .int .i64 0, .int .i64 0, .int .i64 0] 23))
        have WD := Lib.hid ((WD.out.next bel44).up (.cells #[.int .i64 0, .int .i64 0, .int .i64 0, .int .i64 0, .int .i64 0] 23))
        have Sm := Lib.hid ((Sm.out.next bel44).up (.cells #[.int .i64 0, .int .i64 0, .int .i64 0, .int .i64 0, .int .i64 0] 23))
        have Sp := Lib.hid ((Sp.out.next bel44).up (.cells #[.int .i64 0, .int .i64 0, .int .i64 0, .int .i64 0, .int .i64 0] 23))
        have BG := Lib.hid ((BG.out.next bel44).up (.cells #[.int .i64 0, .int .i64 0, .int .i64 0, .int .i64 0, .int .i64 0] 23))
        have BB := Lib.hid (bel_up (bel_next BB.out bel44) (.cells #[.int .i64 0, .int .i64 0, .int .i64 0, .int .i64 0, .int .i64 0] 23))
        clear bel44
        go_upto_region 47 with fail
        generalize w44.alloc (.cells #[.int .i64 0, .int .i64 0, .int .i64 0, .int .i64 0, .int .i64 0] 23) = w45 at *
        go_cut [24, 25] (fun s24 s25 wx => ∃ g, s24 = .pointer (some ⟨g, 0, none⟩) ∧ s25 = .int .i64 0 ∧ w45.heap.size ≤ g ∧ BlkH wx g 23 #[.int .i64 2, .int .i64 1, .int .i64 16, .int .i64 245, .int .i64 2] ∧ Below w45.heap.size w45 wx)
        case first =>
          as_aux_lemma =>
          have sl64 : ∀ W, (Instr.slice 9 (.string ls) none (some (.int .i64 64)) none).run Tryd.prog W = .ok (.string lt) W := fun W => by
            rw [HLT.out]
            exact sl64x ls LZ.out W
          refine hg_begin (S := SinceG w45) (by kernel_rfl) rfl ?_
          have S0 : Below w45.heap.size w45 { w45 with drawn := w45.drawn + 1 } := (bel_self w45).drew
          generalize ({ w45 with drawn := w45.drawn + 1 } : World) = wd at *
          refine hg_take 1 rfl (by kernel_rfl) (by kernel_rfl) (by kernel_rfl) (fun _ _ _ h => h) (by go_simp) (fun W hW => by go_simp <;> rfl) S0 rfl (by go_simp <;> rfl) ?_
          refine hg_take 2 rfl (by kernel_rfl) (by kernel_rfl) (by kernel_rfl) (fun _ _ _ h => h) (by go_simp) (fun W hW => by go_simp <;> rfl) S0 rfl (by go_simp <;> rfl) ?_
          refine hg_two 0 7 (by kernel_rfl) rfl rfl (by go_simp) (by go_simp) rfl rfl ?_ ?_
          · refine wp_callV (hdExample _) (by go_simp <;> rfl) (fun u => by go_simp <;> rfl) ?_
            intro A1 v1 sl1 bel1
            have S1 : Below w45.heap.size w45 v1 := bel_next S0 bel1
            refine ⟨S1, ?_⟩
            refine hg_two 3 7 (by kernel_rfl) rfl rfl (by go_simp) (by go_simp) rfl rfl ?_ ?_
            · refine wp_callB (by go_simp <;> rfl) (CM3.out _ _ sl1) (by go_simp <;> rfl) ?_
              intro v2 bel2
              have S2 : Below w45.heap.size w45 v2 := bel_next S1 bel2
              refine ⟨S2, ?_⟩
              refine hg_take 4 rfl (by kernel_rfl) (by kernel_rfl) (by kernel_rfl) (fun _ _ _ h => h) (by go_simp) (fun W hW => by go_simp <;> rfl) S2 rfl (by go_simp <;> rfl) ?_
              refine hg_take 5 rfl (by kernel_rfl) (by kernel_rfl) (by kernel_rfl) (fun _ _ _ h => h) (by go_simp) (fun W hW => by go_simp <;> rfl) S2 rfl (by go_simp <;> rfl) ?_
              refine hg_take 6 rfl (by kernel_rfl) (by kernel_rfl) (by kernel_rfl) (fun _ _ _ h => h) (by go_simp) (fun W hW => by go_simp <;> rfl) S2 rfl (by go_simp <;> rfl) ?_
              refine hg_one 7 (by kernel_rfl) rfl (by go_simp) rfl ?_
              refine wp_allocH (cs := #[.int .i64 0, .int .i64 0, .int .i64 0, .int .i64 0, .int .i64 0]) rfl (by kernel_rfl) (fun b => by go_simp <;> rfl) ?_
              intro v3 gN hgN BN belN
              have S3 : Below w45.heap.size w45 v3 := bel_next S2 belN
              have oN : w45.heap.size ≤ gN := Nat.le_trans S2.size hgN
              refine ⟨S3, ?_⟩
              refine hg_one 8 (by kernel_rfl) rfl (by go_simp) rfl ?_
              refine wp_storeH (cs' := #[.int .i64 2, .int .i64 1, .int .i64 16, .int .i64 245, .int .i64 2]) _ _ rfl rfl rfl BN rfl (by kernel_rfl) (by kernel_rfl) (by go_simp <;> rfl) ?_
              intro v9 BN9 onl9
              have S9 : Below w45.heap.size w45 v9 := onl9.bel oN S3
              refine ⟨S9, ?_⟩
              refine hg_take 9 rfl (by kernel_rfl) (by kernel_rfl) (by kernel_rfl) (fun _ _ _ h => h) (by go_simp) (fun W hW => by go_simp <;> rfl) S9 rfl (by go_simp <;> rfl) ?_
              refine hg_done (by kernel_rfl) ?_
              go_wp2_with fail
              go_meet
              exact ⟨gN, rfl, rfl, oN, BN9, S9⟩
            · refine wp_allocH (cs := #[.int .i64 0, .int .i64 0, .int .i64 0, .int .i64 0, .int .i64 0]) rfl (by kernel_rfl) (fun b => by go_simp <;> rfl) ?_
              intro v2 gN hgN BN belN
              have S2 : Below w45.heap.size w45 v2 := bel_next S1 belN
              have oN : w45.heap.size ≤ gN := Nat.le_trans S1.size hgN
              refine ⟨S2, ?_⟩
              refine hg_one 3 (by kernel_rfl) rfl (by go_simp) rfl ?_
              refine wp_callB (by go_simp <;> rfl) (CM3.out _ _ (sl1.next belN)) (by go_simp <;> rfl) ?_
              intro v3 bel3
              have S3 : Below w45.heap.size w45 v3 := bel_next S2 bel3
              have BN := BN.next bel3
              refine ⟨S3, ?_⟩
              refine hg_take 4 rfl (by kernel_rfl) (by kernel_rfl) (by kernel_rfl) (fun _ _ _ h => h) (by go_simp) (fun W hW => by go_simp <;> rfl) S3 rfl (by go_simp <;> rfl) ?_
              refine hg_take 5 rfl (by kernel_rfl) (by kernel_rfl) (by kernel_rfl) (fun _ _ _ h => h) (by go_simp) (fun W hW => by go_simp <;> rfl) S3 rfl (by go_simp <;> rfl) ?_
              refine hg_take 6 rfl (by kernel_rfl) (by kernel_rfl) (by kernel_rfl) (fun _ _ _ h => h) (by go_simp) (fun W hW => by go_simp <;> rfl) S3 rfl (by go_simp <;> rfl) ?_
              refine hg_one 8 (by kernel_rfl) rfl (by go_simp) rfl ?_
              refine wp_storeH (cs' := #[.int .i64 2, .int .i64 1, .int .i64 16, .int .i64 245, .int .i64 2]) _ _ rfl rfl rfl BN rfl (by kernel_rfl) (by kernel_rfl) (by go_simp <;> rfl) ?_
              intro v9 BN9 onl9
              have S9 : Below w45.heap.size w45 v9 := onl9.bel oN S3
              refine ⟨S9, ?_⟩
              refine hg_take 9 rfl (by kernel_rfl) (by kernel_rfl) (by kernel_rfl) (fun _ _ _ h => h) (by go_simp) (fun W hW => by go_simp <;> rfl) S9 rfl (by go_simp <;> rfl) ?_
              refine hg_done (by kernel_rfl) ?_
              go_wp2_with fail
              go_meet
              exact ⟨gN, rfl, rfl, oN, BN9, S9⟩
          · refine wp_allocH (cs := #[.int .i64 0, .int .i64 0, .int .i64 0, .int .i64 0, .int .i64 0]) rfl (by kernel_rfl) (fun b => by go_simp <;> rfl) ?_
            intro v1 gN hgN BN belN
            have S1 : Below w45.heap.size w45 v1 := bel_next S0 belN
            have oN : w45.heap.size ≤ gN := Nat.le_trans S0.size hgN
            refine ⟨S1, ?_⟩
            refine hg_one 0 (by kernel_rfl) rfl (by go_simp) rfl ?_
            refine wp_callV (hdExample _) (by go_simp <;> rfl) (fun u => by go_simp <;> rfl) ?_
            intro A1 v2 sl1 bel2
            have S2 : Below w45.heap.size w45 v2 := bel_next S1 bel2
            have BN := BN.next bel2
            refine ⟨S2, ?_⟩
            refine hg_one 3 (by kernel_rfl) rfl (by go_simp) rfl ?_
            refine wp_callB (by go_simp <;> rfl) (CM3.out _ _ sl1) (by go_simp <;> rfl) ?_
            intro v3 bel3
            have S3 : Below w45.heap.size w45 v3 := bel_next S2 bel3
            have BN := BN.next bel3
            refine ⟨S3, ?_⟩
            refine hg_take 4 rfl (by kernel_rfl) (by kernel_rfl) (by kernel_rfl) (fun _ _ _ h => h) (by go_simp) (fun W hW => by go_simp <;> rfl) S3 rfl (by go_simp <;> rfl) ?_
            refine hg_take 5 rfl (by kernel_rfl) (by kernel_rfl) (by kernel_rfl) (fun _ _ _ h => h) (by go_simp) (fun W hW => by go_simp <;> rfl) S3 rfl (by go_simp <;> rfl) ?_
            refine hg_take 6 rfl (by kernel_rfl) (by kernel_rfl) (by kernel_rfl) (fun _ _ _ h => h) (by go_simp) (fun W hW => by go_simp <;> rfl) S3 rfl (by go_simp <;> rfl) ?_
            refine hg_one 8 (by kernel_rfl) rfl (by go_simp) rfl ?_
            refine wp_storeH (cs' := #[.int .i64 2, .int .i64 1, .int .i64 16, .int .i64 245, .int .i64 2]) _ _ rfl rfl rfl BN rfl (by kernel_rfl) (by kernel_rfl) (by go_simp <;> rfl) ?_
            intro v9 BN9 onl9
            have S9 : Below w45.heap.size w45 v9 := onl9.bel oN S3
            refine ⟨S9, ?_⟩
            refine hg_take 9 rfl (by kernel_rfl) (by kernel_rfl) (by kernel_rfl) (fun _ _ _ h => h) (by go_simp) (fun W hW => by go_simp <;> rfl) S9 rfl (by go_simp <;> rfl) ?_
            refine hg_done (by kernel_rfl) ?_
            go_wp2_with fail
            go_meet
            exact ⟨gN, rfl, rfl, oN, BN9, S9⟩
        case rest =>
          as_aux_lemma =>
          obtain ⟨gN, rfl, rfl, hgN, BNx, hb⟩ := hcut
          obtain ⟨w46, rfl⟩ : ∃ wo : World, wo = wc := ⟨_, rfl⟩
          have BN := Lib.hid BNx
          have BK := Lib.hid (BK.out.next hb)
          have WD := Lib.hid (WD.out.next hb)
          have Sm := Lib.hid (Sm.out.next hb)
          have Sp := Lib.hid (Sp.out.next hb)
          have BG := Lib.hid (BG.out.next hb)
          have BB := Lib.hid (bel_next BB.out hb)
          clear hb BNx CM1 CM2 CM3
          go_wp2_with fail
          refine (hdAlive _ WD.out).mono ?_
          rintro e w47 ⟨rfl, bel47⟩
          have BK := Lib.hid (BK.out.next bel47)
          have Sm := Lib.hid (Sm.out.next bel47)
          have Sp := Lib.hid (Sp.out.next bel47)
          have BG := Lib.hid (BG.out.next bel47)
          have BN := Lib.hid (BN.out.next bel47)
          have BB := Lib.hid (bel_next BB.out bel47)
          clear bel47
          obtain ⟨_, i999⟩ := Sm.out.at5 (i := 999) (by rw [L1.out]; decide)
          rw [L1v.out] at i999
          go_wp2_with fail
          refine (same22 Ap _ 3 3 cp 3 [256, 256, 88] _ rfl rfl (by decide) (Sp.out.up _) (Sl.lit' w47 .i64 3 [256, 256, 88] rfl)).mono ?_
          rintro e w48 ⟨rfl, bel48⟩
          have BK := Lib.hid ((BK.out.up _).next bel48)
          have Sm := Lib.hid ((Sm.out.up _).next bel48)
          have Sp := Lib.hid ((Sp.out.up _).next bel48)
          have BG := Lib.hid ((BG.out.up _).next bel48)
          have BN := Lib.hid ((BN.out.up _).next bel48)
          have BB := Lib.hid (bel_next (bel_up BB.out _) bel48)
          clear bel48
          clear i999
          have c0 := BG.out.cell 0
          have c1 := BG.out.cell 1
          have c2 := BG.out.cell 2
          have c3 := BG.out.cell 3
          have c4 := BG.out.cell 4
          have d0 := BK.out.cell 0
          have d1 := BK.out.cell 1
          have d2 := BK.out.cell 2
          have d3 := BK.out.cell 3
          have d4 := BK.out.cell 4
          have he := HE.out
          have bc := BCZ.out
          go_wp2_with fail
          refine (C24.out _).mono ?_
          rintro e w49 ⟨rfl, bel49⟩
          have BK := Lib.hid (BK.out.next bel49)
          have Sm := Lib.hid (Sm.out.next bel49)
          have Sp := Lib.hid (Sp.out.next bel49)
          have BG := Lib.hid (BG.out.next bel49)
          have BN := Lib.hid (BN.out.next bel49)
          have BB := Lib.hid (bel_next BB.out bel49)
          clear bel49
          clear c0 c1 c2 c3 c4 d0 d1 d2 d3 d4 he bc
          have c0 := BN.out.cell 0
          have c1 := BN.out.cell 1
          have c2 := BN.out.cell 2
          have c3 := BN.out.cell 3
          have c4 := BN.out.cell 4
          go_wp2_with fail
          refine (CK.out _).mono ?_
          rintro e w50 ⟨rfl, bel50⟩
          have BK := Lib.hid (BK.out.next bel50)
          have Sm := Lib.hid (Sm.out.next bel50)
          have Sp := Lib.hid (Sp.out.next bel50)
          have BG := Lib.hid (BG.out.next bel50)
          have BN := Lib.hid (BN.out.next bel50)
          have BB := Lib.hid (bel_next BB.out bel50)
          clear bel50
          go_wp2_with fail
          go_ret
          exact ⟨rfl, BB.out⟩
end Go.Proofs.YtgfibgnolmogkaaDoor

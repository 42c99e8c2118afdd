/-
  What Read of package header computes, where the sum is right. Conditions: numbers within their types; the package variable widths as the text lays it.
-/
import Derived.Test.YtgfibgnolmogkaaDoorHdRead
namespace Go.Proofs.YtgfibgnolmogkaaDoor
open Go.RowKit
set_option linter.unusedVariables false

theorem va2_bd {b : List Int} (h : U8 b) (i : Nat) (hi : i + 2 ≤ b.length) : 0 ≤ va2 b i ∧ va2 b i ≤ 65535 := by
  have h0 := h _ (mem_getD (show i < b.length by omega))
  have h1 := h _ (mem_getD (show i + 1 < b.length by omega))
  unfold va2; omega
theorem va4_bd5 {b : List Int} (h : U8 b) (i : Nat) (hi : i + 4 ≤ b.length) : 0 ≤ va4 b i ∧ va4 b i ≤ 4294967295 := by
  have h0 := h _ (mem_getD (show i < b.length by omega))
  have h1 := h _ (mem_getD (show i + 1 < b.length by omega))
  have h2 := h _ (mem_getD (show i + 2 < b.length by omega))
  have h3 := h _ (mem_getD (show i + 3 < b.length by omega))
  unfold va4; omega

set_option maxRecDepth 100000 in
set_option maxHeartbeats 4000000 in
theorem hdRead_main (A : Option Addr) (n c : Nat) (b : List Int) (w : World) (hn : b.length = n) (hc : n ≤ c) (hcm : c ≤ 9223372036854775807) (hx : U8 b) (hs : Sl w w.heap.size .u8 A b) (hW : WdAt w) (h : pfx b = true) (h2 : 22 ≤ n) (h3 : ((sumL (b.take 18) : Nat) : Int) = va4 b 18) :
    Calls Tryd.prog 14 #[.slice A n c] w fun e w' => e = .returned (.tuple #[rhV b, .int .i64 (rhE b)]) ∧ Below w.heap.size w w' := by
  have RE := Lib.hid (show (rhS b = false → rhE b = 12 ∧ rhV b = .agg #[.int .i64 0, .int .i64 0, .int .i64 0, .int .i64 0, .int .i64 0]) ∧ (rhS b = true → rhF b = false → rhE b = 4 ∧ rhV b = .agg #[.int .i64 0, .int .i64 0, .int .i64 0, .int .i64 0, .int .i64 0]) ∧
      (rhS b = true → rhF b = true → rhE b = 0 ∧ rhV b = .agg #[.int .i64 (va2 b 4), .int .i64 (va2 b 6), .int .i64 (va2 b 8), .int .i64 (va4 b 10), .int .i64 (va4 b 14)]) by
    have key : rhE b = if rhS b = false then 12 else if rhF b = false then 4 else 0 := by
      unfold rhE; rw [h, if_neg (by decide), if_neg (by omega), if_neg (by simpa using h3)]
    refine ⟨fun h1 => ?_, fun h1 h2 => ?_, fun h1 h2 => ?_⟩
    · have : rhE b = 12 := by rw [key, if_pos h1]
      exact ⟨this, by unfold rhV; rw [this, if_neg (by decide)]⟩
    · have : rhE b = 4 := by rw [key, if_neg (by rw [h1]; decide), if_pos h2]
      exact ⟨this, by unfold rhV; rw [this, if_neg (by decide)]⟩
    · have : rhE b = 0 := by rw [key, if_neg (by rw [h1]; decide), if_neg (by rw [h2]; decide)]
      exact ⟨this, by unfold rhV; rw [this, if_pos rfl]⟩)
  obtain ⟨m, hm⟩ : ∃ m, m = (b.take 4).length := ⟨_, rfl⟩
  obtain rfl : m = 4 := by rw [hm, List.length_take]; omega
  have r1 : ∀ W, (Instr.slice 24 (.slice A n c) none (some (.int .i64 4)) none).run Tryd.prog W = .ok (.slice A 4 c) W := run_upto leElU8 A n c 4 rfl (by omega)
  have r2 : ∀ W, (Instr.slice 24 (.slice A n c) none (some (.int .i64 18)) none).run Tryd.prog W = .ok (.slice A 18 c) W := run_upto leElU8 A n c 18 rfl (by omega)
  have k1 : ∀ o, (convert 24 9 (.slice A 4 c)).run Tryd.prog (w.alloc o) = .ok (.string (strOfNums (b.take 4))) (w.alloc o) := fun o => conv_sl (P := Tryd.prog) (c := c) Tryd.underlying24 Tryd.underlying5 Tryd.underlying9 ((hs.up o).take 4) hm.symm
  have HP := Lib.hid (fun W => hasPrefix b W hx)
  have SX := Lib.hid (fun o => hs.up o)
  have A4 := Lib.hid (fun W (i : Nat) (z : Int) (hz : z = (i : Int)) (hi : i + 4 ≤ n) (hW : Sl W W.heap.size .u8 A b) => leAt4z (z := z) A n c i b W hz hn hi hc (by omega) hx hW)
  have A2 := Lib.hid (fun W (i : Nat) (z : Int) (hz : z = (i : Int)) (hi : i + 2 ≤ n) (hW : Sl W W.heap.size .u8 A b) => leAt2z (z := z) A n c i b W hz hn hi hc (by omega) hx hW)
  have AT := Lib.hid (fun W (hW : Sl W W.heap.size .u8 A b) => leAt4z (z := 18) A n c 18 b W rfl hn (by omega) hc (by omega) hx hW)
  have SM := Lib.hid (fun W (hW : Sl W W.heap.size .u8 A b) => sum_ok A 18 c (b.take 18) W (by rw [List.length_take]; omega) (by decide) (fun x h => hx x (List.mem_of_mem_take h)) (hW.take _))
  have g1 := va2_bd hx 4 (by omega)
  have g2 := va2_bd hx 6 (by omega)
  have g3 := va2_bd hx 8 (by omega)
  have g4 := va4_bd5 hx 10 (by omega)
  have g5 := va4_bd5 hx 14 (by omega)
  have RS := Lib.hid (show rhS b = hdS (va2 b 4) (va2 b 6) (va2 b 8) (va4 b 10) (va4 b 14) from rfl)
  have RF := Lib.hid (show rhF b = hdF (va2 b 6) (va4 b 10) (va4 b 14) from rfl)
  rw [h] at HP
  rw [← h3] at AT
  generalize strOfNums (b.take 4) = s at *
  have z := sumL_lt (b.take 18)
  generalize sumL (b.take 18) = t at *
  have ne : ((t : Int) != (t : Int)) = false := by simp
  have h6 : ¬ (n : Int) < 4 := by omega
  have h7 : ¬ (n : Int) < 22 := by omega
  generalize hv4 : va2 b 4 = x0 at *
  generalize hv6 : va2 b 6 = x1 at *
  generalize hv8 : va2 b 8 = x2 at *
  generalize hv10 : va4 b 10 = x3 at *
  generalize hv14 : va4 b 14 = x4 at *
  have V4 := Lib.hid hv4
  have V6 := Lib.hid hv6
  have V8 := Lib.hid hv8
  have V10 := Lib.hid hv10
  have V14 := Lib.hid hv14
  have HWD := Lib.hid hW
  clear hm hs hx h hn h3 hv4 hv6 hv8 hv10 hv14 hW
  have i0 : ∀ w, (Instr.index 60 (.agg #[.int .i64 2, .int .i64 2, .int .i64 2, .int .i64 4, .int .i64 4]) (.int .i64 0)).run Tryd.prog w = .ok (.int .i64 2) w := fun _ => by kernel_rfl
  have i1 : ∀ w, (Instr.index 60 (.agg #[.int .i64 2, .int .i64 2, .int .i64 2, .int .i64 4, .int .i64 4]) (.int .i64 1)).run Tryd.prog w = .ok (.int .i64 2) w := fun _ => by kernel_rfl
  have i2 : ∀ w, (Instr.index 60 (.agg #[.int .i64 2, .int .i64 2, .int .i64 2, .int .i64 4, .int .i64 4]) (.int .i64 2)).run Tryd.prog w = .ok (.int .i64 2) w := fun _ => by kernel_rfl
  have i3 : ∀ w, (Instr.index 60 (.agg #[.int .i64 2, .int .i64 2, .int .i64 2, .int .i64 4, .int .i64 4]) (.int .i64 3)).run Tryd.prog w = .ok (.int .i64 4) w := fun _ => by kernel_rfl
  have i4 : ∀ w, (Instr.index 60 (.agg #[.int .i64 2, .int .i64 2, .int .i64 2, .int .i64 4, .int .i64 4]) (.int .i64 4)).run Tryd.prog w = .ok (.int .i64 4) w := fun _ => by kernel_rfl
  go_enter Tryd.func14, Tryd.ntmps14
  go_wp2_with fail
  all_goals
    refine (HP.out _).mono ?_
    rintro e w' ⟨rfl, rfl⟩
    go_wp2_with fail
    refine (AT.out _ (SX.out _)).mono ?_
    rintro e w' ⟨rfl, rfl⟩
    go_wp2_with fail
    refine (SM.out _ (SX.out _)).mono ?_
    rintro e w1 ⟨rfl, bel1⟩
    have BB := Lib.hid (bel_next (bel_up (bel_self w) _) bel1)
    have BK := Lib.hid ((BlkH.new w 23 #[.int .i64 0, .int .i64 0, .int .i64 0, .int .i64 0, .int .i64 0]).next bel1)
    have HWD := Lib.hid ((HWD.out.up _).next bel1)
    have SX := Lib.hid (fun o => ((SX.out _).next bel1).up o)
    clear bel1 AT SM r1 r2 k1 HP
    obtain ⟨dz, d0, d1, d2, d3, d4⟩ := HWD.out
    go_wp2_with fail
    refine wp_loop_rounds 6 ?_
    rw [rounds_succ]
    go_wp2_with fail
    refine (A2.out _ 4 _ rfl (by omega) (SX.out _)).mono ?_
    rintro e w' ⟨rfl, rfl⟩
    rw [V4.out]
    go_wp2_with fail
    rw [rounds_succ]
    go_wp2_with fail
    refine (A2.out _ 6 _ rfl (by omega) (SX.out _)).mono ?_
    rintro e w' ⟨rfl, rfl⟩
    rw [V6.out]
    go_wp2_with fail
    rw [rounds_succ]
    go_wp2_with fail
    refine (A2.out _ 8 _ rfl (by omega) (SX.out _)).mono ?_
    rintro e w' ⟨rfl, rfl⟩
    rw [V8.out]
    go_wp2_with fail
    rw [rounds_succ]
    go_wp2_with fail
    refine (A4.out _ 10 _ rfl (by omega) (SX.out _)).mono ?_
    rintro e w' ⟨rfl, rfl⟩
    rw [V10.out]
    go_wp2_with fail
    rw [rounds_succ]
    go_wp2_with fail
    refine (A4.out _ 14 _ rfl (by omega) (SX.out _)).mono ?_
    rintro e w' ⟨rfl, rfl⟩
    rw [V14.out]
    go_wp2_with fail
    rw [rounds_succ]
    go_wp2_with fail
    have BK := Lib.hid ((BK.out.up (.cells #[.int .i64 x0, .int .i64 x1, .int .i64 x2, .int .i64 x3, .int .i64 x4] 60)).up (.cells #[.int .i64 x0, .int .i64 x1, .int .i64 x2, .int .i64 x3, .int .i64 x4] 23))
    have BH := Lib.hid (BlkH.new (w1.alloc (.cells #[.int .i64 x0, .int .i64 x1, .int .i64 x2, .int .i64 x3, .int .i64 x4] 60)) 23 #[.int .i64 x0, .int .i64 x1, .int .i64 x2, .int .i64 x3, .int .i64 x4])
    rw [size_alloc] at BH
    have BB := Lib.hid (bel_up (bel_up BB.out (.cells #[.int .i64 x0, .int .i64 x1, .int .i64 x2, .int .i64 x3, .int .i64 x4] 60)) (.cells #[.int .i64 x0, .int .i64 x1, .int .i64 x2, .int .i64 x3, .int .i64 x4] 23))
    clear d0 d1 d2 d3 d4 dz i0 i1 i2 i3 i4 HWD
    refine (shaped_any x0 x1 x2 x3 x4 _).mono ?_
    rintro e w2 ⟨rfl, bel2⟩
    have BK := Lib.hid (BK.out.next bel2)
    have BH := Lib.hid (BH.out.next bel2)
    have BB := Lib.hid (bel_next BB.out bel2)
    clear bel2
    rw [← RS.out]
    obtain ⟨R1, R2, R3⟩ := RE.out
    clear RE
    have H1 := Lib.hid R1
    have H2 := Lib.hid R2
    have H3 := Lib.hid R3
    clear R1 R2 R3
    generalize hg : w1.heap.size + 1 = g at *
    clear hg
    by_cases hS : rhS b = true
    · have FT := Lib.hid (fun W => fits_any x0 x1 x2 x3 x4 W (hdS_ok (RS.out.symm.trans hS)).2.2.1 (hdS_ok (RS.out.symm.trans hS)).2.2.2.1 (hdS_ok (RS.out.symm.trans hS)).2.2.2.2.1 (hdS_ok (RS.out.symm.trans hS)).2.2.2.2.2.1 (hdS_ok (RS.out.symm.trans hS)).2.2.2.2.2.2 (by omega))
      rw [← RF.out] at FT
      rw [hS]
      have HS := Lib.hid hS
      clear hS
      have ch0 := BH.out.cell 0
      have ch1 := BH.out.cell 1
      have ch2 := BH.out.cell 2
      have ch3 := BH.out.cell 3
      have ch4 := BH.out.cell 4
      go_wp2_with fail
      refine (FT.out _).mono ?_
      rintro e w3 ⟨rfl, bel3⟩
      have BK := Lib.hid (BK.out.next bel3)
      have BH := Lib.hid (BH.out.next bel3)
      have BB := Lib.hid (bel_next BB.out bel3)
      clear bel3 ch0 ch1 ch2 ch3 ch4
      have ck0 := BK.out.cell 0
      have ck1 := BK.out.cell 1
      have ck2 := BK.out.cell 2
      have ck3 := BK.out.cell 3
      have ck4 := BK.out.cell 4
      have fk0 := BK.out.free 0
      have fk1 := BK.out.free 1
      have fk2 := BK.out.free 2
      have fk3 := BK.out.free 3
      have fk4 := BK.out.free 4
      have ch0 := BH.out.cell 0
      have ch1 := BH.out.cell 1
      have ch2 := BH.out.cell 2
      have ch3 := BH.out.cell 3
      have ch4 := BH.out.cell 4
      by_cases hF : rhF b = true
      · obtain ⟨q1, q2⟩ := H3.out HS.out hF
        have Q1 := Lib.hid q1
        have Q2 := Lib.hid q2
        rw [hF]
        clear hF q1 q2 H1 H2 H3
        go_wp2_with fail
        refine bodyPost_ret (results_hd Tryd.results14 _ _ rfl BK.out.set5 _ Tryd.underlying23 rfl (by kernel_rfl)) rfl ⟨by rw [Q1.out, Q2.out]; rfl, bel_set5 BB.out (Nat.le_refl _)⟩
      · have hF' : rhF b = false := by simpa using hF
        obtain ⟨q1, q2⟩ := H2.out HS.out hF'
        have Q1 := Lib.hid q1
        have Q2 := Lib.hid q2
        rw [hF']
        clear hF hF' q1 q2 H1 H2 H3
        go_wp2_with fail
        refine bodyPost_ret (results_hd Tryd.results14 _ _ rfl BK.out.set5 _ Tryd.underlying23 rfl (by kernel_rfl)) rfl ⟨by rw [Q1.out, Q2.out]; rfl, bel_set5 BB.out (Nat.le_refl _)⟩
    · have hS' : rhS b = false := by simpa using hS
      obtain ⟨q1, q2⟩ := H1.out hS'
      have Q1 := Lib.hid q1
      have Q2 := Lib.hid q2
      rw [hS']
      clear hS hS' q1 q2 H1 H2 H3
      have ck0 := BK.out.cell 0
      have ck1 := BK.out.cell 1
      have ck2 := BK.out.cell 2
      have ck3 := BK.out.cell 3
      have ck4 := BK.out.cell 4
      have fk0 := BK.out.free 0
      have fk1 := BK.out.free 1
      have fk2 := BK.out.free 2
      have fk3 := BK.out.free 3
      have fk4 := BK.out.free 4
      go_wp2_with fail
      refine bodyPost_ret (results_hd Tryd.results14 _ _ rfl BK.out.set5 _ Tryd.underlying23 rfl (by kernel_rfl)) rfl ⟨by rw [Q1.out, Q2.out]; rfl, bel_set5 BB.out (Nat.le_refl _)⟩

theorem hdRead (A : Option Addr) (n c : Nat) (b : List Int) (w : World) (hn : b.length = n) (hc : n ≤ c) (hcm : c ≤ 9223372036854775807) (hx : U8 b) (hs : Sl w w.heap.size .u8 A b) (hW : WdAt w) :
    Calls Tryd.prog 14 #[.slice A n c] w fun e w' => e = .returned (.tuple #[rhV b, .int .i64 (rhE b)]) ∧ Below w.heap.size w w' := by
  have hz : ∀ E, rhE b = E → E ≠ 0 → rhV b = .agg #[.int .i64 0, .int .i64 0, .int .i64 0, .int .i64 0, .int .i64 0] := fun E h h0 => by unfold rhV; rw [if_neg (by rw [h]; exact h0)]
  by_cases h : pfx b = false
  · have e : rhE b = 12 := by unfold rhE; rw [if_pos h]
    rw [hz _ e (by decide), e]
    exact hdRead_form A n c b w hn hc hx hs h
  · have h' : pfx b = true := by simpa using h
    by_cases h2 : n < 22
    · have e : rhE b = 24 := by unfold rhE; rw [if_neg h, if_pos (by omega)]
      rw [hz _ e (by decide), e]
      exact hdRead_short A n c b w hn hc hx hs h' h2
    · by_cases h3 : ((sumL (b.take 18) : Nat) : Int) ≠ va4 b 18
      · have e : rhE b = 22 := by unfold rhE; rw [if_neg h, if_neg (by omega), if_pos h3]
        rw [hz _ e (by decide), e]
        exact hdRead_sum A n c b w hn hc hcm hx hs h' (by omega) h3
      · exact hdRead_main A n c b w hn hc hcm hx hs hW h' (by omega) (Decidable.not_not.1 h3)
end Go.Proofs.YtgfibgnolmogkaaDoor

/-
  The walk of ChainSilence. Conditions: numbers within their types.
-/
import Derived.Test.YtgnmpkembcdkcaaLaw19B
namespace Go.Proofs.Ytgnmpkembcdkcaa
open Go.RowKit
set_option linter.unusedVariables false

theorem sil_gs {sh : Int} (h : ckF sh = 0) (ts : List Int) : gsV sh ts z16 = 0 := by
  have e : ∀ k, k ≤ 16 → dotTo ts z16 k = 0 := by
    intro k
    induction k with
    | zero => intro _; rfl
    | succ k ih =>
      intro hk
      have e : z16.getD k 0 = 0 := by
        match k, hk with
        | 0, _ | 1, _ | 2, _ | 3, _ | 4, _ | 5, _ | 6, _ | 7, _ | 8, _ | 9, _ | 10, _ | 11, _ | 12, _ | 13, _ | 14, _ | 15, _ => rfl
        | k + 16, h => omega
      rw [dotTo, ih (by omega), e, Int.mul_zero]; rfl
  unfold gsV
  rw [e 16 (Nat.le_refl _)]
  rcases ckF_cases h with rfl | rfl <;> decide +kernel
theorem sil_o {sh : Int} (h : ckF sh = 0) (ts : List Int) : oF sh (ts, z16) 0 = 0 ∧ oB sh (ts, z16) 0 = 0 := by
  unfold oF oB; rw [sil_gs h]; decide +kernel
theorem sil_n {sh : Int} (h : ckF sh = 0) {ts : List Int} (hl : ts.length = 16) (ht : I32 ts) : nF sh (ts, z16) 0 = (ts, z16) ∧ nBk sh (ts, z16) 0 = (ts, z16) := by
  unfold nF nBk
  obtain ⟨h1, h2⟩ := sil_o h ts
  rw [h1, h2]
  simp only [lrn_zero hl ht, show psh z16 0 = z16 from rfl, and_self]
theorem runL_still {S : Type} {o : S → Int → Int} {n : S → Int → S} {s : S} (h1 : o s 0 = 0) (h2 : n s 0 = s) : ∀ k : Nat, runL o n s (List.replicate k 0) = List.replicate k 0 ∧ finL n s (List.replicate k 0) = s
  | 0 => ⟨rfl, rfl⟩
  | k + 1 => by
    obtain ⟨a, b⟩ := runL_still h1 h2 k
    rw [List.replicate_succ]
    refine ⟨by rw [runL, h1, h2, a], ?_⟩
    show finL n (n s 0) _ = _
    rw [h2, b]


set_option maxRecDepth 100000 in
set_option maxHeartbeats 1000000 in
theorem csil_far (b : Int) (ts : List Int) (n : Int) (w : World) (hF : ts.length = 16) (h : n < 0 ∨ 100 < n) :
    Calls Try.prog 8 #[.int .i64 b, .agg (aA ts), .int .i64 n] w fun e w' => e = .returned (.bool true) ∧ Below w.heap.size w w' := by
  have BB := Lib.hid (bel_self w)
  by_cases h1 : n < 0
  · have d1 : decide (n < 0) = true := by simp; omega
    clear h
    go_enter Try.func8, Try.ntmps8
    go_wp2_with (first
      | ((with_reducible refine arr_box (o := ⟨some 4, _, _, _, _, _⟩) flt rfl _ rfl rfl hF ?_); intro w1 bt hbt hBt bel1; have ot := Nat.le_trans BB.out.size hbt; have BB := Lib.hid (bel_next BB.out bel1); have Xt := Lib.hid hBt; clear bel1 hBt hbt))
    refine (alive_any _).mono ?_
    rintro e w2 ⟨rfl, bel2⟩
    have Xt := Lib.hid (Xt.out.next bel2)
    have BB := Lib.hid (bel_next BB.out bel2)
    clear bel2
    go_wp2_with fail
    go_ret
    exact ⟨rfl, BB.out⟩
  · have d1 : decide (n < 0) = false := by simp; omega
    have d2 : decide (100 < n) = true := by simp; omega
    clear h
    go_enter Try.func8, Try.ntmps8
    go_wp2_with (first
      | ((with_reducible refine arr_box (o := ⟨some 4, _, _, _, _, _⟩) flt rfl _ rfl rfl hF ?_); intro w1 bt hbt hBt bel1; have ot := Nat.le_trans BB.out.size hbt; have BB := Lib.hid (bel_next BB.out bel1); have Xt := Lib.hid hBt; clear bel1 hBt hbt))
    refine (alive_any _).mono ?_
    rintro e w2 ⟨rfl, bel2⟩
    have Xt := Lib.hid (Xt.out.next bel2)
    have BB := Lib.hid (bel_next BB.out bel2)
    clear bel2
    go_wp2_with fail
    go_ret
    exact ⟨rfl, BB.out⟩
set_option maxRecDepth 100000 in
set_option maxHeartbeats 1000000 in
theorem csil_bad (b : Int) (ts : List Int) (n : Int) (w : World) (hF : ts.length = 16) (h0 : ¬ n < 0) (h1 : ¬ 100 < n) (h : nwE b ≠ 0) :
    Calls Try.prog 8 #[.int .i64 b, .agg (aA ts), .int .i64 n] w fun e w' => e = .returned (.bool true) ∧ Below w.heap.size w w' := by
  have BB := Lib.hid (bel_self w)
  have CN := Lib.hid (fun W => cnew_bad b ts W hF h)
  obtain ⟨_, b8, b16, b24⟩ := nwE_bad h
  have d1 : decide (n < 0) = false := by simp; omega
  have d2 : decide (100 < n) = false := by simp; omega
  have q1 : (b != 8) = true := by simp; exact b8
  have q2 : (b != 16) = true := by simp; exact b16
  have q3 : (b != 24) = true := by simp; exact b24
  clear h
  go_enter Try.func8, Try.ntmps8
  go_wp2_with (first
    | ((with_reducible refine arr_box (o := ⟨some 4, _, _, _, _, _⟩) flt rfl _ rfl rfl hF ?_); intro w1 bt hbt hBt bel1; have ot := Nat.le_trans BB.out.size hbt; have BB := Lib.hid (bel_next BB.out bel1); have Xt := Lib.hid hBt; clear bel1 hBt hbt))
  refine (alive_any _).mono ?_
  rintro e w2 ⟨rfl, bel2⟩
  have Xt := Lib.hid (Xt.out.next bel2)
  have BB := Lib.hid (bel_next BB.out bel2)
  clear bel2
  go_wp2_with (first
    | (with_reducible refine arr_load (o := ⟨some 31, _, _, _, _, _⟩) flt rfl _ rfl rfl Xt.out ?_))
  refine (CN.out _).mono ?_
  rintro e w3 ⟨rfl, bel3⟩
  have Xt := Lib.hid (Xt.out.next bel3)
  have BB := Lib.hid (bel_next BB.out bel3)
  clear bel3
  go_wp2_with (first
    | ((with_reducible refine chn_alloc (o := ⟨some 8, _, _, _, _, _⟩) chn rfl rfl ?_); intro w4 bc hbc hBc bel4; have q_t_c : bt < bc := Nat.lt_of_lt_of_le Xt.out.lt hbc; have oc := Nat.le_trans BB.out.size hbc; have Xt := Lib.hid (Xt.out.next bel4); have BB := Lib.hid (bel_next BB.out bel4); have Xc := Lib.hid hBc; clear bel4 hBc hbc)
    | ((with_reducible refine chn_store chn rfl (.tmp 8) (.tmp 33) rfl rfl rfl Xc.out f16z ?_); intro w5 hB5 onl5; have Xt := Lib.hid (Xt.out.only (by omega) onl5); have BB := Lib.hid (onl5.bel oc BB.out); have Xc := Lib.hid hB5; clear onl5 hB5))
  go_ret
  exact ⟨rfl, BB.out⟩
set_option maxRecDepth 100000 in
set_option maxHeartbeats 2000000 in
theorem csil_ok (b : Int) (ts : List Int) (m : Nat) (w : World) (hF : ts.length = 16) (ht : I32 ts) (hb0 : -9223372036854775808 ≤ b) (hb1 : b ≤ 9223372036854775807) (h : nwE b = 0) (hm : m ≤ 100) :
    Calls Try.prog 8 #[.int .i64 b, .agg (aA ts), .int .i64 (m : Int)] w fun e w' => e = .returned (.bool true) ∧ Below w.heap.size w w' := by
  have BB := Lib.hid (bel_self w)
  have CN := Lib.hid (fun W => cnew_ok b ts W hF h)
  have hc : cnC b (nwS b) = 0 := if_pos ⟨h, rfl⟩
  have hk := (cnC_ok hc).2.2.1
  have hv : VC (0, ts, z16) := ⟨c0_v.1, f16 hF rfl, ht, c0_v.2.2.2⟩
  have hz : I32 (List.replicate m 0) := fun y hy => by rw [List.eq_of_mem_replicate hy]; decide
  obtain ⟨o1, o2⟩ := sil_o hk ts
  obtain ⟨n1, n2⟩ := sil_n hk hF ht
  have z0 : wrap32 (0 - 0) = 0 := by decide +kernel
  have z1 : wrap32 (0 + 0) = 0 := by decide +kernel
  have g0 : gC b 0 = 0 := by unfold gC guR gF; split <;> (try split) <;> rfl
  obtain ⟨r1, r2⟩ := runL_still (o := cO b (nwS b)) (n := cN b (nwS b)) (s := ((0, ts, z16) : CS)) (by unfold cO; simp only [g0]; rw [z0]; exact o1) (by unfold cN; simp only [g0]; rw [z0, n1]) m
  obtain ⟨r3, r4⟩ := runL_still (o := cP b (nwS b)) (n := cM b (nwS b)) (s := ((0, ts, z16) : CS)) (by unfold cP; simp only [g0]; rw [o2]; exact z1) (by unfold cM cP; simp only [g0]; rw [o2, n2, z1]) m
  have C1 := Lib.hid (fun A W (hh : Sl W W.heap.size .i32 A (List.replicate m 0)) => cAll_ok b (nwS b) (0, ts, z16) A m m (List.replicate m 0) W (by simp) hv hc hb0 hb1 (by omega) hz hh)
  rw [r1, r2] at C1
  have C2 := Lib.hid (fun A W (hh : Sl W W.heap.size .i32 A (List.replicate m 0)) => cUndo_ok b (nwS b) (0, ts, z16) A m m (List.replicate m 0) W (by simp) hv hc hb0 hb1 (by omega) hz hh)
  rw [r3, r4] at C2
  have HG := Lib.hid hv.2.1
  have d1 : decide ((m : Int) < 0) = false := by simp
  have d2 : decide ((100 : Int) < (m : Int)) = false := by simp; omega
  have mk : ∀ W, (Instr.makeSlice 41 (.int .i64 m) (.int .i64 m)).run Try.prog W = .ok (.slice (some ⟨W.heap.size, 0, none⟩) m m) (W.alloc (.cells (zerosA .i32 m) 21)) := run_make_ints elI32 m rfl (by omega) (by omega)
  have LR := Lib.hid (show (List.replicate m (0 : Int)).length = m by simp)
  generalize nwS b = sh at *
  clear h hv hz o1 o2 n1 n2 r1 r2 r3 r4 ht hc hk g0 z0 z1
  go_enter Try.func8, Try.ntmps8
  go_wp2_with (first
    | ((with_reducible refine arr_box (o := ⟨some 4, _, _, _, _, _⟩) flt rfl _ rfl rfl hF ?_); intro w1 bt hbt hBt bel1; have ot := Nat.le_trans BB.out.size hbt; have BB := Lib.hid (bel_next BB.out bel1); have Xt := Lib.hid hBt; clear bel1 hBt hbt))
  refine (alive_any _).mono ?_
  rintro e w2 ⟨rfl, bel2⟩
  have Xt := Lib.hid (Xt.out.next bel2)
  have BB := Lib.hid (bel_next BB.out bel2)
  clear bel2
  go_wp2_with (first
    | (with_reducible refine arr_load (o := ⟨some 31, _, _, _, _, _⟩) flt rfl _ rfl rfl Xt.out ?_))
  refine (CN.out _).mono ?_
  rintro e w3 ⟨rfl, bel3⟩
  have Xt := Lib.hid (Xt.out.next bel3)
  have BB := Lib.hid (bel_next BB.out bel3)
  clear bel3
  go_wp2_with (first
    | ((with_reducible refine chn_alloc (o := ⟨some 8, _, _, _, _, _⟩) chn rfl rfl ?_); intro w4 bc hbc hBc bel4; have q_t_c : bt < bc := Nat.lt_of_lt_of_le Xt.out.lt hbc; have oc := Nat.le_trans BB.out.size hbc; have Xt := Lib.hid (Xt.out.next bel4); have BB := Lib.hid (bel_next BB.out bel4); have Xc := Lib.hid hBc; clear bel4 hBc hbc)
    | ((with_reducible refine chn_store chn rfl (.tmp 8) (.tmp 33) rfl rfl rfl Xc.out HG.out ?_); intro w5 hB5 onl5; have Xt := Lib.hid (Xt.out.only (by omega) onl5); have BB := Lib.hid (onl5.bel oc BB.out); have Xc := Lib.hid hB5; have WZ := Lib.hid (Sl.zeros' w5 .i32 21 m); have WB := Lib.hid (bel_up (bel_self w5) (.cells (zerosA .i32 m) 21)); have Xc := Lib.hid (hB5.next WB.out); have Xt := Lib.hid (Xt.out.next WB.out); have BB := Lib.hid (bel_next BB.out WB.out); generalize hW : w5.alloc (.cells (zerosA .i32 m) 21) = w6 at *; clear onl5 hB5)
    | (with_reducible refine chn_load (o := ⟨some 53, _, _, _, _, _⟩) chn rfl _ rfl rfl Xc.out ?_))
  have SZ := Lib.hid (SA.of WZ.out)
  clear WZ WB hW mk
  go_wp2_with fail
  refine (C1.out _ _ SZ.out.sl).mono ?_
  rintro e w7 ⟨v7, rfl, own7, bel7⟩
  obtain ⟨Aa, ca, rfl, hca, hma, sl7⟩ := own7.sln (LR.out)
  have Sa := Lib.hid (SA.of sl7)
  have Xt := Lib.hid (Xt.out.next bel7)
  have Xc := Lib.hid (Xc.out.next bel7)
  have SZ := Lib.hid (SZ.out.next bel7)
  have BB := Lib.hid (bel_next BB.out bel7)
  clear own7 bel7 sl7
  go_wp2_with (first
    | ((with_reducible refine chn_alloc (o := ⟨some 12, _, _, _, _, _⟩) chn rfl rfl ?_); intro w8 bn hbn hBn bel8; have q_t_n : bt < bn := Nat.lt_of_lt_of_le Xt.out.lt hbn; have q_c_n : bc < bn := Nat.lt_of_lt_of_le Xc.out.lt hbn; have q_SZ_n := Nat.le_trans SZ.out.2 hbn; have q_Sa_n := Nat.le_trans Sa.out.2 hbn; have on := Nat.le_trans BB.out.size hbn; have Xt := Lib.hid (Xt.out.next bel8); have Xc := Lib.hid (Xc.out.next bel8); have SZ := Lib.hid (SZ.out.next bel8); have Sa := Lib.hid (Sa.out.next bel8); have BB := Lib.hid (bel_next BB.out bel8); have Xn := Lib.hid hBn; clear bel8 hBn hbn)
    | ((with_reducible refine chn_store chn rfl (.tmp 12) (.tmp 57) rfl rfl rfl Xn.out HG.out ?_); intro w9 hB9 onl9; have Xt := Lib.hid (Xt.out.only (by omega) onl9); have Xc := Lib.hid (Xc.out.only (by omega) onl9); have SZ := Lib.hid (SZ.out.only (by omega) onl9); have Sa := Lib.hid (Sa.out.only (by omega) onl9); have BB := Lib.hid (onl9.bel on BB.out); have Xn := Lib.hid hB9; clear onl9 hB9)
    | (with_reducible refine chn_load (o := ⟨some 60, _, _, _, _, _⟩) chn rfl _ rfl rfl Xc.out ?_))
  refine (C2.out _ _ SZ.out.sl).mono ?_
  rintro e w10 ⟨v10, rfl, own10, bel10⟩
  obtain ⟨Ab, cb, rfl, hcb, hmb, sl10⟩ := own10.sln (LR.out)
  have Sb := Lib.hid (SA.of sl10)
  have Xt := Lib.hid (Xt.out.next bel10)
  have Xc := Lib.hid (Xc.out.next bel10)
  have SZ := Lib.hid (SZ.out.next bel10)
  have Sa := Lib.hid (Sa.out.next bel10)
  have Xn := Lib.hid (Xn.out.next bel10)
  have BB := Lib.hid (bel_next BB.out bel10)
  clear own10 bel10 sl10
  go_wp2_with (first
    | ((with_reducible refine chn_alloc (o := ⟨some 15, _, _, _, _, _⟩) chn rfl rfl ?_); intro w11 bm hbm hBm bel11; have q_t_m : bt < bm := Nat.lt_of_lt_of_le Xt.out.lt hbm; have q_c_m : bc < bm := Nat.lt_of_lt_of_le Xc.out.lt hbm; have q_n_m : bn < bm := Nat.lt_of_lt_of_le Xn.out.lt hbm; have q_SZ_m := Nat.le_trans SZ.out.2 hbm; have q_Sa_m := Nat.le_trans Sa.out.2 hbm; have q_Sb_m := Nat.le_trans Sb.out.2 hbm; have om := Nat.le_trans BB.out.size hbm; have Xt := Lib.hid (Xt.out.next bel11); have Xc := Lib.hid (Xc.out.next bel11); have SZ := Lib.hid (SZ.out.next bel11); have Sa := Lib.hid (Sa.out.next bel11); have Xn := Lib.hid (Xn.out.next bel11); have Sb := Lib.hid (Sb.out.next bel11); have BB := Lib.hid (bel_next BB.out bel11); have Xm := Lib.hid hBm; clear bel11 hBm hbm)
    | ((with_reducible refine chn_store chn rfl (.tmp 15) (.tmp 64) rfl rfl rfl Xm.out HG.out ?_); intro w12 hB12 onl12; have Xt := Lib.hid (Xt.out.only (by omega) onl12); have Xc := Lib.hid (Xc.out.only (by omega) onl12); have SZ := Lib.hid (SZ.out.only (by omega) onl12); have Sa := Lib.hid (Sa.out.only (by omega) onl12); have Xn := Lib.hid (Xn.out.only (by omega) onl12); have Sb := Lib.hid (Sb.out.only (by omega) onl12); have BB := Lib.hid (onl12.bel om BB.out); have Xm := Lib.hid hB12; clear onl12 hB12))
  refine (same13 Aa _ _ _ ca m (List.replicate m 0) _ LR.out LR.out (by rw [LR.out]; omega) Sa.out.sl SZ.out.sl).mono ?_
  rintro e w13 ⟨rfl, bel13⟩
  have Xt := Lib.hid (Xt.out.next bel13)
  have Xc := Lib.hid (Xc.out.next bel13)
  have SZ := Lib.hid (SZ.out.next bel13)
  have Sa := Lib.hid (Sa.out.next bel13)
  have Xn := Lib.hid (Xn.out.next bel13)
  have Sb := Lib.hid (Sb.out.next bel13)
  have Xm := Lib.hid (Xm.out.next bel13)
  have BB := Lib.hid (bel_next BB.out bel13)
  clear bel13
  go_wp2_with fail
  refine (same13 Ab _ _ _ cb m (List.replicate m 0) _ LR.out LR.out (by rw [LR.out]; omega) Sb.out.sl SZ.out.sl).mono ?_
  rintro e w14 ⟨rfl, bel14⟩
  have Xt := Lib.hid (Xt.out.next bel14)
  have Xc := Lib.hid (Xc.out.next bel14)
  have SZ := Lib.hid (SZ.out.next bel14)
  have Sa := Lib.hid (Sa.out.next bel14)
  have Xn := Lib.hid (Xn.out.next bel14)
  have Sb := Lib.hid (Sb.out.next bel14)
  have Xm := Lib.hid (Xm.out.next bel14)
  have BB := Lib.hid (bel_next BB.out bel14)
  clear bel14
  go_wp2_with (first
    | ((with_reducible refine wpl_guard (d := some 86) ?_ ?_); (next => first | kernel_rfl | go_simp); with_reducible refine chn_load (o := ⟨some 86, _, _, _, _, _⟩) chn rfl _ rfl rfl Xn.out ?_)
    | ((with_reducible refine wpl_guard (d := some 87) ?_ ?_); (next => first | kernel_rfl | go_simp); with_reducible refine chn_load (o := ⟨some 87, _, _, _, _, _⟩) chn rfl _ rfl rfl Xc.out ?_)
    | ((with_reducible refine wpl_guard (d := some 88) ?_ ?_); (next => first | kernel_rfl | go_simp); with_reducible refine wpl_eq (o := ⟨some 88, _, _, _, _, _⟩) (chn_eqs chn eqgC HG.out _ _ _) rfl rfl rfl rfl ?_)
    | ((with_reducible refine wpl_guard (d := some 91) ?_ ?_); (next => first | kernel_rfl | go_simp); with_reducible refine chn_load (o := ⟨some 91, _, _, _, _, _⟩) chn rfl _ rfl rfl Xm.out ?_)
    | ((with_reducible refine wpl_guard (d := some 92) ?_ ?_); (next => first | kernel_rfl | go_simp); with_reducible refine chn_load (o := ⟨some 92, _, _, _, _, _⟩) chn rfl _ rfl rfl Xc.out ?_)
    | ((with_reducible refine wpl_guard (d := some 93) ?_ ?_); (next => first | kernel_rfl | go_simp); with_reducible refine wpl_eq (o := ⟨some 93, _, _, _, _, _⟩) (chn_eqs chn eqgC HG.out _ _ _) rfl rfl rfl rfl ?_))
  go_ret
  exact ⟨rfl, BB.out⟩
theorem chainSilence_walk (b : Int) (ts : List Int) (n : Int) (w : World) (hb0 : -9223372036854775808 ≤ b) (hb1 : b ≤ 9223372036854775807) (hF : ts.length = 16) (ht : I32 ts) (hn0 : -9223372036854775808 ≤ n) (hn1 : n ≤ 9223372036854775807) :
    Calls Try.prog 8 #[.int .i64 b, .agg (aA ts), .int .i64 n] w fun e w' => e = .returned (.bool true) ∧ Below w.heap.size w w' := by
  by_cases h : n < 0 ∨ 100 < n
  · exact csil_far b ts n w hF h
  · by_cases h1 : nwE b = 0
    · obtain ⟨m, rfl⟩ := Int.eq_ofNat_of_zero_le (show 0 ≤ n by omega)
      exact csil_ok b ts m w hF ht hb0 hb1 h1 (by omega)
    · exact csil_bad b ts n w hF (by omega) (by omega) h1
end Go.Proofs.Ytgnmpkembcdkcaa

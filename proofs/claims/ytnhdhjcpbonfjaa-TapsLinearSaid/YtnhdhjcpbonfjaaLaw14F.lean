/-
  The walk of TapsLinear. Conditions: numbers within their types.
-/
import Derived.Test.YtnhdhjcpbonfjaaLaw14C
import Derived.Test.YtnhdhjcpbonfjaaTapsPlain2
import Derived.Test.YtnhdhjcpbonfjaaHeld
import Derived.Deep.DeepCutAuto
namespace Go.Proofs.Ytnhdhjcpbonfjaa
open Go.RowKit
set_option linter.unusedVariables false

set_option maxRecDepth 100000 in
set_option maxHeartbeats 1000000 in
theorem linear_bad (sh : Int) (ts ps : List Int) (w : World) (hF : F16 ts ps) (h : ckF sh ≠ 0) :
    Calls Try.prog 6 #[.agg (fA sh ts ps)] w fun e w' => e = .returned (.bool true) ∧ Below w.heap.size w w' := by
  have BB := Lib.hid (bel_self w)
  have CK := Lib.hid (fun W => recheck_any sh ts ps W hF)
  have hq : (ckF sh != 0) = true := by simp [h]
  generalize ckF sh = ce at *
  clear h
  go_enter Try.func6, Try.ntmps6
  go_wp2_with (first
    | ((with_reducible refine flt_box (o := ⟨some 1, _, _, _, _, _⟩) flt rfl _ rfl rfl hF ?_); intro w1 bf hbf hBf bel1; have of := Nat.le_trans BB.out.size hbf; have BB := Lib.hid (bel_next BB.out bel1); have Xf := Lib.hid hBf; clear bel1 hBf hbf))
  refine (alive_any _).mono ?_
  rintro e w2 ⟨rfl, bel2⟩
  have Xf := Lib.hid (Xf.out.next bel2)
  have BB := Lib.hid (bel_next BB.out bel2)
  clear bel2
  go_wp2_with (first
    | (with_reducible refine flt_load (o := ⟨some 15, _, _, _, _, _⟩) flt rfl _ rfl rfl Xf.out ?_))
  refine (CK.out _).mono ?_
  rintro e w3 ⟨rfl, bel3⟩
  have Xf := Lib.hid (Xf.out.next bel3)
  have BB := Lib.hid (bel_next BB.out bel3)
  clear bel3
  go_wp2_with fail
  go_ret
  exact ⟨rfl, BB.out⟩

theorem dot_flat (ps : List Int) : ∀ k, k ≤ 16 → dotTo z16 ps k = 0
  | 0, _ => rfl
  | k + 1, h => by
    have e : z16.getD k 0 = 0 := by
      match k, h with
      | 0, _ | 1, _ | 2, _ | 3, _ | 4, _ | 5, _ | 6, _ | 7, _ | 8, _ | 9, _ | 10, _ | 11, _ | 12, _ | 13, _ | 14, _ | 15, _ => rfl
      | k + 16, h => omega
    rw [dotTo, dot_flat ps k (by omega), e, Int.zero_mul]; rfl
theorem dot_still (ts : List Int) : ∀ k, k ≤ 16 → dotTo ts z16 k = 0
  | 0, _ => rfl
  | k + 1, h => by
    have e : z16.getD k 0 = 0 := by
      match k, h with
      | 0, _ | 1, _ | 2, _ | 3, _ | 4, _ | 5, _ | 6, _ | 7, _ | 8, _ | 9, _ | 10, _ | 11, _ | 12, _ | 13, _ | 14, _ | 15, _ => rfl
      | k + 16, h => omega
    rw [dotTo, dot_still ts k (by omega), e, Int.mul_zero]; rfl

theorem lin_9 (ts ps : List Int) : 0 ≤ wrap32 (wrap32 (sumF ts ps + 256) - wrap32 (gsV 9 ts ps * 512)) ∧ wrap32 (wrap32 (sumF ts ps + 256) - wrap32 (gsV 9 ts ps * 512)) < 512 := by
  have e : gsV 9 ts ps = wrap32 (sumF ts ps + 256) / 512 := by unfold gsV sumF; rw [wrap32_add_l, Int.add_comm]; rfl
  rw [e]
  have b := wrap32_bd (sumF ts ps + 256)
  generalize wrap32 (sumF ts ps + 256) = z at *
  rw [IntWalk.wrap32_in (z / 512 * 512) (by omega), IntWalk.wrap32_in _ (by omega)]
  omega
set_option maxRecDepth 100000 in
set_option maxHeartbeats 2000000 in
theorem linear_9 (ts ps : List Int) (w : World) (hF : F16 ts ps) (ht : I32 ts) (hp : I32 ps) :
    Calls Try.prog 6 #[.agg (fA 9 ts ps)] w fun e w' => e = .returned (.bool true) ∧ Below w.heap.size w w' := by
  have sh := 9
  have BB := Lib.hid (bel_self w)
  have CK := Lib.hid (fun W => recheck_any 9 ts ps W hF)
  rw [show ckF 9 = 0 from rfl] at CK
  have CG := Lib.hid (fun W => tguess_9 ts ps W hF ht hp)
  have CS := Lib.hid (fun W => resum_any 9 ts ps W hF ht hp)
  have hG : F16 z16 ps := f16 rfl hF.2
  have hH : F16 ts z16 := f16 hF.1 rfl
  have HG := Lib.hid hG
  have HH := Lib.hid hH
  have CA := Lib.hid (fun W => tguess_9 z16 ps W hG z16_i32 hp)
  rw [show gsV 9 z16 ps = 0 by unfold gsV; rw [dot_flat ps 16 (Nat.le_refl _)]; decide +kernel] at CA
  have CB := Lib.hid (fun W => tguess_9 ts z16 W hH ht z16_i32)
  rw [show gsV 9 ts z16 = 0 by unfold gsV; rw [dot_still ts 16 (Nat.le_refl _)]; decide +kernel] at CB
  have L := lin_9 ts ps
  have b0 := gsV_bd 9 ts ps
  have b1 := wrap32_bd (dotTo ts ps 16)
  rw [show wrap32 (dotTo ts ps 16) = sumF ts ps from rfl] at b1
  generalize gsV 9 ts ps = g at *
  generalize sumF ts ps = s at *
  have d1 : decide (0 ≤ wrap32 (wrap32 (s + 256) - wrap32 (g * 512))) = true := by simp [L.1]
  have d2 : decide (wrap32 (wrap32 (s + 256) - wrap32 (g * 512)) < 512) = true := by simp [L.2]
  clear ht hp L hG hH
  go_enter Try.func6, Try.ntmps6
  go_wp2_with (first
    | ((with_reducible refine flt_box (o := ⟨some 1, _, _, _, _, _⟩) flt rfl _ rfl rfl hF ?_); intro w1 bf hbf hBf bel1; have of := Nat.le_trans BB.out.size hbf; have BB := Lib.hid (bel_next BB.out bel1); have Xf := Lib.hid hBf; clear bel1 hBf hbf))
  refine (alive_any _).mono ?_
  rintro e w2 ⟨rfl, bel2⟩
  have Xf := Lib.hid (Xf.out.next bel2)
  have BB := Lib.hid (bel_next BB.out bel2)
  clear bel2
  go_wp2_with (first
    | (with_reducible refine flt_load (o := ⟨some 15, _, _, _, _, _⟩) flt rfl _ rfl rfl Xf.out ?_))
  refine (CK.out _).mono ?_
  rintro e w3 ⟨rfl, bel3⟩
  have Xf := Lib.hid (Xf.out.next bel3)
  have BB := Lib.hid (bel_next BB.out bel3)
  clear bel3
  go_wp2_with (first
    | (with_reducible refine flt_load (o := ⟨some 24, _, _, _, _, _⟩) flt rfl _ rfl rfl Xf.out ?_))
  refine (CG.out _).mono ?_
  rintro e w4 ⟨rfl, bel4⟩
  have Xf := Lib.hid (Xf.out.next bel4)
  have BB := Lib.hid (bel_next BB.out bel4)
  clear bel4
  have c0 := Xf.out.c0
  go_wp2_with (first
    | (with_reducible refine flt_load (o := ⟨some 31, _, _, _, _, _⟩) flt rfl _ rfl rfl Xf.out ?_))
  refine (CS.out _).mono ?_
  rintro e w5 ⟨rfl, bel5⟩
  have Xf := Lib.hid (Xf.out.next bel5)
  have BB := Lib.hid (bel_next BB.out bel5)
  clear bel5
  clear c0
  go_upto_region 7 with fail
  go_cut [8, 9] (fun s8 s9 wx => ∃ b8 b9, s8 = .pointer (some ⟨b8, 0, none⟩) ∧ s9 = .pointer (some ⟨b9, 0, none⟩) ∧ b8 ≠ b9 ∧ bf < b8 ∧ bf < b9 ∧ FB wx b8 24 9 ts ps ∧ FB wx b9 24 9 ts ps ∧ FB wx bf 24 9 ts ps ∧ Below w.heap.size w wx)
  case first =>
    refine h_begin (S := fun W => (FB W bf 24 9 ts ps ∧ Below w.heap.size w W)) (by kernel_rfl) rfl ?_
    have S0 : (FB { w5 with drawn := w5.drawn + 1 } bf 24 9 ts ps ∧ Below w.heap.size w { w5 with drawn := w5.drawn + 1 }) := ⟨Xf.out, BB.out.drew⟩
    generalize ({ w5 with drawn := w5.drawn + 1 } : World) = wd at *
    refine h_take 0 rfl (by kernel_rfl) (by kernel_rfl) (by kernel_rfl) (fun _ _ _ h => h) (y_load flt rfl _ rfl rfl (fun W hW => hW.1)) S0 rfl (by go_simp <;> rfl) ?_
    refine h_take 1 rfl (by kernel_rfl) (by kernel_rfl) (by kernel_rfl) (fun _ _ _ h => h) (y_load flt rfl _ rfl rfl (fun W hW => hW.1)) S0 rfl (by go_simp <;> rfl) ?_
    refine h_two 2 3 (by kernel_rfl) rfl rfl rfl rfl rfl rfl ?_ ?_
    · refine wp_flt_alloc flt rfl (fun b => by go_simp <;> rfl) ?_
      intro v1 b8 hb8 hB8 bel
      have S1 : (FB v1 bf 24 9 ts ps ∧ Below w.heap.size w v1) := ⟨S0.1.next bel, bel_next S0.2 bel⟩
      refine ⟨S1, ?_⟩
      have of8 : bf < b8 := Nat.lt_of_lt_of_le S0.1.lt hb8
      refine h_one 3 (by kernel_rfl) rfl rfl rfl ?_
      refine wp_flt_alloc flt rfl (fun b => by go_simp <;> rfl) ?_
      intro v2 b9 hb9 hB9 bel
      have S2 : (FB v2 bf 24 9 ts ps ∧ Below w.heap.size w v2) := ⟨S1.1.next bel, bel_next S1.2 bel⟩
      refine ⟨S2, ?_⟩
      have of9 : bf < b9 := Nat.lt_of_lt_of_le S1.1.lt hb9
      have oo : b8 < b9 := Nat.lt_of_lt_of_le hB8.lt hb9
      have hB8 := hB8.next bel
      refine h_one 4 (by kernel_rfl) rfl rfl rfl ?_
      refine wp_flt_store flt _ _ rfl rfl rfl hB8 hF (by go_simp <;> rfl) ?_
      intro v3 hC8 onl3
      have S3 : (FB v3 bf 24 9 ts ps ∧ Below w.heap.size w v3) := ⟨S2.1.only (by omega) onl3, onl3.bel (by omega) S2.2⟩
      refine ⟨S3, ?_⟩
      have hB9 := hB9.only (by omega) onl3
      refine h_one 5 (by kernel_rfl) rfl rfl rfl ?_
      refine wp_flt_store flt _ _ rfl rfl rfl hB9 hF (by go_simp <;> rfl) ?_
      intro v4 hC9 onl4
      have S4 : (FB v4 bf 24 9 ts ps ∧ Below w.heap.size w v4) := ⟨S3.1.only (by omega) onl4, onl4.bel (by omega) S3.2⟩
      refine ⟨S4, ?_⟩
      have hC8 := hC8.only (by omega) onl4
      refine h_done (by kernel_rfl) ?_
      go_wp2_with fail
      go_meet
      exact ⟨b8, b9, rfl, rfl, by omega, by omega, by omega, hC8, hC9, S4.1, S4.2⟩
    · refine wp_flt_alloc flt rfl (fun b => by go_simp <;> rfl) ?_
      intro v1 b9 hb9 hB9 bel
      have S1 : (FB v1 bf 24 9 ts ps ∧ Below w.heap.size w v1) := ⟨S0.1.next bel, bel_next S0.2 bel⟩
      refine ⟨S1, ?_⟩
      have of9 : bf < b9 := Nat.lt_of_lt_of_le S0.1.lt hb9
      refine h_one 2 (by kernel_rfl) rfl rfl rfl ?_
      refine wp_flt_alloc flt rfl (fun b => by go_simp <;> rfl) ?_
      intro v2 b8 hb8 hB8 bel
      have S2 : (FB v2 bf 24 9 ts ps ∧ Below w.heap.size w v2) := ⟨S1.1.next bel, bel_next S1.2 bel⟩
      refine ⟨S2, ?_⟩
      have of8 : bf < b8 := Nat.lt_of_lt_of_le S1.1.lt hb8
      have oo : b9 < b8 := Nat.lt_of_lt_of_le hB9.lt hb8
      have hB9 := hB9.next bel
      refine h_one 4 (by kernel_rfl) rfl rfl rfl ?_
      refine wp_flt_store flt _ _ rfl rfl rfl hB8 hF (by go_simp <;> rfl) ?_
      intro v3 hC8 onl3
      have S3 : (FB v3 bf 24 9 ts ps ∧ Below w.heap.size w v3) := ⟨S2.1.only (by omega) onl3, onl3.bel (by omega) S2.2⟩
      refine ⟨S3, ?_⟩
      have hB9 := hB9.only (by omega) onl3
      refine h_one 5 (by kernel_rfl) rfl rfl rfl ?_
      refine wp_flt_store flt _ _ rfl rfl rfl hB9 hF (by go_simp <;> rfl) ?_
      intro v4 hC9 onl4
      have S4 : (FB v4 bf 24 9 ts ps ∧ Below w.heap.size w v4) := ⟨S3.1.only (by omega) onl4, onl4.bel (by omega) S3.2⟩
      refine ⟨S4, ?_⟩
      have hC8 := hC8.only (by omega) onl4
      refine h_done (by kernel_rfl) ?_
      go_wp2_with fail
      go_meet
      exact ⟨b8, b9, rfl, rfl, by omega, by omega, by omega, hC8, hC9, S4.1, S4.2⟩
  case rest =>
    obtain ⟨b8, b9, rfl, rfl, n89, o8, o9, h8, h9, h10, h11⟩ := hcut
    have X8 := Lib.hid h8
    have X9 := Lib.hid h9
    have BB := Lib.hid h11
    have o8 : w.heap.size ≤ b8 := by omega
    have o9 : w.heap.size ≤ b9 := by omega
    clear h8 h9 h10 h11
    obtain ⟨wq, rfl⟩ : ∃ wq, wq = wc := ⟨_, rfl⟩
    go_wp2_with (first
      | (with_reducible refine arr_bld0 (o := ⟨some 42, _, _, _, _, _⟩) flt rfl rfl ?_)
      | (with_reducible refine arr_bld0 (o := ⟨some 43, _, _, _, _, _⟩) flt rfl rfl ?_)
      | ((with_reducible refine flt_storeT flt rfl (.tmp 44) (.tmp 42) rfl rfl rfl X8.out z16_len ?_); intro w21 hB21 onl21; have X9 := Lib.hid (X9.out.only (by omega) onl21); have BB := Lib.hid (onl21.bel o8 BB.out); have X8 := Lib.hid hB21; clear onl21 hB21)
      | ((with_reducible refine flt_storeP flt rfl (.tmp 45) (.tmp 43) rfl rfl rfl X9.out z16_len ?_); intro w22 hB22 onl22; have X8 := Lib.hid (X8.out.only (by omega) onl22); have BB := Lib.hid (onl22.bel o9 BB.out); have X9 := Lib.hid hB22; clear onl22 hB22)
      | (with_reducible refine flt_load (o := ⟨some 47, _, _, _, _, _⟩) flt rfl _ rfl rfl X8.out ?_))
    refine (CA.out _).mono ?_
    rintro e w23 ⟨rfl, bel23⟩
    have X8 := Lib.hid (X8.out.next bel23)
    have X9 := Lib.hid (X9.out.next bel23)
    have BB := Lib.hid (bel_next BB.out bel23)
    clear bel23
    go_wp2_with (first
      | (with_reducible refine flt_load (o := ⟨some 52, _, _, _, _, _⟩) flt rfl _ rfl rfl X9.out ?_))
    refine (CB.out _).mono ?_
    rintro e w24 ⟨rfl, bel24⟩
    have X8 := Lib.hid (X8.out.next bel24)
    have X9 := Lib.hid (X9.out.next bel24)
    have BB := Lib.hid (bel_next BB.out bel24)
    clear bel24
    go_wp2_with fail
    go_ret
    exact ⟨rfl, BB.out⟩
theorem lin_10 (ts ps : List Int) : 0 ≤ wrap32 (wrap32 (sumF ts ps + 512) - wrap32 (gsV 10 ts ps * 1024)) ∧ wrap32 (wrap32 (sumF ts ps + 512) - wrap32 (gsV 10 ts ps * 1024)) < 1024 := by
  have e : gsV 10 ts ps = wrap32 (sumF ts ps + 512) / 1024 := by unfold gsV sumF; rw [wrap32_add_l, Int.add_comm]; rfl
  rw [e]
  have b := wrap32_bd (sumF ts ps + 512)
  generalize wrap32 (sumF ts ps + 512) = z at *
  rw [IntWalk.wrap32_in (z / 1024 * 1024) (by omega), IntWalk.wrap32_in _ (by omega)]
  omega
set_option maxRecDepth 100000 in
set_option maxHeartbeats 2000000 in
theorem linear_10 (ts ps : List Int) (w : World) (hF : F16 ts ps) (ht : I32 ts) (hp : I32 ps) :
    Calls Try.prog 6 #[.agg (fA 10 ts ps)] w fun e w' => e = .returned (.bool true) ∧ Below w.heap.size w w' := by
  have sh := 10
  have BB := Lib.hid (bel_self w)
  have CK := Lib.hid (fun W => recheck_any 10 ts ps W hF)
  rw [show ckF 10 = 0 from rfl] at CK
  have CG := Lib.hid (fun W => tguess_10 ts ps W hF ht hp)
  have CS := Lib.hid (fun W => resum_any 10 ts ps W hF ht hp)
  have hG : F16 z16 ps := f16 rfl hF.2
  have hH : F16 ts z16 := f16 hF.1 rfl
  have HG := Lib.hid hG
  have HH := Lib.hid hH
  have CA := Lib.hid (fun W => tguess_10 z16 ps W hG z16_i32 hp)
  rw [show gsV 10 z16 ps = 0 by unfold gsV; rw [dot_flat ps 16 (Nat.le_refl _)]; decide +kernel] at CA
  have CB := Lib.hid (fun W => tguess_10 ts z16 W hH ht z16_i32)
  rw [show gsV 10 ts z16 = 0 by unfold gsV; rw [dot_still ts 16 (Nat.le_refl _)]; decide +kernel] at CB
  have L := lin_10 ts ps
  have b0 := gsV_bd 10 ts ps
  have b1 := wrap32_bd (dotTo ts ps 16)
  rw [show wrap32 (dotTo ts ps 16) = sumF ts ps from rfl] at b1
  generalize gsV 10 ts ps = g at *
  generalize sumF ts ps = s at *
  have d1 : decide (0 ≤ wrap32 (wrap32 (s + 512) - wrap32 (g * 1024))) = true := by simp [L.1]
  have d2 : decide (wrap32 (wrap32 (s + 512) - wrap32 (g * 1024)) < 1024) = true := by simp [L.2]
  clear ht hp L hG hH
  go_enter Try.func6, Try.ntmps6
  go_wp2_with (first
    | ((with_reducible refine flt_box (o := ⟨some 1, _, _, _, _, _⟩) flt rfl _ rfl rfl hF ?_); intro w1 bf hbf hBf bel1; have of := Nat.le_trans BB.out.size hbf; have BB := Lib.hid (bel_next BB.out bel1); have Xf := Lib.hid hBf; clear bel1 hBf hbf))
  refine (alive_any _).mono ?_
  rintro e w2 ⟨rfl, bel2⟩
  have Xf := Lib.hid (Xf.out.next bel2)
  have BB := Lib.hid (bel_next BB.out bel2)
  clear bel2
  go_wp2_with (first
    | (with_reducible refine flt_load (o := ⟨some 15, _, _, _, _, _⟩) flt rfl _ rfl rfl Xf.out ?_))
  refine (CK.out _).mono ?_
  rintro e w3 ⟨rfl, bel3⟩
  have Xf := Lib.hid (Xf.out.next bel3)
  have BB := Lib.hid (bel_next BB.out bel3)
  clear bel3
  go_wp2_with (first
    | (with_reducible refine flt_load (o := ⟨some 24, _, _, _, _, _⟩) flt rfl _ rfl rfl Xf.out ?_))
  refine (CG.out _).mono ?_
  rintro e w4 ⟨rfl, bel4⟩
  have Xf := Lib.hid (Xf.out.next bel4)
  have BB := Lib.hid (bel_next BB.out bel4)
  clear bel4
  have c0 := Xf.out.c0
  go_wp2_with (first
    | (with_reducible refine flt_load (o := ⟨some 31, _, _, _, _, _⟩) flt rfl _ rfl rfl Xf.out ?_))
  refine (CS.out _).mono ?_
  rintro e w5 ⟨rfl, bel5⟩
  have Xf := Lib.hid (Xf.out.next bel5)
  have BB := Lib.hid (bel_next BB.out bel5)
  clear bel5
  clear c0
  go_upto_region 7 with fail
  go_cut [8, 9] (fun s8 s9 wx => ∃ b8 b9, s8 = .pointer (some ⟨b8, 0, none⟩) ∧ s9 = .pointer (some ⟨b9, 0, none⟩) ∧ b8 ≠ b9 ∧ bf < b8 ∧ bf < b9 ∧ FB wx b8 24 10 ts ps ∧ FB wx b9 24 10 ts ps ∧ FB wx bf 24 10 ts ps ∧ Below w.heap.size w wx)
  case first =>
    refine h_begin (S := fun W => (FB W bf 24 10 ts ps ∧ Below w.heap.size w W)) (by kernel_rfl) rfl ?_
    have S0 : (FB { w5 with drawn := w5.drawn + 1 } bf 24 10 ts ps ∧ Below w.heap.size w { w5 with drawn := w5.drawn + 1 }) := ⟨Xf.out, BB.out.drew⟩
    generalize ({ w5 with drawn := w5.drawn + 1 } : World) = wd at *
    refine h_take 0 rfl (by kernel_rfl) (by kernel_rfl) (by kernel_rfl) (fun _ _ _ h => h) (y_load flt rfl _ rfl rfl (fun W hW => hW.1)) S0 rfl (by go_simp <;> rfl) ?_
    refine h_take 1 rfl (by kernel_rfl) (by kernel_rfl) (by kernel_rfl) (fun _ _ _ h => h) (y_load flt rfl _ rfl rfl (fun W hW => hW.1)) S0 rfl (by go_simp <;> rfl) ?_
    refine h_two 2 3 (by kernel_rfl) rfl rfl rfl rfl rfl rfl ?_ ?_
    · refine wp_flt_alloc flt rfl (fun b => by go_simp <;> rfl) ?_
      intro v1 b8 hb8 hB8 bel
      have S1 : (FB v1 bf 24 10 ts ps ∧ Below w.heap.size w v1) := ⟨S0.1.next bel, bel_next S0.2 bel⟩
      refine ⟨S1, ?_⟩
      have of8 : bf < b8 := Nat.lt_of_lt_of_le S0.1.lt hb8
      refine h_one 3 (by kernel_rfl) rfl rfl rfl ?_
      refine wp_flt_alloc flt rfl (fun b => by go_simp <;> rfl) ?_
      intro v2 b9 hb9 hB9 bel
      have S2 : (FB v2 bf 24 10 ts ps ∧ Below w.heap.size w v2) := ⟨S1.1.next bel, bel_next S1.2 bel⟩
      refine ⟨S2, ?_⟩
      have of9 : bf < b9 := Nat.lt_of_lt_of_le S1.1.lt hb9
      have oo : b8 < b9 := Nat.lt_of_lt_of_le hB8.lt hb9
      have hB8 := hB8.next bel
      refine h_one 4 (by kernel_rfl) rfl rfl rfl ?_
      refine wp_flt_store flt _ _ rfl rfl rfl hB8 hF (by go_simp <;> rfl) ?_
      intro v3 hC8 onl3
      have S3 : (FB v3 bf 24 10 ts ps ∧ Below w.heap.size w v3) := ⟨S2.1.only (by omega) onl3, onl3.bel (by omega) S2.2⟩
      refine ⟨S3, ?_⟩
      have hB9 := hB9.only (by omega) onl3
      refine h_one 5 (by kernel_rfl) rfl rfl rfl ?_
      refine wp_flt_store flt _ _ rfl rfl rfl hB9 hF (by go_simp <;> rfl) ?_
      intro v4 hC9 onl4
      have S4 : (FB v4 bf 24 10 ts ps ∧ Below w.heap.size w v4) := ⟨S3.1.only (by omega) onl4, onl4.bel (by omega) S3.2⟩
      refine ⟨S4, ?_⟩
      have hC8 := hC8.only (by omega) onl4
      refine h_done (by kernel_rfl) ?_
      go_wp2_with fail
      go_meet
      exact ⟨b8, b9, rfl, rfl, by omega, by omega, by omega, hC8, hC9, S4.1, S4.2⟩
    · refine wp_flt_alloc flt rfl (fun b => by go_simp <;> rfl) ?_
      intro v1 b9 hb9 hB9 bel
      have S1 : (FB v1 bf 24 10 ts ps ∧ Below w.heap.size w v1) := ⟨S0.1.next bel, bel_next S0.2 bel⟩
      refine ⟨S1, ?_⟩
      have of9 : bf < b9 := Nat.lt_of_lt_of_le S0.1.lt hb9
      refine h_one 2 (by kernel_rfl) rfl rfl rfl ?_
      refine wp_flt_alloc flt rfl (fun b => by go_simp <;> rfl) ?_
      intro v2 b8 hb8 hB8 bel
      have S2 : (FB v2 bf 24 10 ts ps ∧ Below w.heap.size w v2) := ⟨S1.1.next bel, bel_next S1.2 bel⟩
      refine ⟨S2, ?_⟩
      have of8 : bf < b8 := Nat.lt_of_lt_of_le S1.1.lt hb8
      have oo : b9 < b8 := Nat.lt_of_lt_of_le hB9.lt hb8
      have hB9 := hB9.next bel
      refine h_one 4 (by kernel_rfl) rfl rfl rfl ?_
      refine wp_flt_store flt _ _ rfl rfl rfl hB8 hF (by go_simp <;> rfl) ?_
      intro v3 hC8 onl3
      have S3 : (FB v3 bf 24 10 ts ps ∧ Below w.heap.size w v3) := ⟨S2.1.only (by omega) onl3, onl3.bel (by omega) S2.2⟩
      refine ⟨S3, ?_⟩
      have hB9 := hB9.only (by omega) onl3
      refine h_one 5 (by kernel_rfl) rfl rfl rfl ?_
      refine wp_flt_store flt _ _ rfl rfl rfl hB9 hF (by go_simp <;> rfl) ?_
      intro v4 hC9 onl4
      have S4 : (FB v4 bf 24 10 ts ps ∧ Below w.heap.size w v4) := ⟨S3.1.only (by omega) onl4, onl4.bel (by omega) S3.2⟩
      refine ⟨S4, ?_⟩
      have hC8 := hC8.only (by omega) onl4
      refine h_done (by kernel_rfl) ?_
      go_wp2_with fail
      go_meet
      exact ⟨b8, b9, rfl, rfl, by omega, by omega, by omega, hC8, hC9, S4.1, S4.2⟩
  case rest =>
    obtain ⟨b8, b9, rfl, rfl, n89, o8, o9, h8, h9, h10, h11⟩ := hcut
    have X8 := Lib.hid h8
    have X9 := Lib.hid h9
    have BB := Lib.hid h11
    have o8 : w.heap.size ≤ b8 := by omega
    have o9 : w.heap.size ≤ b9 := by omega
    clear h8 h9 h10 h11
    obtain ⟨wq, rfl⟩ : ∃ wq, wq = wc := ⟨_, rfl⟩
    go_wp2_with (first
      | (with_reducible refine arr_bld0 (o := ⟨some 42, _, _, _, _, _⟩) flt rfl rfl ?_)
      | (with_reducible refine arr_bld0 (o := ⟨some 43, _, _, _, _, _⟩) flt rfl rfl ?_)
      | ((with_reducible refine flt_storeT flt rfl (.tmp 44) (.tmp 42) rfl rfl rfl X8.out z16_len ?_); intro w21 hB21 onl21; have X9 := Lib.hid (X9.out.only (by omega) onl21); have BB := Lib.hid (onl21.bel o8 BB.out); have X8 := Lib.hid hB21; clear onl21 hB21)
      | ((with_reducible refine flt_storeP flt rfl (.tmp 45) (.tmp 43) rfl rfl rfl X9.out z16_len ?_); intro w22 hB22 onl22; have X8 := Lib.hid (X8.out.only (by omega) onl22); have BB := Lib.hid (onl22.bel o9 BB.out); have X9 := Lib.hid hB22; clear onl22 hB22)
      | (with_reducible refine flt_load (o := ⟨some 47, _, _, _, _, _⟩) flt rfl _ rfl rfl X8.out ?_))
    refine (CA.out _).mono ?_
    rintro e w23 ⟨rfl, bel23⟩
    have X8 := Lib.hid (X8.out.next bel23)
    have X9 := Lib.hid (X9.out.next bel23)
    have BB := Lib.hid (bel_next BB.out bel23)
    clear bel23
    go_wp2_with (first
      | (with_reducible refine flt_load (o := ⟨some 52, _, _, _, _, _⟩) flt rfl _ rfl rfl X9.out ?_))
    refine (CB.out _).mono ?_
    rintro e w24 ⟨rfl, bel24⟩
    have X8 := Lib.hid (X8.out.next bel24)
    have X9 := Lib.hid (X9.out.next bel24)
    have BB := Lib.hid (bel_next BB.out bel24)
    clear bel24
    go_wp2_with fail
    go_ret
    exact ⟨rfl, BB.out⟩
theorem tapsLinear_walk (sh : Int) (ts ps : List Int) (w : World) (hF : F16 ts ps) (ht : I32 ts) (hp : I32 ps) (hb0 : -9223372036854775808 ≤ sh) (hb1 : sh ≤ 9223372036854775807) :
    Calls Try.prog 6 #[.agg (fA sh ts ps)] w fun e w' => e = .returned (.bool true) ∧ Below w.heap.size w w' := by
  by_cases h : ckF sh = 0
  · rcases ckF_cases h with rfl | rfl
    · exact linear_9 ts ps w hF ht hp
    · exact linear_10 ts ps w hF ht hp
  · exact linear_bad sh ts ps w hF h
end Go.Proofs.Ytnhdhjcpbonfjaa

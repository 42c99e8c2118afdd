/-
  What the functions of the reference of layer 14 compute. Conditions: numbers within their types.
-/
import Derived.Test.YtnhdhjcpbonfjaaTapsLearn
namespace Go.Proofs.Ytnhdhjcpbonfjaa
open Go.RowKit
set_option linter.unusedVariables false

theorem wrap_three (x : Int) : wrap32 (IntKind.u64.wrap x % 4294967296) = wrap32 x := by
  rw [IntKind.wrap_u64]; unfold wrap32; omega
set_option maxHeartbeats 400000 in
theorem wrapR_any (x : Int) (w : World) (h0 : -9223372036854775808 ≤ x) (h1 : x ≤ 9223372036854775807) :
    Calls Try.prog 27 #[.int .i64 x] w fun e w' => e = .returned (.int .i32 (wrap32 x)) ∧ w = w' := by
  have H := Lib.hid (wrap_three x)
  go_enter Try.func27, Try.ntmps27
  go_wp2_with fail
  go_ret
  exact ⟨ret_int H.out, rfl⟩

set_option maxHeartbeats 400000 in
theorem recheck_any (sh : Int) (ts ps : List Int) (w : World) (hF : F16 ts ps) :
    Calls Try.prog 18 #[.agg (fA sh ts ps)] w fun e w' => e = .returned (.int .i64 (ckF sh)) ∧ Below w.heap.size w w' := by
  have BB := Lib.hid (bel_self w)
  by_cases h9 : sh = 9
  · subst h9
    go_enter Try.func18, Try.ntmps18
    go_wp2_with ((with_reducible refine blk_box rfl 24 _ rfl _ rfl ?_); intro w1 b hb hB bel; have c0 := (hB.cell 0).trans (fA_0 _ _ _); have BB := Lib.hid bel; clear bel hB)
    go_ret
    exact ⟨rfl, BB.out⟩
  · have q9 : (sh == 9) = false := by simp [h9]
    by_cases h10 : sh = 10
    · subst h10
      go_enter Try.func18, Try.ntmps18
      go_wp2_with ((with_reducible refine blk_box rfl 24 _ rfl _ rfl ?_); intro w1 b hb hB bel; have c0 := (hB.cell 0).trans (fA_0 _ _ _); have BB := Lib.hid bel; clear bel hB)
      go_ret
      exact ⟨rfl, BB.out⟩
    · have q10 : (sh == 10) = false := by simp [h10]
      have E := Lib.hid (show ckF sh = 8 from if_neg (by omega))
      clear h9 h10
      go_enter Try.func18, Try.ntmps18
      go_wp2_with ((with_reducible refine blk_box rfl 24 _ rfl _ rfl ?_); intro w1 b hb hB bel; have c0 := (hB.cell 0).trans (fA_0 _ _ _); have BB := Lib.hid bel; clear bel hB)
      go_ret
      exact ⟨ret_int E.out.symm, BB.out⟩

theorem wrapR_same (x : Int) (w : World) (h0 : -9223372036854775808 ≤ x) (h1 : x ≤ 9223372036854775807) :
    Calls Try.prog 27 #[.int .i64 x] w fun e w' => e = .returned (.int .i32 (wrap32 x)) ∧ w' = w :=
  (wrapR_any x w h0 h1).mono fun _ _ h => ⟨h.1, h.2.symm⟩
theorem mul_bd {t p : Int} (h1 : -2147483648 ≤ t ∧ t ≤ 2147483647) (h2 : -2147483648 ≤ p ∧ p ≤ 2147483647) : -4611686018427387904 ≤ t * p ∧ t * p ≤ 4611686018427387904 := by
  have a : (t * p).natAbs ≤ 2147483648 * 2147483648 := by rw [Int.natAbs_mul]; exact Nat.mul_le_mul (by omega) (by omega)
  omega

set_option maxHeartbeats 1000000 in
theorem resum_any (sh : Int) (ts ps : List Int) (w : World) (hF : F16 ts ps) (ht : I32 ts) (hp : I32 ps) :
    Calls Try.prog 20 #[.agg (fA sh ts ps)] w fun e w' => e = .returned (.int .i32 (sumF ts ps)) ∧ Below w.heap.size w w' := by
  have BB := Lib.hid (bel_self w)
  have HT := Lib.hid ht
  have HP := Lib.hid hp
  clear ht hp
  go_enter Try.func20, Try.ntmps20
  go_wp2_with (first
    | ((with_reducible refine flt_box (o := ⟨some 1, _, _, _, _, _⟩) flt rfl _ rfl rfl hF ?_); intro w1 bf hbf hBf bel1; have of := Nat.le_trans BB.out.size hbf; have BB := Lib.hid (bel_next BB.out bel1); have Xf := Lib.hid hBf; clear bel1 hBf hbf))
  go_loopw [3, 4] (fun s i wr => ∃ k : Nat, k ≤ 16 ∧ i = .int .i64 k ∧ s = .int .i64 (wrap32 (dotTo ts ps k)) ∧ FB wr bf 24 sh ts ps ∧ Below w.heap.size w wr) (fun _ i _ => 16 - (intOf i).toNat)
  case atStart => exact ⟨0, by omega, rfl, by simp [dotTo, wrap32], Xf.out, BB.out⟩
  case round =>
    obtain ⟨k, hk, rfl, rfl, hf, hb⟩ := hrel
    by_cases hlt : k < 16
    · have ct := hf.ct hlt
      have cp := hf.cp hlt
      have b1 := getD_i32 HT.out k
      have b2 := getD_i32 HP.out k
      have HD := Lib.hid (show dotTo ts ps (k + 1) = dotTo ts ps k + ts.getD k 0 * ps.getD k 0 from rfl)
      have HF := Lib.hid hf
      have HB := Lib.hid hb
      generalize ts.getD k 0 = t at *
      generalize ps.getD k 0 = p at *
      have b3 := mul_bd b1 b2
      have b4 := wrap32_bd (dotTo ts ps k)
      have b5 := wrap32_bd (t * p)
      have HS := Lib.hid (show wrap32 (wrap32 (dotTo ts ps k) + wrap32 (t * p)) = wrap32 (dotTo ts ps (k + 1)) by rw [HD.out, wrap32_add_r, wrap32_add_l])
      generalize wrap32 (dotTo ts ps k) = z at *
      have hkz : (k : Int) < 16 := by omega
      have e1 : IntKind.i64.wrap t = t := IntWalk.i64_in _ (by omega)
      have e2 : IntKind.i64.wrap p = p := IntWalk.i64_in _ (by omega)
      have e3 : IntKind.i64.wrap (t * p) = t * p := IntWalk.i64_in _ (by omega)
      have e4 : IntKind.i64.wrap (wrap32 (t * p)) = wrap32 (t * p) := IntWalk.i64_in _ (by omega)
      have e5 : IntKind.i64.wrap (z + wrap32 (t * p)) = z + wrap32 (t * p) := IntWalk.i64_in _ (by omega)
      have W1 := Lib.hid (fun W => wrapR_same (t * p) W (by omega) (by omega))
      have W2 := Lib.hid (fun W => wrapR_same (z + wrap32 (t * p)) W (by omega) (by omega))
      clear hf hb
      go_wp2_with fail
      go_quiet ((first | exact Calls.quiet_of_same (W1.out _) | exact Calls.quiet_of_same (W2.out _)))
      have XF := HF.out.drewN nq
      have XB := below_drewN HB.out nq
      go_wp2_with fail
      go_roundw
      case rel => exact ⟨k + 1, by omega, by go_num, by rw [HS.out, IntWalk.wrap64_in _ (by have := wrap32_bd (dotTo ts ps (k + 1)); omega)], XF, XB⟩
      case measure => simp [intOf]; omega
    · obtain rfl : k = 16 := by omega
      have E := Lib.hid (wrap32_wrap (dotTo ts ps 16))
      have b4 := wrap32_bd (dotTo ts ps 16)
      generalize hz : wrap32 (dotTo ts ps 16) = z at *
      have HZ := Lib.hid (show sumF ts ps = z from hz)
      clear hz
      go_wp2_with fail
      go_ret
      exact ⟨ret_int (by rw [HZ.out]; try exact E.out), hb⟩

set_option maxHeartbeats 1000000 in
theorem told_9 (ts ps : List Int) (w : World) (hF : F16 ts ps) (ht : I32 ts) (hp : I32 ps) :
    Calls Try.prog 22 #[.agg (fA 9 ts ps)] w fun e w' => e = .returned (.int .i32 (gsV 9 ts ps)) ∧ Below w.heap.size w w' := by
  have BB := Lib.hid (bel_self w)
  have CS := Lib.hid (fun W => resum_any 9 ts ps W hF ht hp)
  have E := Lib.hid (show gsV 9 ts ps = wrap32 (sumF ts ps + 256) / 512 by unfold gsV sumF; rw [wrap32_add_l, Int.add_comm]; rfl)
  have b0 := wrap32_bd (dotTo ts ps 16)
  rw [show wrap32 (dotTo ts ps 16) = sumF ts ps from rfl] at b0
  generalize sumF ts ps = s at *
  have CW := Lib.hid (fun W => wrapR_any (s + 256) W (by omega) (by omega))
  have b1 := wrap32_bd (s + 256)
  generalize wrap32 (s + 256) = x at *
  obtain ⟨t1, t2⟩ := told9 b1
  have b2 := wrap32_bd x
  by_cases hn : x.tmod 512 < 0
  · have T := Lib.hid (t1 hn)
    have q1 : decide (x.tmod 512 < 0) = true := by simp [hn]
    have b3 : -3000000000 ≤ x.tdiv 512 ∧ x.tdiv 512 ≤ 3000000000 := by have := t1 hn; omega
    clear ht hp t1 t2
    go_enter Try.func22, Try.ntmps22
    go_wp2_with (first
      | ((with_reducible refine flt_box (o := ⟨some 1, _, _, _, _, _⟩) flt rfl _ rfl rfl hF ?_); intro w1 bf hbf hBf bel1; have of := Nat.le_trans BB.out.size hbf; have BB := Lib.hid (bel_next BB.out bel1); have Xf := Lib.hid hBf; have c0 := Xf.out.c0; clear bel1 hBf hbf)
      | (with_reducible refine flt_load (o := ⟨some 9, _, _, _, _, _⟩) flt rfl _ rfl rfl Xf.out ?_))
    refine (CS.out _).mono ?_
    rintro e w2 ⟨rfl, bel2⟩
    have Xf := Lib.hid (Xf.out.next bel2)
    have BB := Lib.hid (bel_next BB.out bel2)
    clear bel2
    go_wp2_with fail
    refine (CW.out _).mono ?_
    rintro e w' ⟨rfl, rfl⟩
    go_wp2_with fail
    go_ret
    exact ⟨ret_int (by rw [T.out, E.out]; exact IntWalk.wrap32_in _ (by omega)), BB.out⟩
  · have T := Lib.hid (t2 hn)
    have q1 : decide (x.tmod 512 < 0) = false := by simpa using hn
    have b3 : -3000000000 ≤ x.tdiv 512 ∧ x.tdiv 512 ≤ 3000000000 := by have := t2 hn; omega
    clear ht hp t1 t2
    go_enter Try.func22, Try.ntmps22
    go_wp2_with (first
      | ((with_reducible refine flt_box (o := ⟨some 1, _, _, _, _, _⟩) flt rfl _ rfl rfl hF ?_); intro w1 bf hbf hBf bel1; have of := Nat.le_trans BB.out.size hbf; have BB := Lib.hid (bel_next BB.out bel1); have Xf := Lib.hid hBf; have c0 := Xf.out.c0; clear bel1 hBf hbf)
      | (with_reducible refine flt_load (o := ⟨some 9, _, _, _, _, _⟩) flt rfl _ rfl rfl Xf.out ?_))
    refine (CS.out _).mono ?_
    rintro e w2 ⟨rfl, bel2⟩
    have Xf := Lib.hid (Xf.out.next bel2)
    have BB := Lib.hid (bel_next BB.out bel2)
    clear bel2
    go_wp2_with fail
    refine (CW.out _).mono ?_
    rintro e w' ⟨rfl, rfl⟩
    go_wp2_with fail
    go_ret
    exact ⟨ret_int (by rw [T.out, E.out]; exact IntWalk.wrap32_in _ (by omega)), BB.out⟩
set_option maxHeartbeats 1000000 in
theorem told_10 (ts ps : List Int) (w : World) (hF : F16 ts ps) (ht : I32 ts) (hp : I32 ps) :
    Calls Try.prog 22 #[.agg (fA 10 ts ps)] w fun e w' => e = .returned (.int .i32 (gsV 10 ts ps)) ∧ Below w.heap.size w w' := by
  have BB := Lib.hid (bel_self w)
  have CS := Lib.hid (fun W => resum_any 10 ts ps W hF ht hp)
  have E := Lib.hid (show gsV 10 ts ps = wrap32 (sumF ts ps + 512) / 1024 by unfold gsV sumF; rw [wrap32_add_l, Int.add_comm]; rfl)
  have b0 := wrap32_bd (dotTo ts ps 16)
  rw [show wrap32 (dotTo ts ps 16) = sumF ts ps from rfl] at b0
  generalize sumF ts ps = s at *
  have CW := Lib.hid (fun W => wrapR_any (s + 512) W (by omega) (by omega))
  have b1 := wrap32_bd (s + 512)
  generalize wrap32 (s + 512) = x at *
  obtain ⟨t1, t2⟩ := told10 b1
  have b2 := wrap32_bd x
  by_cases hn : x.tmod 1024 < 0
  · have T := Lib.hid (t1 hn)
    have q1 : decide (x.tmod 1024 < 0) = true := by simp [hn]
    have b3 : -3000000000 ≤ x.tdiv 1024 ∧ x.tdiv 1024 ≤ 3000000000 := by have := t1 hn; omega
    clear ht hp t1 t2
    go_enter Try.func22, Try.ntmps22
    go_wp2_with (first
      | ((with_reducible refine flt_box (o := ⟨some 1, _, _, _, _, _⟩) flt rfl _ rfl rfl hF ?_); intro w1 bf hbf hBf bel1; have of := Nat.le_trans BB.out.size hbf; have BB := Lib.hid (bel_next BB.out bel1); have Xf := Lib.hid hBf; have c0 := Xf.out.c0; clear bel1 hBf hbf)
      | (with_reducible refine flt_load (o := ⟨some 9, _, _, _, _, _⟩) flt rfl _ rfl rfl Xf.out ?_))
    refine (CS.out _).mono ?_
    rintro e w2 ⟨rfl, bel2⟩
    have Xf := Lib.hid (Xf.out.next bel2)
    have BB := Lib.hid (bel_next BB.out bel2)
    clear bel2
    go_wp2_with fail
    refine (CW.out _).mono ?_
    rintro e w' ⟨rfl, rfl⟩
    go_wp2_with fail
    go_ret
    exact ⟨ret_int (by rw [T.out, E.out]; exact IntWalk.wrap32_in _ (by omega)), BB.out⟩
  · have T := Lib.hid (t2 hn)
    have q1 : decide (x.tmod 1024 < 0) = false := by simpa using hn
    have b3 : -3000000000 ≤ x.tdiv 1024 ∧ x.tdiv 1024 ≤ 3000000000 := by have := t2 hn; omega
    clear ht hp t1 t2
    go_enter Try.func22, Try.ntmps22
    go_wp2_with (first
      | ((with_reducible refine flt_box (o := ⟨some 1, _, _, _, _, _⟩) flt rfl _ rfl rfl hF ?_); intro w1 bf hbf hBf bel1; have of := Nat.le_trans BB.out.size hbf; have BB := Lib.hid (bel_next BB.out bel1); have Xf := Lib.hid hBf; have c0 := Xf.out.c0; clear bel1 hBf hbf)
      | (with_reducible refine flt_load (o := ⟨some 9, _, _, _, _, _⟩) flt rfl _ rfl rfl Xf.out ?_))
    refine (CS.out _).mono ?_
    rintro e w2 ⟨rfl, bel2⟩
    have Xf := Lib.hid (Xf.out.next bel2)
    have BB := Lib.hid (bel_next BB.out bel2)
    clear bel2
    go_wp2_with fail
    refine (CW.out _).mono ?_
    rintro e w' ⟨rfl, rfl⟩
    go_wp2_with fail
    go_ret
    exact ⟨ret_int (by rw [T.out, E.out]; exact IntWalk.wrap32_in _ (by omega)), BB.out⟩

set_option maxHeartbeats 1000000 in
theorem reguess_bad (sh : Int) (ts ps : List Int) (w : World) (hF : F16 ts ps) (h : ckF sh ≠ 0) :
    Calls Try.prog 12 #[.agg (fA sh ts ps)] w fun e w' => e = .returned (.tuple #[.int .i32 0, .int .i64 (ckF sh)]) ∧ Below w.heap.size w w' := by
  have BB := Lib.hid (bel_self w)
  have CK := Lib.hid (fun W => recheck_any sh ts ps W hF)
  have hq : (ckF sh != 0) = true := by simp [h]
  generalize ckF sh = ce at *
  clear h
  go_enter Try.func12, Try.ntmps12
  go_wp2_with (first
    | ((with_reducible refine flt_box (o := ⟨some 1, _, _, _, _, _⟩) flt rfl _ rfl rfl hF ?_); intro w1 bf hbf hBf bel1; have of := Nat.le_trans BB.out.size hbf; have BB := Lib.hid (bel_next BB.out bel1); have Xf := Lib.hid hBf; clear bel1 hBf hbf)
    | (with_reducible refine flt_load (o := ⟨some 4, _, _, _, _, _⟩) flt rfl _ rfl rfl Xf.out ?_))
  refine (CK.out _).mono ?_
  rintro e w2 ⟨rfl, bel2⟩
  have Xf := Lib.hid (Xf.out.next bel2)
  have BB := Lib.hid (bel_next BB.out bel2)
  clear bel2
  go_wp2_with (first
    | (with_reducible refine flt_load (o := ⟨some 7, _, _, _, _, _⟩) flt rfl _ rfl rfl Xf.out ?_))
  refine (CK.out _).mono ?_
  rintro e w3 ⟨rfl, bel3⟩
  have Xf := Lib.hid (Xf.out.next bel3)
  have BB := Lib.hid (bel_next BB.out bel3)
  clear bel3
  go_wp2_with fail
  go_ret2
  exact ⟨rfl, BB.out⟩
set_option maxHeartbeats 1000000 in
theorem reguess_ok (sh : Int) (ts ps : List Int) (w : World) (hF : F16 ts ps) (h : ckF sh = 0) (ht : I32 ts) (hp : I32 ps) :
    Calls Try.prog 12 #[.agg (fA sh ts ps)] w fun e w' => e = .returned (.tuple #[.int .i32 (gsV sh ts ps), .int .i64 0]) ∧ Below w.heap.size w w' := by
  have BB := Lib.hid (bel_self w)
  have CK := Lib.hid (fun W => recheck_any sh ts ps W hF)
  rw [h] at CK
  have CT := Lib.hid (fun W => show Calls Try.prog 22 #[.agg (fA sh ts ps)] W fun e w' => e = .returned (.int .i32 (gsV sh ts ps)) ∧ Below W.heap.size W w' by
    rcases ckF_cases h with rfl | rfl
    · exact told_9 ts ps W hF ht hp
    · exact told_10 ts ps W hF ht hp)
  clear h ht hp
  generalize gsV sh ts ps = g at *
  go_enter Try.func12, Try.ntmps12
  go_wp2_with (first
    | ((with_reducible refine flt_box (o := ⟨some 1, _, _, _, _, _⟩) flt rfl _ rfl rfl hF ?_); intro w1 bf hbf hBf bel1; have of := Nat.le_trans BB.out.size hbf; have BB := Lib.hid (bel_next BB.out bel1); have Xf := Lib.hid hBf; clear bel1 hBf hbf)
    | (with_reducible refine flt_load (o := ⟨some 4, _, _, _, _, _⟩) flt rfl _ rfl rfl Xf.out ?_))
  refine (CK.out _).mono ?_
  rintro e w2 ⟨rfl, bel2⟩
  have Xf := Lib.hid (Xf.out.next bel2)
  have BB := Lib.hid (bel_next BB.out bel2)
  clear bel2
  go_wp2_with (first
    | (with_reducible refine flt_load (o := ⟨some 9, _, _, _, _, _⟩) flt rfl _ rfl rfl Xf.out ?_))
  refine (CT.out _).mono ?_
  rintro e w3 ⟨rfl, bel3⟩
  have Xf := Lib.hid (Xf.out.next bel3)
  have BB := Lib.hid (bel_next BB.out bel3)
  clear bel3
  go_wp2_with fail
  go_ret2
  exact ⟨rfl, BB.out⟩
theorem reguess_any (sh : Int) (ts ps : List Int) (w : World) (hF : F16 ts ps) (ht : I32 ts) (hp : I32 ps) :
    Calls Try.prog 12 #[.agg (fA sh ts ps)] w fun e w' => e = .returned (.tuple #[.int .i32 (gsR sh ts ps), .int .i64 (ckF sh)]) ∧ Below w.heap.size w w' := by
  unfold gsR
  by_cases h : ckF sh = 0
  · rw [if_pos h]
    refine (reguess_ok sh ts ps w hF h ht hp).mono fun e w' hh => ?_
    rw [h]; exact hh
  · rw [if_neg h]
    exact reguess_bad sh ts ps w hF h

set_option maxHeartbeats 400000 in
theorem restep_any (k : Nat) (w : World) :
    Calls Try.prog 28 #[.int .i64 (k : Int)] w fun e w' => e = .returned (.int .i32 (stp k)) ∧ w' = w := by
  by_cases h0 : k = 0
  · subst h0
    go_enter Try.func28, Try.ntmps28
    go_wp2_with fail
    go_ret
    exact ⟨rfl, rfl⟩
  · have q0 : ((k : Int) == 0) = false := by simp [h0]
    by_cases h4 : k < 4
    · have E := Lib.hid (show stp k = 2 by unfold stp; rw [if_neg h0, if_pos h4])
      have q4 : decide ((k : Int) ≤ 3) = true := by simp; omega
      clear h0
      go_enter Try.func28, Try.ntmps28
      go_wp2_with fail
      go_ret
      exact ⟨ret_int E.out.symm, rfl⟩
    · have E := Lib.hid (show stp k = 1 by unfold stp; rw [if_neg h0, if_neg h4])
      have q4 : decide ((k : Int) ≤ 3) = false := by simp; omega
      clear h0
      go_enter Try.func28, Try.ntmps28
      go_wp2_with fail
      go_ret
      exact ⟨ret_int E.out.symm, rfl⟩
set_option maxHeartbeats 400000 in
theorem sign_any (x : Int) (w : World) :
    Calls Try.prog 29 #[.int .i32 x] w fun e w' => e = .returned (.int .i32 (sgn x)) ∧ w' = w := by
  by_cases h0 : x < 0
  · have E := Lib.hid (show sgn x = -1 from if_pos h0)
    go_enter Try.func29, Try.ntmps29
    go_wp2_with fail
    go_ret
    exact ⟨ret_int E.out.symm, rfl⟩
  · have q0 : decide (x < 0) = false := by simpa using h0
    by_cases h1 : 0 < x
    · have E := Lib.hid (show sgn x = 1 from (if_neg h0).trans (if_pos h1))
      go_enter Try.func29, Try.ntmps29
      go_wp2_with fail
      go_ret
      exact ⟨ret_int E.out.symm, rfl⟩
    · have E := Lib.hid (show sgn x = 0 from (if_neg h0).trans (if_neg h1))
      have q1 : decide (0 < x) = false := by simpa using h1
      go_enter Try.func29, Try.ntmps29
      go_wp2_with fail
      go_ret
      exact ⟨ret_int E.out.symm, rfl⟩

set_option maxHeartbeats 1000000 in
theorem learned_any (sh : Int) (ts ps : List Int) (x : Int) (w : World) (hF : F16 ts ps) :
    Calls Try.prog 24 #[.agg (fA sh ts ps), .int .i32 x] w fun e w' => e = .returned (.agg (fA sh (lrn ts ps x) ps)) ∧ Below w.heap.size w w' := by
  have BB := Lib.hid (bel_self w)
  go_enter Try.func24, Try.ntmps24
  go_wp2_with (first
    | ((with_reducible refine flt_box (o := ⟨some 2, _, _, _, _, _⟩) flt rfl _ rfl rfl hF ?_); intro w1 bf hbf hBf bel1; have of := Nat.le_trans BB.out.size hbf; have BB := Lib.hid (bel_next BB.out bel1); have Xf := Lib.hid hBf; clear bel1 hBf hbf)
    | ((with_reducible refine flt_alloc (o := ⟨some 4, _, _, _, _, _⟩) flt rfl rfl ?_); intro w2 br hbr hBr bel2; have q_f_r : bf < br := Nat.lt_of_lt_of_le Xf.out.lt hbr; have or := Nat.le_trans BB.out.size hbr; have Xf := Lib.hid (Xf.out.next bel2); have BB := Lib.hid (bel_next BB.out bel2); have Xr := Lib.hid hBr; clear bel2 hBr hbr))
  go_loopw [5] (fun i wr => ∃ k : Nat, k ≤ 16 ∧ i = .int .i64 k ∧ FB wr bf 24 sh (lrK ts ps x k) ps ∧ FB wr br 24 0 z16 z16 ∧ Below w.heap.size w wr) (fun i _ => 16 - (intOf i).toNat)
  case atStart => exact ⟨0, by omega, rfl, by rw [lrK_0 hF.1]; exact Xf.out, Xr.out, BB.out⟩
  case round =>
    obtain ⟨k, hk, rfl, hf, hr, hb⟩ := hrel
    by_cases hlt : k < 16
    · have ct := hf.ct hlt
      have cp := hf.cp hlt
      rw [lrK_getD _ _ _ _ hlt, if_neg (by omega)] at ct
      have HN := Lib.hid (lrK_succ ts ps x hlt)
      have Xf := Lib.hid hf
      have Xr := Lib.hid hr
      have BB := Lib.hid hb
      have HS := Lib.hid (show wrap32 (ts.getD k 0 + wrap32 (wrap32 (stp k * sgn (ps.getD k 0)) * sgn x)) = lrT ts ps x k by
        rw [wrap32_add_r]
        unfold lrT
        rw [← wrap32_add_r, wrap32_mul_l, wrap32_add_r, Int.mul_assoc])
      have ST := Lib.hid (fun W => restep_any k W)
      have S1 := Lib.hid (fun W => sign_any (ps.getD k 0) W)
      have S2 := Lib.hid (fun W => sign_any x W)
      generalize ts.getD k 0 = t at *
      generalize ps.getD k 0 = p at *
      have hkz : (k : Int) < 16 := by omega
      clear hf hr hb
      go_wp2_with fail
      obtain ⟨wd, hwd⟩ : ∃ wd : World, wd = { wr with drawn := wr.drawn + 1 } := ⟨_, rfl⟩
      have ctd : wd.cell? ⟨bf, 1 + k, none⟩ = some (.int .i32 t) := by rw [hwd]; exact ct
      have cpd : wd.cell? ⟨bf, 17 + k, none⟩ = some (.int .i32 p) := by rw [hwd]; exact cp
      have Xf : Hid (FB wd bf 24 sh (lrK ts ps x k) ps) := by rw [hwd]; exact Xf
      have Xr : Hid (FB wd br 24 0 z16 z16) := by rw [hwd]; exact Xr
      have BB : Hid (Below w.heap.size w wd) := by rw [hwd]; exact BB.out.drew
      refine wp_region_still_tail 18 (by kernel_rfl) (by kernel_rfl) ?_
      simp only [List.take_succ_cons, List.take_zero, List.drop_succ_cons, List.drop_zero]
      rw [show ({ wr with drawn := wr.drawn + 1 } : World) = wd from hwd.symm]
      clear hwd ct cp
      still_step
      still_step
      still_step
      still_step
      still_step
      still_call (ST.out wd)
      still_step
      still_step
      still_step
      still_step
      still_call (S1.out wd)
      still_step
      still_step
      still_call (S2.out wd)
      still_step
      still_step
      still_step
      still_step
      refine wpStill_nil ?_
      go_wp2_with (first
        | ((with_reducible refine flt_setT flt rfl (.tmp 27) (.tmp 25) rfl (k := k) (rfl) rfl rfl Xf.out (hlt) ?_); intro w1 hB1 onl1; have Xr := Lib.hid (Xr.out.only (by omega) onl1); have BB := Lib.hid (onl1.bel of BB.out); have Xf := Lib.hid hB1; clear onl1 hB1))
      have XF := Xf.out
      rw [IntWalk.i32_left, IntWalk.i32_left, IntWalk.i32_left, HS.out, HN.out] at XF
      go_roundw
      case rel => exact ⟨k + 1, by omega, by go_num, XF, Xr.out, BB.out⟩
      case measure => simp [intOf]; omega
    · obtain rfl : k = 16 := by omega
      rw [lrK_16] at hf
      have Xf := Lib.hid hf
      have Xr := Lib.hid hr
      have BB := Lib.hid hb
      have HG := Lib.hid (f16 (lrn_len ts ps x) hF.2)
      clear hf hr hb
      obtain ⟨w4, rfl⟩ : ∃ w4, w4 = wr := ⟨_, rfl⟩
      go_wp2_with (first
        | (with_reducible refine flt_load (o := ⟨some 28, _, _, _, _, _⟩) flt rfl _ rfl rfl Xf.out ?_)
        | ((with_reducible refine flt_store flt rfl (.tmp 4) (.tmp 28) rfl rfl rfl Xr.out HG.out ?_); intro w5 hB5 onl5; have Xf := Lib.hid (Xf.out.only (by omega) onl5); have BB := Lib.hid (onl5.bel or BB.out); have Xr := Lib.hid hB5; clear onl5 hB5))
      exact bodyPost_ret (flt_res0 flt rfl _ _ rfl Xr.out) rfl ⟨rfl, BB.out⟩
set_option maxHeartbeats 1000000 in
theorem relearn_bad (sh : Int) (ts ps : List Int) (x : Int) (w : World) (hF : F16 ts ps) (h : ckF sh ≠ 0) :
    Calls Try.prog 14 #[.agg (fA sh ts ps), .int .i32 x] w fun e w' => e = .returned (.tuple #[.agg (fA 0 z16 z16), .int .i64 (ckF sh)]) ∧ Below w.heap.size w w' := by
  have BB := Lib.hid (bel_self w)
  have CK := Lib.hid (fun W => recheck_any sh ts ps W hF)
  have hq : (ckF sh != 0) = true := by simp [h]
  generalize ckF sh = ce at *
  clear h
  go_enter Try.func14, Try.ntmps14
  go_wp2_with (first
    | ((with_reducible refine flt_box (o := ⟨some 2, _, _, _, _, _⟩) flt rfl _ rfl rfl hF ?_); intro w1 bf hbf hBf bel1; have of := Nat.le_trans BB.out.size hbf; have BB := Lib.hid (bel_next BB.out bel1); have Xf := Lib.hid hBf; clear bel1 hBf hbf)
    | ((with_reducible refine flt_alloc (o := ⟨some 4, _, _, _, _, _⟩) flt rfl rfl ?_); intro w2 br hbr hBr bel2; have q_f_r : bf < br := Nat.lt_of_lt_of_le Xf.out.lt hbr; have or := Nat.le_trans BB.out.size hbr; have Xf := Lib.hid (Xf.out.next bel2); have BB := Lib.hid (bel_next BB.out bel2); have Xr := Lib.hid hBr; clear bel2 hBr hbr)
    | (with_reducible refine flt_load (o := ⟨some 6, _, _, _, _, _⟩) flt rfl _ rfl rfl Xf.out ?_))
  refine (CK.out _).mono ?_
  rintro e w3 ⟨rfl, bel3⟩
  have Xf := Lib.hid (Xf.out.next bel3)
  have Xr := Lib.hid (Xr.out.next bel3)
  have BB := Lib.hid (bel_next BB.out bel3)
  clear bel3
  go_wp2_with (first
    | (with_reducible refine flt_bld0 (o := ⟨some 9, _, _, _, _, _⟩) flt fltI rfl rfl ?_)
    | (with_reducible refine flt_load (o := ⟨some 10, _, _, _, _, _⟩) flt rfl _ rfl rfl Xf.out ?_))
  refine (CK.out _).mono ?_
  rintro e w4 ⟨rfl, bel4⟩
  have Xf := Lib.hid (Xf.out.next bel4)
  have Xr := Lib.hid (Xr.out.next bel4)
  have BB := Lib.hid (bel_next BB.out bel4)
  clear bel4
  go_wp2_with (first
    | ((with_reducible refine flt_store flt rfl (.tmp 4) (.tmp 9) rfl rfl rfl Xr.out f16z ?_); intro w5 hB5 onl5; have Xf := Lib.hid (Xf.out.only (by omega) onl5); have BB := Lib.hid (onl5.bel or BB.out); have Xr := Lib.hid hB5; clear onl5 hB5))
  exact bodyPost_ret (flt_res1 flt rfl _ _ rfl Xr.out) rfl ⟨rfl, BB.out⟩
set_option maxHeartbeats 1000000 in
theorem relearn_ok (sh : Int) (ts ps : List Int) (x : Int) (w : World) (hF : F16 ts ps) (h : ckF sh = 0) :
    Calls Try.prog 14 #[.agg (fA sh ts ps), .int .i32 x] w fun e w' => e = .returned (.tuple #[.agg (fA sh (lrn ts ps x) ps), .int .i64 0]) ∧ Below w.heap.size w w' := by
  have BB := Lib.hid (bel_self w)
  have CK := Lib.hid (fun W => recheck_any sh ts ps W hF)
  rw [h] at CK
  have CL := Lib.hid (fun W => learned_any sh ts ps x W hF)
  have HG := Lib.hid (f16 (lrn_len ts ps x) hF.2)
  generalize lrn ts ps x = l at *
  clear h
  go_enter Try.func14, Try.ntmps14
  go_wp2_with (first
    | ((with_reducible refine flt_box (o := ⟨some 2, _, _, _, _, _⟩) flt rfl _ rfl rfl hF ?_); intro w1 bf hbf hBf bel1; have of := Nat.le_trans BB.out.size hbf; have BB := Lib.hid (bel_next BB.out bel1); have Xf := Lib.hid hBf; clear bel1 hBf hbf)
    | ((with_reducible refine flt_alloc (o := ⟨some 4, _, _, _, _, _⟩) flt rfl rfl ?_); intro w2 br hbr hBr bel2; have q_f_r : bf < br := Nat.lt_of_lt_of_le Xf.out.lt hbr; have or := Nat.le_trans BB.out.size hbr; have Xf := Lib.hid (Xf.out.next bel2); have BB := Lib.hid (bel_next BB.out bel2); have Xr := Lib.hid hBr; clear bel2 hBr hbr)
    | (with_reducible refine flt_load (o := ⟨some 6, _, _, _, _, _⟩) flt rfl _ rfl rfl Xf.out ?_))
  refine (CK.out _).mono ?_
  rintro e w3 ⟨rfl, bel3⟩
  have Xf := Lib.hid (Xf.out.next bel3)
  have Xr := Lib.hid (Xr.out.next bel3)
  have BB := Lib.hid (bel_next BB.out bel3)
  clear bel3
  go_wp2_with (first
    | (with_reducible refine flt_load (o := ⟨some 12, _, _, _, _, _⟩) flt rfl _ rfl rfl Xf.out ?_))
  refine (CL.out _).mono ?_
  rintro e w4 ⟨rfl, bel4⟩
  have Xf := Lib.hid (Xf.out.next bel4)
  have Xr := Lib.hid (Xr.out.next bel4)
  have BB := Lib.hid (bel_next BB.out bel4)
  clear bel4
  go_wp2_with (first
    | ((with_reducible refine flt_store flt rfl (.tmp 4) (.tmp 14) rfl rfl rfl Xr.out HG.out ?_); intro w5 hB5 onl5; have Xf := Lib.hid (Xf.out.only (by omega) onl5); have BB := Lib.hid (onl5.bel or BB.out); have Xr := Lib.hid hB5; clear onl5 hB5))
  exact bodyPost_ret (flt_res1 flt rfl _ _ rfl Xr.out) rfl ⟨rfl, BB.out⟩
theorem relearn_any (sh : Int) (ts ps : List Int) (x : Int) (w : World) (hF : F16 ts ps) :
    Calls Try.prog 14 #[.agg (fA sh ts ps), .int .i32 x] w fun e w' => e = .returned (.tuple #[.agg (fA (ifS sh) (lrR sh ts ps x) (ifP sh ps)), .int .i64 (ckF sh)]) ∧ Below w.heap.size w w' := by
  unfold lrR ifP ifS
  by_cases h : ckF sh = 0
  · rw [if_pos h, if_pos h, if_pos h, h]
    exact relearn_ok sh ts ps x w hF h
  · rw [if_neg h, if_neg h, if_neg h]
    exact relearn_bad sh ts ps x w hF h

set_option maxHeartbeats 1000000 in
theorem pushed_any (sh : Int) (ts ps : List Int) (x : Int) (w : World) (hF : F16 ts ps) :
    Calls Try.prog 25 #[.agg (fA sh ts ps), .int .i32 x] w fun e w' => e = .returned (.agg (fA sh ts (psh ps x))) ∧ Below w.heap.size w w' := by
  have BB := Lib.hid (bel_self w)
  go_enter Try.func25, Try.ntmps25
  go_wp2_with (first
    | ((with_reducible refine flt_box (o := ⟨some 2, _, _, _, _, _⟩) flt rfl _ rfl rfl hF ?_); intro w1 bf hbf hBf bel1; have of := Nat.le_trans BB.out.size hbf; have BB := Lib.hid (bel_next BB.out bel1); have Xf := Lib.hid hBf; clear bel1 hBf hbf)
    | ((with_reducible refine flt_alloc (o := ⟨some 4, _, _, _, _, _⟩) flt rfl rfl ?_); intro w2 br hbr hBr bel2; have q_f_r : bf < br := Nat.lt_of_lt_of_le Xf.out.lt hbr; have or := Nat.le_trans BB.out.size hbr; have Xf := Lib.hid (Xf.out.next bel2); have BB := Lib.hid (bel_next BB.out bel2); have Xr := Lib.hid hBr; clear bel2 hBr hbr))
  go_loopw [5] (fun i wr => ∃ k : Nat, k ≤ 15 ∧ i = .int .i64 k ∧ FB wr bf 24 sh ts (shK ps k) ∧ FB wr br 24 0 z16 z16 ∧ Below w.heap.size w wr) (fun i _ => (intOf i).toNat)
  case atStart => exact ⟨15, by omega, rfl, by rw [shK_15 hF.2]; exact Xf.out, Xr.out, BB.out⟩
  case round =>
    obtain ⟨k, hk, rfl, hf, hr, hb⟩ := hrel
    cases k with
    | succ k =>
      have cp := hf.cp (show k < 16 by omega)
      rw [shK_getD _ _ (by omega), if_neg (by omega)] at cp
      have HN := Lib.hid (shK_pred ps (show k + 1 < 16 by omega))
      have Xf := Lib.hid hf
      have Xr := Lib.hid hr
      have BB := Lib.hid hb
      generalize ps.getD k 0 = p at *
      have hk1 : ((k + 1 : Nat) : Int) - 1 = (k : Int) := by omega
      have hk2 : k + 1 < 16 := by omega
      clear hf hr hb
      go_wp2_with (first
        | ((with_reducible refine flt_setP flt rfl (.tmp 17) (.tmp 15) rfl (k := (k + 1)) (rfl) rfl rfl Xf.out (hk2) ?_); intro w1 hB1 onl1; have Xr := Lib.hid (Xr.out.only (by omega) onl1); have BB := Lib.hid (onl1.bel of BB.out); have Xf := Lib.hid hB1; clear onl1 hB1))
      have XF := Xf.out
      rw [HN.out] at XF
      go_roundw
      case rel => exact ⟨k, by omega, rfl, XF, Xr.out, BB.out⟩
      case measure => simp [intOf]
    | zero =>
      have Xf := Lib.hid hf
      have Xr := Lib.hid hr
      have BB := Lib.hid hb
      have HN := Lib.hid (shK_set ps hF.2 x)
      have HG := Lib.hid (f16 hF.1 (psh_len hF.2 x))
      clear hf hr hb
      obtain ⟨w4, rfl⟩ : ∃ w4, w4 = wr := ⟨_, rfl⟩
      go_wp2_with (first
        | ((with_reducible refine flt_setP flt rfl (.tmp 20) (.tmp 18) rfl (k := 0) (rfl) rfl rfl Xf.out ((by decide)) ?_); intro w5 hB5 onl5; rw [HN.out] at hB5; have Xr := Lib.hid (Xr.out.only (by omega) onl5); have BB := Lib.hid (onl5.bel of BB.out); have Xf := Lib.hid hB5; clear onl5 hB5)
        | (with_reducible refine flt_load (o := ⟨some 21, _, _, _, _, _⟩) flt rfl _ rfl rfl Xf.out ?_)
        | ((with_reducible refine flt_store flt rfl (.tmp 4) (.tmp 21) rfl rfl rfl Xr.out HG.out ?_); intro w6 hB6 onl6; have Xf := Lib.hid (Xf.out.only (by omega) onl6); have BB := Lib.hid (onl6.bel or BB.out); have Xr := Lib.hid hB6; clear onl6 hB6))
      exact bodyPost_ret (flt_res0 flt rfl _ _ rfl Xr.out) rfl ⟨rfl, BB.out⟩
set_option maxHeartbeats 1000000 in
theorem repush_bad (sh : Int) (ts ps : List Int) (x : Int) (w : World) (hF : F16 ts ps) (h : ckF sh ≠ 0) :
    Calls Try.prog 16 #[.agg (fA sh ts ps), .int .i32 x] w fun e w' => e = .returned (.tuple #[.agg (fA 0 z16 z16), .int .i64 (ckF sh)]) ∧ Below w.heap.size w w' := by
  have BB := Lib.hid (bel_self w)
  have CK := Lib.hid (fun W => recheck_any sh ts ps W hF)
  have hq : (ckF sh != 0) = true := by simp [h]
  generalize ckF sh = ce at *
  clear h
  go_enter Try.func16, Try.ntmps16
  go_wp2_with (first
    | ((with_reducible refine flt_box (o := ⟨some 2, _, _, _, _, _⟩) flt rfl _ rfl rfl hF ?_); intro w1 bf hbf hBf bel1; have of := Nat.le_trans BB.out.size hbf; have BB := Lib.hid (bel_next BB.out bel1); have Xf := Lib.hid hBf; clear bel1 hBf hbf)
    | ((with_reducible refine flt_alloc (o := ⟨some 4, _, _, _, _, _⟩) flt rfl rfl ?_); intro w2 br hbr hBr bel2; have q_f_r : bf < br := Nat.lt_of_lt_of_le Xf.out.lt hbr; have or := Nat.le_trans BB.out.size hbr; have Xf := Lib.hid (Xf.out.next bel2); have BB := Lib.hid (bel_next BB.out bel2); have Xr := Lib.hid hBr; clear bel2 hBr hbr)
    | (with_reducible refine flt_load (o := ⟨some 6, _, _, _, _, _⟩) flt rfl _ rfl rfl Xf.out ?_))
  refine (CK.out _).mono ?_
  rintro e w3 ⟨rfl, bel3⟩
  have Xf := Lib.hid (Xf.out.next bel3)
  have Xr := Lib.hid (Xr.out.next bel3)
  have BB := Lib.hid (bel_next BB.out bel3)
  clear bel3
  go_wp2_with (first
    | (with_reducible refine flt_bld0 (o := ⟨some 9, _, _, _, _, _⟩) flt fltI rfl rfl ?_)
    | (with_reducible refine flt_load (o := ⟨some 10, _, _, _, _, _⟩) flt rfl _ rfl rfl Xf.out ?_))
  refine (CK.out _).mono ?_
  rintro e w4 ⟨rfl, bel4⟩
  have Xf := Lib.hid (Xf.out.next bel4)
  have Xr := Lib.hid (Xr.out.next bel4)
  have BB := Lib.hid (bel_next BB.out bel4)
  clear bel4
  go_wp2_with (first
    | ((with_reducible refine flt_store flt rfl (.tmp 4) (.tmp 9) rfl rfl rfl Xr.out f16z ?_); intro w5 hB5 onl5; have Xf := Lib.hid (Xf.out.only (by omega) onl5); have BB := Lib.hid (onl5.bel or BB.out); have Xr := Lib.hid hB5; clear onl5 hB5))
  exact bodyPost_ret (flt_res1 flt rfl _ _ rfl Xr.out) rfl ⟨rfl, BB.out⟩
set_option maxHeartbeats 1000000 in
theorem repush_ok (sh : Int) (ts ps : List Int) (x : Int) (w : World) (hF : F16 ts ps) (h : ckF sh = 0) :
    Calls Try.prog 16 #[.agg (fA sh ts ps), .int .i32 x] w fun e w' => e = .returned (.tuple #[.agg (fA sh ts (psh ps x)), .int .i64 0]) ∧ Below w.heap.size w w' := by
  have BB := Lib.hid (bel_self w)
  have CK := Lib.hid (fun W => recheck_any sh ts ps W hF)
  rw [h] at CK
  have CL := Lib.hid (fun W => pushed_any sh ts ps x W hF)
  have HG := Lib.hid (f16 hF.1 (psh_len hF.2 x))
  generalize psh ps x = l at *
  clear h
  go_enter Try.func16, Try.ntmps16
  go_wp2_with (first
    | ((with_reducible refine flt_box (o := ⟨some 2, _, _, _, _, _⟩) flt rfl _ rfl rfl hF ?_); intro w1 bf hbf hBf bel1; have of := Nat.le_trans BB.out.size hbf; have BB := Lib.hid (bel_next BB.out bel1); have Xf := Lib.hid hBf; clear bel1 hBf hbf)
    | ((with_reducible refine flt_alloc (o := ⟨some 4, _, _, _, _, _⟩) flt rfl rfl ?_); intro w2 br hbr hBr bel2; have q_f_r : bf < br := Nat.lt_of_lt_of_le Xf.out.lt hbr; have or := Nat.le_trans BB.out.size hbr; have Xf := Lib.hid (Xf.out.next bel2); have BB := Lib.hid (bel_next BB.out bel2); have Xr := Lib.hid hBr; clear bel2 hBr hbr)
    | (with_reducible refine flt_load (o := ⟨some 6, _, _, _, _, _⟩) flt rfl _ rfl rfl Xf.out ?_))
  refine (CK.out _).mono ?_
  rintro e w3 ⟨rfl, bel3⟩
  have Xf := Lib.hid (Xf.out.next bel3)
  have Xr := Lib.hid (Xr.out.next bel3)
  have BB := Lib.hid (bel_next BB.out bel3)
  clear bel3
  go_wp2_with (first
    | (with_reducible refine flt_load (o := ⟨some 12, _, _, _, _, _⟩) flt rfl _ rfl rfl Xf.out ?_))
  refine (CL.out _).mono ?_
  rintro e w4 ⟨rfl, bel4⟩
  have Xf := Lib.hid (Xf.out.next bel4)
  have Xr := Lib.hid (Xr.out.next bel4)
  have BB := Lib.hid (bel_next BB.out bel4)
  clear bel4
  go_wp2_with (first
    | ((with_reducible refine flt_store flt rfl (.tmp 4) (.tmp 14) rfl rfl rfl Xr.out HG.out ?_); intro w5 hB5 onl5; have Xf := Lib.hid (Xf.out.only (by omega) onl5); have BB := Lib.hid (onl5.bel or BB.out); have Xr := Lib.hid hB5; clear onl5 hB5))
  exact bodyPost_ret (flt_res1 flt rfl _ _ rfl Xr.out) rfl ⟨rfl, BB.out⟩
theorem repush_any (sh : Int) (ts ps : List Int) (x : Int) (w : World) (hF : F16 ts ps) :
    Calls Try.prog 16 #[.agg (fA sh ts ps), .int .i32 x] w fun e w' => e = .returned (.tuple #[.agg (fA (ifS sh) (ifP sh ts) (puR sh ps x)), .int .i64 (ckF sh)]) ∧ Below w.heap.size w w' := by
  unfold puR ifP ifS
  by_cases h : ckF sh = 0
  · rw [if_pos h, if_pos h, if_pos h, h]
    exact repush_ok sh ts ps x w hF h
  · rw [if_neg h, if_neg h, if_neg h]
    exact repush_bad sh ts ps x w hF h
end Go.Proofs.Ytnhdhjcpbonfjaa

/-
  What New of the reference of layer 14 computes. Conditions: numbers within their types.
-/
import Derived.Test.YtgnmpkembcdkcaaTapsNew
namespace Go.Proofs.Ytgnmpkembcdkcaa
open Go.RowKit
set_option linter.unusedVariables false

set_option maxHeartbeats 400000 in
theorem shiftR_8 (w : World) :
    Calls Try.prog 38 #[.int .i64 8] w fun e w' => e = .returned (.tuple #[.int .i64 4, .int .i64 0]) ∧ w = w' := by
  go_enter Try.func38, Try.ntmps38
  go_wp2_with fail
  go_ret2
  exact ⟨rfl, rfl⟩
set_option maxHeartbeats 400000 in
theorem shiftR_16 (w : World) :
    Calls Try.prog 38 #[.int .i64 16] w fun e w' => e = .returned (.tuple #[.int .i64 5, .int .i64 0]) ∧ w = w' := by
  go_enter Try.func38, Try.ntmps38
  go_wp2_with fail
  go_ret2
  exact ⟨rfl, rfl⟩
set_option maxHeartbeats 400000 in
theorem shiftR_24 (w : World) :
    Calls Try.prog 38 #[.int .i64 24] w fun e w' => e = .returned (.tuple #[.int .i64 5, .int .i64 0]) ∧ w = w' := by
  go_enter Try.func38, Try.ntmps38
  go_wp2_with fail
  go_ret2
  exact ⟨rfl, rfl⟩
set_option maxHeartbeats 400000 in
theorem shiftR_bad (b : Int) (w : World) (h1 : b ≠ 8) (h2 : b ≠ 16) (h3 : b ≠ 24) :
    Calls Try.prog 38 #[.int .i64 b] w fun e w' => e = .returned (.tuple #[.int .i64 0, .int .i64 2]) ∧ w = w' := by
  have q1 : (b == 8) = false := by simp [h1]
  have q2 : (b == 16) = false := by simp [h2]
  have q3 : (b == 24) = false := by simp [h3]
  clear h1 h2 h3
  go_enter Try.func38, Try.ntmps38
  go_wp2_with fail
  go_ret2
  exact ⟨rfl, rfl⟩
set_option maxHeartbeats 1000000 in
theorem renew_8 (ts : List Int) (w : World) (hF : ts.length = 16) :
    Calls Try.prog 28 #[.int .i64 8, .agg (aA ts)] w fun e w' => e = .returned (.tuple #[.agg (fA 10 ts z16), .int .i64 0]) ∧ Below w.heap.size w w' := by
  have BB := Lib.hid (bel_self w)
  go_enter Try.func28, Try.ntmps28
  go_wp2_with (first
    | ((with_reducible refine arr_box (o := ⟨some 3, _, _, _, _, _⟩) flt rfl _ rfl rfl hF ?_); intro w1 bt hbt hBt bel1; have ot := Nat.le_trans BB.out.size hbt; have BB := Lib.hid (bel_next BB.out bel1); have Xt := Lib.hid hBt; clear bel1 hBt hbt)
    | ((with_reducible refine flt_alloc (o := ⟨some 4, _, _, _, _, _⟩) flt rfl rfl ?_); intro w2 br hbr hBr bel2; have q_t_r : bt < br := Nat.lt_of_lt_of_le Xt.out.lt hbr; have or := Nat.le_trans BB.out.size hbr; have Xt := Lib.hid (Xt.out.next bel2); have BB := Lib.hid (bel_next BB.out bel2); have Xr := Lib.hid hBr; clear bel2 hBr hbr))
  refine (shiftR_8 _).mono ?_
  rintro e w' ⟨rfl, rfl⟩
  go_wp2_with (first
    | (with_reducible refine arr_load (o := ⟨some 20, _, _, _, _, _⟩) flt rfl _ rfl rfl Xt.out ?_)
    | (with_reducible refine flt_bld2 (o := ⟨some 21, _, _, _, _, _⟩) flt fltI rfl _ _ rfl rfl rfl hF ?_)
    | ((with_reducible refine flt_store flt rfl (.tmp 4) (.tmp 21) rfl rfl rfl Xr.out (f16 hF z16_len) ?_); intro w3 hB3 onl3; have Xt := Lib.hid (Xt.out.only (by omega) onl3); have BB := Lib.hid (onl3.bel or BB.out); have Xr := Lib.hid hB3; clear onl3 hB3))
  exact bodyPost_ret (flt_res1 flt rfl _ _ rfl Xr.out) rfl ⟨rfl, BB.out⟩
set_option maxHeartbeats 1000000 in
theorem renew_16 (ts : List Int) (w : World) (hF : ts.length = 16) :
    Calls Try.prog 28 #[.int .i64 16, .agg (aA ts)] w fun e w' => e = .returned (.tuple #[.agg (fA 9 ts z16), .int .i64 0]) ∧ Below w.heap.size w w' := by
  have BB := Lib.hid (bel_self w)
  go_enter Try.func28, Try.ntmps28
  go_wp2_with (first
    | ((with_reducible refine arr_box (o := ⟨some 3, _, _, _, _, _⟩) flt rfl _ rfl rfl hF ?_); intro w1 bt hbt hBt bel1; have ot := Nat.le_trans BB.out.size hbt; have BB := Lib.hid (bel_next BB.out bel1); have Xt := Lib.hid hBt; clear bel1 hBt hbt)
    | ((with_reducible refine flt_alloc (o := ⟨some 4, _, _, _, _, _⟩) flt rfl rfl ?_); intro w2 br hbr hBr bel2; have q_t_r : bt < br := Nat.lt_of_lt_of_le Xt.out.lt hbr; have or := Nat.le_trans BB.out.size hbr; have Xt := Lib.hid (Xt.out.next bel2); have BB := Lib.hid (bel_next BB.out bel2); have Xr := Lib.hid hBr; clear bel2 hBr hbr))
  refine (shiftR_16 _).mono ?_
  rintro e w' ⟨rfl, rfl⟩
  go_wp2_with (first
    | (with_reducible refine arr_load (o := ⟨some 20, _, _, _, _, _⟩) flt rfl _ rfl rfl Xt.out ?_)
    | (with_reducible refine flt_bld2 (o := ⟨some 21, _, _, _, _, _⟩) flt fltI rfl _ _ rfl rfl rfl hF ?_)
    | ((with_reducible refine flt_store flt rfl (.tmp 4) (.tmp 21) rfl rfl rfl Xr.out (f16 hF z16_len) ?_); intro w3 hB3 onl3; have Xt := Lib.hid (Xt.out.only (by omega) onl3); have BB := Lib.hid (onl3.bel or BB.out); have Xr := Lib.hid hB3; clear onl3 hB3))
  exact bodyPost_ret (flt_res1 flt rfl _ _ rfl Xr.out) rfl ⟨rfl, BB.out⟩
set_option maxHeartbeats 1000000 in
theorem renew_24 (ts : List Int) (w : World) (hF : ts.length = 16) :
    Calls Try.prog 28 #[.int .i64 24, .agg (aA ts)] w fun e w' => e = .returned (.tuple #[.agg (fA 10 ts z16), .int .i64 0]) ∧ Below w.heap.size w w' := by
  have BB := Lib.hid (bel_self w)
  go_enter Try.func28, Try.ntmps28
  go_wp2_with (first
    | ((with_reducible refine arr_box (o := ⟨some 3, _, _, _, _, _⟩) flt rfl _ rfl rfl hF ?_); intro w1 bt hbt hBt bel1; have ot := Nat.le_trans BB.out.size hbt; have BB := Lib.hid (bel_next BB.out bel1); have Xt := Lib.hid hBt; clear bel1 hBt hbt)
    | ((with_reducible refine flt_alloc (o := ⟨some 4, _, _, _, _, _⟩) flt rfl rfl ?_); intro w2 br hbr hBr bel2; have q_t_r : bt < br := Nat.lt_of_lt_of_le Xt.out.lt hbr; have or := Nat.le_trans BB.out.size hbr; have Xt := Lib.hid (Xt.out.next bel2); have BB := Lib.hid (bel_next BB.out bel2); have Xr := Lib.hid hBr; clear bel2 hBr hbr))
  refine (shiftR_24 _).mono ?_
  rintro e w' ⟨rfl, rfl⟩
  go_wp2_with (first
    | (with_reducible refine arr_load (o := ⟨some 20, _, _, _, _, _⟩) flt rfl _ rfl rfl Xt.out ?_)
    | (with_reducible refine flt_bld2 (o := ⟨some 21, _, _, _, _, _⟩) flt fltI rfl _ _ rfl rfl rfl hF ?_)
    | ((with_reducible refine flt_store flt rfl (.tmp 4) (.tmp 21) rfl rfl rfl Xr.out (f16 hF z16_len) ?_); intro w3 hB3 onl3; have Xt := Lib.hid (Xt.out.only (by omega) onl3); have BB := Lib.hid (onl3.bel or BB.out); have Xr := Lib.hid hB3; clear onl3 hB3))
  exact bodyPost_ret (flt_res1 flt rfl _ _ rfl Xr.out) rfl ⟨rfl, BB.out⟩
set_option maxHeartbeats 1000000 in
theorem renew_bad (b : Int) (ts : List Int) (w : World) (hF : ts.length = 16) (h1 : b ≠ 8) (h2 : b ≠ 16) (h3 : b ≠ 24) :
    Calls Try.prog 28 #[.int .i64 b, .agg (aA ts)] w fun e w' => e = .returned (.tuple #[.agg (fA 0 z16 z16), .int .i64 2]) ∧ Below w.heap.size w w' := by
  have BB := Lib.hid (bel_self w)
  have CS := Lib.hid (fun W => shiftR_bad b W h1 h2 h3)
  clear h1 h2 h3
  go_enter Try.func28, Try.ntmps28
  go_wp2_with (first
    | ((with_reducible refine arr_box (o := ⟨some 3, _, _, _, _, _⟩) flt rfl _ rfl rfl hF ?_); intro w1 bt hbt hBt bel1; have ot := Nat.le_trans BB.out.size hbt; have BB := Lib.hid (bel_next BB.out bel1); have Xt := Lib.hid hBt; clear bel1 hBt hbt)
    | ((with_reducible refine flt_alloc (o := ⟨some 4, _, _, _, _, _⟩) flt rfl rfl ?_); intro w2 br hbr hBr bel2; have q_t_r : bt < br := Nat.lt_of_lt_of_le Xt.out.lt hbr; have or := Nat.le_trans BB.out.size hbr; have Xt := Lib.hid (Xt.out.next bel2); have BB := Lib.hid (bel_next BB.out bel2); have Xr := Lib.hid hBr; clear bel2 hBr hbr))
  refine (CS.out _).mono ?_
  rintro e w' ⟨rfl, rfl⟩
  go_wp2_with (first
    | (with_reducible refine flt_bld0 (o := ⟨some 16, _, _, _, _, _⟩) flt fltI rfl rfl ?_)
    | ((with_reducible refine flt_store flt rfl (.tmp 4) (.tmp 16) rfl rfl rfl Xr.out f16z ?_); intro w3 hB3 onl3; have Xt := Lib.hid (Xt.out.only (by omega) onl3); have BB := Lib.hid (onl3.bel or BB.out); have Xr := Lib.hid hB3; clear onl3 hB3))
  exact bodyPost_ret (flt_res1 flt rfl _ _ rfl Xr.out) rfl ⟨rfl, BB.out⟩
theorem renew_any (b : Int) (ts : List Int) (w : World) (hF : ts.length = 16) :
    Calls Try.prog 28 #[.int .i64 b, .agg (aA ts)] w fun e w' => e = .returned (.tuple #[.agg (nwF b ts), .int .i64 (nwE b)]) ∧ Below w.heap.size w w' := by
  unfold nwF
  by_cases h : nwE b = 0
  · rw [if_pos h, h]
    rcases nwE_ok h with rfl | rfl | rfl
    · exact renew_8 ts w hF
    · exact renew_16 ts w hF
    · exact renew_24 ts w hF
  · rw [if_neg h]
    obtain ⟨e, h1, h2, h3⟩ := nwE_bad h
    rw [e]
    exact renew_bad b ts w hF h1 h2 h3
end Go.Proofs.Ytgnmpkembcdkcaa

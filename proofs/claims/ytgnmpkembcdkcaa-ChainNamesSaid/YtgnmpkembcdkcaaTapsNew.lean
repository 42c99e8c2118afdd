/-
  What New of package taps computes. Conditions: numbers within their types.
-/
import Derived.Test.YtgnmpkembcdkcaaTapsA
namespace Go.Proofs.Ytgnmpkembcdkcaa
open Go.RowKit
set_option linter.unusedVariables false

theorem nwS_of {b : Int} (h : b ≠ 16) : nwS b = 10 := if_neg h
set_option maxHeartbeats 1000000 in
theorem new_ten (b : Int) (ts : List Int) (w : World) (hF : ts.length = 16) (hb : b = 8 ∨ b = 24) :
    Calls Try.prog 27 #[.int .i64 b, .agg (aA ts)] w fun e w' => e = .returned (.tuple #[.agg (fA 10 ts z16), .int .i64 0]) ∧ Below w.heap.size w w' := by
  have BB := Lib.hid (bel_self w)
  rcases hb with rfl | rfl
  all_goals
    go_enter Try.func27, Try.ntmps27
    go_wp2_with (first
      | ((with_reducible refine arr_box (o := ⟨some 3, _, _, _, _, _⟩) flt rfl _ rfl rfl hF ?_); intro w1 bt hbt hBt bel1; have ot := Nat.le_trans BB.out.size hbt; have BB := Lib.hid (bel_next BB.out bel1); have Xt := Lib.hid hBt; clear bel1 hBt hbt)
      | ((with_reducible refine flt_alloc (o := ⟨some 4, _, _, _, _, _⟩) flt rfl rfl ?_); intro w2 br hbr hBr bel2; have q_t_r : bt < br := Nat.lt_of_lt_of_le Xt.out.lt hbr; have or := Nat.le_trans BB.out.size hbr; have Xt := Lib.hid (Xt.out.next bel2); have BB := Lib.hid (bel_next BB.out bel2); have Xr := Lib.hid hBr; clear bel2 hBr hbr)
      | (with_reducible refine arr_load (o := ⟨some 7, _, _, _, _, _⟩) flt rfl _ rfl rfl Xt.out ?_)
      | (with_reducible refine flt_bld2 (o := ⟨some 8, _, _, _, _, _⟩) flt fltI rfl _ _ rfl rfl rfl hF ?_)
      | ((with_reducible refine flt_alloc (o := ⟨some 6, _, _, _, _, _⟩) flt rfl rfl ?_); intro w3 bf hbf hBf bel3; have q_t_f : bt < bf := Nat.lt_of_lt_of_le Xt.out.lt hbf; have q_r_f : br < bf := Nat.lt_of_lt_of_le Xr.out.lt hbf; have of := Nat.le_trans BB.out.size hbf; have Xt := Lib.hid (Xt.out.next bel3); have Xr := Lib.hid (Xr.out.next bel3); have BB := Lib.hid (bel_next BB.out bel3); have Xf := Lib.hid hBf; clear bel3 hBf hbf)
      | ((with_reducible refine flt_store flt rfl (.tmp 6) (.tmp 8) rfl rfl rfl Xf.out (f16 hF z16_len) ?_); intro w4 hB4 onl4; have Xt := Lib.hid (Xt.out.only (by omega) onl4); have Xr := Lib.hid (Xr.out.only (by omega) onl4); have BB := Lib.hid (onl4.bel of BB.out); have Xf := Lib.hid hB4; clear onl4 hB4)
      | (with_reducible refine flt_load (o := ⟨some 17, _, _, _, _, _⟩) flt rfl _ rfl rfl Xf.out ?_)
      | ((with_reducible refine flt_store flt rfl (.tmp 4) (.tmp 17) rfl rfl rfl Xr.out (f16 hF z16_len) ?_); intro w5 hB5 onl5; have Xt := Lib.hid (Xt.out.only (by omega) onl5); have Xf := Lib.hid (Xf.out.only (by omega) onl5); have BB := Lib.hid (onl5.bel or BB.out); have Xr := Lib.hid hB5; clear onl5 hB5))
    exact bodyPost_ret (flt_res1 flt rfl _ _ rfl Xr.out) rfl ⟨rfl, BB.out⟩
set_option maxHeartbeats 1000000 in
theorem new_16 (ts : List Int) (w : World) (hF : ts.length = 16) :
    Calls Try.prog 27 #[.int .i64 16, .agg (aA ts)] w fun e w' => e = .returned (.tuple #[.agg (fA 9 ts z16), .int .i64 0]) ∧ Below w.heap.size w w' := by
  have BB := Lib.hid (bel_self w)
  go_enter Try.func27, Try.ntmps27
  go_wp2_with (first
    | ((with_reducible refine arr_box (o := ⟨some 3, _, _, _, _, _⟩) flt rfl _ rfl rfl hF ?_); intro w1 bt hbt hBt bel1; have ot := Nat.le_trans BB.out.size hbt; have BB := Lib.hid (bel_next BB.out bel1); have Xt := Lib.hid hBt; clear bel1 hBt hbt)
    | ((with_reducible refine flt_alloc (o := ⟨some 4, _, _, _, _, _⟩) flt rfl rfl ?_); intro w2 br hbr hBr bel2; have q_t_r : bt < br := Nat.lt_of_lt_of_le Xt.out.lt hbr; have or := Nat.le_trans BB.out.size hbr; have Xt := Lib.hid (Xt.out.next bel2); have BB := Lib.hid (bel_next BB.out bel2); have Xr := Lib.hid hBr; clear bel2 hBr hbr)
    | (with_reducible refine arr_load (o := ⟨some 7, _, _, _, _, _⟩) flt rfl _ rfl rfl Xt.out ?_)
    | (with_reducible refine flt_bld2 (o := ⟨some 8, _, _, _, _, _⟩) flt fltI rfl _ _ rfl rfl rfl hF ?_)
    | ((with_reducible refine flt_alloc (o := ⟨some 6, _, _, _, _, _⟩) flt rfl rfl ?_); intro w3 bf hbf hBf bel3; have q_t_f : bt < bf := Nat.lt_of_lt_of_le Xt.out.lt hbf; have q_r_f : br < bf := Nat.lt_of_lt_of_le Xr.out.lt hbf; have of := Nat.le_trans BB.out.size hbf; have Xt := Lib.hid (Xt.out.next bel3); have Xr := Lib.hid (Xr.out.next bel3); have BB := Lib.hid (bel_next BB.out bel3); have Xf := Lib.hid hBf; clear bel3 hBf hbf)
    | ((with_reducible refine flt_store flt rfl (.tmp 6) (.tmp 8) rfl rfl rfl Xf.out (f16 hF z16_len) ?_); intro w4 hB4 onl4; have Xt := Lib.hid (Xt.out.only (by omega) onl4); have Xr := Lib.hid (Xr.out.only (by omega) onl4); have BB := Lib.hid (onl4.bel of BB.out); have Xf := Lib.hid hB4; clear onl4 hB4)
    | ((with_reducible refine flt_set0 flt fltI rfl (.tmp 16) (.const (.int .i64 9)) rfl rfl rfl Xf.out ?_); intro w5 hB5 onl5; have Xt := Lib.hid (Xt.out.only (by omega) onl5); have Xr := Lib.hid (Xr.out.only (by omega) onl5); have BB := Lib.hid (onl5.bel of BB.out); have Xf := Lib.hid hB5; clear onl5 hB5)
    | (with_reducible refine flt_load (o := ⟨some 17, _, _, _, _, _⟩) flt rfl _ rfl rfl Xf.out ?_)
    | ((with_reducible refine flt_store flt rfl (.tmp 4) (.tmp 17) rfl rfl rfl Xr.out (f16 hF z16_len) ?_); intro w6 hB6 onl6; have Xt := Lib.hid (Xt.out.only (by omega) onl6); have Xf := Lib.hid (Xf.out.only (by omega) onl6); have BB := Lib.hid (onl6.bel or BB.out); have Xr := Lib.hid hB6; clear onl6 hB6))
  exact bodyPost_ret (flt_res1 flt rfl _ _ rfl Xr.out) rfl ⟨rfl, BB.out⟩
set_option maxHeartbeats 1000000 in
theorem new_bad (b : Int) (ts : List Int) (w : World) (hF : ts.length = 16) (h1 : b ≠ 8) (h2 : b ≠ 16) (h3 : b ≠ 24) :
    Calls Try.prog 27 #[.int .i64 b, .agg (aA ts)] w fun e w' => e = .returned (.tuple #[.agg (fA 0 z16 z16), .int .i64 2]) ∧ Below w.heap.size w w' := by
  have BB := Lib.hid (bel_self w)
  have q1 : (b == 8) = false := by simp [h1]
  have q2 : (b == 16) = false := by simp [h2]
  have q3 : (b == 24) = false := by simp [h3]
  clear h1 h2 h3
  go_enter Try.func27, Try.ntmps27
  go_wp2_with (first
    | ((with_reducible refine arr_box (o := ⟨some 3, _, _, _, _, _⟩) flt rfl _ rfl rfl hF ?_); intro w1 bt hbt hBt bel1; have ot := Nat.le_trans BB.out.size hbt; have BB := Lib.hid (bel_next BB.out bel1); have Xt := Lib.hid hBt; clear bel1 hBt hbt)
    | ((with_reducible refine flt_alloc (o := ⟨some 4, _, _, _, _, _⟩) flt rfl rfl ?_); intro w2 br hbr hBr bel2; have q_t_r : bt < br := Nat.lt_of_lt_of_le Xt.out.lt hbr; have or := Nat.le_trans BB.out.size hbr; have Xt := Lib.hid (Xt.out.next bel2); have BB := Lib.hid (bel_next BB.out bel2); have Xr := Lib.hid hBr; clear bel2 hBr hbr)
    | (with_reducible refine arr_load (o := ⟨some 7, _, _, _, _, _⟩) flt rfl _ rfl rfl Xt.out ?_)
    | (with_reducible refine flt_bld2 (o := ⟨some 8, _, _, _, _, _⟩) flt fltI rfl _ _ rfl rfl rfl hF ?_)
    | ((with_reducible refine flt_alloc (o := ⟨some 6, _, _, _, _, _⟩) flt rfl rfl ?_); intro w3 bf hbf hBf bel3; have q_t_f : bt < bf := Nat.lt_of_lt_of_le Xt.out.lt hbf; have q_r_f : br < bf := Nat.lt_of_lt_of_le Xr.out.lt hbf; have of := Nat.le_trans BB.out.size hbf; have Xt := Lib.hid (Xt.out.next bel3); have Xr := Lib.hid (Xr.out.next bel3); have BB := Lib.hid (bel_next BB.out bel3); have Xf := Lib.hid hBf; clear bel3 hBf hbf)
    | ((with_reducible refine flt_store flt rfl (.tmp 6) (.tmp 8) rfl rfl rfl Xf.out (f16 hF z16_len) ?_); intro w4 hB4 onl4; have Xt := Lib.hid (Xt.out.only (by omega) onl4); have Xr := Lib.hid (Xr.out.only (by omega) onl4); have BB := Lib.hid (onl4.bel of BB.out); have Xf := Lib.hid hB4; clear onl4 hB4)
    | (with_reducible refine flt_bld0 (o := ⟨some 10, _, _, _, _, _⟩) flt fltI rfl rfl ?_)
    | ((with_reducible refine flt_store flt rfl (.tmp 4) (.tmp 10) rfl rfl rfl Xr.out (f16 z16_len z16_len) ?_); intro w5 hB5 onl5; have Xt := Lib.hid (Xt.out.only (by omega) onl5); have Xf := Lib.hid (Xf.out.only (by omega) onl5); have BB := Lib.hid (onl5.bel or BB.out); have Xr := Lib.hid hB5; clear onl5 hB5))
  exact bodyPost_ret (flt_res1 flt rfl _ _ rfl Xr.out) rfl ⟨rfl, BB.out⟩
theorem nwE_ok {b : Int} (h : nwE b = 0) : b = 8 ∨ b = 16 ∨ b = 24 := by
  unfold nwE at h; split at h
  · assumption
  · omega
theorem nwE_bad {b : Int} (h : nwE b ≠ 0) : nwE b = 2 ∧ b ≠ 8 ∧ b ≠ 16 ∧ b ≠ 24 := by
  unfold nwE at h ⊢; split at h
  · omega
  · rename_i h'
    rw [if_neg h']; omega
def nwF (b : Int) (ts : List Int) : Array Value := if nwE b = 0 then fA (nwS b) ts z16 else fA 0 z16 z16
theorem tnew_any (b : Int) (ts : List Int) (w : World) (hF : ts.length = 16) :
    Calls Try.prog 27 #[.int .i64 b, .agg (aA ts)] w fun e w' => e = .returned (.tuple #[.agg (nwF b ts), .int .i64 (nwE b)]) ∧ Below w.heap.size w w' := by
  unfold nwF
  by_cases h : nwE b = 0
  · rw [if_pos h, h]
    rcases nwE_ok h with rfl | rfl | rfl
    · exact new_ten 8 ts w hF (.inl rfl)
    · exact new_16 ts w hF
    · exact new_ten 24 ts w hF (.inr rfl)
  · rw [if_neg h]
    obtain ⟨e, h1, h2, h3⟩ := nwE_bad h
    rw [e]
    exact new_bad b ts w hF h1 h2 h3

end Go.Proofs.Ytgnmpkembcdkcaa

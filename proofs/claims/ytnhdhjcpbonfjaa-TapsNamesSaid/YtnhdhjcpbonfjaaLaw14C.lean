/-
  The walks of the chapter's examples of layer 14. Conditions: numbers within their types.
-/
import Derived.Test.YtnhdhjcpbonfjaaRef14Walks
import Derived.Test.YtnhdhjcpbonfjaaQuietB
import Derived.Test.YtnhdhjcpbonfjaaFlt3
namespace Go.Proofs.Ytnhdhjcpbonfjaa
open Go.RowKit
set_option linter.unusedVariables false

def exP : List Int := [5, 0, -3, 0, 0, 0, 0, 0, 0, 0, 0, 0, 0, 0, 0, 0]
def exT : List Int := [4, 0, -2, 0, 0, 0, 0, 0, 0, 0, 0, 0, 0, 0, 0, 0]
theorem exF : F16 z16 exP := ⟨rfl, rfl⟩
theorem exG : F16 exT exP := ⟨rfl, rfl⟩
theorem ex_learn : lrn z16 exP 7 = exT := by decide +kernel
theorem z16_i32 : I32 z16 := by unfold I32; decide
theorem exP_i32 : I32 exP := by unfold I32; decide
theorem exT_i32 : I32 exT := by unfold I32; decide
theorem ex_set1 : z16.set 0 5 = [5, 0, 0, 0, 0, 0, 0, 0, 0, 0, 0, 0, 0, 0, 0, 0] := rfl
theorem ex_set2 : ([5, 0, 0, 0, 0, 0, 0, 0, 0, 0, 0, 0, 0, 0, 0, 0] : List Int).set 2 (-3) = exP := rfl
theorem ex_built (W : World) : (Instr.build 22 #[(0, .int .i32 4), (1, .int .i32 0), (2, .int .i32 (-2))]).run Try.prog W = .ok (.agg (aA exT)) W := run_build W _ _ _ (by kernel_rfl)

theorem eqgF : Try.prog.eqGuardType Try.prog.depth 24 = false := by kernel_rfl
theorem eqgA : Try.prog.eqGuardType Try.prog.depth 22 = false := by kernel_rfl
set_option maxHeartbeats 1000000 in
theorem example_any (w : World) : Calls Try.prog 26 #[] w fun e w' => e = .returned (.agg (fA 9 z16 exP)) ∧ Below w.heap.size w w' := by
  have BB := Lib.hid (bel_self w)
  have E1 := Lib.hid ex_set1
  have E2 := Lib.hid ex_set2
  go_enter Try.func26, Try.ntmps26
  go_wp2_with (first
    | ((with_reducible refine flt_alloc (o := ⟨some 0, _, _, _, _, _⟩) flt rfl rfl ?_); intro w1 br hbr hBr bel1; have or := Nat.le_trans BB.out.size hbr; have BB := Lib.hid (bel_next BB.out bel1); have Xr := Lib.hid hBr; clear bel1 hBr hbr)
    | (with_reducible refine flt_bld1 (o := ⟨some 2, _, _, _, _, _⟩) flt fltI rfl _ rfl rfl ?_)
    | ((with_reducible refine flt_alloc (o := ⟨some 1, _, _, _, _, _⟩) flt rfl rfl ?_); intro w2 bf hbf hBf bel2; have q_r_f : br < bf := Nat.lt_of_lt_of_le Xr.out.lt hbf; have of := Nat.le_trans BB.out.size hbf; have Xr := Lib.hid (Xr.out.next bel2); have BB := Lib.hid (bel_next BB.out bel2); have Xf := Lib.hid hBf; clear bel2 hBf hbf)
    | ((with_reducible refine flt_store flt rfl (.tmp 1) (.tmp 2) rfl rfl rfl Xf.out f16z ?_); intro w3 hB3 onl3; have Xr := Lib.hid (Xr.out.only (by omega) onl3); have BB := Lib.hid (onl3.bel of BB.out); have Xf := Lib.hid hB3; clear onl3 hB3)
    | ((with_reducible refine flt_setP flt rfl (.tmp 4) (.const (.int .i32 5)) rfl (k := 0) (rfl) rfl rfl Xf.out ((by decide)) ?_); intro w4 hB4 onl4; rw [E1.out] at hB4; have Xr := Lib.hid (Xr.out.only (by omega) onl4); have BB := Lib.hid (onl4.bel of BB.out); have Xf := Lib.hid hB4; clear onl4 hB4)
    | ((with_reducible refine flt_setP flt rfl (.tmp 6) (.const (.int .i32 (-3))) rfl (k := 2) (rfl) rfl rfl Xf.out ((by decide)) ?_); intro w5 hB5 onl5; rw [E2.out] at hB5; have Xr := Lib.hid (Xr.out.only (by omega) onl5); have BB := Lib.hid (onl5.bel of BB.out); have Xf := Lib.hid hB5; clear onl5 hB5)
    | (with_reducible refine flt_load (o := ⟨some 7, _, _, _, _, _⟩) flt rfl _ rfl rfl Xf.out ?_)
    | ((with_reducible refine flt_store flt rfl (.tmp 0) (.tmp 7) rfl rfl rfl Xr.out exF ?_); intro w6 hB6 onl6; have Xf := Lib.hid (Xf.out.only (by omega) onl6); have BB := Lib.hid (onl6.bel or BB.out); have Xr := Lib.hid hB6; clear onl6 hB6))
  exact bodyPost_ret (flt_res0 flt rfl _ _ rfl Xr.out) rfl ⟨rfl, BB.out⟩

set_option maxRecDepth 100000 in
set_option maxHeartbeats 1000000 in
theorem alive_any (w : World) : Calls Try.prog 19 #[] w fun e w' => e = .returned (.bool true) ∧ Below w.heap.size w w' := by
  have BB := Lib.hid (bel_self w)
  have C1 := Lib.hid (fun W => tnew_any 16 z16 W rfl)
  rw [show nwF 16 z16 = fA 9 z16 z16 from rfl, show nwE 16 = 0 from rfl] at C1
  have C2 := Lib.hid (fun W => tguess_9 z16 z16 W f16z z16_i32 z16_i32)
  rw [show gsV 9 z16 z16 = 0 by decide +kernel] at C2
  have C3 := Lib.hid (fun W => learn_any 9 z16 exP 7 W exF z16_i32 exP_i32)
  rw [show lrR 9 z16 exP 7 = exT from (if_pos (by decide)).trans ex_learn, show ifP 9 exP = exP from if_pos (by decide), show ifS 9 = 9 from if_pos (by decide), show ckF 9 = 0 from rfl] at C3
  have C4 := Lib.hid (fun W => resum_any 9 exT exP W exG exT_i32 exP_i32)
  rw [show sumF exT exP = 26 by decide +kernel] at C4
  generalize hT : exT = l at *
  have HL := Lib.hid (show l.length = 16 by rw [← hT]; rfl)
  have HG := Lib.hid (show F16 l exP from f16 HL.out rfl)
  have EB := Lib.hid (fun W => (ex_built W).trans (by rw [hT]))
  clear hT
  go_enter Try.func19, Try.ntmps19
  go_wp2_with (first
    | (with_reducible refine arr_bld0 (o := ⟨some 9, _, _, _, _, _⟩) flt rfl rfl ?_))
  refine (C1.out _).mono ?_
  rintro e w1 ⟨rfl, bel1⟩
  have BB := Lib.hid (bel_next BB.out bel1)
  clear bel1
  go_wp2_with (first
    | ((with_reducible refine flt_alloc (o := ⟨some 1, _, _, _, _, _⟩) flt rfl rfl ?_); intro w2 bf hbf hBf bel2; have of := Nat.le_trans BB.out.size hbf; have BB := Lib.hid (bel_next BB.out bel2); have Xf := Lib.hid hBf; clear bel2 hBf hbf)
    | ((with_reducible refine flt_store flt rfl (.tmp 1) (.tmp 11) rfl rfl rfl Xf.out f16z ?_); intro w3 hB3 onl3; have BB := Lib.hid (onl3.bel of BB.out); have Xf := Lib.hid hB3; clear onl3 hB3)
    | (with_reducible refine flt_load (o := ⟨some 14, _, _, _, _, _⟩) flt rfl _ rfl rfl Xf.out ?_))
  refine (C2.out _).mono ?_
  rintro e w4 ⟨rfl, bel4⟩
  have Xf := Lib.hid (Xf.out.next bel4)
  have BB := Lib.hid (bel_next BB.out bel4)
  clear bel4
  go_wp2_with fail
  refine (example_any _).mono ?_
  rintro e w5 ⟨rfl, bel5⟩
  have Xf := Lib.hid (Xf.out.next bel5)
  have BB := Lib.hid (bel_next BB.out bel5)
  clear bel5
  go_wp2_with fail
  refine (C3.out _).mono ?_
  rintro e w6 ⟨rfl, bel6⟩
  have Xf := Lib.hid (Xf.out.next bel6)
  have BB := Lib.hid (bel_next BB.out bel6)
  clear bel6
  go_wp2_with (first
    | ((with_reducible refine flt_alloc (o := ⟨some 5, _, _, _, _, _⟩) flt rfl rfl ?_); intro w7 bx hbx hBx bel7; have q_f_x : bf < bx := Nat.lt_of_lt_of_le Xf.out.lt hbx; have ox := Nat.le_trans BB.out.size hbx; have Xf := Lib.hid (Xf.out.next bel7); have BB := Lib.hid (bel_next BB.out bel7); have Xx := Lib.hid hBx; clear bel7 hBx hbx)
    | ((with_reducible refine flt_store flt rfl (.tmp 5) (.tmp 21) rfl rfl rfl Xx.out HG.out ?_); intro w8 hB8 onl8; have Xf := Lib.hid (Xf.out.only (by omega) onl8); have BB := Lib.hid (onl8.bel ox BB.out); have Xx := Lib.hid hB8; clear onl8 hB8)
    | (with_reducible refine wpl_build3 (d := some 23) (EB.out _) ?_)
    | ((with_reducible refine arr_alloc (o := ⟨some 7, _, _, _, _, _⟩) flt rfl rfl ?_); intro w9 bwant hbwant hBwant bel9; have q_f_want : bf < bwant := Nat.lt_of_lt_of_le Xf.out.lt hbwant; have q_x_want : bx < bwant := Nat.lt_of_lt_of_le Xx.out.lt hbwant; have owant := Nat.le_trans BB.out.size hbwant; have Xf := Lib.hid (Xf.out.next bel9); have Xx := Lib.hid (Xx.out.next bel9); have BB := Lib.hid (bel_next BB.out bel9); have Xwant := Lib.hid hBwant; clear bel9 hBwant hbwant)
    | ((with_reducible refine arr_store flt rfl (.tmp 7) (.tmp 23) rfl rfl rfl Xwant.out HL.out ?_); intro w10 hB10 onl10; have Xf := Lib.hid (Xf.out.only (by omega) onl10); have Xx := Lib.hid (Xx.out.only (by omega) onl10); have BB := Lib.hid (onl10.bel owant BB.out); have Xwant := Lib.hid hB10; have c0 := Xf.out.c0; clear onl10 hB10)
    | ((with_reducible refine wpl_guard (d := some 45) ?_ ?_); (next => go_simp); with_reducible refine flt_loadT (o := ⟨some 45, _, _, _, _, _⟩) flt rfl _ rfl rfl Xx.out ?_)
    | ((with_reducible refine wpl_guard (d := some 46) ?_ ?_); (next => go_simp); with_reducible refine arr_load (o := ⟨some 46, _, _, _, _, _⟩) flt rfl _ rfl rfl Xwant.out ?_)
    | ((with_reducible refine wpl_guard (d := some 47) ?_ ?_); (next => go_simp); with_reducible refine wpl_eq (o := ⟨some 47, _, _, _, _, _⟩) (arr_eqs flt eqgA _ HL.out _ _ _) rfl rfl rfl rfl ?_)
    | ((with_reducible refine wpl_guard (d := some 50) ?_ ?_); (next => go_simp); with_reducible refine flt_load (o := ⟨some 50, _, _, _, _, _⟩) flt rfl _ rfl rfl Xx.out ?_))
  refine (C4.out _).mono ?_
  rintro e w11 ⟨rfl, bel11⟩
  have Xf := Lib.hid (Xf.out.next bel11)
  have Xx := Lib.hid (Xx.out.next bel11)
  have Xwant := Lib.hid (Xwant.out.next bel11)
  have BB := Lib.hid (bel_next BB.out bel11)
  clear bel11
  go_wp2_with fail
  go_ret
  exact ⟨rfl, BB.out⟩
end Go.Proofs.Ytnhdhjcpbonfjaa

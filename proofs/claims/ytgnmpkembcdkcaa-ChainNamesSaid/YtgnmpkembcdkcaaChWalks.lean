/-
  What New, Check, Forward and Back of package chain compute. Conditions: numbers within their types.
-/
import Derived.Test.YtgnmpkembcdkcaaChPlain
import Derived.Test.YtgnmpkembcdkcaaHeldC
import Derived.Deep.DeepCutAuto
namespace Go.Proofs.Ytgnmpkembcdkcaa
open Go.RowKit
set_option linter.unusedVariables false

set_option maxHeartbeats 1000000 in
theorem cnew_ok (b : Int) (ts : List Int) (w : World) (hF : ts.length = 16) (h : nwE b = 0) :
    Calls Try.prog 10 #[.int .i64 b, .agg (aA ts)] w fun e w' => e = .returned (.tuple #[.agg (cA b 0 (nwS b) ts z16), .int .i64 0]) ∧ Below w.heap.size w w' := by
  have BB := Lib.hid (bel_self w)
  have CN := Lib.hid (fun W => tnew_any b ts W hF)
  rw [show nwF b ts = fA (nwS b) ts z16 from if_pos h, h] at CN
  have HF := Lib.hid (f16 hF z16_len)
  generalize nwS b = sh at *
  clear h
  go_enter Try.func10, Try.ntmps10
  go_wp2_with (first
    | ((with_reducible refine arr_box (o := ⟨some 3, _, _, _, _, _⟩) flt rfl _ rfl rfl hF ?_); intro w1 bt hbt hBt bel1; have ot := Nat.le_trans BB.out.size hbt; have BB := Lib.hid (bel_next BB.out bel1); have Xt := Lib.hid hBt; clear bel1 hBt hbt)
    | ((with_reducible refine chn_alloc (o := ⟨some 4, _, _, _, _, _⟩) chn rfl rfl ?_); intro w2 br hbr hBr bel2; have q_t_r : bt < br := Nat.lt_of_lt_of_le Xt.out.lt hbr; have or := Nat.le_trans BB.out.size hbr; have Xt := Lib.hid (Xt.out.next bel2); have BB := Lib.hid (bel_next BB.out bel2); have Xr := Lib.hid hBr; clear bel2 hBr hbr)
    | (with_reducible refine arr_load (o := ⟨some 10, _, _, _, _, _⟩) flt rfl _ rfl rfl Xt.out ?_))
  refine (CN.out _).mono ?_
  rintro e w3 ⟨rfl, bel3⟩
  have Xt := Lib.hid (Xt.out.next bel3)
  have Xr := Lib.hid (Xr.out.next bel3)
  have BB := Lib.hid (bel_next BB.out bel3)
  clear bel3
  go_wp2_with (first
    | ((with_reducible refine flt_alloc (o := ⟨some 6, _, _, _, _, _⟩) flt rfl rfl ?_); intro w4 bf hbf hBf bel4; have q_t_f : bt < bf := Nat.lt_of_lt_of_le Xt.out.lt hbf; have q_r_f : br < bf := Nat.lt_of_lt_of_le Xr.out.lt hbf; have of := Nat.le_trans BB.out.size hbf; have Xt := Lib.hid (Xt.out.next bel4); have Xr := Lib.hid (Xr.out.next bel4); have BB := Lib.hid (bel_next BB.out bel4); have Xf := Lib.hid hBf; clear bel4 hBf hbf)
    | ((with_reducible refine flt_store flt rfl (.tmp 6) (.tmp 12) rfl rfl rfl Xf.out HF.out ?_); intro w5 hB5 onl5; have Xt := Lib.hid (Xt.out.only (by omega) onl5); have Xr := Lib.hid (Xr.out.only (by omega) onl5); have BB := Lib.hid (onl5.bel of BB.out); have Xf := Lib.hid hB5; clear onl5 hB5)
    | (with_reducible refine flt_load (o := ⟨some 19, _, _, _, _, _⟩) flt rfl _ rfl rfl Xf.out ?_)
    | (with_reducible refine chn_bld2 (o := ⟨some 20, _, _, _, _, _⟩) chn rfl _ _ rfl rfl rfl HF.out ?_)
    | ((with_reducible refine chn_store chn rfl (.tmp 4) (.tmp 20) rfl rfl rfl Xr.out HF.out ?_); intro w6 hB6 onl6; have Xt := Lib.hid (Xt.out.only (by omega) onl6); have Xf := Lib.hid (Xf.out.only (by omega) onl6); have BB := Lib.hid (onl6.bel or BB.out); have Xr := Lib.hid hB6; clear onl6 hB6))
  exact bodyPost_ret (chn_res1 chn rfl _ _ rfl Xr.out) rfl ⟨rfl, BB.out⟩
set_option maxHeartbeats 1000000 in
theorem cnew_bad (b : Int) (ts : List Int) (w : World) (hF : ts.length = 16) (h : nwE b ≠ 0) :
    Calls Try.prog 10 #[.int .i64 b, .agg (aA ts)] w fun e w' => e = .returned (.tuple #[.agg (cA 0 0 0 z16 z16), .int .i64 2]) ∧ Below w.heap.size w w' := by
  have BB := Lib.hid (bel_self w)
  have CN := Lib.hid (fun W => tnew_any b ts W hF)
  rw [show nwF b ts = fA 0 z16 z16 from if_neg h, (nwE_bad h).1] at CN
  clear h
  go_enter Try.func10, Try.ntmps10
  go_wp2_with (first
    | ((with_reducible refine arr_box (o := ⟨some 3, _, _, _, _, _⟩) flt rfl _ rfl rfl hF ?_); intro w1 bt hbt hBt bel1; have ot := Nat.le_trans BB.out.size hbt; have BB := Lib.hid (bel_next BB.out bel1); have Xt := Lib.hid hBt; clear bel1 hBt hbt)
    | ((with_reducible refine chn_alloc (o := ⟨some 4, _, _, _, _, _⟩) chn rfl rfl ?_); intro w2 br hbr hBr bel2; have q_t_r : bt < br := Nat.lt_of_lt_of_le Xt.out.lt hbr; have or := Nat.le_trans BB.out.size hbr; have Xt := Lib.hid (Xt.out.next bel2); have BB := Lib.hid (bel_next BB.out bel2); have Xr := Lib.hid hBr; clear bel2 hBr hbr)
    | (with_reducible refine arr_load (o := ⟨some 10, _, _, _, _, _⟩) flt rfl _ rfl rfl Xt.out ?_))
  refine (CN.out _).mono ?_
  rintro e w3 ⟨rfl, bel3⟩
  have Xt := Lib.hid (Xt.out.next bel3)
  have Xr := Lib.hid (Xr.out.next bel3)
  have BB := Lib.hid (bel_next BB.out bel3)
  clear bel3
  go_wp2_with (first
    | ((with_reducible refine flt_alloc (o := ⟨some 6, _, _, _, _, _⟩) flt rfl rfl ?_); intro w4 bf hbf hBf bel4; have q_t_f : bt < bf := Nat.lt_of_lt_of_le Xt.out.lt hbf; have q_r_f : br < bf := Nat.lt_of_lt_of_le Xr.out.lt hbf; have of := Nat.le_trans BB.out.size hbf; have Xt := Lib.hid (Xt.out.next bel4); have Xr := Lib.hid (Xr.out.next bel4); have BB := Lib.hid (bel_next BB.out bel4); have Xf := Lib.hid hBf; clear bel4 hBf hbf)
    | ((with_reducible refine flt_store flt rfl (.tmp 6) (.tmp 12) rfl rfl rfl Xf.out f16z ?_); intro w5 hB5 onl5; have Xt := Lib.hid (Xt.out.only (by omega) onl5); have Xr := Lib.hid (Xr.out.only (by omega) onl5); have BB := Lib.hid (onl5.bel of BB.out); have Xf := Lib.hid hB5; clear onl5 hB5)
    | (with_reducible refine chn_bld0 (o := ⟨some 16, _, _, _, _, _⟩) chn rfl rfl ?_)
    | ((with_reducible refine chn_store chn rfl (.tmp 4) (.tmp 16) rfl rfl rfl Xr.out f16z ?_); intro w6 hB6 onl6; have Xt := Lib.hid (Xt.out.only (by omega) onl6); have Xf := Lib.hid (Xf.out.only (by omega) onl6); have BB := Lib.hid (onl6.bel or BB.out); have Xr := Lib.hid hB6; clear onl6 hB6))
  exact bodyPost_ret (chn_res1 chn rfl _ _ rfl Xr.out) rfl ⟨rfl, BB.out⟩

set_option maxHeartbeats 1000000 in
theorem ccheck_any (bt la sh : Int) (ts ps : List Int) (w : World) (hF : F16 ts ps) :
    Calls Try.prog 16 #[.agg (cA bt la sh ts ps)] w fun e w' => e = .returned (.int .i64 (cnC bt sh)) ∧ Below w.heap.size w w' := by
  have BB := Lib.hid (bel_self w)
  have CN := Lib.hid (fun W => tnew_any bt ts W hF.1)
  have HF := Lib.hid (f16 hF.1 z16_len)
  by_cases h : nwE bt = 0
  · rw [show nwF bt ts = fA (nwS bt) ts z16 from if_pos h, h] at CN
    by_cases h2 : nwS bt = sh
    · have E := Lib.hid (show cnC bt sh = 0 from if_pos ⟨h, h2⟩)
      rw [h2] at CN
      have hq : (sh != sh) = false := by simp
      clear h h2
      go_enter Try.func16, Try.ntmps16
      go_wp2_with (first
        | ((with_reducible refine chn_box (o := ⟨some 1, _, _, _, _, _⟩) chn rfl _ rfl rfl hF ?_); intro w1 bc hbc hBc bel1; have oc := Nat.le_trans BB.out.size hbc; have BB := Lib.hid (bel_next BB.out bel1); have Xc := Lib.hid hBc; have c0 := Xc.out.c0; clear bel1 hBc hbc)
        | (with_reducible refine chn_loadT (o := ⟨some 10, _, _, _, _, _⟩) chn rfl _ rfl rfl Xc.out ?_))
      refine (CN.out _).mono ?_
      rintro e w2 ⟨rfl, bel2⟩
      have Xc := Lib.hid (Xc.out.next bel2)
      have BB := Lib.hid (bel_next BB.out bel2)
      clear bel2
      clear c0
      have c2 := Xc.out.c2
      go_wp2_with (first
        | ((with_reducible refine flt_alloc (o := ⟨some 3, _, _, _, _, _⟩) flt rfl rfl ?_); intro w3 bf hbf hBf bel3; have q_c_f : bc < bf := Nat.lt_of_lt_of_le Xc.out.lt hbf; have of := Nat.le_trans BB.out.size hbf; have Xc := Lib.hid (Xc.out.next bel3); have BB := Lib.hid (bel_next BB.out bel3); have Xf := Lib.hid hBf; have c2 := Xc.out.c2; clear bel3 hBf hbf)
        | ((with_reducible refine flt_store flt rfl (.tmp 3) (.tmp 12) rfl rfl rfl Xf.out HF.out ?_); intro w4 hB4 onl4; have Xc := Lib.hid (Xc.out.only (by omega) onl4); have BB := Lib.hid (onl4.bel of BB.out); have Xf := Lib.hid hB4; have c2 := Xc.out.c2; have f0 := Xf.out.c0; clear onl4 hB4))
      go_ret
      exact ⟨by rw [E.out]; rfl, BB.out⟩
    · have E := Lib.hid (show cnC bt sh = 8 from if_neg (fun hh => h2 hh.2))
      have hq : (nwS bt != sh) = true := by simp; exact h2
      generalize nwS bt = s2 at *
      clear h h2
      go_enter Try.func16, Try.ntmps16
      go_wp2_with (first
        | ((with_reducible refine chn_box (o := ⟨some 1, _, _, _, _, _⟩) chn rfl _ rfl rfl hF ?_); intro w1 bc hbc hBc bel1; have oc := Nat.le_trans BB.out.size hbc; have BB := Lib.hid (bel_next BB.out bel1); have Xc := Lib.hid hBc; have c0 := Xc.out.c0; clear bel1 hBc hbc)
        | (with_reducible refine chn_loadT (o := ⟨some 10, _, _, _, _, _⟩) chn rfl _ rfl rfl Xc.out ?_))
      refine (CN.out _).mono ?_
      rintro e w2 ⟨rfl, bel2⟩
      have Xc := Lib.hid (Xc.out.next bel2)
      have BB := Lib.hid (bel_next BB.out bel2)
      clear bel2
      clear c0
      have c2 := Xc.out.c2
      go_wp2_with (first
        | ((with_reducible refine flt_alloc (o := ⟨some 3, _, _, _, _, _⟩) flt rfl rfl ?_); intro w3 bf hbf hBf bel3; have q_c_f : bc < bf := Nat.lt_of_lt_of_le Xc.out.lt hbf; have of := Nat.le_trans BB.out.size hbf; have Xc := Lib.hid (Xc.out.next bel3); have BB := Lib.hid (bel_next BB.out bel3); have Xf := Lib.hid hBf; have c2 := Xc.out.c2; clear bel3 hBf hbf)
        | ((with_reducible refine flt_store flt rfl (.tmp 3) (.tmp 12) rfl rfl rfl Xf.out HF.out ?_); intro w4 hB4 onl4; have Xc := Lib.hid (Xc.out.only (by omega) onl4); have BB := Lib.hid (onl4.bel of BB.out); have Xf := Lib.hid hB4; have c2 := Xc.out.c2; have f0 := Xf.out.c0; clear onl4 hB4))
      go_ret
      exact ⟨by rw [E.out]; rfl, BB.out⟩
  · have E := Lib.hid (show cnC bt sh = 8 from if_neg (fun hh => h hh.1))
    rw [show nwF bt ts = fA 0 z16 z16 from if_neg h, (nwE_bad h).1] at CN
    clear h
    go_enter Try.func16, Try.ntmps16
    go_wp2_with (first
      | ((with_reducible refine chn_box (o := ⟨some 1, _, _, _, _, _⟩) chn rfl _ rfl rfl hF ?_); intro w1 bc hbc hBc bel1; have oc := Nat.le_trans BB.out.size hbc; have BB := Lib.hid (bel_next BB.out bel1); have Xc := Lib.hid hBc; have c0 := Xc.out.c0; clear bel1 hBc hbc)
      | (with_reducible refine chn_loadT (o := ⟨some 10, _, _, _, _, _⟩) chn rfl _ rfl rfl Xc.out ?_))
    refine (CN.out _).mono ?_
    rintro e w2 ⟨rfl, bel2⟩
    have Xc := Lib.hid (Xc.out.next bel2)
    have BB := Lib.hid (bel_next BB.out bel2)
    clear bel2
    clear c0
    have c2 := Xc.out.c2
    go_wp2_with (first
      | ((with_reducible refine flt_alloc (o := ⟨some 3, _, _, _, _, _⟩) flt rfl rfl ?_); intro w3 bf hbf hBf bel3; have q_c_f : bc < bf := Nat.lt_of_lt_of_le Xc.out.lt hbf; have of := Nat.le_trans BB.out.size hbf; have Xc := Lib.hid (Xc.out.next bel3); have BB := Lib.hid (bel_next BB.out bel3); have Xf := Lib.hid hBf; have c2 := Xc.out.c2; clear bel3 hBf hbf)
      | ((with_reducible refine flt_store flt rfl (.tmp 3) (.tmp 12) rfl rfl rfl Xf.out f16z ?_); intro w4 hB4 onl4; have Xc := Lib.hid (Xc.out.only (by omega) onl4); have BB := Lib.hid (onl4.bel of BB.out); have Xf := Lib.hid hB4; have c2 := Xc.out.c2; have f0 := Xf.out.c0; clear onl4 hB4))
    go_ret
    exact ⟨by rw [E.out]; rfl, BB.out⟩

set_option maxHeartbeats 1000000 in
theorem cforward_bad (bt la sh x : Int) (ts ps : List Int) (w : World) (hF : F16 ts ps) (h : cnC bt sh ≠ 0) :
    Calls Try.prog 12 #[.agg (cA bt la sh ts ps), .int .i32 x] w fun e w' => e = .returned (.tuple #[.int .i32 0, .agg (cA 0 0 0 z16 z16), .int .i64 8]) ∧ Below w.heap.size w w' := by
  have BB := Lib.hid (bel_self w)
  have CK := Lib.hid (fun W => ccheck_any bt la sh ts ps W hF)
  rw [cnC_bad h] at CK
  clear h
  go_enter Try.func12, Try.ntmps12
  go_wp2_with (first
    | ((with_reducible refine chn_box (o := ⟨some 2, _, _, _, _, _⟩) chn rfl _ rfl rfl hF ?_); intro w1 bc hbc hBc bel1; have oc := Nat.le_trans BB.out.size hbc; have BB := Lib.hid (bel_next BB.out bel1); have Xc := Lib.hid hBc; clear bel1 hBc hbc)
    | ((with_reducible refine chn_alloc (o := ⟨some 5, _, _, _, _, _⟩) chn rfl rfl ?_); intro w2 br hbr hBr bel2; have q_c_r : bc < br := Nat.lt_of_lt_of_le Xc.out.lt hbr; have or := Nat.le_trans BB.out.size hbr; have Xc := Lib.hid (Xc.out.next bel2); have BB := Lib.hid (bel_next BB.out bel2); have Xr := Lib.hid hBr; clear bel2 hBr hbr)
    | (with_reducible refine chn_load (o := ⟨some 13, _, _, _, _, _⟩) chn rfl _ rfl rfl Xc.out ?_))
  refine (CK.out _).mono ?_
  rintro e w3 ⟨rfl, bel3⟩
  have Xc := Lib.hid (Xc.out.next bel3)
  have Xr := Lib.hid (Xr.out.next bel3)
  have BB := Lib.hid (bel_next BB.out bel3)
  clear bel3
  go_wp2_with (first
    | (with_reducible refine chn_bld0 (o := ⟨some 17, _, _, _, _, _⟩) chn rfl rfl ?_)
    | ((with_reducible refine chn_store chn rfl (.tmp 5) (.tmp 17) rfl rfl rfl Xr.out f16z ?_); intro w4 hB4 onl4; have Xc := Lib.hid (Xc.out.only (by omega) onl4); have BB := Lib.hid (onl4.bel or BB.out); have Xr := Lib.hid hB4; clear onl4 hB4))
  exact bodyPost_ret (chn_res2 chn rfl _ _ rfl Xr.out) rfl ⟨rfl, BB.out⟩
set_option maxHeartbeats 1000000 in
theorem cback_bad (bt la sh x : Int) (ts ps : List Int) (w : World) (hF : F16 ts ps) (h : cnC bt sh ≠ 0) :
    Calls Try.prog 14 #[.agg (cA bt la sh ts ps), .int .i32 x] w fun e w' => e = .returned (.tuple #[.int .i32 0, .agg (cA 0 0 0 z16 z16), .int .i64 8]) ∧ Below w.heap.size w w' := by
  have BB := Lib.hid (bel_self w)
  have CK := Lib.hid (fun W => ccheck_any bt la sh ts ps W hF)
  rw [cnC_bad h] at CK
  clear h
  go_enter Try.func14, Try.ntmps14
  go_wp2_with (first
    | ((with_reducible refine chn_box (o := ⟨some 2, _, _, _, _, _⟩) chn rfl _ rfl rfl hF ?_); intro w1 bc hbc hBc bel1; have oc := Nat.le_trans BB.out.size hbc; have BB := Lib.hid (bel_next BB.out bel1); have Xc := Lib.hid hBc; clear bel1 hBc hbc)
    | ((with_reducible refine chn_alloc (o := ⟨some 5, _, _, _, _, _⟩) chn rfl rfl ?_); intro w2 br hbr hBr bel2; have q_c_r : bc < br := Nat.lt_of_lt_of_le Xc.out.lt hbr; have or := Nat.le_trans BB.out.size hbr; have Xc := Lib.hid (Xc.out.next bel2); have BB := Lib.hid (bel_next BB.out bel2); have Xr := Lib.hid hBr; clear bel2 hBr hbr)
    | (with_reducible refine chn_load (o := ⟨some 13, _, _, _, _, _⟩) chn rfl _ rfl rfl Xc.out ?_))
  refine (CK.out _).mono ?_
  rintro e w3 ⟨rfl, bel3⟩
  have Xc := Lib.hid (Xc.out.next bel3)
  have Xr := Lib.hid (Xr.out.next bel3)
  have BB := Lib.hid (bel_next BB.out bel3)
  clear bel3
  go_wp2_with (first
    | (with_reducible refine chn_bld0 (o := ⟨some 17, _, _, _, _, _⟩) chn rfl rfl ?_)
    | ((with_reducible refine chn_store chn rfl (.tmp 5) (.tmp 17) rfl rfl rfl Xr.out f16z ?_); intro w4 hB4 onl4; have Xc := Lib.hid (Xc.out.only (by omega) onl4); have BB := Lib.hid (onl4.bel or BB.out); have Xr := Lib.hid hB4; clear onl4 hB4))
  exact bodyPost_ret (chn_res2 chn rfl _ _ rfl Xr.out) rfl ⟨rfl, BB.out⟩
set_option maxHeartbeats 2000000 in
theorem cforward_ok (bt sh : Int) (c : CS) (x : Int) (w : World) (hv : VC c) (h : cnC bt sh = 0) (hb0 : -9223372036854775808 ≤ bt) (hb1 : bt ≤ 9223372036854775807) (hx : G32 x) :
    Calls Try.prog 12 #[.agg (cA bt c.1 sh c.2.1 c.2.2), .int .i32 x] w fun e w' => e = .returned (.tuple #[.int .i32 (cO bt sh c x), .agg (cA bt x sh (cN bt sh c x).2.1 (cN bt sh c x).2.2), .int .i64 0]) ∧ Below w.heap.size w w' := by
  have BB := Lib.hid (bel_self w)
  have hF := hv.2.1
  obtain ⟨_, _, h3, h4, _⟩ := cnC_ok h
  have CK := Lib.hid (fun W => ccheck_any bt c.1 sh c.2.1 c.2.2 W hF)
  rw [h] at CK
  have CG := Lib.hid (fun W => Guess_any bt c.1 W hb0 hb1 hv.1.1 hv.1.2)
  rw [h4] at CG
  have CF := Lib.hid (fun W => lforward_ok sh c.2 (wrap32 (x - guR bt c.1)) W hv.2 h3 (wrap32_bd _))
  have hN := cN_v bt sh c x hv hx
  have HN := Lib.hid hN.2.1
  have hg := guR_bd (bt := bt) hv.1
  rw [show oF sh c.2 (wrap32 (x - guR bt c.1)) = cO bt sh c x from rfl, show (nF sh c.2 (wrap32 (x - guR bt c.1))).1 = (cN bt sh c x).2.1 from rfl, show (nF sh c.2 (wrap32 (x - guR bt c.1))).2 = (cN bt sh c x).2.2 from rfl] at CF
  generalize (cN bt sh c x).2.1 = n1 at *
  generalize (cN bt sh c x).2.2 = n2 at *
  generalize cO bt sh c x = y at *
  generalize guR bt c.1 = g at *
  generalize c.1 = la at *
  generalize c.2.1 = ts at *
  generalize c.2.2 = ps at *
  obtain ⟨x0, x1⟩ := hx
  obtain ⟨g0, g1⟩ := hg
  clear h hv hN h3 h4
  go_enter Try.func12, Try.ntmps12
  go_wp2_with (first
    | ((with_reducible refine chn_box (o := ⟨some 2, _, _, _, _, _⟩) chn rfl _ rfl rfl hF ?_); intro w1 bc hbc hBc bel1; have oc := Nat.le_trans BB.out.size hbc; have BB := Lib.hid (bel_next BB.out bel1); have Xc := Lib.hid hBc; clear bel1 hBc hbc)
    | ((with_reducible refine chn_alloc (o := ⟨some 5, _, _, _, _, _⟩) chn rfl rfl ?_); intro w2 br hbr hBr bel2; have q_c_r : bc < br := Nat.lt_of_lt_of_le Xc.out.lt hbr; have or := Nat.le_trans BB.out.size hbr; have Xc := Lib.hid (Xc.out.next bel2); have BB := Lib.hid (bel_next BB.out bel2); have Xr := Lib.hid hBr; clear bel2 hBr hbr)
    | (with_reducible refine chn_load (o := ⟨some 13, _, _, _, _, _⟩) chn rfl _ rfl rfl Xc.out ?_))
  refine (CK.out _).mono ?_
  rintro e w3 ⟨rfl, bel3⟩
  have Xc := Lib.hid (Xc.out.next bel3)
  have Xr := Lib.hid (Xr.out.next bel3)
  have BB := Lib.hid (bel_next BB.out bel3)
  clear bel3
  have c0 := Xc.out.c0
  have c1 := Xc.out.c1
  go_wp2_with fail
  refine (CG.out _).mono ?_
  rintro e w' ⟨rfl, rfl⟩
  clear c0 c1
  go_wp2_with (first
    | (with_reducible refine chn_loadF (o := ⟨some 29, _, _, _, _, _⟩) chn rfl _ rfl rfl Xc.out ?_))
  refine (CF.out _).mono ?_
  rintro e w4 ⟨rfl, bel4⟩
  have Xc := Lib.hid (Xc.out.next bel4)
  have Xr := Lib.hid (Xr.out.next bel4)
  have BB := Lib.hid (bel_next BB.out bel4)
  clear bel4
  go_upto_region 6 with (first
    | ((with_reducible refine flt_alloc (o := ⟨some 11, _, _, _, _, _⟩) flt rfl rfl ?_); intro w5 bf hbf hBf bel5; have q_c_f : bc < bf := Nat.lt_of_lt_of_le Xc.out.lt hbf; have q_r_f : br < bf := Nat.lt_of_lt_of_le Xr.out.lt hbf; have of := Nat.le_trans BB.out.size hbf; have Xc := Lib.hid (Xc.out.next bel5); have Xr := Lib.hid (Xr.out.next bel5); have BB := Lib.hid (bel_next BB.out bel5); have Xf := Lib.hid hBf; clear bel5 hBf hbf)
    | ((with_reducible refine flt_store flt rfl (.tmp 11) (.tmp 35) rfl rfl rfl Xf.out HN.out ?_); intro w6 hB6 onl6; have Xc := Lib.hid (Xc.out.only (by omega) onl6); have Xr := Lib.hid (Xr.out.only (by omega) onl6); have BB := Lib.hid (onl6.bel of BB.out); have Xf := Lib.hid hB6; clear onl6 hB6))
  obtain ⟨wd, hwd⟩ : ∃ wd : World, wd = { w6 with drawn := w6.drawn + 1 } := ⟨_, rfl⟩
  have S0 : CB wd bc 26 bt la sh ts ps ∧ FB wd bf 24 sh n1 n2 := by rw [hwd]; exact ⟨Xc.out, Xf.out⟩
  have Xr : Hid (CB wd br 26 0 0 0 z16 z16) := by rw [hwd]; exact Xr
  have BB : Hid (Below w.heap.size w wd) := by rw [hwd]; exact BB.out.drew
  refine h_begin (S := fun W => CB W bc 26 bt la sh ts ps ∧ FB W bf 24 sh n1 n2) (by kernel_rfl) rfl ?_
  rw [show ({ w6 with drawn := w6.drawn + 1 } : World) = wd from hwd.symm]
  clear hwd
  refine h_take 0 rfl (by kernel_rfl) (by kernel_rfl) (by kernel_rfl) (fun _ _ _ h => h) (y_pure rfl (fun W hW => by go_simp <;> rfl)) S0 rfl (by go_simp <;> rfl) ?_
  refine h_take 1 rfl (by kernel_rfl) (by kernel_rfl) (by kernel_rfl) (fun _ _ _ h => h) (y_pure rfl (fun W hW => by go_simp <;> rfl)) S0 rfl (by go_simp <;> rfl) ?_
  refine h_take 2 rfl (by kernel_rfl) (by kernel_rfl) (by kernel_rfl) (fun _ _ _ h => h) (y_pure rfl (fun W hW => by have k := hW.1.c0; go_simp <;> rfl)) S0 rfl (by go_simp <;> rfl) ?_
  refine h_take 3 rfl (by kernel_rfl) (by kernel_rfl) (by kernel_rfl) (fun _ _ _ h => h) (y_pure rfl (fun W hW => by go_simp <;> rfl)) S0 rfl (by go_simp <;> rfl) ?_
  refine h_take 4 rfl (by kernel_rfl) (by kernel_rfl) (by kernel_rfl) (fun _ _ _ h => h) (y_load flt rfl _ rfl rfl (fun W hW => hW.2)) S0 rfl (by go_simp <;> rfl) ?_
  refine h_take 5 rfl (by kernel_rfl) (by kernel_rfl) (by kernel_rfl) (fun _ _ _ h => h) (y_bldC3 chn rfl _ _ _ rfl rfl rfl rfl HN.out) S0 rfl (by go_simp <;> rfl) ?_
  refine h_take 6 rfl (by kernel_rfl) (by kernel_rfl) (by kernel_rfl) (fun _ _ _ h => h) (y_pure rfl (fun W hW => by go_simp <;> rfl)) S0 rfl (by go_simp <;> rfl) ?_
  refine h_take 7 rfl (by kernel_rfl) (by kernel_rfl) (by kernel_rfl) (fun _ _ _ h => h) (y_pure rfl (fun W hW => by go_simp <;> rfl)) S0 rfl (by go_simp <;> rfl) ?_
  refine h_one 8 (by kernel_rfl) rfl rfl rfl ?_
  refine wp_chn_store chn _ _ rfl rfl rfl Xr.out HN.out (by go_simp <;> rfl) ?_
  intro w9 hB9 onl9
  have S1 := And.intro (S0.1.only (by omega) onl9) (S0.2.only (by omega) onl9)
  have BB := Lib.hid (onl9.bel or BB.out)
  clear onl9
  refine ⟨S1, ?_⟩
  refine h_take 9 rfl (by kernel_rfl) (by kernel_rfl) (by kernel_rfl) (fun _ _ _ h => h) (y_pure rfl (fun W hW => by go_simp <;> rfl)) S1 rfl (by go_simp <;> rfl) ?_
  refine h_done (by kernel_rfl) ?_
  go_wp2_with fail
  exact bodyPost_ret (chn_res2 chn rfl _ _ rfl hB9) rfl ⟨rfl, BB.out⟩
set_option maxHeartbeats 2000000 in
theorem cback_ok (bt sh : Int) (c : CS) (x : Int) (w : World) (hv : VC c) (h : cnC bt sh = 0) (hb0 : -9223372036854775808 ≤ bt) (hb1 : bt ≤ 9223372036854775807) (hx : G32 x) :
    Calls Try.prog 14 #[.agg (cA bt c.1 sh c.2.1 c.2.2), .int .i32 x] w fun e w' => e = .returned (.tuple #[.int .i32 (cP bt sh c x), .agg (cA bt (cM bt sh c x).1 sh (cM bt sh c x).2.1 (cM bt sh c x).2.2), .int .i64 0]) ∧ Below w.heap.size w w' := by
  have BB := Lib.hid (bel_self w)
  have hF := hv.2.1
  obtain ⟨_, _, h3, h4, _⟩ := cnC_ok h
  have CK := Lib.hid (fun W => ccheck_any bt c.1 sh c.2.1 c.2.2 W hF)
  rw [h] at CK
  have CG := Lib.hid (fun W => Guess_any bt c.1 W hb0 hb1 hv.1.1 hv.1.2)
  rw [h4] at CG
  have CF := Lib.hid (fun W => lback_ok sh c.2 x W hv.2 h3 hx)
  have hN := cM_v bt sh c x hv
  have HN := Lib.hid hN.2.1
  have hg := guR_bd (bt := bt) hv.1
  have hz := oB_bd sh c.2 x
  rw [show (nBk sh c.2 x).1 = (cM bt sh c x).2.1 from rfl, show (nBk sh c.2 x).2 = (cM bt sh c x).2.2 from rfl] at CF
  rw [show (cM bt sh c x).1 = wrap32 (oB sh c.2 x + guR bt c.1) from rfl, show cP bt sh c x = wrap32 (oB sh c.2 x + guR bt c.1) from rfl]
  generalize (cM bt sh c x).2.1 = n1 at *
  generalize (cM bt sh c x).2.2 = n2 at *
  generalize oB sh c.2 x = z at *
  generalize guR bt c.1 = g at *
  generalize c.1 = la at *
  generalize c.2.1 = ts at *
  generalize c.2.2 = ps at *
  obtain ⟨x0, x1⟩ := hx
  obtain ⟨g0, g1⟩ := hg
  obtain ⟨z0, z1⟩ := hz
  clear h hv hN h3 h4
  go_enter Try.func14, Try.ntmps14
  go_wp2_with (first
    | ((with_reducible refine chn_box (o := ⟨some 2, _, _, _, _, _⟩) chn rfl _ rfl rfl hF ?_); intro w1 bc hbc hBc bel1; have oc := Nat.le_trans BB.out.size hbc; have BB := Lib.hid (bel_next BB.out bel1); have Xc := Lib.hid hBc; clear bel1 hBc hbc)
    | ((with_reducible refine chn_alloc (o := ⟨some 5, _, _, _, _, _⟩) chn rfl rfl ?_); intro w2 br hbr hBr bel2; have q_c_r : bc < br := Nat.lt_of_lt_of_le Xc.out.lt hbr; have or := Nat.le_trans BB.out.size hbr; have Xc := Lib.hid (Xc.out.next bel2); have BB := Lib.hid (bel_next BB.out bel2); have Xr := Lib.hid hBr; clear bel2 hBr hbr)
    | (with_reducible refine chn_load (o := ⟨some 13, _, _, _, _, _⟩) chn rfl _ rfl rfl Xc.out ?_))
  refine (CK.out _).mono ?_
  rintro e w3 ⟨rfl, bel3⟩
  have Xc := Lib.hid (Xc.out.next bel3)
  have Xr := Lib.hid (Xr.out.next bel3)
  have BB := Lib.hid (bel_next BB.out bel3)
  clear bel3
  have c0 := Xc.out.c0
  have c1 := Xc.out.c1
  go_wp2_with fail
  refine (CG.out _).mono ?_
  rintro e w' ⟨rfl, rfl⟩
  clear c0 c1
  go_wp2_with (first
    | (with_reducible refine chn_loadF (o := ⟨some 29, _, _, _, _, _⟩) chn rfl _ rfl rfl Xc.out ?_))
  refine (CF.out _).mono ?_
  rintro e w4 ⟨rfl, bel4⟩
  have Xc := Lib.hid (Xc.out.next bel4)
  have Xr := Lib.hid (Xr.out.next bel4)
  have BB := Lib.hid (bel_next BB.out bel4)
  clear bel4
  go_upto_region 6 with (first
    | ((with_reducible refine flt_alloc (o := ⟨some 11, _, _, _, _, _⟩) flt rfl rfl ?_); intro w5 bf hbf hBf bel5; have q_c_f : bc < bf := Nat.lt_of_lt_of_le Xc.out.lt hbf; have q_r_f : br < bf := Nat.lt_of_lt_of_le Xr.out.lt hbf; have of := Nat.le_trans BB.out.size hbf; have Xc := Lib.hid (Xc.out.next bel5); have Xr := Lib.hid (Xr.out.next bel5); have BB := Lib.hid (bel_next BB.out bel5); have Xf := Lib.hid hBf; clear bel5 hBf hbf)
    | ((with_reducible refine flt_store flt rfl (.tmp 11) (.tmp 33) rfl rfl rfl Xf.out HN.out ?_); intro w6 hB6 onl6; have Xc := Lib.hid (Xc.out.only (by omega) onl6); have Xr := Lib.hid (Xr.out.only (by omega) onl6); have BB := Lib.hid (onl6.bel of BB.out); have Xf := Lib.hid hB6; clear onl6 hB6))
  obtain ⟨wd, hwd⟩ : ∃ wd : World, wd = { w6 with drawn := w6.drawn + 1 } := ⟨_, rfl⟩
  have S0 : CB wd bc 26 bt la sh ts ps ∧ FB wd bf 24 sh n1 n2 := by rw [hwd]; exact ⟨Xc.out, Xf.out⟩
  have Xr : Hid (CB wd br 26 0 0 0 z16 z16) := by rw [hwd]; exact Xr
  have BB : Hid (Below w.heap.size w wd) := by rw [hwd]; exact BB.out.drew
  refine h_begin (S := fun W => CB W bc 26 bt la sh ts ps ∧ FB W bf 24 sh n1 n2) (by kernel_rfl) rfl ?_
  rw [show ({ w6 with drawn := w6.drawn + 1 } : World) = wd from hwd.symm]
  clear hwd
  refine h_take 0 rfl (by kernel_rfl) (by kernel_rfl) (by kernel_rfl) (fun _ _ _ h => h) (y_pure rfl (fun W hW => by go_simp <;> rfl)) S0 rfl (by go_simp <;> rfl) ?_
  refine h_take 1 rfl (by kernel_rfl) (by kernel_rfl) (by kernel_rfl) (fun _ _ _ h => h) (y_pure rfl (fun W hW => by go_simp <;> rfl)) S0 rfl (by go_simp <;> rfl) ?_
  refine h_take 2 rfl (by kernel_rfl) (by kernel_rfl) (by kernel_rfl) (fun _ _ _ h => h) (y_pure rfl (fun W hW => by go_simp <;> rfl)) S0 rfl (by go_simp <;> rfl) ?_
  refine h_take 3 rfl (by kernel_rfl) (by kernel_rfl) (by kernel_rfl) (fun _ _ _ h => h) (y_pure rfl (fun W hW => by go_simp <;> rfl)) S0 rfl (by go_simp <;> rfl) ?_
  refine h_take 4 rfl (by kernel_rfl) (by kernel_rfl) (by kernel_rfl) (fun _ _ _ h => h) (y_pure rfl (fun W hW => by have k := hW.1.c0; go_simp <;> rfl)) S0 rfl (by go_simp <;> rfl) ?_
  refine h_take 5 rfl (by kernel_rfl) (by kernel_rfl) (by kernel_rfl) (fun _ _ _ h => h) (y_pure rfl (fun W hW => by go_simp <;> rfl)) S0 rfl (by go_simp <;> rfl) ?_
  refine h_take 6 rfl (by kernel_rfl) (by kernel_rfl) (by kernel_rfl) (fun _ _ _ h => h) (y_pure rfl (fun W hW => by go_simp <;> rfl)) S0 rfl (by go_simp <;> rfl) ?_
  refine h_take 7 rfl (by kernel_rfl) (by kernel_rfl) (by kernel_rfl) (fun _ _ _ h => h) (y_pure rfl (fun W hW => by go_simp <;> rfl)) S0 rfl (by go_simp <;> rfl) ?_
  refine h_take 8 rfl (by kernel_rfl) (by kernel_rfl) (by kernel_rfl) (fun _ _ _ h => h) (y_load flt rfl _ rfl rfl (fun W hW => hW.2)) S0 rfl (by go_simp <;> rfl) ?_
  refine h_take 9 rfl (by kernel_rfl) (by kernel_rfl) (by kernel_rfl) (fun _ _ _ h => h) (y_bldC3 chn rfl _ _ _ rfl rfl rfl rfl HN.out) S0 rfl (by go_simp <;> rfl) ?_
  refine h_take 10 rfl (by kernel_rfl) (by kernel_rfl) (by kernel_rfl) (fun _ _ _ h => h) (y_pure rfl (fun W hW => by go_simp <;> rfl)) S0 rfl (by go_simp <;> rfl) ?_
  refine h_take 11 rfl (by kernel_rfl) (by kernel_rfl) (by kernel_rfl) (fun _ _ _ h => h) (y_pure rfl (fun W hW => by go_simp <;> rfl)) S0 rfl (by go_simp <;> rfl) ?_
  refine h_one 12 (by kernel_rfl) rfl rfl rfl ?_
  refine wp_chn_store chn _ _ rfl rfl rfl Xr.out HN.out (by go_simp <;> rfl) ?_
  intro w9 hB9 onl9
  have S1 := And.intro (S0.1.only (by omega) onl9) (S0.2.only (by omega) onl9)
  have BB := Lib.hid (onl9.bel or BB.out)
  clear onl9
  refine ⟨S1, ?_⟩
  refine h_take 13 rfl (by kernel_rfl) (by kernel_rfl) (by kernel_rfl) (fun _ _ _ h => h) (y_pure rfl (fun W hW => by go_simp <;> rfl)) S1 rfl (by go_simp <;> rfl) ?_
  refine h_done (by kernel_rfl) ?_
  go_wp2_with fail
  exact bodyPost_ret (chn_res2 chn rfl _ _ rfl hB9) rfl ⟨by simp only [IntWalk.i32_left]; rfl, BB.out⟩
end Go.Proofs.Ytgnmpkembcdkcaa

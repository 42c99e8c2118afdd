/-
  What Step, Stepped, Forward and Back of the reference of layer 19 compute. Conditions: numbers within their types.
-/
import Derived.Test.YtgnmpkembcdkcaaChRef
namespace Go.Proofs.Ytgnmpkembcdkcaa
open Go.RowKit
set_option linter.unusedVariables false

set_option maxHeartbeats 2000000 in
theorem creStep_ok (bt sh : Int) (c : CS) (x : Int) (w : World) (hv : VC c) (h : cnC bt sh = 0) (hx : G32 x) :
    Calls Try.prog 31 #[.agg (cA bt c.1 sh c.2.1 c.2.2), .int .i32 x] w fun e w' => e = .returned (.tuple #[.int .i32 (cO bt sh c x), .agg (cA bt x sh (cN bt sh c x).2.1 (cN bt sh c x).2.2)]) ∧ Below w.heap.size w w' := by
  have BB := Lib.hid (bel_self w)
  have hF := hv.2.1
  obtain ⟨_, _, h3, _, h5⟩ := cnC_ok h
  have hg := guR_bd (bt := bt) hv.1
  obtain ⟨x0, x1⟩ := hx
  obtain ⟨g0, g1⟩ := hg
  have CG := Lib.hid (fun W => cbehind_ok bt c.1 sh c.2.1 c.2.2 W hF h5 hv.1)
  have CWr := Lib.hid (fun W => Wrap_any (x - guR bt c.1) W (by omega) (by omega))
  have CF := Lib.hid (fun W => reStep_ok sh c.2 (wrap32 (x - guR bt c.1)) W hv.2 h3 (wrap32_bd _))
  have hN := cN_v bt sh c x hv ⟨x0, x1⟩
  have HN := Lib.hid hN.2.1
  rw [show oF sh c.2 (wrap32 (x - guR bt c.1)) = cO bt sh c x from rfl, show (nF sh c.2 (wrap32 (x - guR bt c.1))).1 = (cN bt sh c x).2.1 from rfl, show (nF sh c.2 (wrap32 (x - guR bt c.1))).2 = (cN bt sh c x).2.2 from rfl] at CF
  generalize (cN bt sh c x).2.1 = n1 at *
  generalize (cN bt sh c x).2.2 = n2 at *
  generalize cO bt sh c x = y at *
  generalize guR bt c.1 = g at *
  generalize c.1 = la at *
  generalize c.2.1 = ts at *
  generalize c.2.2 = ps at *
  generalize wrap32 (x - g) = q at *
  clear h hv hN h3 h5
  go_enter Try.func31, Try.ntmps31
  go_wp2_with (first
    | ((with_reducible refine chn_box (o := ⟨some 2, _, _, _, _, _⟩) chn rfl _ rfl rfl hF ?_); intro w1 bc hbc hBc bel1; have oc := Nat.le_trans BB.out.size hbc; have BB := Lib.hid (bel_next BB.out bel1); have Xc := Lib.hid hBc; clear bel1 hBc hbc)
    | ((with_reducible refine chn_alloc (o := ⟨some 5, _, _, _, _, _⟩) chn rfl rfl ?_); intro w2 br hbr hBr bel2; have q_c_r : bc < br := Nat.lt_of_lt_of_le Xc.out.lt hbr; have or := Nat.le_trans BB.out.size hbr; have Xc := Lib.hid (Xc.out.next bel2); have BB := Lib.hid (bel_next BB.out bel2); have Xr := Lib.hid hBr; clear bel2 hBr hbr)
    | (with_reducible refine chn_load (o := ⟨some 11, _, _, _, _, _⟩) chn rfl _ rfl rfl Xc.out ?_))
  refine (CG.out _).mono ?_
  rintro e w3 ⟨rfl, bel3⟩
  have Xc := Lib.hid (Xc.out.next bel3)
  have Xr := Lib.hid (Xr.out.next bel3)
  have BB := Lib.hid (bel_next BB.out bel3)
  clear bel3
  go_wp2_with fail
  refine (CWr.out _).mono ?_
  rintro e w' ⟨rfl, rfl⟩
  go_wp2_with (first
    | (with_reducible refine chn_loadF (o := ⟨some 17, _, _, _, _, _⟩) chn rfl _ rfl rfl Xc.out ?_))
  refine (CF.out _).mono ?_
  rintro e w4 ⟨rfl, bel4⟩
  have Xc := Lib.hid (Xc.out.next bel4)
  have Xr := Lib.hid (Xr.out.next bel4)
  have BB := Lib.hid (bel_next BB.out bel4)
  clear bel4
  go_upto_region 3 with (first
    | ((with_reducible refine flt_alloc (o := ⟨some 8, _, _, _, _, _⟩) flt rfl rfl ?_); intro w5 bf hbf hBf bel5; have q_c_f : bc < bf := Nat.lt_of_lt_of_le Xc.out.lt hbf; have q_r_f : br < bf := Nat.lt_of_lt_of_le Xr.out.lt hbf; have of := Nat.le_trans BB.out.size hbf; have Xc := Lib.hid (Xc.out.next bel5); have Xr := Lib.hid (Xr.out.next bel5); have BB := Lib.hid (bel_next BB.out bel5); have Xf := Lib.hid hBf; clear bel5 hBf hbf)
    | ((with_reducible refine flt_store flt rfl (.tmp 8) (.tmp 21) rfl rfl rfl Xf.out HN.out ?_); intro w6 hB6 onl6; have Xc := Lib.hid (Xc.out.only (by omega) onl6); have Xr := Lib.hid (Xr.out.only (by omega) onl6); have BB := Lib.hid (onl6.bel of BB.out); have Xf := Lib.hid hB6; clear onl6 hB6))
  obtain ⟨wd, hwd⟩ : ∃ wd : World, wd = { w6 with drawn := w6.drawn + 1 } := ⟨_, rfl⟩
  have S0 : CB wd bc 26 bt la sh ts ps ∧ FB wd bf 24 sh n1 n2 := by rw [hwd]; exact ⟨Xc.out, Xf.out⟩
  have Xr : Hid (CB wd br 26 0 0 0 z16 z16) := by rw [hwd]; exact Xr
  have BB : Hid (Below w.heap.size w wd) := by rw [hwd]; exact BB.out.drew
  refine h_begin (S := fun W => CB W bc 26 bt la sh ts ps ∧ FB W bf 24 sh n1 n2) (by kernel_rfl) rfl ?_
  rw [show ({ w6 with drawn := w6.drawn + 1 } : World) = wd from hwd.symm]
  clear hwd
  refine h_take 0 rfl (by kernel_rfl) (by kernel_rfl) (by kernel_rfl) (fun _ _ _ h => h) (y_pure rfl (fun W hW => by go_simp <;> rfl)) S0 rfl (by go_simp <;> rfl) ?_
  refine h_take 1 rfl (by kernel_rfl) (by kernel_rfl) (by kernel_rfl) (fun _ _ _ h => h) (y_pure rfl (fun W hW => by go_simp <;> rfl)) S0 rfl (by go_simp <;> rfl) ?_
  refine h_take 2 rfl (by kernel_rfl) (by kernel_rfl) (by kernel_rfl) (fun _ _ _ h => h) (y_pure rfl (fun W hW => by have k := hW.1.c0; go_simp <;> rfl)) S0 rfl (by go_simp <;> rfl) ?_
  refine h_take 3 rfl (by kernel_rfl) (by kernel_rfl) (by kernel_rfl) (fun _ _ _ h => h) (y_pure rfl (fun W hW => by go_simp <;> rfl)) S0 rfl (by go_simp <;> rfl) ?_
  refine h_take 4 rfl (by kernel_rfl) (by kernel_rfl) (by kernel_rfl) (fun _ _ _ h => h) (y_load flt rfl _ rfl rfl (fun W hW => hW.2)) S0 rfl (by go_simp <;> rfl) ?_
  refine h_take 5 rfl (by kernel_rfl) (by kernel_rfl) (by kernel_rfl) (fun _ _ _ h => h) (y_bldC3 chn rfl _ _ _ rfl rfl rfl rfl HN.out) S0 rfl (by go_simp <;> rfl) ?_
  refine h_take 6 rfl (by kernel_rfl) (by kernel_rfl) (by kernel_rfl) (fun _ _ _ h => h) (y_pure rfl (fun W hW => by go_simp <;> rfl)) S0 rfl (by go_simp <;> rfl) ?_
  refine h_one 7 (by kernel_rfl) rfl rfl rfl ?_
  refine wp_chn_store chn _ _ rfl rfl rfl Xr.out HN.out (by go_simp <;> rfl) ?_
  intro w9 hB9 onl9
  have S1 := And.intro (S0.1.only (by omega) onl9) (S0.2.only (by omega) onl9)
  have BB := Lib.hid (onl9.bel or BB.out)
  clear onl9
  refine ⟨S1, ?_⟩
  refine h_done (by kernel_rfl) ?_
  go_wp2_with fail
  exact bodyPost_ret (res_tmp_chn chn rfl _ _ rfl hB9) rfl ⟨rfl, BB.out⟩
set_option maxHeartbeats 2000000 in
theorem creStepped_ok (bt sh : Int) (c : CS) (x : Int) (w : World) (hv : VC c) (h : cnC bt sh = 0) (hx : G32 x) :
    Calls Try.prog 33 #[.agg (cA bt c.1 sh c.2.1 c.2.2), .int .i32 x] w fun e w' => e = .returned (.tuple #[.int .i32 (cP bt sh c x), .agg (cA bt (cM bt sh c x).1 sh (cM bt sh c x).2.1 (cM bt sh c x).2.2)]) ∧ Below w.heap.size w w' := by
  have BB := Lib.hid (bel_self w)
  have hF := hv.2.1
  obtain ⟨_, _, h3, _, h5⟩ := cnC_ok h
  have hg := guR_bd (bt := bt) hv.1
  obtain ⟨g0, g1⟩ := hg
  obtain ⟨z0, z1⟩ := oB_bd sh c.2 x
  have CG := Lib.hid (fun W => cbehind_ok bt c.1 sh c.2.1 c.2.2 W hF h5 hv.1)
  have CWr := Lib.hid (fun W => Wrap_any (oB sh c.2 x + guR bt c.1) W (by omega) (by omega))
  have CF := Lib.hid (fun W => reStepped_ok sh c.2 x W hv.2 h3 hx)
  have hN := cM_v bt sh c x hv
  have HN := Lib.hid hN.2.1
  rw [show (nBk sh c.2 x).1 = (cM bt sh c x).2.1 from rfl, show (nBk sh c.2 x).2 = (cM bt sh c x).2.2 from rfl] at CF
  rw [show wrap32 (oB sh c.2 x + guR bt c.1) = cP bt sh c x from rfl] at CWr
  rw [show (cM bt sh c x).1 = cP bt sh c x from rfl]
  generalize (cM bt sh c x).2.1 = n1 at *
  generalize (cM bt sh c x).2.2 = n2 at *
  generalize cP bt sh c x = y at *
  generalize oB sh c.2 x = z at *
  generalize guR bt c.1 = g at *
  generalize c.1 = la at *
  generalize c.2.1 = ts at *
  generalize c.2.2 = ps at *
  clear h hv hN h3 h5
  go_enter Try.func33, Try.ntmps33
  go_wp2_with (first
    | ((with_reducible refine chn_box (o := ⟨some 2, _, _, _, _, _⟩) chn rfl _ rfl rfl hF ?_); intro w1 bc hbc hBc bel1; have oc := Nat.le_trans BB.out.size hbc; have BB := Lib.hid (bel_next BB.out bel1); have Xc := Lib.hid hBc; clear bel1 hBc hbc)
    | ((with_reducible refine chn_alloc (o := ⟨some 5, _, _, _, _, _⟩) chn rfl rfl ?_); intro w2 br hbr hBr bel2; have q_c_r : bc < br := Nat.lt_of_lt_of_le Xc.out.lt hbr; have or := Nat.le_trans BB.out.size hbr; have Xc := Lib.hid (Xc.out.next bel2); have BB := Lib.hid (bel_next BB.out bel2); have Xr := Lib.hid hBr; clear bel2 hBr hbr)
    | (with_reducible refine chn_loadF (o := ⟨some 11, _, _, _, _, _⟩) chn rfl _ rfl rfl Xc.out ?_))
  refine (CF.out _).mono ?_
  rintro e w3 ⟨rfl, bel3⟩
  have Xc := Lib.hid (Xc.out.next bel3)
  have Xr := Lib.hid (Xr.out.next bel3)
  have BB := Lib.hid (bel_next BB.out bel3)
  clear bel3
  go_wp2_with (first
    | ((with_reducible refine flt_alloc (o := ⟨some 7, _, _, _, _, _⟩) flt rfl rfl ?_); intro w4 bf hbf hBf bel4; have q_c_f : bc < bf := Nat.lt_of_lt_of_le Xc.out.lt hbf; have q_r_f : br < bf := Nat.lt_of_lt_of_le Xr.out.lt hbf; have of := Nat.le_trans BB.out.size hbf; have Xc := Lib.hid (Xc.out.next bel4); have Xr := Lib.hid (Xr.out.next bel4); have BB := Lib.hid (bel_next BB.out bel4); have Xf := Lib.hid hBf; clear bel4 hBf hbf)
    | ((with_reducible refine flt_store flt rfl (.tmp 7) (.tmp 15) rfl rfl rfl Xf.out HN.out ?_); intro w5 hB5 onl5; have Xc := Lib.hid (Xc.out.only (by omega) onl5); have Xr := Lib.hid (Xr.out.only (by omega) onl5); have BB := Lib.hid (onl5.bel of BB.out); have Xf := Lib.hid hB5; clear onl5 hB5)
    | (with_reducible refine chn_load (o := ⟨some 18, _, _, _, _, _⟩) chn rfl _ rfl rfl Xc.out ?_))
  refine (CG.out _).mono ?_
  rintro e w6 ⟨rfl, bel6⟩
  have Xc := Lib.hid (Xc.out.next bel6)
  have Xr := Lib.hid (Xr.out.next bel6)
  have Xf := Lib.hid (Xf.out.next bel6)
  have BB := Lib.hid (bel_next BB.out bel6)
  clear bel6
  go_wp2_with fail
  refine (CWr.out _).mono ?_
  rintro e w' ⟨rfl, rfl⟩
  go_upto_region 3 with fail
  obtain ⟨wd, hwd⟩ : ∃ wd : World, wd = { w6 with drawn := w6.drawn + 1 } := ⟨_, rfl⟩
  have S0 : CB wd bc 26 bt la sh ts ps ∧ FB wd bf 24 sh n1 n2 := by rw [hwd]; exact ⟨Xc.out, Xf.out⟩
  have Xr : Hid (CB wd br 26 0 0 0 z16 z16) := by rw [hwd]; exact Xr
  have BB : Hid (Below w.heap.size w wd) := by rw [hwd]; exact BB.out.drew
  refine h_begin (S := fun W => CB W bc 26 bt la sh ts ps ∧ FB W bf 24 sh n1 n2) (by kernel_rfl) rfl ?_
  rw [show ({ w6 with drawn := w6.drawn + 1 } : World) = wd from hwd.symm]
  clear hwd
  refine h_take 0 rfl (by kernel_rfl) (by kernel_rfl) (by kernel_rfl) (fun _ _ _ h => h) (y_pure rfl (fun W hW => by go_simp <;> rfl)) S0 rfl (by go_simp <;> rfl) ?_
  refine h_take 1 rfl (by kernel_rfl) (by kernel_rfl) (by kernel_rfl) (fun _ _ _ h => h) (y_pure rfl (fun W hW => by go_simp <;> rfl)) S0 rfl (by go_simp <;> rfl) ?_
  refine h_take 2 rfl (by kernel_rfl) (by kernel_rfl) (by kernel_rfl) (fun _ _ _ h => h) (y_pure rfl (fun W hW => by have k := hW.1.c0; go_simp <;> rfl)) S0 rfl (by go_simp <;> rfl) ?_
  refine h_take 3 rfl (by kernel_rfl) (by kernel_rfl) (by kernel_rfl) (fun _ _ _ h => h) (y_pure rfl (fun W hW => by go_simp <;> rfl)) S0 rfl (by go_simp <;> rfl) ?_
  refine h_take 4 rfl (by kernel_rfl) (by kernel_rfl) (by kernel_rfl) (fun _ _ _ h => h) (y_load flt rfl _ rfl rfl (fun W hW => hW.2)) S0 rfl (by go_simp <;> rfl) ?_
  refine h_take 5 rfl (by kernel_rfl) (by kernel_rfl) (by kernel_rfl) (fun _ _ _ h => h) (y_bldC3 chn rfl _ _ _ rfl rfl rfl rfl HN.out) S0 rfl (by go_simp <;> rfl) ?_
  refine h_take 6 rfl (by kernel_rfl) (by kernel_rfl) (by kernel_rfl) (fun _ _ _ h => h) (y_pure rfl (fun W hW => by go_simp <;> rfl)) S0 rfl (by go_simp <;> rfl) ?_
  refine h_one 7 (by kernel_rfl) rfl rfl rfl ?_
  refine wp_chn_store chn _ _ rfl rfl rfl Xr.out HN.out (by go_simp <;> rfl) ?_
  intro w9 hB9 onl9
  have S1 := And.intro (S0.1.only (by omega) onl9) (S0.2.only (by omega) onl9)
  have BB := Lib.hid (onl9.bel or BB.out)
  clear onl9
  refine ⟨S1, ?_⟩
  refine h_done (by kernel_rfl) ?_
  go_wp2_with fail
  exact bodyPost_ret (res_tmp_chn chn rfl _ _ rfl hB9) rfl ⟨rfl, BB.out⟩
set_option maxHeartbeats 1000000 in
theorem crefForward_bad (bt la sh x : Int) (ts ps : List Int) (w : World) (hF : F16 ts ps) (h : cnC bt sh ≠ 0) :
    Calls Try.prog 13 #[.agg (cA bt la sh ts ps), .int .i32 x] w fun e w' => e = .returned (.tuple #[.int .i32 0, .agg (cA 0 0 0 z16 z16), .int .i64 8]) ∧ Below w.heap.size w w' := by
  have BB := Lib.hid (bel_self w)
  have CK := Lib.hid (fun W => crecheck_any bt la sh ts ps W hF)
  rw [cnC_bad h] at CK
  clear h
  go_enter Try.func13, Try.ntmps13
  go_wp2_with (first
    | ((with_reducible refine chn_box (o := ⟨some 2, _, _, _, _, _⟩) chn rfl _ rfl rfl hF ?_); intro w1 bc hbc hBc bel1; have oc := Nat.le_trans BB.out.size hbc; have BB := Lib.hid (bel_next BB.out bel1); have Xc := Lib.hid hBc; clear bel1 hBc hbc)
    | ((with_reducible refine chn_alloc (o := ⟨some 5, _, _, _, _, _⟩) chn rfl rfl ?_); intro w2 br hbr hBr bel2; have q_c_r : bc < br := Nat.lt_of_lt_of_le Xc.out.lt hbr; have or := Nat.le_trans BB.out.size hbr; have Xc := Lib.hid (Xc.out.next bel2); have BB := Lib.hid (bel_next BB.out bel2); have Xr := Lib.hid hBr; clear bel2 hBr hbr)
    | (with_reducible refine chn_load (o := ⟨some 9, _, _, _, _, _⟩) chn rfl _ rfl rfl Xc.out ?_))
  refine (CK.out _).mono ?_
  rintro e w3 ⟨rfl, bel3⟩
  have Xc := Lib.hid (Xc.out.next bel3)
  have Xr := Lib.hid (Xr.out.next bel3)
  have BB := Lib.hid (bel_next BB.out bel3)
  clear bel3
  go_wp2_with (first
    | (with_reducible refine chn_bld0 (o := ⟨some 12, _, _, _, _, _⟩) chn rfl rfl ?_)
    | (with_reducible refine chn_load (o := ⟨some 13, _, _, _, _, _⟩) chn rfl _ rfl rfl Xc.out ?_))
  refine (CK.out _).mono ?_
  rintro e w4 ⟨rfl, bel4⟩
  have Xc := Lib.hid (Xc.out.next bel4)
  have Xr := Lib.hid (Xr.out.next bel4)
  have BB := Lib.hid (bel_next BB.out bel4)
  clear bel4
  go_wp2_with (first
    | ((with_reducible refine chn_store chn rfl (.tmp 5) (.tmp 12) rfl rfl rfl Xr.out f16z ?_); intro w5 hB5 onl5; have Xc := Lib.hid (Xc.out.only (by omega) onl5); have BB := Lib.hid (onl5.bel or BB.out); have Xr := Lib.hid hB5; clear onl5 hB5))
  exact bodyPost_ret (chn_res2 chn rfl _ _ rfl Xr.out) rfl ⟨rfl, BB.out⟩
set_option maxHeartbeats 1000000 in
theorem crefForward_ok (bt sh : Int) (c : CS) (x : Int) (w : World) (hv : VC c) (h : cnC bt sh = 0) (hx : G32 x) :
    Calls Try.prog 13 #[.agg (cA bt c.1 sh c.2.1 c.2.2), .int .i32 x] w fun e w' => e = .returned (.tuple #[.int .i32 (cO bt sh c x), .agg (cA bt x sh (cN bt sh c x).2.1 (cN bt sh c x).2.2), .int .i64 0]) ∧ Below w.heap.size w w' := by
  have BB := Lib.hid (bel_self w)
  have hF := hv.2.1
  have CK := Lib.hid (fun W => crecheck_any bt c.1 sh c.2.1 c.2.2 W hF)
  rw [h] at CK
  have CS := Lib.hid (fun W => creStep_ok bt sh c x W hv h hx)
  have hN : VC (cN bt sh c x) := by first | exact cN_v bt sh c x hv hx | exact cM_v bt sh c x hv
  have HN := Lib.hid hN.2.1
  generalize (cN bt sh c x).2.1 = n1 at *
  generalize (cN bt sh c x).2.2 = n2 at *
  generalize cO bt sh c x = y at *
  generalize x = lb at *
  generalize c.1 = la at *
  generalize c.2.1 = ts at *
  generalize c.2.2 = ps at *
  clear h hv hN hx
  go_enter Try.func13, Try.ntmps13
  go_wp2_with (first
    | ((with_reducible refine chn_box (o := ⟨some 2, _, _, _, _, _⟩) chn rfl _ rfl rfl hF ?_); intro w1 bc hbc hBc bel1; have oc := Nat.le_trans BB.out.size hbc; have BB := Lib.hid (bel_next BB.out bel1); have Xc := Lib.hid hBc; clear bel1 hBc hbc)
    | ((with_reducible refine chn_alloc (o := ⟨some 5, _, _, _, _, _⟩) chn rfl rfl ?_); intro w2 br hbr hBr bel2; have q_c_r : bc < br := Nat.lt_of_lt_of_le Xc.out.lt hbr; have or := Nat.le_trans BB.out.size hbr; have Xc := Lib.hid (Xc.out.next bel2); have BB := Lib.hid (bel_next BB.out bel2); have Xr := Lib.hid hBr; clear bel2 hBr hbr)
    | (with_reducible refine chn_load (o := ⟨some 9, _, _, _, _, _⟩) chn rfl _ rfl rfl Xc.out ?_))
  refine (CK.out _).mono ?_
  rintro e w3 ⟨rfl, bel3⟩
  have Xc := Lib.hid (Xc.out.next bel3)
  have Xr := Lib.hid (Xr.out.next bel3)
  have BB := Lib.hid (bel_next BB.out bel3)
  clear bel3
  go_wp2_with (first
    | (with_reducible refine chn_load (o := ⟨some 16, _, _, _, _, _⟩) chn rfl _ rfl rfl Xc.out ?_))
  refine (CS.out _).mono ?_
  rintro e w4 ⟨rfl, bel4⟩
  have Xc := Lib.hid (Xc.out.next bel4)
  have Xr := Lib.hid (Xr.out.next bel4)
  have BB := Lib.hid (bel_next BB.out bel4)
  clear bel4
  go_upto_region 4 with (first
    | ((with_reducible refine chn_alloc (o := ⟨some 8, _, _, _, _, _⟩) chn rfl rfl ?_); intro w5 bn hbn hBn bel5; have q_c_n : bc < bn := Nat.lt_of_lt_of_le Xc.out.lt hbn; have q_r_n : br < bn := Nat.lt_of_lt_of_le Xr.out.lt hbn; have on := Nat.le_trans BB.out.size hbn; have Xc := Lib.hid (Xc.out.next bel5); have Xr := Lib.hid (Xr.out.next bel5); have BB := Lib.hid (bel_next BB.out bel5); have Xn := Lib.hid hBn; clear bel5 hBn hbn)
    | ((with_reducible refine chn_store chn rfl (.tmp 8) (.tmp 20) rfl rfl rfl Xn.out HN.out ?_); intro w6 hB6 onl6; have Xc := Lib.hid (Xc.out.only (by omega) onl6); have Xr := Lib.hid (Xr.out.only (by omega) onl6); have BB := Lib.hid (onl6.bel on BB.out); have Xn := Lib.hid hB6; clear onl6 hB6))
  obtain ⟨wd, hwd⟩ : ∃ wd : World, wd = { w6 with drawn := w6.drawn + 1 } := ⟨_, rfl⟩
  have S0 : CB wd bn 26 bt lb sh n1 n2 := by rw [hwd]; exact Xn.out
  have Xr : Hid (CB wd br 26 0 0 0 z16 z16) := by rw [hwd]; exact Xr
  have BB : Hid (Below w.heap.size w wd) := by rw [hwd]; exact BB.out.drew
  refine h_begin (S := fun W => CB W bn 26 bt lb sh n1 n2) (by kernel_rfl) rfl ?_
  rw [show ({ w6 with drawn := w6.drawn + 1 } : World) = wd from hwd.symm]
  clear hwd
  refine h_take 0 rfl (by kernel_rfl) (by kernel_rfl) (by kernel_rfl) (fun _ _ _ h => h) (y_pure rfl (fun W hW => by go_simp <;> rfl)) S0 rfl (by go_simp <;> rfl) ?_
  refine h_take 1 rfl (by kernel_rfl) (by kernel_rfl) (by kernel_rfl) (fun _ _ _ h => h) (y_loadC chn rfl _ rfl rfl (fun W hW => hW)) S0 rfl (by go_simp <;> rfl) ?_
  refine h_take 2 rfl (by kernel_rfl) (by kernel_rfl) (by kernel_rfl) (fun _ _ _ h => h) (y_pure rfl (fun W hW => by go_simp <;> rfl)) S0 rfl (by go_simp <;> rfl) ?_
  refine h_one 3 (by kernel_rfl) rfl rfl rfl ?_
  refine wp_chn_store chn _ _ rfl rfl rfl Xr.out HN.out (by go_simp <;> rfl) ?_
  intro w9 hB9 onl9
  have S1 := S0.only (by omega) onl9
  have BB := Lib.hid (onl9.bel or BB.out)
  clear onl9
  refine ⟨S1, ?_⟩
  refine h_take 4 rfl (by kernel_rfl) (by kernel_rfl) (by kernel_rfl) (fun _ _ _ h => h) (y_pure rfl (fun W hW => by go_simp <;> rfl)) S1 rfl (by go_simp <;> rfl) ?_
  refine h_done (by kernel_rfl) ?_
  go_wp2_with fail
  exact bodyPost_ret (chn_res2 chn rfl _ _ rfl hB9) rfl ⟨rfl, BB.out⟩
set_option maxHeartbeats 1000000 in
theorem crefBack_bad (bt la sh x : Int) (ts ps : List Int) (w : World) (hF : F16 ts ps) (h : cnC bt sh ≠ 0) :
    Calls Try.prog 15 #[.agg (cA bt la sh ts ps), .int .i32 x] w fun e w' => e = .returned (.tuple #[.int .i32 0, .agg (cA 0 0 0 z16 z16), .int .i64 8]) ∧ Below w.heap.size w w' := by
  have BB := Lib.hid (bel_self w)
  have CK := Lib.hid (fun W => crecheck_any bt la sh ts ps W hF)
  rw [cnC_bad h] at CK
  clear h
  go_enter Try.func15, Try.ntmps15
  go_wp2_with (first
    | ((with_reducible refine chn_box (o := ⟨some 2, _, _, _, _, _⟩) chn rfl _ rfl rfl hF ?_); intro w1 bc hbc hBc bel1; have oc := Nat.le_trans BB.out.size hbc; have BB := Lib.hid (bel_next BB.out bel1); have Xc := Lib.hid hBc; clear bel1 hBc hbc)
    | ((with_reducible refine chn_alloc (o := ⟨some 5, _, _, _, _, _⟩) chn rfl rfl ?_); intro w2 br hbr hBr bel2; have q_c_r : bc < br := Nat.lt_of_lt_of_le Xc.out.lt hbr; have or := Nat.le_trans BB.out.size hbr; have Xc := Lib.hid (Xc.out.next bel2); have BB := Lib.hid (bel_next BB.out bel2); have Xr := Lib.hid hBr; clear bel2 hBr hbr)
    | (with_reducible refine chn_load (o := ⟨some 9, _, _, _, _, _⟩) chn rfl _ rfl rfl Xc.out ?_))
  refine (CK.out _).mono ?_
  rintro e w3 ⟨rfl, bel3⟩
  have Xc := Lib.hid (Xc.out.next bel3)
  have Xr := Lib.hid (Xr.out.next bel3)
  have BB := Lib.hid (bel_next BB.out bel3)
  clear bel3
  go_wp2_with (first
    | (with_reducible refine chn_bld0 (o := ⟨some 12, _, _, _, _, _⟩) chn rfl rfl ?_)
    | (with_reducible refine chn_load (o := ⟨some 13, _, _, _, _, _⟩) chn rfl _ rfl rfl Xc.out ?_))
  refine (CK.out _).mono ?_
  rintro e w4 ⟨rfl, bel4⟩
  have Xc := Lib.hid (Xc.out.next bel4)
  have Xr := Lib.hid (Xr.out.next bel4)
  have BB := Lib.hid (bel_next BB.out bel4)
  clear bel4
  go_wp2_with (first
    | ((with_reducible refine chn_store chn rfl (.tmp 5) (.tmp 12) rfl rfl rfl Xr.out f16z ?_); intro w5 hB5 onl5; have Xc := Lib.hid (Xc.out.only (by omega) onl5); have BB := Lib.hid (onl5.bel or BB.out); have Xr := Lib.hid hB5; clear onl5 hB5))
  exact bodyPost_ret (chn_res2 chn rfl _ _ rfl Xr.out) rfl ⟨rfl, BB.out⟩
set_option maxHeartbeats 1000000 in
theorem crefBack_ok (bt sh : Int) (c : CS) (x : Int) (w : World) (hv : VC c) (h : cnC bt sh = 0) (hx : G32 x) :
    Calls Try.prog 15 #[.agg (cA bt c.1 sh c.2.1 c.2.2), .int .i32 x] w fun e w' => e = .returned (.tuple #[.int .i32 (cP bt sh c x), .agg (cA bt (cM bt sh c x).1 sh (cM bt sh c x).2.1 (cM bt sh c x).2.2), .int .i64 0]) ∧ Below w.heap.size w w' := by
  have BB := Lib.hid (bel_self w)
  have hF := hv.2.1
  have CK := Lib.hid (fun W => crecheck_any bt c.1 sh c.2.1 c.2.2 W hF)
  rw [h] at CK
  have CS := Lib.hid (fun W => creStepped_ok bt sh c x W hv h hx)
  have hN : VC (cM bt sh c x) := by first | exact cN_v bt sh c x hv hx | exact cM_v bt sh c x hv
  have HN := Lib.hid hN.2.1
  generalize (cM bt sh c x).2.1 = n1 at *
  generalize (cM bt sh c x).2.2 = n2 at *
  generalize cP bt sh c x = y at *
  generalize (cM bt sh c x).1 = lb at *
  generalize c.1 = la at *
  generalize c.2.1 = ts at *
  generalize c.2.2 = ps at *
  clear h hv hN hx
  go_enter Try.func15, Try.ntmps15
  go_wp2_with (first
    | ((with_reducible refine chn_box (o := ⟨some 2, _, _, _, _, _⟩) chn rfl _ rfl rfl hF ?_); intro w1 bc hbc hBc bel1; have oc := Nat.le_trans BB.out.size hbc; have BB := Lib.hid (bel_next BB.out bel1); have Xc := Lib.hid hBc; clear bel1 hBc hbc)
    | ((with_reducible refine chn_alloc (o := ⟨some 5, _, _, _, _, _⟩) chn rfl rfl ?_); intro w2 br hbr hBr bel2; have q_c_r : bc < br := Nat.lt_of_lt_of_le Xc.out.lt hbr; have or := Nat.le_trans BB.out.size hbr; have Xc := Lib.hid (Xc.out.next bel2); have BB := Lib.hid (bel_next BB.out bel2); have Xr := Lib.hid hBr; clear bel2 hBr hbr)
    | (with_reducible refine chn_load (o := ⟨some 9, _, _, _, _, _⟩) chn rfl _ rfl rfl Xc.out ?_))
  refine (CK.out _).mono ?_
  rintro e w3 ⟨rfl, bel3⟩
  have Xc := Lib.hid (Xc.out.next bel3)
  have Xr := Lib.hid (Xr.out.next bel3)
  have BB := Lib.hid (bel_next BB.out bel3)
  clear bel3
  go_wp2_with (first
    | (with_reducible refine chn_load (o := ⟨some 16, _, _, _, _, _⟩) chn rfl _ rfl rfl Xc.out ?_))
  refine (CS.out _).mono ?_
  rintro e w4 ⟨rfl, bel4⟩
  have Xc := Lib.hid (Xc.out.next bel4)
  have Xr := Lib.hid (Xr.out.next bel4)
  have BB := Lib.hid (bel_next BB.out bel4)
  clear bel4
  go_upto_region 4 with (first
    | ((with_reducible refine chn_alloc (o := ⟨some 8, _, _, _, _, _⟩) chn rfl rfl ?_); intro w5 bn hbn hBn bel5; have q_c_n : bc < bn := Nat.lt_of_lt_of_le Xc.out.lt hbn; have q_r_n : br < bn := Nat.lt_of_lt_of_le Xr.out.lt hbn; have on := Nat.le_trans BB.out.size hbn; have Xc := Lib.hid (Xc.out.next bel5); have Xr := Lib.hid (Xr.out.next bel5); have BB := Lib.hid (bel_next BB.out bel5); have Xn := Lib.hid hBn; clear bel5 hBn hbn)
    | ((with_reducible refine chn_store chn rfl (.tmp 8) (.tmp 20) rfl rfl rfl Xn.out HN.out ?_); intro w6 hB6 onl6; have Xc := Lib.hid (Xc.out.only (by omega) onl6); have Xr := Lib.hid (Xr.out.only (by omega) onl6); have BB := Lib.hid (onl6.bel on BB.out); have Xn := Lib.hid hB6; clear onl6 hB6))
  obtain ⟨wd, hwd⟩ : ∃ wd : World, wd = { w6 with drawn := w6.drawn + 1 } := ⟨_, rfl⟩
  have S0 : CB wd bn 26 bt lb sh n1 n2 := by rw [hwd]; exact Xn.out
  have Xr : Hid (CB wd br 26 0 0 0 z16 z16) := by rw [hwd]; exact Xr
  have BB : Hid (Below w.heap.size w wd) := by rw [hwd]; exact BB.out.drew
  refine h_begin (S := fun W => CB W bn 26 bt lb sh n1 n2) (by kernel_rfl) rfl ?_
  rw [show ({ w6 with drawn := w6.drawn + 1 } : World) = wd from hwd.symm]
  clear hwd
  refine h_take 0 rfl (by kernel_rfl) (by kernel_rfl) (by kernel_rfl) (fun _ _ _ h => h) (y_pure rfl (fun W hW => by go_simp <;> rfl)) S0 rfl (by go_simp <;> rfl) ?_
  refine h_take 1 rfl (by kernel_rfl) (by kernel_rfl) (by kernel_rfl) (fun _ _ _ h => h) (y_loadC chn rfl _ rfl rfl (fun W hW => hW)) S0 rfl (by go_simp <;> rfl) ?_
  refine h_take 2 rfl (by kernel_rfl) (by kernel_rfl) (by kernel_rfl) (fun _ _ _ h => h) (y_pure rfl (fun W hW => by go_simp <;> rfl)) S0 rfl (by go_simp <;> rfl) ?_
  refine h_one 3 (by kernel_rfl) rfl rfl rfl ?_
  refine wp_chn_store chn _ _ rfl rfl rfl Xr.out HN.out (by go_simp <;> rfl) ?_
  intro w9 hB9 onl9
  have S1 := S0.only (by omega) onl9
  have BB := Lib.hid (onl9.bel or BB.out)
  clear onl9
  refine ⟨S1, ?_⟩
  refine h_take 4 rfl (by kernel_rfl) (by kernel_rfl) (by kernel_rfl) (fun _ _ _ h => h) (y_pure rfl (fun W hW => by go_simp <;> rfl)) S1 rfl (by go_simp <;> rfl) ?_
  refine h_done (by kernel_rfl) ?_
  go_wp2_with fail
  exact bodyPost_ret (chn_res2 chn rfl _ _ rfl hB9) rfl ⟨rfl, BB.out⟩
end Go.Proofs.Ytgnmpkembcdkcaa

/-
  What the functions of the reference of layer 15 compute. Conditions: numbers within their types.
-/
import Derived.Test.YtgnmpkembcdkcaaChLms
import Derived.Test.YtgnmpkembcdkcaaChRefA
namespace Go.Proofs.Ytgnmpkembcdkcaa
open Go.RowKit
set_option linter.unusedVariables false

theorem told_any (sh : Int) (ts ps : List Int) (W : World) (hF : F16 ts ps) (h : ckF sh = 0) (ht : I32 ts) (hp : I32 ps) :
    Calls Try.prog 50 #[.agg (fA sh ts ps)] W fun e w' => e = .returned (.int .i32 (gsV sh ts ps)) ∧ Below W.heap.size W w' := by
  rcases ckF_cases h with rfl | rfl
  · exact told_9 ts ps W hF ht hp
  · exact told_10 ts ps W hF ht hp
theorem res_tmp_flt {P : Program} {fn : Func} {v r : Tmp} {T A E I : TypeId} {b : Nat} {sh : Int} {ts ps : List Int} (hT : FltT P T A E I) (h : fn.results = #[.tmp v, .cell r T]) (tmps : Array Value) (w : World) (hr : tmps.getD r undef = .pointer (some ⟨b, 0, none⟩)) (hb : FB w b T sh ts ps) :
    (results fn tmps).run P w = .ok (.tuple #[tmps.getD v undef, .agg (fA sh ts ps)]) w := by
  obtain ⟨d, hu, hd⟩ := hT.row
  have hl := run_loadVar_mid (P := P) w b 0 T (fA sh ts ps).toList d (by have := World.rangeAt_of_block hb.1 0 (fA sh ts ps).size; simpa using this) hu hd (by simpa using flt_sz hT hb.2)
  simp only [Array.toArray_toList] at hl
  have hr' : tmps[r]?.getD undef = .pointer (some ⟨b, 0, none⟩) := by simpa using hr
  simp [results, h, hr', asAddr, hl]

set_option maxHeartbeats 1000000 in
theorem reStep_ok (sh : Int) (s : St) (x : Int) (w : World) (hv : VS s) (h : ckF sh = 0) (hx : G32 x) :
    Calls Try.prog 44 #[.agg (fA sh s.1 s.2), .int .i32 x] w fun e w' => e = .returned (.tuple #[.int .i32 (oF sh s x), .agg (fA sh (nF sh s x).1 (nF sh s x).2)]) ∧ Below w.heap.size w w' := by
  have BB := Lib.hid (bel_self w)
  have hF := hv.1
  have CT := Lib.hid (fun W => told_any sh s.1 s.2 W hF h hv.2.1 hv.2.2)
  have b1 := gsV_bd sh s.1 s.2
  obtain ⟨b2, b3⟩ := hx
  have CW := Lib.hid (fun W => wrapR_any (x - gsV sh s.1 s.2) W (by omega) (by omega))
  rw [show wrap32 (x - gsV sh s.1 s.2) = oF sh s x from rfl] at CW
  have CL := Lib.hid (fun W => learned_any sh s.1 s.2 (oF sh s x) W hF)
  have hL : F16 (lrn s.1 s.2 (oF sh s x)) s.2 := f16 (lrn_len _ _ _) hF.2
  have CP := Lib.hid (fun W => pushed_any sh (lrn s.1 s.2 (oF sh s x)) s.2 x W hL)
  rw [show psh s.2 x = (nF sh s x).2 from rfl] at CP
  rw [show lrn s.1 s.2 (oF sh s x) = (nF sh s x).1 from rfl] at CL CP
  have hx : G32 x := ⟨b2, b3⟩
  have HN := Lib.hid (show VS (nF sh s x) from nF_v sh s x hv hx).1
  have HO := Lib.hid (show oF sh s x = oF sh s x from rfl)
  generalize (nF sh s x).1 = n1 at *
  generalize (nF sh s x).2 = n2 at *
  generalize oF sh s x = oo at *
  generalize gsV sh s.1 s.2 = g at *
  clear h hv hL hx
  go_enter Try.func44, Try.ntmps44
  go_wp2_with (first
    | ((with_reducible refine flt_box (o := ⟨some 2, _, _, _, _, _⟩) flt rfl _ rfl rfl hF ?_); intro w1 bf hbf hBf bel1; have of := Nat.le_trans BB.out.size hbf; have BB := Lib.hid (bel_next BB.out bel1); have Xf := Lib.hid hBf; clear bel1 hBf hbf)
    | ((with_reducible refine flt_alloc (o := ⟨some 5, _, _, _, _, _⟩) flt rfl rfl ?_); intro w2 br hbr hBr bel2; have q_f_r : bf < br := Nat.lt_of_lt_of_le Xf.out.lt hbr; have or := Nat.le_trans BB.out.size hbr; have Xf := Lib.hid (Xf.out.next bel2); have BB := Lib.hid (bel_next BB.out bel2); have Xr := Lib.hid hBr; clear bel2 hBr hbr)
    | (with_reducible refine flt_load (o := ⟨some 9, _, _, _, _, _⟩) flt rfl _ rfl rfl Xf.out ?_))
  refine (CT.out _).mono ?_
  rintro e w3 ⟨rfl, bel3⟩
  have Xf := Lib.hid (Xf.out.next bel3)
  have Xr := Lib.hid (Xr.out.next bel3)
  have BB := Lib.hid (bel_next BB.out bel3)
  clear bel3
  go_wp2_with fail
  refine (CW.out _).mono ?_
  rintro e w' ⟨rfl, rfl⟩
  go_wp2_with (first
    | (with_reducible refine flt_load (o := ⟨some 15, _, _, _, _, _⟩) flt rfl _ rfl rfl Xf.out ?_))
  refine (CL.out _).mono ?_
  rintro e w4 ⟨rfl, bel4⟩
  have Xf := Lib.hid (Xf.out.next bel4)
  have Xr := Lib.hid (Xr.out.next bel4)
  have BB := Lib.hid (bel_next BB.out bel4)
  clear bel4
  go_wp2_with fail
  refine (CP.out _).mono ?_
  rintro e w5 ⟨rfl, bel5⟩
  have Xf := Lib.hid (Xf.out.next bel5)
  have Xr := Lib.hid (Xr.out.next bel5)
  have BB := Lib.hid (bel_next BB.out bel5)
  clear bel5
  go_wp2_with (first
    | ((with_reducible refine flt_store flt rfl (.tmp 5) (.tmp 19) rfl rfl rfl Xr.out HN.out ?_); intro w6 hB6 onl6; have Xf := Lib.hid (Xf.out.only (by omega) onl6); have BB := Lib.hid (onl6.bel or BB.out); have Xr := Lib.hid hB6; clear onl6 hB6))
  exact bodyPost_ret (res_tmp_flt flt rfl _ _ rfl Xr.out) rfl ⟨rfl, BB.out⟩
set_option maxHeartbeats 1000000 in
theorem reStepped_ok (sh : Int) (s : St) (x : Int) (w : World) (hv : VS s) (h : ckF sh = 0) (hx : G32 x) :
    Calls Try.prog 45 #[.agg (fA sh s.1 s.2), .int .i32 x] w fun e w' => e = .returned (.tuple #[.int .i32 (oB sh s x), .agg (fA sh (nBk sh s x).1 (nBk sh s x).2)]) ∧ Below w.heap.size w w' := by
  have BB := Lib.hid (bel_self w)
  have hF := hv.1
  have CT := Lib.hid (fun W => told_any sh s.1 s.2 W hF h hv.2.1 hv.2.2)
  have b1 := gsV_bd sh s.1 s.2
  obtain ⟨b2, b3⟩ := hx
  have CW := Lib.hid (fun W => wrapR_any (x + gsV sh s.1 s.2) W (by omega) (by omega))
  rw [show wrap32 (x + gsV sh s.1 s.2) = oB sh s x from rfl] at CW
  have CL := Lib.hid (fun W => learned_any sh s.1 s.2 x W hF)
  have hL : F16 (lrn s.1 s.2 x) s.2 := f16 (lrn_len _ _ _) hF.2
  have CP := Lib.hid (fun W => pushed_any sh (lrn s.1 s.2 x) s.2 (oB sh s x) W hL)
  rw [show psh s.2 (oB sh s x) = (nBk sh s x).2 from rfl] at CP
  rw [show lrn s.1 s.2 x = (nBk sh s x).1 from rfl] at CL CP
  have hx : G32 x := ⟨b2, b3⟩
  have HN := Lib.hid (show VS (nBk sh s x) from nB_v sh s x hv).1
  have HO := Lib.hid (show oB sh s x = oB sh s x from rfl)
  generalize (nBk sh s x).1 = n1 at *
  generalize (nBk sh s x).2 = n2 at *
  generalize oB sh s x = oo at *
  generalize gsV sh s.1 s.2 = g at *
  clear h hv hL hx
  go_enter Try.func45, Try.ntmps45
  go_wp2_with (first
    | ((with_reducible refine flt_box (o := ⟨some 2, _, _, _, _, _⟩) flt rfl _ rfl rfl hF ?_); intro w1 bf hbf hBf bel1; have of := Nat.le_trans BB.out.size hbf; have BB := Lib.hid (bel_next BB.out bel1); have Xf := Lib.hid hBf; clear bel1 hBf hbf)
    | ((with_reducible refine flt_alloc (o := ⟨some 5, _, _, _, _, _⟩) flt rfl rfl ?_); intro w2 br hbr hBr bel2; have q_f_r : bf < br := Nat.lt_of_lt_of_le Xf.out.lt hbr; have or := Nat.le_trans BB.out.size hbr; have Xf := Lib.hid (Xf.out.next bel2); have BB := Lib.hid (bel_next BB.out bel2); have Xr := Lib.hid hBr; clear bel2 hBr hbr)
    | (with_reducible refine flt_load (o := ⟨some 9, _, _, _, _, _⟩) flt rfl _ rfl rfl Xf.out ?_))
  refine (CT.out _).mono ?_
  rintro e w3 ⟨rfl, bel3⟩
  have Xf := Lib.hid (Xf.out.next bel3)
  have Xr := Lib.hid (Xr.out.next bel3)
  have BB := Lib.hid (bel_next BB.out bel3)
  clear bel3
  go_wp2_with fail
  refine (CW.out _).mono ?_
  rintro e w' ⟨rfl, rfl⟩
  go_wp2_with (first
    | (with_reducible refine flt_load (o := ⟨some 15, _, _, _, _, _⟩) flt rfl _ rfl rfl Xf.out ?_))
  refine (CL.out _).mono ?_
  rintro e w4 ⟨rfl, bel4⟩
  have Xf := Lib.hid (Xf.out.next bel4)
  have Xr := Lib.hid (Xr.out.next bel4)
  have BB := Lib.hid (bel_next BB.out bel4)
  clear bel4
  go_wp2_with fail
  refine (CP.out _).mono ?_
  rintro e w5 ⟨rfl, bel5⟩
  have Xf := Lib.hid (Xf.out.next bel5)
  have Xr := Lib.hid (Xr.out.next bel5)
  have BB := Lib.hid (bel_next BB.out bel5)
  clear bel5
  go_wp2_with (first
    | ((with_reducible refine flt_store flt rfl (.tmp 5) (.tmp 19) rfl rfl rfl Xr.out HN.out ?_); intro w6 hB6 onl6; have Xf := Lib.hid (Xf.out.only (by omega) onl6); have BB := Lib.hid (onl6.bel or BB.out); have Xr := Lib.hid hB6; clear onl6 hB6))
  exact bodyPost_ret (res_tmp_flt flt rfl _ _ rfl Xr.out) rfl ⟨rfl, BB.out⟩
end Go.Proofs.Ytgnmpkembcdkcaa

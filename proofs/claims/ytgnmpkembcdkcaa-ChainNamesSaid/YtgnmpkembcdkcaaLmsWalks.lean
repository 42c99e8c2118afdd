/-
  What behind, Forward and Back of package lms compute. Conditions: numbers within their types.
-/
import Derived.Test.YtgnmpkembcdkcaaLmsPlain
import Derived.Test.YtgnmpkembcdkcaaTapsB
namespace Go.Proofs.Ytgnmpkembcdkcaa
open Go.RowKit
set_option linter.unusedVariables false

theorem lrR_ok {sh : Int} (h : ckF sh = 0) (ts ps : List Int) (x : Int) : lrR sh ts ps x = lrn ts ps x := if_pos h
theorem ifP_ok {sh : Int} (h : ckF sh = 0) (ps : List Int) : ifP sh ps = ps := if_pos h
theorem ifS_ok {sh : Int} (h : ckF sh = 0) : ifS sh = sh := if_pos h
theorem puR_ok {sh : Int} (h : ckF sh = 0) (ps : List Int) (x : Int) : puR sh ps x = psh ps x := if_pos h
theorem gsR_ok {sh : Int} (h : ckF sh = 0) (ts ps : List Int) : gsR sh ts ps = gsV sh ts ps := if_pos h

set_option maxHeartbeats 1000000 in
theorem behind_ok (sh : Int) (ts ps : List Int) (x y : Int) (w : World) (hF : F16 ts ps) (h : ckF sh = 0) (ht : I32 ts) (hp : I32 ps) :
    Calls Try.prog 41 #[.agg (fA sh ts ps), .int .i32 x, .int .i32 y] w fun e w' => e = .returned (.agg (fA sh (lrn ts ps y) (psh ps x))) ∧ Below w.heap.size w w' := by
  have BB := Lib.hid (bel_self w)
  have hL : F16 (lrn ts ps y) ps := f16 (lrn_len ts ps y) hF.2
  have CL := Lib.hid (fun W => learn_any sh ts ps y W hF ht hp)
  rw [lrR_ok h, ifP_ok h, ifS_ok h, h] at CL
  have CP := Lib.hid (fun W => push_any sh (lrn ts ps y) ps x W hL)
  rw [puR_ok h, ifP_ok h, ifS_ok h, h] at CP
  have HL := Lib.hid hL
  have HP := Lib.hid (f16 hL.1 (psh_len hL.2 x))
  generalize lrn ts ps y = l at *
  generalize psh ps x = q at *
  clear h ht hp hL
  go_enter Try.func41, Try.ntmps41
  go_wp2_with (first
    | ((with_reducible refine flt_box (o := ⟨some 3, _, _, _, _, _⟩) flt rfl _ rfl rfl hF ?_); intro w1 bf hbf hBf bel1; have of := Nat.le_trans BB.out.size hbf; have BB := Lib.hid (bel_next BB.out bel1); have Xf := Lib.hid hBf; clear bel1 hBf hbf)
    | ((with_reducible refine flt_alloc (o := ⟨some 6, _, _, _, _, _⟩) flt rfl rfl ?_); intro w2 br hbr hBr bel2; have q_f_r : bf < br := Nat.lt_of_lt_of_le Xf.out.lt hbr; have or := Nat.le_trans BB.out.size hbr; have Xf := Lib.hid (Xf.out.next bel2); have BB := Lib.hid (bel_next BB.out bel2); have Xr := Lib.hid hBr; clear bel2 hBr hbr)
    | (with_reducible refine flt_load (o := ⟨some 8, _, _, _, _, _⟩) flt rfl _ rfl rfl Xf.out ?_))
  refine (CL.out _).mono ?_
  rintro e w3 ⟨rfl, bel3⟩
  have Xf := Lib.hid (Xf.out.next bel3)
  have Xr := Lib.hid (Xr.out.next bel3)
  have BB := Lib.hid (bel_next BB.out bel3)
  clear bel3
  go_wp2_with (first
    | ((with_reducible refine flt_store flt rfl (.tmp 3) (.tmp 11) rfl rfl rfl Xf.out HL.out ?_); intro w4 hB4 onl4; have Xr := Lib.hid (Xr.out.only (by omega) onl4); have BB := Lib.hid (onl4.bel of BB.out); have Xf := Lib.hid hB4; clear onl4 hB4)
    | (with_reducible refine flt_load (o := ⟨some 14, _, _, _, _, _⟩) flt rfl _ rfl rfl Xf.out ?_))
  refine (CP.out _).mono ?_
  rintro e w5 ⟨rfl, bel5⟩
  have Xf := Lib.hid (Xf.out.next bel5)
  have Xr := Lib.hid (Xr.out.next bel5)
  have BB := Lib.hid (bel_next BB.out bel5)
  clear bel5
  go_wp2_with (first
    | ((with_reducible refine flt_store flt rfl (.tmp 3) (.tmp 17) rfl rfl rfl Xf.out HP.out ?_); intro w6 hB6 onl6; have Xr := Lib.hid (Xr.out.only (by omega) onl6); have BB := Lib.hid (onl6.bel of BB.out); have Xf := Lib.hid hB6; clear onl6 hB6)
    | (with_reducible refine flt_load (o := ⟨some 19, _, _, _, _, _⟩) flt rfl _ rfl rfl Xf.out ?_)
    | ((with_reducible refine flt_store flt rfl (.tmp 6) (.tmp 19) rfl rfl rfl Xr.out HP.out ?_); intro w7 hB7 onl7; have Xf := Lib.hid (Xf.out.only (by omega) onl7); have BB := Lib.hid (onl7.bel or BB.out); have Xr := Lib.hid hB7; clear onl7 hB7))
  exact bodyPost_ret (flt_res0 flt rfl _ _ rfl Xr.out) rfl ⟨rfl, BB.out⟩

set_option maxHeartbeats 1000000 in
theorem lforward_bad (sh : Int) (s : St) (x : Int) (w : World) (hv : VS s) (h : ckF sh ≠ 0) :
    Calls Try.prog 30 #[.agg (fA sh s.1 s.2), .int .i32 x] w fun e w' => e = .returned (.tuple #[.int .i32 0, .agg (fA 0 z16 z16), .int .i64 (ckF sh)]) ∧ Below w.heap.size w w' := by
  have BB := Lib.hid (bel_self w)
  have hF := hv.1
  have CG := Lib.hid (fun W => tguess_any sh s.1 s.2 W hF hv.2.1 hv.2.2)
  have hq : (ckF sh != 0) = true := by simp [h]
  generalize ckF sh = ce at *
  generalize gsR sh s.1 s.2 = g at *
  clear h hv
  go_enter Try.func30, Try.ntmps30
  go_wp2_with (first
    | ((with_reducible refine flt_box (o := ⟨some 2, _, _, _, _, _⟩) flt rfl _ rfl rfl hF ?_); intro w1 bf hbf hBf bel1; have of := Nat.le_trans BB.out.size hbf; have BB := Lib.hid (bel_next BB.out bel1); have Xf := Lib.hid hBf; clear bel1 hBf hbf)
    | ((with_reducible refine flt_alloc (o := ⟨some 5, _, _, _, _, _⟩) flt rfl rfl ?_); intro w2 br hbr hBr bel2; have q_f_r : bf < br := Nat.lt_of_lt_of_le Xf.out.lt hbr; have or := Nat.le_trans BB.out.size hbr; have Xf := Lib.hid (Xf.out.next bel2); have BB := Lib.hid (bel_next BB.out bel2); have Xr := Lib.hid hBr; clear bel2 hBr hbr)
    | (with_reducible refine flt_load (o := ⟨some 10, _, _, _, _, _⟩) flt rfl _ rfl rfl Xf.out ?_))
  refine (CG.out _).mono ?_
  rintro e w3 ⟨rfl, bel3⟩
  have Xf := Lib.hid (Xf.out.next bel3)
  have Xr := Lib.hid (Xr.out.next bel3)
  have BB := Lib.hid (bel_next BB.out bel3)
  clear bel3
  go_wp2_with (first
    | (with_reducible refine flt_bld0 (o := ⟨some 16, _, _, _, _, _⟩) flt fltI rfl rfl ?_)
    | ((with_reducible refine flt_store flt rfl (.tmp 5) (.tmp 16) rfl rfl rfl Xr.out f16z ?_); intro w4 hB4 onl4; have Xf := Lib.hid (Xf.out.only (by omega) onl4); have BB := Lib.hid (onl4.bel or BB.out); have Xr := Lib.hid hB4; clear onl4 hB4))
  exact bodyPost_ret (flt_res2 flt rfl _ _ rfl Xr.out) rfl ⟨rfl, BB.out⟩
set_option maxHeartbeats 1000000 in
theorem lforward_ok (sh : Int) (s : St) (x : Int) (w : World) (hv : VS s) (h : ckF sh = 0) (hx : G32 x) :
    Calls Try.prog 30 #[.agg (fA sh s.1 s.2), .int .i32 x] w fun e w' => e = .returned (.tuple #[.int .i32 (oF sh s x), .agg (fA sh (nF sh s x).1 (nF sh s x).2), .int .i64 0]) ∧ Below w.heap.size w w' := by
  have BB := Lib.hid (bel_self w)
  have hF := hv.1
  have CG := Lib.hid (fun W => tguess_any sh s.1 s.2 W hF hv.2.1 hv.2.2)
  rw [gsR_ok h, h] at CG
  have CB := Lib.hid (fun W => behind_ok sh s.1 s.2 x (oF sh s x) W hF h hv.2.1 hv.2.2)
  rw [show lrn s.1 s.2 (oF sh s x) = (nF sh s x).1 from rfl, show psh s.2 x = (nF sh s x).2 from rfl] at CB
  have hN : VS (nF sh s x) := nF_v sh s x hv hx
  have HN := Lib.hid hN.1
  have b1 := gsV_bd sh s.1 s.2
  obtain ⟨b2, b3⟩ := hx
  rw [show oF sh s x = wrap32 (x - gsV sh s.1 s.2) from rfl] at CB ⊢
  generalize (nF sh s x).1 = n1 at *
  generalize (nF sh s x).2 = n2 at *
  generalize gsV sh s.1 s.2 = g at *
  clear h hv hN
  go_enter Try.func30, Try.ntmps30
  go_wp2_with (first
    | ((with_reducible refine flt_box (o := ⟨some 2, _, _, _, _, _⟩) flt rfl _ rfl rfl hF ?_); intro w1 bf hbf hBf bel1; have of := Nat.le_trans BB.out.size hbf; have BB := Lib.hid (bel_next BB.out bel1); have Xf := Lib.hid hBf; clear bel1 hBf hbf)
    | ((with_reducible refine flt_alloc (o := ⟨some 5, _, _, _, _, _⟩) flt rfl rfl ?_); intro w2 br hbr hBr bel2; have q_f_r : bf < br := Nat.lt_of_lt_of_le Xf.out.lt hbr; have or := Nat.le_trans BB.out.size hbr; have Xf := Lib.hid (Xf.out.next bel2); have BB := Lib.hid (bel_next BB.out bel2); have Xr := Lib.hid hBr; clear bel2 hBr hbr)
    | (with_reducible refine flt_load (o := ⟨some 10, _, _, _, _, _⟩) flt rfl _ rfl rfl Xf.out ?_))
  refine (CG.out _).mono ?_
  rintro e w3 ⟨rfl, bel3⟩
  have Xf := Lib.hid (Xf.out.next bel3)
  have Xr := Lib.hid (Xr.out.next bel3)
  have BB := Lib.hid (bel_next BB.out bel3)
  clear bel3
  go_wp2_with (first
    | (with_reducible refine flt_load (o := ⟨some 21, _, _, _, _, _⟩) flt rfl _ rfl rfl Xf.out ?_))
  refine (CB.out _).mono ?_
  rintro e w4 ⟨rfl, bel4⟩
  have Xf := Lib.hid (Xf.out.next bel4)
  have Xr := Lib.hid (Xr.out.next bel4)
  have BB := Lib.hid (bel_next BB.out bel4)
  clear bel4
  go_wp2_with (first
    | ((with_reducible refine flt_store flt rfl (.tmp 5) (.tmp 26) rfl rfl rfl Xr.out HN.out ?_); intro w5 hB5 onl5; have Xf := Lib.hid (Xf.out.only (by omega) onl5); have BB := Lib.hid (onl5.bel or BB.out); have Xr := Lib.hid hB5; clear onl5 hB5))
  exact bodyPost_ret (flt_res2 flt rfl _ _ rfl Xr.out) rfl ⟨rfl, BB.out⟩
set_option maxHeartbeats 1000000 in
theorem lback_bad (sh : Int) (s : St) (x : Int) (w : World) (hv : VS s) (h : ckF sh ≠ 0) :
    Calls Try.prog 32 #[.agg (fA sh s.1 s.2), .int .i32 x] w fun e w' => e = .returned (.tuple #[.int .i32 0, .agg (fA 0 z16 z16), .int .i64 (ckF sh)]) ∧ Below w.heap.size w w' := by
  have BB := Lib.hid (bel_self w)
  have hF := hv.1
  have CG := Lib.hid (fun W => tguess_any sh s.1 s.2 W hF hv.2.1 hv.2.2)
  have hq : (ckF sh != 0) = true := by simp [h]
  generalize ckF sh = ce at *
  generalize gsR sh s.1 s.2 = g at *
  clear h hv
  go_enter Try.func32, Try.ntmps32
  go_wp2_with (first
    | ((with_reducible refine flt_box (o := ⟨some 2, _, _, _, _, _⟩) flt rfl _ rfl rfl hF ?_); intro w1 bf hbf hBf bel1; have of := Nat.le_trans BB.out.size hbf; have BB := Lib.hid (bel_next BB.out bel1); have Xf := Lib.hid hBf; clear bel1 hBf hbf)
    | ((with_reducible refine flt_alloc (o := ⟨some 5, _, _, _, _, _⟩) flt rfl rfl ?_); intro w2 br hbr hBr bel2; have q_f_r : bf < br := Nat.lt_of_lt_of_le Xf.out.lt hbr; have or := Nat.le_trans BB.out.size hbr; have Xf := Lib.hid (Xf.out.next bel2); have BB := Lib.hid (bel_next BB.out bel2); have Xr := Lib.hid hBr; clear bel2 hBr hbr)
    | (with_reducible refine flt_load (o := ⟨some 10, _, _, _, _, _⟩) flt rfl _ rfl rfl Xf.out ?_))
  refine (CG.out _).mono ?_
  rintro e w3 ⟨rfl, bel3⟩
  have Xf := Lib.hid (Xf.out.next bel3)
  have Xr := Lib.hid (Xr.out.next bel3)
  have BB := Lib.hid (bel_next BB.out bel3)
  clear bel3
  go_wp2_with (first
    | (with_reducible refine flt_bld0 (o := ⟨some 16, _, _, _, _, _⟩) flt fltI rfl rfl ?_)
    | ((with_reducible refine flt_store flt rfl (.tmp 5) (.tmp 16) rfl rfl rfl Xr.out f16z ?_); intro w4 hB4 onl4; have Xf := Lib.hid (Xf.out.only (by omega) onl4); have BB := Lib.hid (onl4.bel or BB.out); have Xr := Lib.hid hB4; clear onl4 hB4))
  exact bodyPost_ret (flt_res2 flt rfl _ _ rfl Xr.out) rfl ⟨rfl, BB.out⟩
set_option maxHeartbeats 1000000 in
theorem lback_ok (sh : Int) (s : St) (x : Int) (w : World) (hv : VS s) (h : ckF sh = 0) (hx : G32 x) :
    Calls Try.prog 32 #[.agg (fA sh s.1 s.2), .int .i32 x] w fun e w' => e = .returned (.tuple #[.int .i32 (oB sh s x), .agg (fA sh (nBk sh s x).1 (nBk sh s x).2), .int .i64 0]) ∧ Below w.heap.size w w' := by
  have BB := Lib.hid (bel_self w)
  have hF := hv.1
  have CG := Lib.hid (fun W => tguess_any sh s.1 s.2 W hF hv.2.1 hv.2.2)
  rw [gsR_ok h, h] at CG
  have CB := Lib.hid (fun W => behind_ok sh s.1 s.2 (oB sh s x) x W hF h hv.2.1 hv.2.2)
  rw [show lrn s.1 s.2 x = (nBk sh s x).1 from rfl, show psh s.2 (oB sh s x) = (nBk sh s x).2 from rfl] at CB
  have hN : VS (nBk sh s x) := nB_v sh s x hv
  have HN := Lib.hid hN.1
  have b1 := gsV_bd sh s.1 s.2
  obtain ⟨b2, b3⟩ := hx
  rw [show oB sh s x = wrap32 (x + gsV sh s.1 s.2) from rfl] at CB ⊢
  generalize (nBk sh s x).1 = n1 at *
  generalize (nBk sh s x).2 = n2 at *
  generalize gsV sh s.1 s.2 = g at *
  clear h hv hN
  go_enter Try.func32, Try.ntmps32
  go_wp2_with (first
    | ((with_reducible refine flt_box (o := ⟨some 2, _, _, _, _, _⟩) flt rfl _ rfl rfl hF ?_); intro w1 bf hbf hBf bel1; have of := Nat.le_trans BB.out.size hbf; have BB := Lib.hid (bel_next BB.out bel1); have Xf := Lib.hid hBf; clear bel1 hBf hbf)
    | ((with_reducible refine flt_alloc (o := ⟨some 5, _, _, _, _, _⟩) flt rfl rfl ?_); intro w2 br hbr hBr bel2; have q_f_r : bf < br := Nat.lt_of_lt_of_le Xf.out.lt hbr; have or := Nat.le_trans BB.out.size hbr; have Xf := Lib.hid (Xf.out.next bel2); have BB := Lib.hid (bel_next BB.out bel2); have Xr := Lib.hid hBr; clear bel2 hBr hbr)
    | (with_reducible refine flt_load (o := ⟨some 10, _, _, _, _, _⟩) flt rfl _ rfl rfl Xf.out ?_))
  refine (CG.out _).mono ?_
  rintro e w3 ⟨rfl, bel3⟩
  have Xf := Lib.hid (Xf.out.next bel3)
  have Xr := Lib.hid (Xr.out.next bel3)
  have BB := Lib.hid (bel_next BB.out bel3)
  clear bel3
  go_wp2_with (first
    | (with_reducible refine flt_load (o := ⟨some 21, _, _, _, _, _⟩) flt rfl _ rfl rfl Xf.out ?_))
  refine (CB.out _).mono ?_
  rintro e w4 ⟨rfl, bel4⟩
  have Xf := Lib.hid (Xf.out.next bel4)
  have Xr := Lib.hid (Xr.out.next bel4)
  have BB := Lib.hid (bel_next BB.out bel4)
  clear bel4
  go_wp2_with (first
    | ((with_reducible refine flt_store flt rfl (.tmp 5) (.tmp 26) rfl rfl rfl Xr.out HN.out ?_); intro w5 hB5 onl5; have Xf := Lib.hid (Xf.out.only (by omega) onl5); have BB := Lib.hid (onl5.bel or BB.out); have Xr := Lib.hid hB5; clear onl5 hB5))
  exact bodyPost_ret (flt_res2 flt rfl _ _ rfl Xr.out) rfl ⟨rfl, BB.out⟩
end Go.Proofs.Ytgnmpkembcdkcaa

/-
  What New, Check, Step, Stepped, Forward and Back of the reference of layer 19 compute. Conditions: numbers within their types.
-/
import Derived.Test.YtgnmpkembcdkcaaChWalks
import Derived.Test.YtgnmpkembcdkcaaChRef15
import Derived.Test.YtgnmpkembcdkcaaChRef13
import Derived.Test.YtgnmpkembcdkcaaRefNew
namespace Go.Proofs.Ytgnmpkembcdkcaa
open Go.RowKit
set_option linter.unusedVariables false

theorem res_tmp_chn {P : Program} {fn : Func} {v r : Tmp} {C T A E I : TypeId} {b : Nat} {bt la sh : Int} {ts ps : List Int} (hC : ChnT P C T A E I) (h : fn.results = #[.tmp v, .cell r C]) (tmps : Array Value) (w : World) (hr : tmps.getD r undef = .pointer (some ⟨b, 0, none⟩)) (hb : CB w b C bt la sh ts ps) :
    (results fn tmps).run P w = .ok (.tuple #[tmps.getD v undef, .agg (cA bt la sh ts ps)]) w := by
  obtain ⟨d, hu, hd⟩ := hC.row
  have hl := run_loadVar_mid (P := P) w b 0 C (cA bt la sh ts ps).toList d (by have := World.rangeAt_of_block hb.1 0 (cA bt la sh ts ps).size; simpa using this) hu hd (by simpa using chn_sz hC hb.2)
  simp only [Array.toArray_toList] at hl
  have hr' : tmps[r]?.getD undef = .pointer (some ⟨b, 0, none⟩) := by simpa using hr
  simp [results, h, hr', asAddr, hl]

set_option maxHeartbeats 1000000 in
theorem crenew_ok (b : Int) (ts : List Int) (w : World) (hF : ts.length = 16) (h : nwE b = 0) :
    Calls Try.prog 11 #[.int .i64 b, .agg (aA ts)] w fun e w' => e = .returned (.tuple #[.agg (cA b 0 (nwS b) ts z16), .int .i64 0]) ∧ Below w.heap.size w w' := by
  have BB := Lib.hid (bel_self w)
  have CN := Lib.hid (fun W => renew_any b ts W hF)
  rw [show nwF b ts = fA (nwS b) ts z16 from if_pos h, h] at CN
  have HF := Lib.hid (f16 hF z16_len)
  generalize nwS b = sh at *
  clear h
  go_enter Try.func11, Try.ntmps11
  go_wp2_with (first
    | ((with_reducible refine arr_box (o := ⟨some 3, _, _, _, _, _⟩) flt rfl _ rfl rfl hF ?_); intro w1 bt hbt hBt bel1; have ot := Nat.le_trans BB.out.size hbt; have BB := Lib.hid (bel_next BB.out bel1); have Xt := Lib.hid hBt; clear bel1 hBt hbt)
    | ((with_reducible refine chn_alloc (o := ⟨some 4, _, _, _, _, _⟩) chn rfl rfl ?_); intro w2 br hbr hBr bel2; have q_t_r : bt < br := Nat.lt_of_lt_of_le Xt.out.lt hbr; have or := Nat.le_trans BB.out.size hbr; have Xt := Lib.hid (Xt.out.next bel2); have BB := Lib.hid (bel_next BB.out bel2); have Xr := Lib.hid hBr; clear bel2 hBr hbr)
    | (with_reducible refine arr_load (o := ⟨some 10, _, _, _, _, _⟩) flt rfl _ rfl rfl Xt.out ?_))
  refine (CN.out _).mono ?_
  rintro e w3 ⟨rfl, bel3⟩
  have Xt := Lib.hid (Xt.out.next bel3)
  have Xr := Lib.hid (Xr.out.next bel3)
  have BB := Lib.hid (bel_next BB.out bel3)
  clear bel3
  go_wp2_with (first
    | ((with_reducible refine flt_alloc (o := ⟨some 6, _, _, _, _, _⟩) flt rfl rfl ?_); intro w4 bf hbf hBf bel4; have q_t_f : bt < bf := Nat.lt_of_lt_of_le Xt.out.lt hbf; have q_r_f : br < bf := Nat.lt_of_lt_of_le Xr.out.lt hbf; have of := Nat.le_trans BB.out.size hbf; have Xt := Lib.hid (Xt.out.next bel4); have Xr := Lib.hid (Xr.out.next bel4); have BB := Lib.hid (bel_next BB.out bel4); have Xf := Lib.hid hBf; clear bel4 hBf hbf)
    | ((with_reducible refine flt_store flt rfl (.tmp 6) (.tmp 12) rfl rfl rfl Xf.out HF.out ?_); intro w5 hB5 onl5; have Xt := Lib.hid (Xt.out.only (by omega) onl5); have Xr := Lib.hid (Xr.out.only (by omega) onl5); have BB := Lib.hid (onl5.bel of BB.out); have Xf := Lib.hid hB5; clear onl5 hB5)
    | (with_reducible refine flt_load (o := ⟨some 18, _, _, _, _, _⟩) flt rfl _ rfl rfl Xf.out ?_)
    | (with_reducible refine chn_bld2 (o := ⟨some 19, _, _, _, _, _⟩) chn rfl _ _ rfl rfl rfl HF.out ?_)
    | ((with_reducible refine chn_store chn rfl (.tmp 4) (.tmp 19) rfl rfl rfl Xr.out HF.out ?_); intro w6 hB6 onl6; have Xt := Lib.hid (Xt.out.only (by omega) onl6); have Xf := Lib.hid (Xf.out.only (by omega) onl6); have BB := Lib.hid (onl6.bel or BB.out); have Xr := Lib.hid hB6; clear onl6 hB6))
  exact bodyPost_ret (chn_res1 chn rfl _ _ rfl Xr.out) rfl ⟨rfl, BB.out⟩
set_option maxHeartbeats 1000000 in
theorem crenew_bad (b : Int) (ts : List Int) (w : World) (hF : ts.length = 16) (h : nwE b ≠ 0) :
    Calls Try.prog 11 #[.int .i64 b, .agg (aA ts)] w fun e w' => e = .returned (.tuple #[.agg (cA 0 0 0 z16 z16), .int .i64 2]) ∧ Below w.heap.size w w' := by
  have BB := Lib.hid (bel_self w)
  have CN := Lib.hid (fun W => renew_any b ts W hF)
  rw [show nwF b ts = fA 0 z16 z16 from if_neg h, (nwE_bad h).1] at CN
  clear h
  go_enter Try.func11, Try.ntmps11
  go_wp2_with (first
    | ((with_reducible refine arr_box (o := ⟨some 3, _, _, _, _, _⟩) flt rfl _ rfl rfl hF ?_); intro w1 bt hbt hBt bel1; have ot := Nat.le_trans BB.out.size hbt; have BB := Lib.hid (bel_next BB.out bel1); have Xt := Lib.hid hBt; clear bel1 hBt hbt)
    | ((with_reducible refine chn_alloc (o := ⟨some 4, _, _, _, _, _⟩) chn rfl rfl ?_); intro w2 br hbr hBr bel2; have q_t_r : bt < br := Nat.lt_of_lt_of_le Xt.out.lt hbr; have or := Nat.le_trans BB.out.size hbr; have Xt := Lib.hid (Xt.out.next bel2); have BB := Lib.hid (bel_next BB.out bel2); have Xr := Lib.hid hBr; clear bel2 hBr hbr)
    | (with_reducible refine arr_load (o := ⟨some 10, _, _, _, _, _⟩) flt rfl _ rfl rfl Xt.out ?_))
  refine (CN.out _).mono ?_
  rintro e w3 ⟨rfl, bel3⟩
  have Xt := Lib.hid (Xt.out.next bel3)
  have Xr := Lib.hid (Xr.out.next bel3)
  have BB := Lib.hid (bel_next BB.out bel3)
  clear bel3
  go_wp2_with (first
    | ((with_reducible refine flt_alloc (o := ⟨some 6, _, _, _, _, _⟩) flt rfl rfl ?_); intro w4 bf hbf hBf bel4; have q_t_f : bt < bf := Nat.lt_of_lt_of_le Xt.out.lt hbf; have q_r_f : br < bf := Nat.lt_of_lt_of_le Xr.out.lt hbf; have of := Nat.le_trans BB.out.size hbf; have Xt := Lib.hid (Xt.out.next bel4); have Xr := Lib.hid (Xr.out.next bel4); have BB := Lib.hid (bel_next BB.out bel4); have Xf := Lib.hid hBf; clear bel4 hBf hbf)
    | ((with_reducible refine flt_store flt rfl (.tmp 6) (.tmp 12) rfl rfl rfl Xf.out f16z ?_); intro w5 hB5 onl5; have Xt := Lib.hid (Xt.out.only (by omega) onl5); have Xr := Lib.hid (Xr.out.only (by omega) onl5); have BB := Lib.hid (onl5.bel of BB.out); have Xf := Lib.hid hB5; clear onl5 hB5)
    | (with_reducible refine chn_bld0 (o := ⟨some 16, _, _, _, _, _⟩) chn rfl rfl ?_)
    | ((with_reducible refine chn_store chn rfl (.tmp 4) (.tmp 16) rfl rfl rfl Xr.out f16z ?_); intro w6 hB6 onl6; have Xt := Lib.hid (Xt.out.only (by omega) onl6); have Xf := Lib.hid (Xf.out.only (by omega) onl6); have BB := Lib.hid (onl6.bel or BB.out); have Xr := Lib.hid hB6; clear onl6 hB6))
  exact bodyPost_ret (chn_res1 chn rfl _ _ rfl Xr.out) rfl ⟨rfl, BB.out⟩

set_option maxHeartbeats 1000000 in
theorem crecheck_any (bt la sh : Int) (ts ps : List Int) (w : World) (hF : F16 ts ps) :
    Calls Try.prog 17 #[.agg (cA bt la sh ts ps)] w fun e w' => e = .returned (.int .i64 (cnC bt sh)) ∧ Below w.heap.size w w' := by
  have BB := Lib.hid (bel_self w)
  by_cases h : bt = 8 ∨ bt = 16 ∨ bt = 24
  · by_cases h2 : nwS bt = sh
    · have E := Lib.hid (show cnC bt sh = 0 from if_pos ⟨if_pos h, h2⟩)
      subst h2
      rcases h with rfl | rfl | rfl
      all_goals
        go_enter Try.func17, Try.ntmps17
        go_wp2_with (first
          | ((with_reducible refine chn_box (o := ⟨some 1, _, _, _, _, _⟩) chn rfl _ rfl rfl hF ?_); intro w1 bc hbc hBc bel1; have oc := Nat.le_trans BB.out.size hbc; have BB := Lib.hid (bel_next BB.out bel1); have Xc := Lib.hid hBc; have c0 := Xc.out.c0; have c2 := Xc.out.c2; simp only [show nwS 8 = 10 from rfl, show nwS 16 = 9 from rfl, show nwS 24 = 10 from rfl] at c2; clear bel1 hBc hbc))
        go_ret
        exact ⟨by rw [E.out]; rfl, BB.out⟩
    · have E := Lib.hid (show cnC bt sh = 8 from if_neg (fun hh => h2 hh.2))
      rcases h with rfl | rfl | rfl
      · have q : (sh == 10) = false := by rw [beq_eq_false_iff_ne]; exact fun hh => h2 (by rw [hh]; rfl)
        clear h2
        go_enter Try.func17, Try.ntmps17
        go_wp2_with (first
          | ((with_reducible refine chn_box (o := ⟨some 1, _, _, _, _, _⟩) chn rfl _ rfl rfl hF ?_); intro w1 bc hbc hBc bel1; have oc := Nat.le_trans BB.out.size hbc; have BB := Lib.hid (bel_next BB.out bel1); have Xc := Lib.hid hBc; have c0 := Xc.out.c0; have c2 := Xc.out.c2; clear bel1 hBc hbc))
        go_ret
        exact ⟨by rw [E.out]; rfl, BB.out⟩
      · have q : (sh == 9) = false := by rw [beq_eq_false_iff_ne]; exact fun hh => h2 (by rw [hh]; rfl)
        clear h2
        go_enter Try.func17, Try.ntmps17
        go_wp2_with (first
          | ((with_reducible refine chn_box (o := ⟨some 1, _, _, _, _, _⟩) chn rfl _ rfl rfl hF ?_); intro w1 bc hbc hBc bel1; have oc := Nat.le_trans BB.out.size hbc; have BB := Lib.hid (bel_next BB.out bel1); have Xc := Lib.hid hBc; have c0 := Xc.out.c0; have c2 := Xc.out.c2; clear bel1 hBc hbc))
        go_ret
        exact ⟨by rw [E.out]; rfl, BB.out⟩
      · have q : (sh == 10) = false := by rw [beq_eq_false_iff_ne]; exact fun hh => h2 (by rw [hh]; rfl)
        clear h2
        go_enter Try.func17, Try.ntmps17
        go_wp2_with (first
          | ((with_reducible refine chn_box (o := ⟨some 1, _, _, _, _, _⟩) chn rfl _ rfl rfl hF ?_); intro w1 bc hbc hBc bel1; have oc := Nat.le_trans BB.out.size hbc; have BB := Lib.hid (bel_next BB.out bel1); have Xc := Lib.hid hBc; have c0 := Xc.out.c0; have c2 := Xc.out.c2; clear bel1 hBc hbc))
        go_ret
        exact ⟨by rw [E.out]; rfl, BB.out⟩
  · have E := Lib.hid (show cnC bt sh = 8 from if_neg (fun hh => h (nwE_ok hh.1)))
    have q1 : (bt == 8) = false := by rw [beq_eq_false_iff_ne]; omega
    have q2 : (bt == 16) = false := by rw [beq_eq_false_iff_ne]; omega
    have q3 : (bt == 24) = false := by rw [beq_eq_false_iff_ne]; omega
    clear h
    go_enter Try.func17, Try.ntmps17
    go_wp2_with (first
      | ((with_reducible refine chn_box (o := ⟨some 1, _, _, _, _, _⟩) chn rfl _ rfl rfl hF ?_); intro w1 bc hbc hBc bel1; have oc := Nat.le_trans BB.out.size hbc; have BB := Lib.hid (bel_next BB.out bel1); have Xc := Lib.hid hBc; have c0 := Xc.out.c0; have c2 := Xc.out.c2; clear bel1 hBc hbc))
    go_ret
    exact ⟨by rw [E.out]; rfl, BB.out⟩

set_option maxHeartbeats 1000000 in
theorem cbehind_ok (bt la sh : Int) (ts ps : List Int) (w : World) (hF : F16 ts ps) (h : bt = 8 ∨ bt = 16 ∨ bt = 24) (hl : G32 la) :
    Calls Try.prog 43 #[.agg (cA bt la sh ts ps)] w fun e w' => e = .returned (.int .i64 (guR bt la)) ∧ Below w.heap.size w w' := by
  have BB := Lib.hid (bel_self w)
  obtain ⟨l0, l1⟩ := hl
  have hg := guR_bd (bt := bt) ⟨l0, l1⟩
  obtain ⟨g0, g1⟩ := hg
  rcases h with rfl | rfl | rfl
  · have CB := Lib.hid (fun W => behind_any 4 la W (by omega) l0 l1)
    rw [show gF 4 la = guR 8 la from rfl] at CB
    generalize guR 8 la = g at *
    go_enter Try.func43, Try.ntmps43
    go_wp2_with (first
      | ((with_reducible refine chn_box (o := ⟨some 1, _, _, _, _, _⟩) chn rfl _ rfl rfl hF ?_); intro w1 bc hbc hBc bel1; have oc := Nat.le_trans BB.out.size hbc; have BB := Lib.hid (bel_next BB.out bel1); have Xc := Lib.hid hBc; have c0 := Xc.out.c0; have c1 := Xc.out.c1; clear bel1 hBc hbc))
    refine (CB.out _).mono ?_
    rintro e w' ⟨rfl, rfl⟩
    go_wp2_with fail
    go_ret
    exact ⟨rfl, BB.out⟩
  · have CB := Lib.hid (fun W => behind_any 5 la W (by omega) l0 l1)
    rw [show gF 5 la = guR 16 la from rfl] at CB
    generalize guR 16 la = g at *
    go_enter Try.func43, Try.ntmps43
    go_wp2_with (first
      | ((with_reducible refine chn_box (o := ⟨some 1, _, _, _, _, _⟩) chn rfl _ rfl rfl hF ?_); intro w1 bc hbc hBc bel1; have oc := Nat.le_trans BB.out.size hbc; have BB := Lib.hid (bel_next BB.out bel1); have Xc := Lib.hid hBc; have c0 := Xc.out.c0; have c1 := Xc.out.c1; clear bel1 hBc hbc))
    refine (CB.out _).mono ?_
    rintro e w' ⟨rfl, rfl⟩
    go_wp2_with fail
    go_ret
    exact ⟨rfl, BB.out⟩
  · have CB := Lib.hid (fun W => behind_any 5 la W (by omega) l0 l1)
    rw [show gF 5 la = guR 24 la from rfl] at CB
    generalize guR 24 la = g at *
    go_enter Try.func43, Try.ntmps43
    go_wp2_with (first
      | ((with_reducible refine chn_box (o := ⟨some 1, _, _, _, _, _⟩) chn rfl _ rfl rfl hF ?_); intro w1 bc hbc hBc bel1; have oc := Nat.le_trans BB.out.size hbc; have BB := Lib.hid (bel_next BB.out bel1); have Xc := Lib.hid hBc; have c0 := Xc.out.c0; have c1 := Xc.out.c1; clear bel1 hBc hbc))
    refine (CB.out _).mono ?_
    rintro e w' ⟨rfl, rfl⟩
    go_wp2_with fail
    go_ret
    exact ⟨rfl, BB.out⟩
end Go.Proofs.Ytgnmpkembcdkcaa

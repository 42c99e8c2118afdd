/-
  The walks of the chapter's example of layer 15, of LmsSame and LmsBack. Conditions: numbers within their types.
-/
import Derived.Test.YtbiikhfhhfmkoaaLmsEach
import Derived.Test.YtbiikhfhhfmkoaaRefA
import Derived.Test.YtbiikhfhhfmkoaaSame13
namespace Go.Proofs.Ytbiikhfhhfmkoaa
open Go.RowKit
set_option linter.unusedVariables false

theorem eqgF : Try.prog.eqGuardType Try.prog.depth 24 = false := by kernel_rfl
theorem eqgA : Try.prog.eqGuardType Try.prog.depth 22 = false := by kernel_rfl

theorem lAll_ok (sh : Int) (s : St) (A : Option Addr) (n c : Nat) (xs : List Int) (w : World) (hlen : xs.length = n) (hv : VS s) (h : ckF sh = 0) (hn : n ≤ 4000) (hx : I32 xs) (hs : Sl w w.heap.size .i32 A xs) :
    Calls Try.prog 16 #[.agg (fA sh s.1 s.2), .slice A n c] w fun e w' =>
      ∃ v, e = .returned (.tuple #[v, .agg (fA sh (finL (nF sh) s xs).1 (finL (nF sh) s xs).2), .int .i64 0]) ∧ Own w' w.heap.size 21 .i32 v (runL (oF sh) (nF sh) s xs) ∧ Below w.heap.size w w' := by
  subst hlen
  have := lAll_any sh s A _ c xs w rfl hv (by omega) hx hs
  have e := alE_ok h hn
  rwa [e, show alSh sh xs.length = sh from if_pos e, show alS (nF sh) sh s xs = _ from if_pos e, show alL (oF sh) (nF sh) sh s xs = _ from if_pos e] at this
theorem lUndo_ok (sh : Int) (s : St) (A : Option Addr) (n c : Nat) (xs : List Int) (w : World) (hlen : xs.length = n) (hv : VS s) (h : ckF sh = 0) (hn : n ≤ 4000) (hx : I32 xs) (hs : Sl w w.heap.size .i32 A xs) :
    Calls Try.prog 23 #[.agg (fA sh s.1 s.2), .slice A n c] w fun e w' =>
      ∃ v, e = .returned (.tuple #[v, .agg (fA sh (finL (nBk sh) s xs).1 (finL (nBk sh) s xs).2), .int .i64 0]) ∧ Own w' w.heap.size 21 .i32 v (runL (oB sh) (nBk sh) s xs) ∧ Below w.heap.size w w' := by
  subst hlen
  have := lUndo_any sh s A _ c xs w rfl hv (by omega) hx hs
  have e := alE_ok h hn
  rwa [e, show alSh sh xs.length = sh from if_pos e, show alS (nBk sh) sh s xs = _ from if_pos e, show alL (oB sh) (nBk sh) sh s xs = _ from if_pos e] at this

def s0 : St := (z16, z16)
theorem s0_v : VS s0 := ⟨f16z, by unfold I32; decide, by unfold I32; decide⟩
def exS : St := finL (nF 9) s0 [100, 100, 100]
theorem exS_out : runL (oF 9) (nF 9) s0 [100, 100, 100] = [100, 100, 99] := by decide +kernel
theorem exS_v : VS exS := finF_v 9 s0 _ s0_v (by unfold I32; decide)
theorem exS_0 : exS.2.getD 0 0 = 100 := by decide +kernel
theorem exS_3 : exS.2.getD 3 0 = 0 := by decide +kernel

set_option maxRecDepth 100000 in
set_option maxHeartbeats 1000000 in
theorem alive_any (w : World) : Calls Try.prog 14 #[] w fun e w' => e = .returned (.bool true) ∧ Below w.heap.size w w' := by
  have BB := Lib.hid (bel_self w)
  have CA := Lib.hid (fun A c (W : World) (h : Sl W W.heap.size .i32 A [100, 100, 100]) => lAll_ok 9 s0 A 3 c [100, 100, 100] W rfl s0_v rfl (by omega) (by unfold I32; decide) h)
  rw [exS_out, show finL (nF 9) s0 [100, 100, 100] = exS from rfl, show s0.1 = z16 from rfl, show s0.2 = z16 from rfl] at CA
  have HV := Lib.hid exS_v.1
  have H0 := Lib.hid exS_0
  have H3 := Lib.hid exS_3
  generalize exS.1 = e1 at *
  generalize exS.2 = e2 at *
  go_enter Try.func14, Try.ntmps14
  go_wp2_with (first
    | (with_reducible refine flt_bld1 (o := ⟨some 5, _, _, _, _, _⟩) flt fltI rfl _ rfl rfl ?_))
  refine (CA.out _ _ _ (Sl.lit' w .i32 _ [100, 100, 100] rfl)).mono ?_
  rintro e w1 ⟨v1, rfl, own1, bel1⟩
  obtain ⟨Aa, ca, rfl, _, _, sl1⟩ := own1.sl
  have Sa := Lib.hid (SA.of sl1)
  have BB := Lib.hid (bel_next (bel_up BB.out _) bel1)
  clear own1 bel1 sl1
  go_wp2_with (first
    | ((with_reducible refine flt_alloc (o := ⟨some 2, _, _, _, _, _⟩) flt rfl rfl ?_); intro w2 bf hbf hBf bel2; have q_Sa_f := Nat.le_trans Sa.out.2 hbf; have of := Nat.le_trans BB.out.size hbf; have Sa := Lib.hid (Sa.out.next bel2); have BB := Lib.hid (bel_next BB.out bel2); have Xf := Lib.hid hBf; clear bel2 hBf hbf)
    | ((with_reducible refine flt_store flt rfl (.tmp 2) (.tmp 9) rfl rfl rfl Xf.out HV.out ?_); intro w3 hB3 onl3; have Sa := Lib.hid (Sa.out.only (by omega) onl3); have BB := Lib.hid (onl3.bel of BB.out); have Xf := Lib.hid hB3; clear onl3 hB3))
  refine (same13 Aa _ 3 3 ca 3 [100, 100, 99] _ rfl rfl (by simp) (Sa.out.sl.up _) (Sl.lit' w3 .i32 _ [100, 100, 99] rfl)).mono ?_
  rintro e w4 ⟨rfl, bel4⟩
  have belA := bel_next (bel_up (bel_self w3) _) bel4
  have Xf := Lib.hid (Xf.out.next belA)
  have BB := Lib.hid (bel_next BB.out belA)
  have c0 := Xf.out.cp (show 0 < 16 by omega)
  have c3 := Xf.out.cp (show 3 < 16 by omega)
  rw [H0.out] at c0
  rw [H3.out] at c3
  clear bel4 belA
  go_wp2_with fail
  go_ret
  exact ⟨rfl, BB.out⟩

set_option maxRecDepth 100000 in
set_option maxHeartbeats 1000000 in
theorem lsame_bad (sh : Int) (ts ps : List Int) (x : Int) (w : World) (hF : F16 ts ps) (h : ckF sh ≠ 0) :
    Calls Try.prog 5 #[.agg (fA sh ts ps), .int .i32 x] w fun e w' => e = .returned (.bool true) ∧ Below w.heap.size w w' := by
  have BB := Lib.hid (bel_self w)
  have CK := Lib.hid (fun W => recheck_any sh ts ps W hF)
  have hq : (ckF sh != 0) = true := by simp [h]
  generalize ckF sh = ce at *
  clear h
  go_enter Try.func5, Try.ntmps5
  go_wp2_with (first
    | ((with_reducible refine flt_box (o := ⟨some 2, _, _, _, _, _⟩) flt rfl _ rfl rfl hF ?_); intro w1 bf hbf hBf bel1; have of := Nat.le_trans BB.out.size hbf; have BB := Lib.hid (bel_next BB.out bel1); have Xf := Lib.hid hBf; clear bel1 hBf hbf))
  refine (alive_any _).mono ?_
  rintro e w2 ⟨rfl, bel2⟩
  have Xf := Lib.hid (Xf.out.next bel2)
  have BB := Lib.hid (bel_next BB.out bel2)
  clear bel2
  go_wp2_with (first
    | (with_reducible refine flt_load (o := ⟨some 19, _, _, _, _, _⟩) flt rfl _ rfl rfl Xf.out ?_))
  refine (CK.out _).mono ?_
  rintro e w3 ⟨rfl, bel3⟩
  have Xf := Lib.hid (Xf.out.next bel3)
  have BB := Lib.hid (bel_next BB.out bel3)
  clear bel3
  go_wp2_with fail
  go_ret
  exact ⟨rfl, BB.out⟩
set_option maxRecDepth 100000 in
set_option maxHeartbeats 1000000 in
theorem lsame_ok (sh : Int) (s : St) (x : Int) (w : World) (hv : VS s) (h : ckF sh = 0) (hx : G32 x) :
    Calls Try.prog 5 #[.agg (fA sh s.1 s.2), .int .i32 x] w fun e w' => e = .returned (.bool true) ∧ Below w.heap.size w w' := by
  have BB := Lib.hid (bel_self w)
  have hF := hv.1
  have CK := Lib.hid (fun W => recheck_any sh s.1 s.2 W hF)
  rw [h] at CK
  have C1 := Lib.hid (fun W => lforward_ok sh s x W hv h hx)
  have C2 := Lib.hid (fun W => lback_ok sh s (oF sh s x) W hv h (oF_bd sh s x))
  rw [oB_oF sh s x hx, nB_oF sh s x hx] at C2
  have C3 := Lib.hid (fun W => lback_ok sh s x W hv h hx)
  have C4 := Lib.hid (fun W => lforward_ok sh s (oB sh s x) W hv h (oB_bd sh s x))
  rw [oF_oB sh s x hx, nF_oB sh s x hx] at C4
  have HN := Lib.hid (nF_v sh s x hv hx).1
  have HM := Lib.hid (nB_v sh s x hv).1
  have C5 := Lib.hid (fun W => recheck_any sh (nF sh s x).1 (nF sh s x).2 W HN.out)
  rw [h] at C5
  have P1 := Lib.hid (show (nF sh s x).2.getD 0 0 = x from rfl)
  have P2 := Lib.hid (show (nBk sh s x).2.getD 0 0 = oB sh s x from rfl)
  have q1 : (x == x) = true := by simp
  have q2 : (oB sh s x == oB sh s x) = true := by simp
  generalize (nF sh s x).1 = n1 at *
  generalize (nF sh s x).2 = n2 at *
  generalize (nBk sh s x).1 = m1 at *
  generalize (nBk sh s x).2 = m2 at *
  generalize oF sh s x = y at *
  generalize oB sh s x = z at *
  clear h hv hx
  go_enter Try.func5, Try.ntmps5
  go_wp2_with (first
    | ((with_reducible refine flt_box (o := ⟨some 2, _, _, _, _, _⟩) flt rfl _ rfl rfl hF ?_); intro w1 bf hbf hBf bel1; have of := Nat.le_trans BB.out.size hbf; have BB := Lib.hid (bel_next BB.out bel1); have Xf := Lib.hid hBf; clear bel1 hBf hbf))
  refine (alive_any _).mono ?_
  rintro e w2 ⟨rfl, bel2⟩
  have Xf := Lib.hid (Xf.out.next bel2)
  have BB := Lib.hid (bel_next BB.out bel2)
  clear bel2
  go_wp2_with (first
    | (with_reducible refine flt_load (o := ⟨some 19, _, _, _, _, _⟩) flt rfl _ rfl rfl Xf.out ?_))
  refine (CK.out _).mono ?_
  rintro e w3 ⟨rfl, bel3⟩
  have Xf := Lib.hid (Xf.out.next bel3)
  have BB := Lib.hid (bel_next BB.out bel3)
  clear bel3
  go_wp2_with (first
    | (with_reducible refine flt_load (o := ⟨some 28, _, _, _, _, _⟩) flt rfl _ rfl rfl Xf.out ?_))
  refine (C1.out _).mono ?_
  rintro e w4 ⟨rfl, bel4⟩
  have Xf := Lib.hid (Xf.out.next bel4)
  have BB := Lib.hid (bel_next BB.out bel4)
  clear bel4
  go_wp2_with (first
    | ((with_reducible refine flt_alloc (o := ⟨some 7, _, _, _, _, _⟩) flt rfl rfl ?_); intro w5 ba hba hBa bel5; have q_f_a : bf < ba := Nat.lt_of_lt_of_le Xf.out.lt hba; have oa := Nat.le_trans BB.out.size hba; have Xf := Lib.hid (Xf.out.next bel5); have BB := Lib.hid (bel_next BB.out bel5); have Xa := Lib.hid hBa; clear bel5 hBa hba)
    | ((with_reducible refine flt_store flt rfl (.tmp 7) (.tmp 32) rfl rfl rfl Xa.out HN.out ?_); intro w6 hB6 onl6; have Xf := Lib.hid (Xf.out.only (by omega) onl6); have BB := Lib.hid (onl6.bel oa BB.out); have Xa := Lib.hid hB6; clear onl6 hB6)
    | (with_reducible refine flt_load (o := ⟨some 35, _, _, _, _, _⟩) flt rfl _ rfl rfl Xf.out ?_))
  refine (C2.out _).mono ?_
  rintro e w7 ⟨rfl, bel7⟩
  have Xf := Lib.hid (Xf.out.next bel7)
  have Xa := Lib.hid (Xa.out.next bel7)
  have BB := Lib.hid (bel_next BB.out bel7)
  clear bel7
  go_wp2_with (first
    | ((with_reducible refine flt_alloc (o := ⟨some 10, _, _, _, _, _⟩) flt rfl rfl ?_); intro w8 bb hbb hBb bel8; have q_f_b : bf < bb := Nat.lt_of_lt_of_le Xf.out.lt hbb; have q_a_b : ba < bb := Nat.lt_of_lt_of_le Xa.out.lt hbb; have ob := Nat.le_trans BB.out.size hbb; have Xf := Lib.hid (Xf.out.next bel8); have Xa := Lib.hid (Xa.out.next bel8); have BB := Lib.hid (bel_next BB.out bel8); have Xb := Lib.hid hBb; clear bel8 hBb hbb)
    | ((with_reducible refine flt_store flt rfl (.tmp 10) (.tmp 39) rfl rfl rfl Xb.out HN.out ?_); intro w9 hB9 onl9; have Xf := Lib.hid (Xf.out.only (by omega) onl9); have Xa := Lib.hid (Xa.out.only (by omega) onl9); have BB := Lib.hid (onl9.bel ob BB.out); have Xb := Lib.hid hB9; clear onl9 hB9)
    | (with_reducible refine flt_load (o := ⟨some 42, _, _, _, _, _⟩) flt rfl _ rfl rfl Xf.out ?_))
  refine (C3.out _).mono ?_
  rintro e w10 ⟨rfl, bel10⟩
  have Xf := Lib.hid (Xf.out.next bel10)
  have Xa := Lib.hid (Xa.out.next bel10)
  have Xb := Lib.hid (Xb.out.next bel10)
  have BB := Lib.hid (bel_next BB.out bel10)
  clear bel10
  go_wp2_with (first
    | ((with_reducible refine flt_alloc (o := ⟨some 13, _, _, _, _, _⟩) flt rfl rfl ?_); intro w11 bc hbc hBc bel11; have q_f_c : bf < bc := Nat.lt_of_lt_of_le Xf.out.lt hbc; have q_a_c : ba < bc := Nat.lt_of_lt_of_le Xa.out.lt hbc; have q_b_c : bb < bc := Nat.lt_of_lt_of_le Xb.out.lt hbc; have oc := Nat.le_trans BB.out.size hbc; have Xf := Lib.hid (Xf.out.next bel11); have Xa := Lib.hid (Xa.out.next bel11); have Xb := Lib.hid (Xb.out.next bel11); have BB := Lib.hid (bel_next BB.out bel11); have Xc := Lib.hid hBc; clear bel11 hBc hbc)
    | ((with_reducible refine flt_store flt rfl (.tmp 13) (.tmp 46) rfl rfl rfl Xc.out HM.out ?_); intro w12 hB12 onl12; have Xf := Lib.hid (Xf.out.only (by omega) onl12); have Xa := Lib.hid (Xa.out.only (by omega) onl12); have Xb := Lib.hid (Xb.out.only (by omega) onl12); have BB := Lib.hid (onl12.bel oc BB.out); have Xc := Lib.hid hB12; clear onl12 hB12)
    | (with_reducible refine flt_load (o := ⟨some 49, _, _, _, _, _⟩) flt rfl _ rfl rfl Xf.out ?_))
  refine (C4.out _).mono ?_
  rintro e w13 ⟨rfl, bel13⟩
  have Xf := Lib.hid (Xf.out.next bel13)
  have Xa := Lib.hid (Xa.out.next bel13)
  have Xb := Lib.hid (Xb.out.next bel13)
  have Xc := Lib.hid (Xc.out.next bel13)
  have BB := Lib.hid (bel_next BB.out bel13)
  clear bel13
  go_wp2_with (first
    | ((with_reducible refine flt_alloc (o := ⟨some 16, _, _, _, _, _⟩) flt rfl rfl ?_); intro w14 bd hbd hBd bel14; have q_f_d : bf < bd := Nat.lt_of_lt_of_le Xf.out.lt hbd; have q_a_d : ba < bd := Nat.lt_of_lt_of_le Xa.out.lt hbd; have q_b_d : bb < bd := Nat.lt_of_lt_of_le Xb.out.lt hbd; have q_c_d : bc < bd := Nat.lt_of_lt_of_le Xc.out.lt hbd; have od := Nat.le_trans BB.out.size hbd; have Xf := Lib.hid (Xf.out.next bel14); have Xa := Lib.hid (Xa.out.next bel14); have Xb := Lib.hid (Xb.out.next bel14); have Xc := Lib.hid (Xc.out.next bel14); have BB := Lib.hid (bel_next BB.out bel14); have Xd := Lib.hid hBd; clear bel14 hBd hbd)
    | ((with_reducible refine flt_store flt rfl (.tmp 16) (.tmp 53) rfl rfl rfl Xd.out HM.out ?_); intro w15 hB15 onl15; have Xf := Lib.hid (Xf.out.only (by omega) onl15); have Xa := Lib.hid (Xa.out.only (by omega) onl15); have Xb := Lib.hid (Xb.out.only (by omega) onl15); have Xc := Lib.hid (Xc.out.only (by omega) onl15); have BB := Lib.hid (onl15.bel od BB.out); have Xd := Lib.hid hB15; have c0 := Xa.out.cp (show 0 < 16 by omega); have c1 := Xc.out.cp (show 0 < 16 by omega); rw [P1.out] at c0; rw [P2.out] at c1; clear onl15 hB15)
    | ((with_reducible refine wpl_guard (d := some 78) ?_ ?_); (next => go_simp); with_reducible refine flt_load (o := ⟨some 78, _, _, _, _, _⟩) flt rfl _ rfl rfl Xb.out ?_)
    | ((with_reducible refine wpl_guard (d := some 79) ?_ ?_); (next => go_simp); with_reducible refine flt_load (o := ⟨some 79, _, _, _, _, _⟩) flt rfl _ rfl rfl Xa.out ?_)
    | ((with_reducible refine wpl_guard (d := some 80) ?_ ?_); (next => go_simp); with_reducible refine wpl_eq (o := ⟨some 80, _, _, _, _, _⟩) (flt_eqs flt eqgF _ _ _ HN.out _ _ _) rfl rfl rfl rfl ?_)
    | ((with_reducible refine wpl_guard (d := some 88) ?_ ?_); (next => go_simp); with_reducible refine flt_load (o := ⟨some 88, _, _, _, _, _⟩) flt rfl _ rfl rfl Xd.out ?_)
    | ((with_reducible refine wpl_guard (d := some 89) ?_ ?_); (next => go_simp); with_reducible refine flt_load (o := ⟨some 89, _, _, _, _, _⟩) flt rfl _ rfl rfl Xc.out ?_)
    | ((with_reducible refine wpl_guard (d := some 90) ?_ ?_); (next => go_simp); with_reducible refine wpl_eq (o := ⟨some 90, _, _, _, _, _⟩) (flt_eqs flt eqgF _ _ _ HM.out _ _ _) rfl rfl rfl rfl ?_)
    | ((with_reducible refine wpl_guard (d := some 107) ?_ ?_); (next => go_simp); with_reducible refine flt_load (o := ⟨some 107, _, _, _, _, _⟩) flt rfl _ rfl rfl Xa.out ?_))
  refine (C5.out _).mono ?_
  rintro e w16 ⟨rfl, bel16⟩
  have Xf := Lib.hid (Xf.out.next bel16)
  have Xa := Lib.hid (Xa.out.next bel16)
  have Xb := Lib.hid (Xb.out.next bel16)
  have Xc := Lib.hid (Xc.out.next bel16)
  have Xd := Lib.hid (Xd.out.next bel16)
  have BB := Lib.hid (bel_next BB.out bel16)
  clear bel16
  go_wp2_with fail
  go_ret
  exact ⟨rfl, BB.out⟩
theorem lmsSame_walk (sh : Int) (ts ps : List Int) (x : Int) (w : World) (hF : F16 ts ps) (ht : I32 ts) (hp : I32 ps) (hb0 : -9223372036854775808 ≤ sh) (hb1 : sh ≤ 9223372036854775807) (hx0 : -2147483648 ≤ x) (hx1 : x ≤ 2147483647) :
    Calls Try.prog 5 #[.agg (fA sh ts ps), .int .i32 x] w fun e w' => e = .returned (.bool true) ∧ Below w.heap.size w w' := by
  by_cases h : ckF sh = 0
  · exact lsame_ok sh (ts, ps) x w ⟨hF, ht, hp⟩ h ⟨hx0, hx1⟩
  · exact lsame_bad sh ts ps x w hF h

set_option maxRecDepth 100000 in
set_option maxHeartbeats 1000000 in
theorem lmback_bad (sh : Int) (ts ps : List Int) (A : Option Addr) (n c : Nat) (w : World) (hF : F16 ts ps) (hm : n ≤ 9223372036854775807) (h : ckF sh ≠ 0 ∨ 4000 < n) :
    Calls Try.prog 8 #[.agg (fA sh ts ps), .slice A n c] w fun e w' => e = .returned (.bool true) ∧ Below w.heap.size w w' := by
  have BB := Lib.hid (bel_self w)
  have CK := Lib.hid (fun W => recheck_any sh ts ps W hF)
  by_cases h0 : ckF sh = 0
  · rw [h0] at CK
    have hn : 4000 < n := h.resolve_left (fun hh => hh h0)
    have d1 : decide ((4000 : Int) < (n : Int)) = true := by simp; omega
    clear h h0
    go_enter Try.func8, Try.ntmps8
    go_wp2_with (first
      | ((with_reducible refine flt_box (o := ⟨some 2, _, _, _, _, _⟩) flt rfl _ rfl rfl hF ?_); intro w1 bf hbf hBf bel1; have of := Nat.le_trans BB.out.size hbf; have BB := Lib.hid (bel_next BB.out bel1); have Xf := Lib.hid hBf; clear bel1 hBf hbf))
    refine (alive_any _).mono ?_
    rintro e w2 ⟨rfl, bel2⟩
    have Xf := Lib.hid (Xf.out.next bel2)
    have BB := Lib.hid (bel_next BB.out bel2)
    clear bel2
    go_wp2_with (first
      | (with_reducible refine flt_load (o := ⟨some 13, _, _, _, _, _⟩) flt rfl _ rfl rfl Xf.out ?_))
    refine (CK.out _).mono ?_
    rintro e w3 ⟨rfl, bel3⟩
    have Xf := Lib.hid (Xf.out.next bel3)
    have BB := Lib.hid (bel_next BB.out bel3)
    clear bel3
    go_wp2_with fail
    go_ret
    exact ⟨rfl, BB.out⟩
  · have hq : (ckF sh != 0) = true := by simp [h0]
    generalize ckF sh = ce at *
    clear h h0
    go_enter Try.func8, Try.ntmps8
    go_wp2_with (first
      | ((with_reducible refine flt_box (o := ⟨some 2, _, _, _, _, _⟩) flt rfl _ rfl rfl hF ?_); intro w1 bf hbf hBf bel1; have of := Nat.le_trans BB.out.size hbf; have BB := Lib.hid (bel_next BB.out bel1); have Xf := Lib.hid hBf; clear bel1 hBf hbf))
    refine (alive_any _).mono ?_
    rintro e w2 ⟨rfl, bel2⟩
    have Xf := Lib.hid (Xf.out.next bel2)
    have BB := Lib.hid (bel_next BB.out bel2)
    clear bel2
    go_wp2_with (first
      | (with_reducible refine flt_load (o := ⟨some 13, _, _, _, _, _⟩) flt rfl _ rfl rfl Xf.out ?_))
    refine (CK.out _).mono ?_
    rintro e w3 ⟨rfl, bel3⟩
    have Xf := Lib.hid (Xf.out.next bel3)
    have BB := Lib.hid (bel_next BB.out bel3)
    clear bel3
    go_wp2_with fail
    go_ret
    exact ⟨rfl, BB.out⟩
set_option maxRecDepth 100000 in
set_option maxHeartbeats 1000000 in
theorem lmback_ok (sh : Int) (s : St) (A : Option Addr) (c : Nat) (xs : List Int) (w : World) (hv : VS s) (h : ckF sh = 0) (hn : xs.length ≤ 4000) (hx : I32 xs) (hs : Sl w w.heap.size .i32 A xs) :
    Calls Try.prog 8 #[.agg (fA sh s.1 s.2), .slice A xs.length c] w fun e w' => e = .returned (.bool true) ∧ Below w.heap.size w w' := by
  have BB := Lib.hid (bel_self w)
  have hF := hv.1
  have SX := Lib.hid (SA.of hs)
  have CK := Lib.hid (fun W => recheck_any sh s.1 s.2 W hF)
  rw [h] at CK
  have C1 := Lib.hid (fun W (hh : Sl W W.heap.size .i32 A xs) => lAll_ok sh s A _ c xs W rfl hv h hn hx hh)
  obtain ⟨e1, e2⟩ := runL_undo (G := G32) (fun s x hs hx => nF_v sh s x hs hx) (fun s x _ hx => oB_oF sh s x hx) (fun s x _ hx => nB_oF sh s x hx) s xs hv hx
  have HLN := Lib.hid (show (runL (oF sh) (nF sh) s xs).length = xs.length from runL_len s xs)
  have C2 := Lib.hid (fun A c W (hh : Sl W W.heap.size .i32 A (runL (oF sh) (nF sh) s xs)) => lUndo_ok sh s A xs.length c (runL (oF sh) (nF sh) s xs) W HLN.out hv h hn (runF_i32 sh s xs) hh)
  rw [e1, e2] at C2
  have HV := Lib.hid (finF_v sh s xs hv hx).1
  have d1 : decide ((4000 : Int) < (xs.length : Int)) = false := by simp; omega
  have q1 : ((xs.length : Int) == (xs.length : Int)) = true := by simp
  generalize runL (oF sh) (nF sh) s xs = L at *
  generalize (finL (nF sh) s xs).1 = n1 at *
  generalize (finL (nF sh) s xs).2 = n2 at *
  clear h hv hx hs e1 e2
  go_enter Try.func8, Try.ntmps8
  go_wp2_with (first
    | ((with_reducible refine flt_box (o := ⟨some 2, _, _, _, _, _⟩) flt rfl _ rfl rfl hF ?_); intro w1 bf hbf hBf bel1; have q_SX_f := Nat.le_trans SX.out.2 hbf; have of := Nat.le_trans BB.out.size hbf; have SX := Lib.hid (SX.out.next bel1); have BB := Lib.hid (bel_next BB.out bel1); have Xf := Lib.hid hBf; clear bel1 hBf hbf))
  refine (alive_any _).mono ?_
  rintro e w2 ⟨rfl, bel2⟩
  have SX := Lib.hid (SX.out.next bel2)
  have Xf := Lib.hid (Xf.out.next bel2)
  have BB := Lib.hid (bel_next BB.out bel2)
  clear bel2
  go_wp2_with (first
    | (with_reducible refine flt_load (o := ⟨some 13, _, _, _, _, _⟩) flt rfl _ rfl rfl Xf.out ?_))
  refine (CK.out _).mono ?_
  rintro e w3 ⟨rfl, bel3⟩
  have SX := Lib.hid (SX.out.next bel3)
  have Xf := Lib.hid (Xf.out.next bel3)
  have BB := Lib.hid (bel_next BB.out bel3)
  clear bel3
  go_wp2_with (first
    | (with_reducible refine flt_load (o := ⟨some 27, _, _, _, _, _⟩) flt rfl _ rfl rfl Xf.out ?_))
  refine (C1.out _ SX.out.sl).mono ?_
  rintro e w4 ⟨v4, rfl, own4, bel4⟩
  obtain ⟨Aa, ca, rfl, hca, hma, sl4⟩ := own4.sln (HLN.out)
  have Sa := Lib.hid (SA.of sl4)
  have SX := Lib.hid (SX.out.next bel4)
  have Xf := Lib.hid (Xf.out.next bel4)
  have BB := Lib.hid (bel_next BB.out bel4)
  clear own4 bel4 sl4
  go_wp2_with (first
    | ((with_reducible refine flt_alloc (o := ⟨some 7, _, _, _, _, _⟩) flt rfl rfl ?_); intro w5 bn hbn hBn bel5; have q_f_n : bf < bn := Nat.lt_of_lt_of_le Xf.out.lt hbn; have q_SX_n := Nat.le_trans SX.out.2 hbn; have q_Sa_n := Nat.le_trans Sa.out.2 hbn; have on := Nat.le_trans BB.out.size hbn; have SX := Lib.hid (SX.out.next bel5); have Xf := Lib.hid (Xf.out.next bel5); have Sa := Lib.hid (Sa.out.next bel5); have BB := Lib.hid (bel_next BB.out bel5); have Xn := Lib.hid hBn; clear bel5 hBn hbn)
    | ((with_reducible refine flt_store flt rfl (.tmp 7) (.tmp 31) rfl rfl rfl Xn.out HV.out ?_); intro w6 hB6 onl6; have SX := Lib.hid (SX.out.only (by omega) onl6); have Xf := Lib.hid (Xf.out.only (by omega) onl6); have Sa := Lib.hid (Sa.out.only (by omega) onl6); have BB := Lib.hid (onl6.bel on BB.out); have Xn := Lib.hid hB6; clear onl6 hB6)
    | (with_reducible refine flt_load (o := ⟨some 34, _, _, _, _, _⟩) flt rfl _ rfl rfl Xf.out ?_))
  refine (C2.out _ _ _ Sa.out.sl).mono ?_
  rintro e w7 ⟨v7, rfl, own7, bel7⟩
  obtain ⟨Ab, cb, rfl, _, _, sl7⟩ := own7.sl
  have Sb := Lib.hid (SA.of sl7)
  have SX := Lib.hid (SX.out.next bel7)
  have Xf := Lib.hid (Xf.out.next bel7)
  have Sa := Lib.hid (Sa.out.next bel7)
  have Xn := Lib.hid (Xn.out.next bel7)
  have BB := Lib.hid (bel_next BB.out bel7)
  clear own7 bel7 sl7
  go_wp2_with (first
    | ((with_reducible refine flt_alloc (o := ⟨some 10, _, _, _, _, _⟩) flt rfl rfl ?_); intro w8 bm hbm hBm bel8; have q_f_m : bf < bm := Nat.lt_of_lt_of_le Xf.out.lt hbm; have q_n_m : bn < bm := Nat.lt_of_lt_of_le Xn.out.lt hbm; have q_SX_m := Nat.le_trans SX.out.2 hbm; have q_Sa_m := Nat.le_trans Sa.out.2 hbm; have q_Sb_m := Nat.le_trans Sb.out.2 hbm; have om := Nat.le_trans BB.out.size hbm; have SX := Lib.hid (SX.out.next bel8); have Xf := Lib.hid (Xf.out.next bel8); have Sa := Lib.hid (Sa.out.next bel8); have Xn := Lib.hid (Xn.out.next bel8); have Sb := Lib.hid (Sb.out.next bel8); have BB := Lib.hid (bel_next BB.out bel8); have Xm := Lib.hid hBm; clear bel8 hBm hbm)
    | ((with_reducible refine flt_store flt rfl (.tmp 10) (.tmp 38) rfl rfl rfl Xm.out HV.out ?_); intro w9 hB9 onl9; have SX := Lib.hid (SX.out.only (by omega) onl9); have Xf := Lib.hid (Xf.out.only (by omega) onl9); have Sa := Lib.hid (Sa.out.only (by omega) onl9); have Xn := Lib.hid (Xn.out.only (by omega) onl9); have Sb := Lib.hid (Sb.out.only (by omega) onl9); have BB := Lib.hid (onl9.bel om BB.out); have Xm := Lib.hid hB9; clear onl9 hB9))
  refine (same13 Ab A _ _ cb c xs _ rfl rfl (by omega) Sb.out.sl SX.out.sl).mono ?_
  rintro e w10 ⟨rfl, bel10⟩
  have SX := Lib.hid (SX.out.next bel10)
  have Xf := Lib.hid (Xf.out.next bel10)
  have Sa := Lib.hid (Sa.out.next bel10)
  have Xn := Lib.hid (Xn.out.next bel10)
  have Sb := Lib.hid (Sb.out.next bel10)
  have Xm := Lib.hid (Xm.out.next bel10)
  have BB := Lib.hid (bel_next BB.out bel10)
  clear bel10
  go_wp2_with (first
    | ((with_reducible refine wpl_guard (d := some 62) ?_ ?_); (next => go_simp); with_reducible refine flt_load (o := ⟨some 62, _, _, _, _, _⟩) flt rfl _ rfl rfl Xm.out ?_)
    | ((with_reducible refine wpl_guard (d := some 63) ?_ ?_); (next => go_simp); with_reducible refine flt_load (o := ⟨some 63, _, _, _, _, _⟩) flt rfl _ rfl rfl Xn.out ?_)
    | ((with_reducible refine wpl_guard (d := some 64) ?_ ?_); (next => go_simp); with_reducible refine wpl_eq (o := ⟨some 64, _, _, _, _, _⟩) (flt_eqs flt eqgF _ _ _ HV.out _ _ _) rfl rfl rfl rfl ?_))
  go_ret
  exact ⟨rfl, BB.out⟩
theorem lmsBack_walk (sh : Int) (ts ps : List Int) (A : Option Addr) (c : Nat) (xs : List Int) (w : World) (hF : F16 ts ps) (ht : I32 ts) (hp : I32 ps) (hb0 : -9223372036854775808 ≤ sh) (hb1 : sh ≤ 9223372036854775807)
    (hc : xs.length ≤ c) (hm : c ≤ 9223372036854775807) (hx : I32 xs) (hs : Sl w w.heap.size .i32 A xs) :
    Calls Try.prog 8 #[.agg (fA sh ts ps), .slice A xs.length c] w fun e w' => e = .returned (.bool true) ∧ Below w.heap.size w w' := by
  by_cases h : ckF sh ≠ 0 ∨ 4000 < xs.length
  · exact lmback_bad sh ts ps A xs.length c w hF (by omega) h
  · have h1 : ckF sh = 0 := by
      refine Decidable.by_contra fun h2 => h (.inl h2)
    exact lmback_ok sh (ts, ps) A c xs w ⟨hF, ht, hp⟩ h1 (by omega) hx hs
end Go.Proofs.Ytbiikhfhhfmkoaa

/-
  The walk of ChainBoth. Conditions: numbers within their types; the list lies below.
-/
import Derived.Test.YtgnmpkembcdkcaaLaw19B
import Derived.Test.YtgnmpkembcdkcaaChLms
import Derived.Test.YtgnmpkembcdkcaaChBoth
namespace Go.Proofs.Ytgnmpkembcdkcaa
open Go.RowKit
set_option linter.unusedVariables false

theorem chn_set1 {w : World} {b : Nat} {C T A E I : TypeId} {bt la sh : Int} {ts ps : List Int} {P : Program} {ops : Array Oper} {rest : List Oper} {o : Oper} {a : Act} {Q : Exit → Act → World → Prop} (hC : ChnT P C T A E I) (hg : o.guard = none) (x y : Operand) (ho : o.op = .store E x y) (hx : a.eval x = .pointer (some ⟨b, 1, none⟩)) {v : Int} (hy : a.eval y = .int .i32 v) (hb : CB w b C bt la sh ts ps)
    (h : ∀ w', CB w' b C bt v sh ts ps → Only b w w' → wpList P ops Q rest (a.put o.dst undef) w') : wpList P ops Q (o :: rest) a w :=
  cell_store hg x y ho hx hy (by rw [hb.c1]; rfl) (hb.free _) hC.flt.esize (h _ (hb.set1 v) (Only.set w b 1 _))
theorem eqgFi : Try.prog.eqGuardType Try.prog.depth 24 = false := by kernel_rfl
theorem qb_skipE {P : Program} {w : World} {ops : Array Oper} {Q : Act → Prop} {a : Act} {o : Oper} {rest : List Oper} (hw : Region.wanted o (yielded ops a.tmps) = false) (ha : a.put o.dst undef = a) (h : wpQuiet P ops (Since w) Q rest a) : wpQuiet P ops (Since w) Q (o :: rest) a :=
  qb_skip hw ha h
theorem chn_runF {w : World} {b : Nat} {bt la sh : Int} {ts ps : List Int} (h : CB w b 26 bt la sh ts ps) : (Instr.loadAt 24 (.pointer (some ⟨b, 2, none⟩))).run Try.prog w = .ok (.agg (fA sh ts ps)) w := by
  obtain ⟨d, hu, hd⟩ := chn.flt.row
  have hr : w.rangeAt b 2 (fA sh ts ps).toList := by
    have := World.rangeAt_of_block h.1 2 33
    have e := cA_ext_f (bt := bt) (la := la) (sh := sh) h.2
    rw [fA_size h.2.1 h.2.2] at e
    rw [← e]
    simpa using this
  have := run_loadAt_mid (P := Try.prog) w b 2 24 (fA sh ts ps).toList d hr hu hd (by simpa [fA_size h.2.1 h.2.2] using chn.flt.size)
  simpa using this

theorem qb_loadCF {w : World} {ops : Array Oper} {Q : Act → Prop} {a : Act} {o : Oper} {rest : List Oper} {b : Nat} {bt la sh : Int} {ts ps : List Int} (hw : Region.wanted o (yielded ops a.tmps) = true) (x : Operand) (ho : o.op = .load 24 x) (hx : a.eval x = .pointer (some ⟨b, 2, none⟩)) (hb : CB w b 26 bt la sh ts ps)
    {a' : Act} (ha : a.put o.dst (.agg (fA sh ts ps)) = a') (h : wpQuiet Try.prog ops (Since w) Q rest a') : wpQuiet Try.prog ops (Since w) Q (o :: rest) a := by
  refine qb_val hw (fun W hW => ?_) ha h
  have := chn_runF (hb.next hW)
  simp only [execOp, ho, hx, Sem.run_bind, this, Result.andThen_ok, Sem.run_pure]

set_option maxRecDepth 100000 in
set_option maxHeartbeats 1000000 in
theorem cboth_bad (bt la sh : Int) (ts ps : List Int) (A : Option Addr) (n c : Nat) (w : World) (hF : F16 ts ps) (hm : n ≤ 9223372036854775807) (h : cnC bt sh ≠ 0 ∨ 4000 < n) :
    Calls Try.prog 9 #[.agg (cA bt la sh ts ps), .slice A n c] w fun e w' => e = .returned (.bool true) ∧ Below w.heap.size w w' := by
  have BB := Lib.hid (bel_self w)
  have CK := Lib.hid (fun W => crecheck_any bt la sh ts ps W hF)
  by_cases h0 : cnC bt sh = 0
  · rw [h0] at CK
    have hn : 4000 < n := h.resolve_left (fun hh => hh h0)
    have d1 : decide ((4000 : Int) < (n : Int)) = true := by simp; omega
    clear h h0
    go_enter Try.func9, Try.ntmps9
    go_wp2_with (first
      | ((with_reducible refine chn_box (o := ⟨some 2, _, _, _, _, _⟩) chn rfl _ rfl rfl hF ?_); intro w1 bc hbc hBc bel1; have oc := Nat.le_trans BB.out.size hbc; have BB := Lib.hid (bel_next BB.out bel1); have Xc := Lib.hid hBc; clear bel1 hBc hbc))
    refine (alive_any _).mono ?_
    rintro e w2 ⟨rfl, bel2⟩
    have Xc := Lib.hid (Xc.out.next bel2)
    have BB := Lib.hid (bel_next BB.out bel2)
    clear bel2
    go_wp2_with (first
      | (with_reducible refine chn_load (o := ⟨some 15, _, _, _, _, _⟩) chn rfl _ rfl rfl Xc.out ?_))
    refine (CK.out _).mono ?_
    rintro e w3 ⟨rfl, bel3⟩
    have Xc := Lib.hid (Xc.out.next bel3)
    have BB := Lib.hid (bel_next BB.out bel3)
    clear bel3
    go_wp2_with fail
    go_ret
    exact ⟨rfl, BB.out⟩
  · rw [cnC_bad h0] at CK
    clear h h0
    go_enter Try.func9, Try.ntmps9
    go_wp2_with (first
      | ((with_reducible refine chn_box (o := ⟨some 2, _, _, _, _, _⟩) chn rfl _ rfl rfl hF ?_); intro w1 bc hbc hBc bel1; have oc := Nat.le_trans BB.out.size hbc; have BB := Lib.hid (bel_next BB.out bel1); have Xc := Lib.hid hBc; clear bel1 hBc hbc))
    refine (alive_any _).mono ?_
    rintro e w2 ⟨rfl, bel2⟩
    have Xc := Lib.hid (Xc.out.next bel2)
    have BB := Lib.hid (bel_next BB.out bel2)
    clear bel2
    go_wp2_with (first
      | (with_reducible refine chn_load (o := ⟨some 15, _, _, _, _, _⟩) chn rfl _ rfl rfl Xc.out ?_))
    refine (CK.out _).mono ?_
    rintro e w3 ⟨rfl, bel3⟩
    have Xc := Lib.hid (Xc.out.next bel3)
    have BB := Lib.hid (bel_next BB.out bel3)
    clear bel3
    go_wp2_with fail
    go_ret
    exact ⟨rfl, BB.out⟩

set_option maxRecDepth 100000 in
set_option maxHeartbeats 2000000 in
theorem cboth_ok (bt sh la : Int) (st : St) (A : Option Addr) (c : Nat) (xs : List Int) (w : World) (hl : G32 la) (hv : VS st) (h : cnC bt sh = 0) (hb0 : -9223372036854775808 ≤ bt) (hb1 : bt ≤ 9223372036854775807) (hn : xs.length ≤ 4000) (hx : I32 xs) (hs : Sl w w.heap.size .i32 A xs) :
    Calls Try.prog 9 #[.agg (cA bt la sh st.1 st.2), .slice A xs.length c] w fun e w' => e = .returned (.bool true) ∧ Below w.heap.size w w' := by
  have BB := Lib.hid (bel_self w)
  have hF := hv.1
  have SX := Lib.hid (SA.of hs)
  obtain ⟨_, _, h3, h4, _⟩ := cnC_ok h
  have CK := Lib.hid (fun W => crecheck_any bt la sh st.1 st.2 W hF)
  rw [h] at CK
  have hv0 : VC (0, st) := ⟨c0_v.1, hv⟩
  have C1 := Lib.hid (fun W (hh : Sl W W.heap.size .i32 A xs) => cAll_ok bt sh (0, st) A xs.length c xs W rfl hv0 h hb0 hb1 hn hx hh)
  rw [both_run h4, both_fin h4] at C1
  have C2 := Lib.hid (fun W (hh : Sl W W.heap.size .i32 A xs) => forward_ok bt A xs.length c xs W h4 rfl hn hx hh hb0 hb1)
  have LF := Lib.hid (show (fwd (shS bt) 0 xs).length = xs.length from fwd_len _ _ _)
  have IF := Lib.hid (fwd_i32 (shS bt) 0 xs)
  have C3 := Lib.hid (fun A c W (hh : Sl W W.heap.size .i32 A (fwd (shS bt) 0 xs)) => lAll_any sh st A xs.length c (fwd (shS bt) 0 xs) W LF.out hv (by omega) IF.out hh)
  have k0 : alE sh xs.length = 0 := alE_ok h3 hn
  have k1 : alE sh (fwd (shS bt) 0 xs).length = 0 := by rw [LF.out]; exact k0
  rw [show alSh sh xs.length = sh from if_pos k0, k0, show alS (nF sh) sh st (fwd (shS bt) 0 xs) = _ from if_pos k1, show alL (oF sh) (nF sh) sh st (fwd (shS bt) 0 xs) = _ from if_pos k1] at C3
  have hfin := finF_v sh st _ hv IF.out
  have HN := Lib.hid hfin.1
  have LR := Lib.hid (show (runL (oF sh) (nF sh) st (fwd (shS bt) 0 xs)).length = xs.length by rw [runL_len]; exact LF.out)
  have LA := Lib.hid (show ∀ k, xs.length = k + 1 → lastI 0 xs = xs.getD k 0 from fun k hk => by
    unfold lastI
    rw [List.getLast?_eq_getElem?, hk, Nat.add_sub_cancel, List.getD_eq_getElem?_getD])
  have hF0 := Lib.hid hF
  generalize (finL (nF sh) st (fwd (shS bt) 0 xs)).1 = n1 at *
  generalize (finL (nF sh) st (fwd (shS bt) 0 xs)).2 = n2 at *
  generalize runL (oF sh) (nF sh) st (fwd (shS bt) 0 xs) = R at *
  generalize fwd (shS bt) 0 xs = F at *
  generalize lastI 0 xs = lz at *
  generalize st.1 = ts at *
  generalize st.2 = ps at *
  have d1 : decide ((4000 : Int) < (xs.length : Int)) = false := by simp; omega
  have qb : (bt == bt) = true := by simp
  clear h hv hv0 h3 h4 k0 k1 hfin hs hx
  go_enter Try.func9, Try.ntmps9
  go_wp2_with (first
    | ((with_reducible refine chn_box (o := ⟨some 2, _, _, _, _, _⟩) chn rfl _ rfl rfl hF ?_); intro w1 bc hbc hBc bel1; have q_SX_c := Nat.le_trans SX.out.2 hbc; have oc := Nat.le_trans BB.out.size hbc; have SX := Lib.hid (SX.out.next bel1); have BB := Lib.hid (bel_next BB.out bel1); have Xc := Lib.hid hBc; clear bel1 hBc hbc))
  refine (alive_any _).mono ?_
  rintro e w2 ⟨rfl, bel2⟩
  have SX := Lib.hid (SX.out.next bel2)
  have Xc := Lib.hid (Xc.out.next bel2)
  have BB := Lib.hid (bel_next BB.out bel2)
  clear bel2
  go_wp2_with (first
    | (with_reducible refine chn_load (o := ⟨some 15, _, _, _, _, _⟩) chn rfl _ rfl rfl Xc.out ?_))
  refine (CK.out _).mono ?_
  rintro e w3 ⟨rfl, bel3⟩
  have SX := Lib.hid (SX.out.next bel3)
  have Xc := Lib.hid (Xc.out.next bel3)
  have BB := Lib.hid (bel_next BB.out bel3)
  clear bel3
  go_wp2_with (first
    | ((with_reducible refine chn_set1 chn rfl (.tmp 28) (.const (.int .i32 0)) rfl rfl rfl Xc.out ?_); intro w4 hB4 onl4; have SX := Lib.hid (SX.out.only (by omega) onl4); have BB := Lib.hid (onl4.bel oc BB.out); have Xc := Lib.hid hB4; clear onl4 hB4)
    | (with_reducible refine chn_load (o := ⟨some 30, _, _, _, _, _⟩) chn rfl _ rfl rfl Xc.out ?_))
  refine (C1.out _ SX.out.sl).mono ?_
  rintro e w5 ⟨v5, rfl, own5, bel5⟩
  obtain ⟨Aa, ca, rfl, hca, hma, sl5⟩ := own5.sln (LR.out)
  have Sa := Lib.hid (SA.of sl5)
  have SX := Lib.hid (SX.out.next bel5)
  have Xc := Lib.hid (Xc.out.next bel5)
  have BB := Lib.hid (bel_next BB.out bel5)
  clear own5 bel5 sl5
  go_wp2_with (first
    | ((with_reducible refine chn_alloc (o := ⟨some 7, _, _, _, _, _⟩) chn rfl rfl ?_); intro w6 bn hbn hBn bel6; have q_c_n : bc < bn := Nat.lt_of_lt_of_le Xc.out.lt hbn; have q_SX_n := Nat.le_trans SX.out.2 hbn; have q_Sa_n := Nat.le_trans Sa.out.2 hbn; have on := Nat.le_trans BB.out.size hbn; have SX := Lib.hid (SX.out.next bel6); have Xc := Lib.hid (Xc.out.next bel6); have Sa := Lib.hid (Sa.out.next bel6); have BB := Lib.hid (bel_next BB.out bel6); have Xn := Lib.hid hBn; clear bel6 hBn hbn)
    | ((with_reducible refine chn_store chn rfl (.tmp 7) (.tmp 34) rfl rfl rfl Xn.out HN.out ?_); intro w7 hB7 onl7; have SX := Lib.hid (SX.out.only (by omega) onl7); have Xc := Lib.hid (Xc.out.only (by omega) onl7); have Sa := Lib.hid (Sa.out.only (by omega) onl7); have BB := Lib.hid (onl7.bel on BB.out); have Xn := Lib.hid hB7; have c0 := Xc.out.c0; clear onl7 hB7))
  refine (C2.out _ SX.out.sl).mono ?_
  rintro e w8 ⟨v8, rfl, own8, bel8⟩
  obtain ⟨Af, cf, rfl, hcf, hmf, sl8⟩ := own8.sln (LF.out)
  have Sf := Lib.hid (SA.of sl8)
  have SX := Lib.hid (SX.out.next bel8)
  have Xc := Lib.hid (Xc.out.next bel8)
  have Sa := Lib.hid (Sa.out.next bel8)
  have Xn := Lib.hid (Xn.out.next bel8)
  have BB := Lib.hid (bel_next BB.out bel8)
  clear own8 bel8 sl8
  clear c0
  go_wp2_with (first
    | (with_reducible refine chn_loadF (o := ⟨some 45, _, _, _, _, _⟩) chn rfl _ rfl rfl Xc.out ?_))
  refine (C3.out _ _ _ Sf.out.sl).mono ?_
  rintro e w9 ⟨v9, rfl, own9, bel9⟩
  obtain ⟨Ag, cg, rfl, hcg, hmg, sl9⟩ := own9.sln (LR.out)
  have Sg := Lib.hid (SA.of sl9)
  have SX := Lib.hid (SX.out.next bel9)
  have Xc := Lib.hid (Xc.out.next bel9)
  have Sa := Lib.hid (Sa.out.next bel9)
  have Xn := Lib.hid (Xn.out.next bel9)
  have Sf := Lib.hid (Sf.out.next bel9)
  have BB := Lib.hid (bel_next BB.out bel9)
  clear own9 bel9 sl9
  go_upto_region 8 with (first
    | ((with_reducible refine flt_alloc (o := ⟨some 12, _, _, _, _, _⟩) flt rfl rfl ?_); intro w10 bm hbm hBm bel10; have q_c_m : bc < bm := Nat.lt_of_lt_of_le Xc.out.lt hbm; have q_n_m : bn < bm := Nat.lt_of_lt_of_le Xn.out.lt hbm; have q_SX_m := Nat.le_trans SX.out.2 hbm; have q_Sa_m := Nat.le_trans Sa.out.2 hbm; have q_Sf_m := Nat.le_trans Sf.out.2 hbm; have q_Sg_m := Nat.le_trans Sg.out.2 hbm; have om := Nat.le_trans BB.out.size hbm; have SX := Lib.hid (SX.out.next bel10); have Xc := Lib.hid (Xc.out.next bel10); have Sa := Lib.hid (Sa.out.next bel10); have Xn := Lib.hid (Xn.out.next bel10); have Sf := Lib.hid (Sf.out.next bel10); have Sg := Lib.hid (Sg.out.next bel10); have BB := Lib.hid (bel_next BB.out bel10); have Xm := Lib.hid hBm; clear bel10 hBm hbm)
    | ((with_reducible refine flt_store flt rfl (.tmp 12) (.tmp 49) rfl rfl rfl Xm.out HN.out ?_); intro w11 hB11 onl11; have SX := Lib.hid (SX.out.only (by omega) onl11); have Xc := Lib.hid (Xc.out.only (by omega) onl11); have Sa := Lib.hid (Sa.out.only (by omega) onl11); have Xn := Lib.hid (Xn.out.only (by omega) onl11); have Sf := Lib.hid (Sf.out.only (by omega) onl11); have Sg := Lib.hid (Sg.out.only (by omega) onl11); have BB := Lib.hid (onl11.bel om BB.out); have Xm := Lib.hid hB11; clear onl11 hB11))
  rcases Nat.eq_zero_or_pos xs.length with hz | hz
  · have z0 : ((xs.length : Int) == 0) = true := by rw [beq_iff_eq]; omega
    refine wp_region_since (by kernel_rfl) (by kernel_rfl) ?_
    refine qb_val (o := ⟨some 51, _, _, _, _, _⟩) (by go_simp) (fun W hW => (by go_simp <;> rfl)) (by go_simp <;> rfl) ?_
    refine qb_val (o := ⟨some 52, _, _, _, _, _⟩) (by go_simp) (fun W hW => (by go_simp <;> rfl)) (by go_simp <;> rfl) ?_
    refine qb_val (o := ⟨some 53, _, _, _, _, _⟩) (by go_simp) (fun W hW => (by go_simp <;> rfl)) (by go_simp <;> rfl) ?_
    refine qb_val (o := ⟨some 54, _, _, _, _, _⟩) (by go_simp) (fun W hW => (by go_simp <;> rfl)) (by go_simp <;> rfl) ?_
    refine qb_val (o := ⟨some 55, _, _, _, _, _⟩) (by go_simp) (fun W hW => (by go_simp <;> rfl)) (by go_simp <;> rfl) ?_
    refine qb_val (o := ⟨some 56, _, _, _, _, _⟩) (by go_simp) (fun W hW => (by go_simp <;> rfl)) (by go_simp <;> rfl) ?_
    refine qb_val (o := ⟨some 57, _, _, _, _, _⟩) (by go_simp) (fun W hW => (by go_simp <;> rfl)) (by go_simp <;> rfl) ?_
    refine qb_val (o := ⟨some 58, _, _, _, _, _⟩) (by go_simp) (fun W hW => (by go_simp <;> rfl)) (by go_simp <;> rfl) ?_
    refine qb_val (o := ⟨some 59, _, _, _, _, _⟩) (by go_simp) (fun W hW => (by go_simp <;> rfl)) (by go_simp <;> rfl) ?_
    refine qb_val (o := ⟨some 60, _, _, _, _, _⟩) (by go_simp) (fun W hW => (by go_simp <;> rfl)) (by go_simp <;> rfl) ?_
    refine qb_val (o := ⟨some 61, _, _, _, _, _⟩) (by go_simp) (fun W hW => (by go_simp <;> rfl)) (by go_simp <;> rfl) ?_
    refine qb_val (o := ⟨some 62, _, _, _, _, _⟩) (by go_simp) (fun W hW => (by go_simp <;> rfl)) (by go_simp <;> rfl) ?_
    refine qb_val (o := ⟨some 63, _, _, _, _, _⟩) (by go_simp) (fun W hW => (by go_simp <;> rfl)) (by go_simp <;> rfl) ?_
    refine qb_val (o := ⟨some 64, _, _, _, _, _⟩) (by go_simp) (fun W hW => (by go_simp <;> rfl)) (by go_simp <;> rfl) ?_
    refine qb_val (o := ⟨some 65, _, _, _, _, _⟩) (by go_simp) (fun W hW => (by go_simp <;> rfl)) (by go_simp <;> rfl) ?_
    refine qb_val (o := ⟨some 66, _, _, _, _, _⟩) (by go_simp) (fun W hW => (by go_simp <;> rfl)) (by go_simp <;> rfl) ?_
    refine qb_call (o := ⟨some 67, _, _, _, _, _⟩) (by go_simp) (fun W => by go_simp <;> rfl) (fun W hW => same13 Aa Ag _ _ ca cg R W LR.out LR.out (by rw [LR.out]; omega) (Sa.out.sl.next hW) (Sg.out.sl.next hW)) (by go_simp <;> rfl) ?_
    refine qb_val (o := ⟨some 68, _, _, _, _, _⟩) (by go_simp) (fun W hW => (by go_simp <;> rfl)) (by go_simp <;> rfl) ?_
    refine qb_val (o := ⟨some 69, _, _, _, _, _⟩) (by go_simp) (fun W hW => (by go_simp <;> rfl)) (by go_simp <;> rfl) ?_
    refine qb_val (o := ⟨some 70, _, _, _, _, _⟩) (by go_simp) (fun W hW => (by go_simp <;> rfl)) (by go_simp <;> rfl) ?_
    refine qb_loadCF (o := ⟨some 71, _, _, _, _, _⟩) (by go_simp) _ rfl rfl Xn.out (by go_simp <;> rfl) ?_
    refine qb_load (o := ⟨some 72, _, _, _, _, _⟩) flt (by go_simp) _ rfl rfl Xm.out (by go_simp <;> rfl) ?_
    refine qb_eql (o := ⟨some 73, _, _, _, _, _⟩) (by go_simp) rfl rfl rfl (fun W => flt_eqs flt eqgFi _ _ _ HN.out _ _ W) (by go_simp <;> rfl) ?_
    refine qb_val (o := ⟨some 74, _, _, _, _, _⟩) (by go_simp) (fun W hW => (by go_simp <;> rfl)) (by go_simp <;> rfl) ?_
    refine qb_val (o := ⟨some 75, _, _, _, _, _⟩) (by go_simp) (fun W hW => (by go_simp <;> rfl)) (by go_simp <;> rfl) ?_
    refine qb_val (o := ⟨some 76, _, _, _, _, _⟩) (by go_simp) (fun W hW => (by go_simp <;> rfl)) (by go_simp <;> rfl) ?_
    refine qb_val (o := ⟨some 77, _, _, _, _, _⟩) (by go_simp) (fun W hW => (by have k := (Xn.out.next hW).c0; go_simp <;> rfl)) (by go_simp <;> rfl) ?_
    refine qb_val (o := ⟨some 78, _, _, _, _, _⟩) (by go_simp) (fun W hW => (by go_simp <;> rfl)) (by go_simp <;> rfl) ?_
    refine qb_val (o := ⟨some 79, _, _, _, _, _⟩) (by go_simp) (fun W hW => (by have k := (Xc.out.next hW).c0; go_simp <;> rfl)) (by go_simp <;> rfl) ?_
    refine qb_val (o := ⟨some 80, _, _, _, _, _⟩) (by go_simp) (fun W hW => (by go_simp <;> rfl)) (by go_simp <;> rfl) ?_
    refine qb_val (o := ⟨some 81, _, _, _, _, _⟩) (by go_simp) (fun W hW => (by go_simp <;> rfl)) (by go_simp <;> rfl) ?_
    refine qb_val (o := ⟨some 82, _, _, _, _, _⟩) (by go_simp) (fun W hW => (by go_simp <;> rfl)) (by go_simp <;> rfl) ?_
    refine qb_val (o := ⟨some 83, _, _, _, _, _⟩) (by go_simp) (fun W hW => (by go_simp <;> rfl)) (by go_simp <;> rfl) ?_
    refine qb_val (o := ⟨some 84, _, _, _, _, _⟩) (by go_simp) (fun W hW => (by go_simp <;> rfl)) (by go_simp <;> rfl) ?_
    refine qb_val (o := ⟨some 85, _, _, _, _, _⟩) (by go_simp) (fun W hW => (by go_simp <;> rfl)) (by go_simp <;> rfl) ?_
    refine qb_val (o := ⟨some 86, _, _, _, _, _⟩) (by go_simp) (fun W hW => (by go_simp <;> rfl)) (by go_simp <;> rfl) ?_
    with_reducible refine qb_skipE ?_ ?_ ?_
    next => kernel_rfl
    next => kernel_rfl
    with_reducible refine qb_skipE ?_ ?_ ?_
    next => kernel_rfl
    next => kernel_rfl
    with_reducible refine qb_skipE ?_ ?_ ?_
    next => kernel_rfl
    next => kernel_rfl
    with_reducible refine qb_skipE ?_ ?_ ?_
    next => kernel_rfl
    next => kernel_rfl
    with_reducible refine qb_skipE ?_ ?_ ?_
    next => kernel_rfl
    next => kernel_rfl
    with_reducible refine qb_skipE ?_ ?_ ?_
    next => kernel_rfl
    next => kernel_rfl
    with_reducible refine qb_skipE ?_ ?_ ?_
    next => kernel_rfl
    next => kernel_rfl
    with_reducible refine qb_skipE ?_ ?_ ?_
    next => kernel_rfl
    next => kernel_rfl
    with_reducible refine qb_skipE ?_ ?_ ?_
    next => kernel_rfl
    next => kernel_rfl
    refine qb_val (o := ⟨some 96, _, _, _, _, _⟩) (by go_simp) (fun W hW => (by go_simp <;> rfl)) (by go_simp <;> rfl) ?_
    refine qb_val (o := ⟨some 97, _, _, _, _, _⟩) (by go_simp) (fun W hW => (by go_simp <;> rfl)) (by go_simp <;> rfl) ?_
    refine qb_val (o := ⟨some 4, _, _, _, _, _⟩) (by go_simp) (fun W hW => (by go_simp <;> rfl)) (by go_simp <;> rfl) ?_
    refine wpQuiet_nil ?_
    intro w12 bel12
    have bel12 : Below w11.heap.size w11 w12 := bel12
    have SX := Lib.hid (SX.out.next bel12)
    have Xc := Lib.hid (Xc.out.next bel12)
    have Sa := Lib.hid (Sa.out.next bel12)
    have Xn := Lib.hid (Xn.out.next bel12)
    have Sf := Lib.hid (Sf.out.next bel12)
    have Sg := Lib.hid (Sg.out.next bel12)
    have Xm := Lib.hid (Xm.out.next bel12)
    have BB := Lib.hid (bel_next BB.out bel12)
    clear bel12
    go_wp2_with fail
    go_ret
    exact ⟨rfl, BB.out⟩
  · obtain ⟨k, hk⟩ : ∃ k, xs.length = k + 1 := ⟨xs.length - 1, by omega⟩
    have z0 : ((xs.length : Int) == 0) = false := by rw [beq_eq_false_iff_ne]; omega
    obtain ⟨bb, o, rfl, hbb, hc⟩ := SX.out.1 (by omega)
    have hcell := hc k (by omega)
    rw [← LA.out k hk] at hcell
    have HC := Lib.hid (fun W (hW : Since w11 W) => (Below.cell (p := ⟨bb, o + k, none⟩) hW (show bb < w11.heap.size by have := SX.out.2; omega)).trans hcell)
    have hlt : (k : Int) < (xs.length : Int) := by omega
    have z1 : ((k : Int) + 1 == 0) = false := by rw [beq_eq_false_iff_ne]; omega
    have z2 : ¬ (k : Int) + 1 = 0 := by omega
    have z3 : (k : Int) < (k : Int) + 1 := by omega
    have zz : (lz == lz) = true := by simp
    refine wp_region_since (by kernel_rfl) (by kernel_rfl) ?_
    refine qb_val (o := ⟨some 51, _, _, _, _, _⟩) (by go_simp) (fun W hW => (by go_simp <;> rfl)) (by go_simp <;> rfl) ?_
    refine qb_val (o := ⟨some 52, _, _, _, _, _⟩) (by go_simp) (fun W hW => (by go_simp <;> rfl)) (by go_simp <;> rfl) ?_
    refine qb_val (o := ⟨some 53, _, _, _, _, _⟩) (by go_simp) (fun W hW => (by go_simp <;> rfl)) (by go_simp <;> rfl) ?_
    refine qb_val (o := ⟨some 54, _, _, _, _, _⟩) (by go_simp) (fun W hW => (by go_simp <;> rfl)) (by go_simp <;> rfl) ?_
    refine qb_val (o := ⟨some 55, _, _, _, _, _⟩) (by go_simp) (fun W hW => (by go_simp <;> rfl)) (by go_simp <;> rfl) ?_
    refine qb_val (o := ⟨some 56, _, _, _, _, _⟩) (by go_simp) (fun W hW => (by go_simp <;> rfl)) (by go_simp <;> rfl) ?_
    refine qb_val (o := ⟨some 57, _, _, _, _, _⟩) (by go_simp) (fun W hW => (by go_simp <;> rfl)) (by go_simp <;> rfl) ?_
    refine qb_val (o := ⟨some 58, _, _, _, _, _⟩) (by go_simp) (fun W hW => (by go_simp <;> rfl)) (by go_simp <;> rfl) ?_
    refine qb_val (o := ⟨some 59, _, _, _, _, _⟩) (by go_simp) (fun W hW => (by go_simp <;> rfl)) (by go_simp <;> rfl) ?_
    refine qb_val (o := ⟨some 60, _, _, _, _, _⟩) (by go_simp) (fun W hW => (by go_simp <;> rfl)) (by go_simp <;> rfl) ?_
    refine qb_val (o := ⟨some 61, _, _, _, _, _⟩) (by go_simp) (fun W hW => (by go_simp <;> rfl)) (by go_simp <;> rfl) ?_
    refine qb_val (o := ⟨some 62, _, _, _, _, _⟩) (by go_simp) (fun W hW => (by go_simp <;> rfl)) (by go_simp <;> rfl) ?_
    refine qb_val (o := ⟨some 63, _, _, _, _, _⟩) (by go_simp) (fun W hW => (by go_simp <;> rfl)) (by go_simp <;> rfl) ?_
    refine qb_val (o := ⟨some 64, _, _, _, _, _⟩) (by go_simp) (fun W hW => (by go_simp <;> rfl)) (by go_simp <;> rfl) ?_
    refine qb_val (o := ⟨some 65, _, _, _, _, _⟩) (by go_simp) (fun W hW => (by go_simp <;> rfl)) (by go_simp <;> rfl) ?_
    refine qb_val (o := ⟨some 66, _, _, _, _, _⟩) (by go_simp) (fun W hW => (by go_simp <;> rfl)) (by go_simp <;> rfl) ?_
    refine qb_call (o := ⟨some 67, _, _, _, _, _⟩) (by go_simp) (fun W => by go_simp <;> rfl) (fun W hW => same13 Aa Ag _ _ ca cg R W LR.out LR.out (by rw [LR.out]; omega) (Sa.out.sl.next hW) (Sg.out.sl.next hW)) (by go_simp <;> rfl) ?_
    refine qb_val (o := ⟨some 68, _, _, _, _, _⟩) (by go_simp) (fun W hW => (by go_simp <;> rfl)) (by go_simp <;> rfl) ?_
    refine qb_val (o := ⟨some 69, _, _, _, _, _⟩) (by go_simp) (fun W hW => (by go_simp <;> rfl)) (by go_simp <;> rfl) ?_
    refine qb_val (o := ⟨some 70, _, _, _, _, _⟩) (by go_simp) (fun W hW => (by go_simp <;> rfl)) (by go_simp <;> rfl) ?_
    refine qb_loadCF (o := ⟨some 71, _, _, _, _, _⟩) (by go_simp) _ rfl rfl Xn.out (by go_simp <;> rfl) ?_
    refine qb_load (o := ⟨some 72, _, _, _, _, _⟩) flt (by go_simp) _ rfl rfl Xm.out (by go_simp <;> rfl) ?_
    refine qb_eql (o := ⟨some 73, _, _, _, _, _⟩) (by go_simp) rfl rfl rfl (fun W => flt_eqs flt eqgFi _ _ _ HN.out _ _ W) (by go_simp <;> rfl) ?_
    refine qb_val (o := ⟨some 74, _, _, _, _, _⟩) (by go_simp) (fun W hW => (by go_simp <;> rfl)) (by go_simp <;> rfl) ?_
    refine qb_val (o := ⟨some 75, _, _, _, _, _⟩) (by go_simp) (fun W hW => (by go_simp <;> rfl)) (by go_simp <;> rfl) ?_
    refine qb_val (o := ⟨some 76, _, _, _, _, _⟩) (by go_simp) (fun W hW => (by go_simp <;> rfl)) (by go_simp <;> rfl) ?_
    refine qb_val (o := ⟨some 77, _, _, _, _, _⟩) (by go_simp) (fun W hW => (by have k := (Xn.out.next hW).c0; go_simp <;> rfl)) (by go_simp <;> rfl) ?_
    refine qb_val (o := ⟨some 78, _, _, _, _, _⟩) (by go_simp) (fun W hW => (by go_simp <;> rfl)) (by go_simp <;> rfl) ?_
    refine qb_val (o := ⟨some 79, _, _, _, _, _⟩) (by go_simp) (fun W hW => (by have k := (Xc.out.next hW).c0; go_simp <;> rfl)) (by go_simp <;> rfl) ?_
    refine qb_val (o := ⟨some 80, _, _, _, _, _⟩) (by go_simp) (fun W hW => (by go_simp <;> rfl)) (by go_simp <;> rfl) ?_
    refine qb_val (o := ⟨some 81, _, _, _, _, _⟩) (by go_simp) (fun W hW => (by go_simp <;> rfl)) (by go_simp <;> rfl) ?_
    refine qb_val (o := ⟨some 82, _, _, _, _, _⟩) (by go_simp) (fun W hW => (by go_simp <;> rfl)) (by go_simp <;> rfl) ?_
    refine qb_val (o := ⟨some 83, _, _, _, _, _⟩) (by go_simp) (fun W hW => (by go_simp <;> rfl)) (by go_simp <;> rfl) ?_
    refine qb_val (o := ⟨some 84, _, _, _, _, _⟩) (by go_simp) (fun W hW => (by go_simp <;> rfl)) (by go_simp <;> rfl) ?_
    refine qb_val (o := ⟨some 85, _, _, _, _, _⟩) (by go_simp) (fun W hW => (by go_simp <;> rfl)) (by go_simp <;> rfl) ?_
    refine qb_val (o := ⟨some 86, _, _, _, _, _⟩) (by go_simp) (fun W hW => (by go_simp <;> rfl)) (by go_simp <;> rfl) ?_
    refine qb_val (o := ⟨some 87, _, _, _, _, _⟩) (by go_simp) (fun W hW => (by go_simp <;> rfl)) (by go_simp <;> rfl) ?_
    refine qb_val (o := ⟨some 88, _, _, _, _, _⟩) (by go_simp) (fun W hW => (by have k := (Xn.out.next hW).c1; go_simp <;> rfl)) (by go_simp <;> rfl) ?_
    refine qb_val (o := ⟨some 89, _, _, _, _, _⟩) (by go_simp) (fun W hW => (by go_simp <;> rfl)) (by go_simp <;> rfl) ?_
    refine qb_val (o := ⟨some 90, _, _, _, _, _⟩) (by go_simp) (fun W hW => (by go_simp <;> rfl)) (by go_simp <;> rfl) ?_
    refine qb_val (o := ⟨some 91, _, _, _, _, _⟩) (by go_simp) (fun W hW => (by go_simp <;> rfl)) (by go_simp <;> rfl) ?_
    refine qb_val (o := ⟨some 92, _, _, _, _, _⟩) (v := .int .i64 (k : Int)) (by go_simp) (fun W hW => (by have e1 : IntKind.i64.wrap ((k : Int) + 1 - 1) = (k : Int) := by { rw [show (k : Int) + 1 - 1 = (k : Int) by omega]; exact IntWalk.i64_in _ (by omega) }; go_simp <;> (first | rfl | exact e1 | exact IntWalk.i64_in _ (by omega) | (unfold wrap64; omega)))) (by go_simp <;> rfl) ?_
    refine qb_val (o := ⟨some 93, _, _, _, _, _⟩) (by go_simp) (fun W hW => (by go_simp <;> rfl)) (by go_simp <;> rfl) ?_
    refine qb_val (o := ⟨some 94, _, _, _, _, _⟩) (by go_simp) (fun W hW => (by have k := HC.out W hW; go_simp <;> rfl)) (by go_simp <;> rfl) ?_
    refine qb_val (o := ⟨some 95, _, _, _, _, _⟩) (by go_simp) (fun W hW => (by go_simp <;> rfl)) (by go_simp <;> rfl) ?_
    refine qb_val (o := ⟨some 96, _, _, _, _, _⟩) (by go_simp) (fun W hW => (by go_simp <;> rfl)) (by go_simp <;> rfl) ?_
    refine qb_val (o := ⟨some 97, _, _, _, _, _⟩) (by go_simp) (fun W hW => (by go_simp <;> rfl)) (by go_simp <;> rfl) ?_
    refine qb_val (o := ⟨some 4, _, _, _, _, _⟩) (by go_simp) (fun W hW => (by go_simp <;> rfl)) (by go_simp <;> rfl) ?_
    refine wpQuiet_nil ?_
    intro w12 bel12
    have bel12 : Below w11.heap.size w11 w12 := bel12
    have SX := Lib.hid (SX.out.next bel12)
    have Xc := Lib.hid (Xc.out.next bel12)
    have Sa := Lib.hid (Sa.out.next bel12)
    have Xn := Lib.hid (Xn.out.next bel12)
    have Sf := Lib.hid (Sf.out.next bel12)
    have Sg := Lib.hid (Sg.out.next bel12)
    have Xm := Lib.hid (Xm.out.next bel12)
    have BB := Lib.hid (bel_next BB.out bel12)
    clear bel12
    go_wp2_with fail
    go_ret
    exact ⟨rfl, BB.out⟩
theorem chainBoth_walk (bt la sh : Int) (ts ps : List Int) (A : Option Addr) (c : Nat) (xs : List Int) (w : World) (hF : F16 ts ps) (ht : I32 ts) (hp : I32 ps) (hs0 : -9223372036854775808 ≤ sh) (hs1 : sh ≤ 9223372036854775807) (hb0 : -9223372036854775808 ≤ bt) (hb1 : bt ≤ 9223372036854775807)
    (hl0 : -2147483648 ≤ la) (hl1 : la ≤ 2147483647) (hc : xs.length ≤ c) (hm : c ≤ 9223372036854775807) (hx : I32 xs) (hs : Sl w w.heap.size .i32 A xs) :
    Calls Try.prog 9 #[.agg (cA bt la sh ts ps), .slice A xs.length c] w fun e w' => e = .returned (.bool true) ∧ Below w.heap.size w w' := by
  by_cases h : cnC bt sh ≠ 0 ∨ 4000 < xs.length
  · exact cboth_bad bt la sh ts ps A _ c w hF (by omega) h
  · exact cboth_ok bt sh la (ts, ps) A c xs w ⟨hl0, hl1⟩ ⟨hF, ht, hp⟩ (Decidable.by_contra fun hh => h (.inl hh)) hb0 hb1 (by omega) hx hs
end Go.Proofs.Ytgnmpkembcdkcaa

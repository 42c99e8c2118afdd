/-
  The walk of LmsNames. Conditions: numbers within their types.
-/
import Derived.Test.YtbiikhfhhfmkoaaLaw15B
namespace Go.Proofs.Ytbiikhfhhfmkoaa
open Go.RowKit
set_option linter.unusedVariables false

def nmP : List Int := [-2147483648, 0, 0, 0, 0, 0, 0, 0, 0, 0, 0, 0, 0, 0, 0, 0]
def nmQ : List Int := [2147483647, -2147483648, 0, 0, 0, 0, 0, 0, 0, 0, 0, 0, 0, 0, 0, 0]
def nmT : List Int := [-4, 0, 0, 0, 0, 0, 0, 0, 0, 0, 0, 0, 0, 0, 0, 0]
theorem nm_o1 : oF 10 s0 (-2147483648) = -2147483648 := by decide +kernel
theorem nm_n1 : nF 10 s0 (-2147483648) = (z16, nmP) := by decide +kernel
theorem nm_o2 : oF 10 (z16, nmP) 2147483647 = 2147483647 := by decide +kernel
theorem nm_n2 : nF 10 (z16, nmP) 2147483647 = (nmT, nmQ) := by decide +kernel
theorem nm_v : VS (z16, nmP) := ⟨⟨rfl, rfl⟩, by unfold I32; decide, by unfold I32; decide⟩

theorem wl_norm {P : Program} {ops : Array Oper} {l l' : List Oper} {a : Act} {Q : Exit → Act → World → Prop} {w : World} (e : l = l') (h : wpList P ops Q l' a w) : wpList P ops Q l a w := by subst e; exact h
theorem wl_val {P : Program} {ops : Array Oper} {rest : List Oper} {o : Oper} {a a' : Act} {Q : Exit → Act → World → Prop} {w : World} {v : Value} (hw : Region.wanted o (yielded ops a.tmps) = true) (hrun : (execOp a.eval o).run P w = .ok (.value v) w) (ha : a.put o.dst v = a') (h : wpList P ops Q rest a' w) : wpList P ops Q (o :: rest) a w := by
  subst ha
  obtain ⟨d, op, ty, pos, af, g⟩ := o
  exact wpl_guard hw (wpl_val rfl hrun h)
theorem wl_put {P : Program} {ops : Array Oper} {rest : List Oper} {a a' : Act} {Q : Exit → Act → World → Prop} {w : World} (ha : a = a') (h : wpList P ops Q rest a' w) : wpList P ops Q rest a w := by subst ha; exact h
theorem flt_run {w : World} {b : Nat} {sh : Int} {ts ps : List Int} (h : FB w b 24 sh ts ps) : (Instr.loadAt 24 (.pointer (some ⟨b, 0, none⟩))).run Try.prog w = .ok (.agg (fA sh ts ps)) w := by
  obtain ⟨d, hu, hd⟩ := flt.row
  have hr : w.rangeAt b 0 (fA sh ts ps).toList := by
    have := World.rangeAt_of_block h.1 0 (fA sh ts ps).size
    simpa using this
  have := run_loadAt_mid (P := Try.prog) w b 0 24 (fA sh ts ps).toList d hr hu hd (by simpa using flt_sz flt h.2)
  simpa using this
theorem flt_runT {w : World} {b : Nat} {sh : Int} {ts ps : List Int} (h : FB w b 24 sh ts ps) : (Instr.loadAt 22 (.pointer (some ⟨b, 1, none⟩))).run Try.prog w = .ok (.agg (aA ts)) w := by
  have hr : w.rangeAt b 1 (aA ts).toList := by
    have := World.rangeAt_of_block h.1 1 16
    have e := fA_ext_t (sh := sh) (ps := ps) h.2.1
    rw [aA_size, h.2.1] at e
    rw [← e]
    simpa using this
  have := run_loadAt_mid (P := Try.prog) w b 1 22 (aA ts).toList _ hr flt.arr rfl (by simpa [aA_size, h.2.1] using flt.asize)
  simpa using this
theorem flt_lit (W : World) : (Op.equalIn 10000 24 (.agg (fA 10 z16 z16)) (.agg (fA 10 z16 z16))).run Try.prog W = .ok true W := by
  exact flt_eq flt 10 10 z16 z16 z16 z16 f16z f16z W
theorem arr_lit (W : World) : (Op.equalIn 10000 22 (.agg (aA z16)) (.agg (aA z16))).run Try.prog W = .ok true W := by
  exact arr_eq flt z16 z16 rfl rfl W

set_option maxRecDepth 100000 in
set_option maxHeartbeats 4000000 in
theorem lmsNames_walk (w : World) : Calls Try.prog 7 #[] w fun e w' => e = .returned (.bool true) ∧ Below w.heap.size w w' := by
  have BB := Lib.hid (bel_self w)
  obtain ⟨Z, hZ⟩ : ∃ Z, Z = List.replicate 4001 (0 : Int) := ⟨_, rfl⟩
  have hZl : Z.length = 4001 := by rw [hZ]; simp
  have hZi : I32 Z := fun y hy => by rw [hZ] at hy; rw [List.eq_of_mem_replicate hy]; decide
  have hT : Z.take 4000 = List.replicate 4000 0 := by rw [hZ, List.take_replicate]; rfl
  have C1 := Lib.hid (fun W => lforward_bad 8 s0 1 W s0_v (by decide))
  have C2 := Lib.hid (fun W => lback_bad 8 s0 1 W s0_v (by decide))
  have C3 := Lib.hid (fun A c W (hh : Sl W W.heap.size .i32 A Z) => lAll_any 8 s0 A 4001 c Z W hZl s0_v (by decide) hZi hh)
  have C4 := Lib.hid (fun A c W (hh : Sl W W.heap.size .i32 A Z) => lUndo_any 8 s0 A 4001 c Z W hZl s0_v (by decide) hZi hh)
  have C5 := Lib.hid (fun A c W (hh : Sl W W.heap.size .i32 A Z) => lAll_any 10 s0 A 4001 c Z W hZl s0_v (by decide) hZi hh)
  have C6 := Lib.hid (fun A c W (hh : Sl W W.heap.size .i32 A Z) => lUndo_any 10 s0 A 4001 c Z W hZl s0_v (by decide) hZi hh)
  rw [show ckF 8 = 8 by decide] at C1 C2
  have a8 : alE 8 4001 = 8 := by decide
  have a10 : alE 10 4001 = 4 := by decide
  have b8 : ¬ alE 8 Z.length = 0 := by rw [hZl, a8]; decide
  have b10 : ¬ alE 10 Z.length = 0 := by rw [hZl, a10]; decide
  rw [a8, show alSh 8 4001 = 0 from if_neg (by rw [a8]; decide), show alS (nF 8) 8 s0 Z = (z16, z16) from if_neg b8, show alL (oF 8) (nF 8) 8 s0 Z = [] from if_neg b8] at C3
  rw [a8, show alSh 8 4001 = 0 from if_neg (by rw [a8]; decide), show alS (nBk 8) 8 s0 Z = (z16, z16) from if_neg b8, show alL (oB 8) (nBk 8) 8 s0 Z = [] from if_neg b8] at C4
  rw [a10, show alSh 10 4001 = 0 from if_neg (by rw [a10]; decide), show alS (nF 10) 10 s0 Z = (z16, z16) from if_neg b10, show alL (oF 10) (nF 10) 10 s0 Z = [] from if_neg b10] at C5
  rw [a10, show alSh 10 4001 = 0 from if_neg (by rw [a10]; decide), show alS (nBk 10) 10 s0 Z = (z16, z16) from if_neg b10, show alL (oB 10) (nBk 10) 10 s0 Z = [] from if_neg b10] at C6
  have hc10 : ckF 10 = 0 := by decide
  obtain ⟨r1, r2⟩ := runL_still (sil_o hc10 z16).1 (sil_n hc10 (ts := z16) rfl s0_v.2.1).1 4000
  have C7 := Lib.hid (fun A c W (hh : Sl W W.heap.size .i32 A Z) => lAll_ok 10 s0 A 4000 c (Z.take 4000) W (by rw [List.length_take, hZl]; rfl) s0_v hc10 (by decide) (fun y hy => hZi y (List.mem_of_mem_take hy)) (hh.take 4000))
  rw [hT, show runL (oF 10) (nF 10) s0 (List.replicate 4000 0) = List.replicate 4000 0 from r1, show finL (nF 10) s0 (List.replicate 4000 0) = s0 from r2] at C7
  have C8 := Lib.hid (fun W => lUndo_ok 10 s0 none 0 0 [] W rfl s0_v hc10 (by decide) (fun y hy => by simp at hy) Sl.nil_)
  rw [show runL (oB 10) (nBk 10) s0 [] = [] from rfl, show finL (nBk 10) s0 [] = s0 from rfl] at C8
  have C9 := Lib.hid (fun W => lforward_ok 10 s0 (-2147483648) W s0_v hc10 (by unfold G32; decide))
  rw [nm_o1, nm_n1] at C9
  have C10 := Lib.hid (fun W => lforward_ok 10 (z16, nmP) 2147483647 W nm_v hc10 (by unfold G32; decide))
  rw [nm_o2, nm_n2] at C10
  simp only [show s0.1 = z16 from rfl, show s0.2 = z16 from rfl] at C1 C2 C3 C4 C5 C6 C7 C8 C9
  have HF := Lib.hid f16z
  have HP := Lib.hid (show F16 z16 nmP from ⟨rfl, rfl⟩)
  have HQ := Lib.hid (show F16 nmT nmQ from ⟨rfl, rfl⟩)
  have P0 := Lib.hid (show nmP.getD 0 0 = -2147483648 from rfl)
  have Q1 := Lib.hid (show nmQ.getD 1 0 = -2147483648 from rfl)
  have T0 := Lib.hid (show nmT.getD 0 0 = -4 from rfl)
  have HLN_c := Lib.hid (show (List.replicate 4000 (0 : Int)).length = 4000 by simp)
  have mk : ∀ W, (Instr.makeSlice 31 (.int .i64 4001) (.int .i64 4001)).run Try.prog W = .ok (.slice (some ⟨W.heap.size, 0, none⟩) 4001 4001) (W.alloc (.cells (zerosA .i32 4001) 21)) := run_make_ints elI32 4001 rfl (by decide) (by decide)
  have ZR := Lib.hid (fun (W : World) => show Sl (W.alloc (.cells (zerosA .i32 4001) 21)) (W.alloc (.cells (zerosA .i32 4001) 21)).heap.size .i32 (some ⟨W.heap.size, 0, none⟩) Z by rw [hZ]; exact Sl.zeros' W .i32 21 4001)
  generalize zerosA .i32 4001 = za at *
  generalize List.replicate 4000 (0 : Int) = Y at *
  generalize nmP = pp at *
  generalize nmQ = pq at *
  generalize nmT = pt at *
  clear hZ hZl hZi hT a8 a10 b8 b10 hc10 r1 r2
  go_enter Try.func7, Try.ntmps7
  go_wp2_with (first
    | (with_reducible refine flt_bld1 (o := ⟨some 34, _, _, _, _, _⟩) flt fltI rfl _ rfl rfl ?_)
    | ((with_reducible refine flt_alloc (o := ⟨some 1, _, _, _, _, _⟩) flt rfl rfl ?_); intro w1 ba hba hBa bel1; have oa := Nat.le_trans BB.out.size hba; have BB := Lib.hid (bel_next BB.out bel1); have Xa := Lib.hid hBa; clear bel1 hBa hba)
    | ((with_reducible refine flt_store flt rfl (.tmp 1) (.tmp 34) rfl rfl rfl Xa.out HF.out ?_); intro w2 hB2 onl2; have BB := Lib.hid (onl2.bel oa BB.out); have Xa := Lib.hid hB2; clear onl2 hB2)
    | (with_reducible refine flt_bld1 (o := ⟨some 35, _, _, _, _, _⟩) flt fltI rfl _ rfl rfl ?_)
    | ((with_reducible refine flt_alloc (o := ⟨some 2, _, _, _, _, _⟩) flt rfl rfl ?_); intro w3 bg hbg hBg bel3; have q_a_g : ba < bg := Nat.lt_of_lt_of_le Xa.out.lt hbg; have og := Nat.le_trans BB.out.size hbg; have Xa := Lib.hid (Xa.out.next bel3); have BB := Lib.hid (bel_next BB.out bel3); have Xg := Lib.hid hBg; clear bel3 hBg hbg)
    | ((with_reducible refine flt_store flt rfl (.tmp 2) (.tmp 35) rfl rfl rfl Xg.out HF.out ?_); intro w4 hB4 onl4; have Xa := Lib.hid (Xa.out.only (by omega) onl4); have BB := Lib.hid (onl4.bel og BB.out); have Xg := Lib.hid hB4; have WZ := Lib.hid (ZR.out w4); have WB := Lib.hid (bel_up (bel_self w4) (.cells za 21)); have Xa := Lib.hid (Xa.out.next WB.out); have Xg := Lib.hid (hB4.next WB.out); have BB := Lib.hid (bel_next BB.out WB.out); generalize hW : w4.alloc (.cells za 21) = w5 at *; clear onl4 hB4)
    | (with_reducible refine flt_load (o := ⟨some 38, _, _, _, _, _⟩) flt rfl _ rfl rfl Xa.out ?_))
  have SZ := Lib.hid (SA.of WZ.out)
  clear WZ WB hW mk ZR
  go_wp2_with fail
  refine (C1.out _).mono ?_
  rintro e w6 ⟨rfl, bel6⟩
  have Xa := Lib.hid (Xa.out.next bel6)
  have Xg := Lib.hid (Xg.out.next bel6)
  have SZ := Lib.hid (SZ.out.next bel6)
  have BB := Lib.hid (bel_next BB.out bel6)
  clear bel6
  go_wp2_with (first
    | ((with_reducible refine flt_alloc (o := ⟨some 5, _, _, _, _, _⟩) flt rfl rfl ?_); intro w7 bx hbx hBx bel7; have q_a_x : ba < bx := Nat.lt_of_lt_of_le Xa.out.lt hbx; have q_g_x : bg < bx := Nat.lt_of_lt_of_le Xg.out.lt hbx; have q_SZ_x := Nat.le_trans SZ.out.2 hbx; have ox := Nat.le_trans BB.out.size hbx; have Xa := Lib.hid (Xa.out.next bel7); have Xg := Lib.hid (Xg.out.next bel7); have SZ := Lib.hid (SZ.out.next bel7); have BB := Lib.hid (bel_next BB.out bel7); have Xx := Lib.hid hBx; clear bel7 hBx hbx)
    | ((with_reducible refine flt_store flt rfl (.tmp 5) (.tmp 41) rfl rfl rfl Xx.out HF.out ?_); intro w8 hB8 onl8; have Xa := Lib.hid (Xa.out.only (by omega) onl8); have Xg := Lib.hid (Xg.out.only (by omega) onl8); have SZ := Lib.hid (SZ.out.only (by omega) onl8); have BB := Lib.hid (onl8.bel ox BB.out); have Xx := Lib.hid hB8; clear onl8 hB8)
    | (with_reducible refine flt_load (o := ⟨some 44, _, _, _, _, _⟩) flt rfl _ rfl rfl Xa.out ?_))
  clear Xx
  go_wp2_with fail
  refine (C2.out _).mono ?_
  rintro e w9 ⟨rfl, bel9⟩
  have Xa := Lib.hid (Xa.out.next bel9)
  have Xg := Lib.hid (Xg.out.next bel9)
  have SZ := Lib.hid (SZ.out.next bel9)
  have BB := Lib.hid (bel_next BB.out bel9)
  clear bel9
  go_wp2_with (first
    | ((with_reducible refine flt_alloc (o := ⟨some 8, _, _, _, _, _⟩) flt rfl rfl ?_); intro w10 bx hbx hBx bel10; have q_a_x : ba < bx := Nat.lt_of_lt_of_le Xa.out.lt hbx; have q_g_x : bg < bx := Nat.lt_of_lt_of_le Xg.out.lt hbx; have q_SZ_x := Nat.le_trans SZ.out.2 hbx; have ox := Nat.le_trans BB.out.size hbx; have Xa := Lib.hid (Xa.out.next bel10); have Xg := Lib.hid (Xg.out.next bel10); have SZ := Lib.hid (SZ.out.next bel10); have BB := Lib.hid (bel_next BB.out bel10); have Xx := Lib.hid hBx; clear bel10 hBx hbx)
    | ((with_reducible refine flt_store flt rfl (.tmp 8) (.tmp 47) rfl rfl rfl Xx.out HF.out ?_); intro w11 hB11 onl11; have Xa := Lib.hid (Xa.out.only (by omega) onl11); have Xg := Lib.hid (Xg.out.only (by omega) onl11); have SZ := Lib.hid (SZ.out.only (by omega) onl11); have BB := Lib.hid (onl11.bel ox BB.out); have Xx := Lib.hid hB11; clear onl11 hB11)
    | (with_reducible refine flt_load (o := ⟨some 50, _, _, _, _, _⟩) flt rfl _ rfl rfl Xa.out ?_))
  clear Xx
  go_wp2_with fail
  refine (C3.out _ _ _ SZ.out.sl).mono ?_
  rintro e w12 ⟨v12, rfl, own12, bel12⟩
  obtain ⟨Ax, cx, rfl, _, _, sl12⟩ := own12.sl
  have Sx := Lib.hid (SA.of sl12)
  have Xa := Lib.hid (Xa.out.next bel12)
  have Xg := Lib.hid (Xg.out.next bel12)
  have SZ := Lib.hid (SZ.out.next bel12)
  have BB := Lib.hid (bel_next BB.out bel12)
  clear own12 bel12 sl12
  go_wp2_with (first
    | ((with_reducible refine flt_alloc (o := ⟨some 11, _, _, _, _, _⟩) flt rfl rfl ?_); intro w13 bu hbu hBu bel13; have q_a_u : ba < bu := Nat.lt_of_lt_of_le Xa.out.lt hbu; have q_g_u : bg < bu := Nat.lt_of_lt_of_le Xg.out.lt hbu; have q_SZ_u := Nat.le_trans SZ.out.2 hbu; have q_Sx_u := Nat.le_trans Sx.out.2 hbu; have ou := Nat.le_trans BB.out.size hbu; have Xa := Lib.hid (Xa.out.next bel13); have Xg := Lib.hid (Xg.out.next bel13); have SZ := Lib.hid (SZ.out.next bel13); have Sx := Lib.hid (Sx.out.next bel13); have BB := Lib.hid (bel_next BB.out bel13); have Xu := Lib.hid hBu; clear bel13 hBu hbu)
    | ((with_reducible refine flt_store flt rfl (.tmp 11) (.tmp 54) rfl rfl rfl Xu.out HF.out ?_); intro w14 hB14 onl14; have Xa := Lib.hid (Xa.out.only (by omega) onl14); have Xg := Lib.hid (Xg.out.only (by omega) onl14); have SZ := Lib.hid (SZ.out.only (by omega) onl14); have Sx := Lib.hid (Sx.out.only (by omega) onl14); have BB := Lib.hid (onl14.bel ou BB.out); have Xu := Lib.hid hB14; clear onl14 hB14)
    | (with_reducible refine flt_load (o := ⟨some 57, _, _, _, _, _⟩) flt rfl _ rfl rfl Xa.out ?_))
  clear Sx Xu
  go_wp2_with fail
  refine (C4.out _ _ _ SZ.out.sl).mono ?_
  rintro e w15 ⟨v15, rfl, own15, bel15⟩
  obtain ⟨Ax, cx, rfl, _, _, sl15⟩ := own15.sl
  have Sx := Lib.hid (SA.of sl15)
  have Xa := Lib.hid (Xa.out.next bel15)
  have Xg := Lib.hid (Xg.out.next bel15)
  have SZ := Lib.hid (SZ.out.next bel15)
  have BB := Lib.hid (bel_next BB.out bel15)
  clear own15 bel15 sl15
  go_wp2_with (first
    | ((with_reducible refine flt_alloc (o := ⟨some 14, _, _, _, _, _⟩) flt rfl rfl ?_); intro w16 bu hbu hBu bel16; have q_a_u : ba < bu := Nat.lt_of_lt_of_le Xa.out.lt hbu; have q_g_u : bg < bu := Nat.lt_of_lt_of_le Xg.out.lt hbu; have q_SZ_u := Nat.le_trans SZ.out.2 hbu; have q_Sx_u := Nat.le_trans Sx.out.2 hbu; have ou := Nat.le_trans BB.out.size hbu; have Xa := Lib.hid (Xa.out.next bel16); have Xg := Lib.hid (Xg.out.next bel16); have SZ := Lib.hid (SZ.out.next bel16); have Sx := Lib.hid (Sx.out.next bel16); have BB := Lib.hid (bel_next BB.out bel16); have Xu := Lib.hid hBu; clear bel16 hBu hbu)
    | ((with_reducible refine flt_store flt rfl (.tmp 14) (.tmp 61) rfl rfl rfl Xu.out HF.out ?_); intro w17 hB17 onl17; have Xa := Lib.hid (Xa.out.only (by omega) onl17); have Xg := Lib.hid (Xg.out.only (by omega) onl17); have SZ := Lib.hid (SZ.out.only (by omega) onl17); have Sx := Lib.hid (Sx.out.only (by omega) onl17); have BB := Lib.hid (onl17.bel ou BB.out); have Xu := Lib.hid hB17; clear onl17 hB17)
    | (with_reducible refine flt_load (o := ⟨some 64, _, _, _, _, _⟩) flt rfl _ rfl rfl Xg.out ?_))
  clear Sx Xu Xa
  go_wp2_with fail
  refine (C5.out _ _ _ SZ.out.sl).mono ?_
  rintro e w18 ⟨v18, rfl, own18, bel18⟩
  obtain ⟨Ax, cx, rfl, _, _, sl18⟩ := own18.sl
  have Sx := Lib.hid (SA.of sl18)
  have Xg := Lib.hid (Xg.out.next bel18)
  have SZ := Lib.hid (SZ.out.next bel18)
  have BB := Lib.hid (bel_next BB.out bel18)
  clear own18 bel18 sl18
  go_wp2_with (first
    | ((with_reducible refine flt_alloc (o := ⟨some 17, _, _, _, _, _⟩) flt rfl rfl ?_); intro w19 bu hbu hBu bel19; have q_g_u : bg < bu := Nat.lt_of_lt_of_le Xg.out.lt hbu; have q_SZ_u := Nat.le_trans SZ.out.2 hbu; have q_Sx_u := Nat.le_trans Sx.out.2 hbu; have ou := Nat.le_trans BB.out.size hbu; have Xg := Lib.hid (Xg.out.next bel19); have SZ := Lib.hid (SZ.out.next bel19); have Sx := Lib.hid (Sx.out.next bel19); have BB := Lib.hid (bel_next BB.out bel19); have Xu := Lib.hid hBu; clear bel19 hBu hbu)
    | ((with_reducible refine flt_store flt rfl (.tmp 17) (.tmp 68) rfl rfl rfl Xu.out HF.out ?_); intro w20 hB20 onl20; have Xg := Lib.hid (Xg.out.only (by omega) onl20); have SZ := Lib.hid (SZ.out.only (by omega) onl20); have Sx := Lib.hid (Sx.out.only (by omega) onl20); have BB := Lib.hid (onl20.bel ou BB.out); have Xu := Lib.hid hB20; clear onl20 hB20)
    | (with_reducible refine flt_load (o := ⟨some 71, _, _, _, _, _⟩) flt rfl _ rfl rfl Xg.out ?_))
  clear Sx Xu
  go_wp2_with fail
  refine (C6.out _ _ _ SZ.out.sl).mono ?_
  rintro e w21 ⟨v21, rfl, own21, bel21⟩
  obtain ⟨Ax, cx, rfl, _, _, sl21⟩ := own21.sl
  have Sx := Lib.hid (SA.of sl21)
  have Xg := Lib.hid (Xg.out.next bel21)
  have SZ := Lib.hid (SZ.out.next bel21)
  have BB := Lib.hid (bel_next BB.out bel21)
  clear own21 bel21 sl21
  go_upto_region 10 with (first
    | ((with_reducible refine flt_alloc (o := ⟨some 20, _, _, _, _, _⟩) flt rfl rfl ?_); intro w22 bu hbu hBu bel22; have q_g_u : bg < bu := Nat.lt_of_lt_of_le Xg.out.lt hbu; have q_SZ_u := Nat.le_trans SZ.out.2 hbu; have q_Sx_u := Nat.le_trans Sx.out.2 hbu; have ou := Nat.le_trans BB.out.size hbu; have Xg := Lib.hid (Xg.out.next bel22); have SZ := Lib.hid (SZ.out.next bel22); have Sx := Lib.hid (Sx.out.next bel22); have BB := Lib.hid (bel_next BB.out bel22); have Xu := Lib.hid hBu; clear bel22 hBu hbu)
    | ((with_reducible refine flt_store flt rfl (.tmp 20) (.tmp 75) rfl rfl rfl Xu.out HF.out ?_); intro w23 hB23 onl23; have Xg := Lib.hid (Xg.out.only (by omega) onl23); have SZ := Lib.hid (SZ.out.only (by omega) onl23); have Sx := Lib.hid (Sx.out.only (by omega) onl23); have BB := Lib.hid (onl23.bel ou BB.out); have Xu := Lib.hid hB23; clear onl23 hB23))
  go_cut [23, 22, 24] (fun s23 s22 s24 wx => ∃ bc vc, s23 = .pointer (some ⟨bc, 0, none⟩) ∧ s22 = vc ∧ s24 = .int .i64 0 ∧ w23.heap.size ≤ bc ∧ FB wx bc 24 10 z16 z16 ∧ Own wx w23.heap.size 21 .i32 vc (Y) ∧ Below w23.heap.size w23 wx)
  case first =>
    refine h_begin (S := SinceH w23) (by kernel_rfl) rfl ?_
    have S0 : Below w23.heap.size w23 { w23 with drawn := w23.drawn + 1 } := (bel_self w23).drew
    generalize ({ w23 with drawn := w23.drawn + 1 } : World) = wd at *
    refine h_take 0 rfl (by kernel_rfl) (by kernel_rfl) (by kernel_rfl) (fun _ _ _ h => h) (y_load flt rfl _ rfl rfl (fun W hW => Xg.out.next hW)) S0 rfl (by go_simp <;> rfl) ?_
    refine h_take 1 rfl (by kernel_rfl) (by kernel_rfl) (by kernel_rfl) (fun _ _ _ h => h) (y_pure rfl (fun W hW => by go_simp <;> rfl)) S0 rfl (by go_simp <;> rfl) ?_
    refine h_take 2 rfl (by kernel_rfl) (by kernel_rfl) (by kernel_rfl) (fun _ _ _ h => h) (y_pure rfl (fun W hW => by go_simp <;> rfl)) S0 rfl (by go_simp <;> rfl) ?_
    refine h_two 3 8 (by kernel_rfl) rfl rfl rfl rfl rfl rfl ?_ ?_
    · refine wp_callE (C7.out _ _ _ (SZ.out.next S0).sl) (by go_simp <;> rfl) (fun u => by go_simp <;> rfl) ?_
      intro vc v1 ownc belc
      have S1 : Below w23.heap.size w23 v1 := bel_next S0 belc
      refine ⟨S1, ?_⟩
      refine h_take 4 rfl (by kernel_rfl) (by kernel_rfl) (by kernel_rfl) (fun _ _ _ h => h) (y_pure rfl (fun W hW => by go_simp <;> rfl)) S1 rfl (by go_simp <;> rfl) ?_
      refine h_take 5 rfl (by kernel_rfl) (by kernel_rfl) (by kernel_rfl) (fun _ _ _ h => h) (y_pure rfl (fun W hW => by go_simp <;> rfl)) S1 rfl (by go_simp <;> rfl) ?_
      refine h_take 6 rfl (by kernel_rfl) (by kernel_rfl) (by kernel_rfl) (fun _ _ _ h => h) (y_pure rfl (fun W hW => by go_simp <;> rfl)) S1 rfl (by go_simp <;> rfl) ?_
      refine h_take 7 rfl (by kernel_rfl) (by kernel_rfl) (by kernel_rfl) (fun _ _ _ h => h) (y_pure rfl (fun W hW => by go_simp <;> rfl)) S1 rfl (by go_simp <;> rfl) ?_
      refine h_one 8 (by kernel_rfl) rfl rfl rfl ?_
      refine wp_flt_alloc flt rfl (fun b => by go_simp <;> rfl) ?_
      intro v2 bc hb8 hB8 bela
      have S2 : Below w23.heap.size w23 v2 := bel_next S1 bela
      refine ⟨S2, ?_⟩
      have o8 : w23.heap.size ≤ bc := Nat.le_trans S1.size hb8
      have ne8 := ownc.ne_of_ge hb8
      have ownc := (ownc.next bela).rebase S0.size
      refine h_take 9 rfl (by kernel_rfl) (by kernel_rfl) (by kernel_rfl) (fun _ _ _ h => h) (y_pure rfl (fun W hW => by go_simp <;> rfl)) S2 rfl (by go_simp <;> rfl) ?_
      refine h_one 10 (by kernel_rfl) rfl rfl rfl ?_
      refine wp_flt_store flt _ _ rfl rfl rfl hB8 HF.out (by go_simp <;> rfl) ?_
      intro v3 hB3 onl3
      have S3 : Below w23.heap.size w23 v3 := onl3.bel o8 S2
      refine ⟨S3, ?_⟩
      have ownc := ownc.only ne8 onl3
      refine h_take 11 rfl (by kernel_rfl) (by kernel_rfl) (by kernel_rfl) (fun _ _ _ h => h) (y_pure rfl (fun W hW => by go_simp <;> rfl)) S3 rfl (by go_simp <;> rfl) ?_
      refine h_done (by kernel_rfl) ?_
      go_wp2_with fail
      go_meet
      exact ⟨bc, vc, rfl, rfl, rfl, o8, hB3, ownc, S3⟩
    · refine wp_flt_alloc flt rfl (fun b => by go_simp <;> rfl) ?_
      intro v1 bc hb8 hB8 bela
      have S1 : Below w23.heap.size w23 v1 := bel_next S0 bela
      refine ⟨S1, ?_⟩
      have o8 : w23.heap.size ≤ bc := Nat.le_trans S0.size hb8
      refine h_one 3 (by kernel_rfl) rfl rfl rfl ?_
      have lt8 := hB8.lt
      refine wp_callE (C7.out _ _ _ (SZ.out.next S1).sl) (by go_simp <;> rfl) (fun u => by go_simp <;> rfl) ?_
      intro vc v2 ownc belc
      have S2 : Below w23.heap.size w23 v2 := bel_next S1 belc
      refine ⟨S2, ?_⟩
      have hB8 := hB8.next belc
      have ne8 := ownc.ne_of_lt lt8
      have ownc := ownc.rebase S1.size
      refine h_take 4 rfl (by kernel_rfl) (by kernel_rfl) (by kernel_rfl) (fun _ _ _ h => h) (y_pure rfl (fun W hW => by go_simp <;> rfl)) S2 rfl (by go_simp <;> rfl) ?_
      refine h_take 5 rfl (by kernel_rfl) (by kernel_rfl) (by kernel_rfl) (fun _ _ _ h => h) (y_pure rfl (fun W hW => by go_simp <;> rfl)) S2 rfl (by go_simp <;> rfl) ?_
      refine h_take 6 rfl (by kernel_rfl) (by kernel_rfl) (by kernel_rfl) (fun _ _ _ h => h) (y_pure rfl (fun W hW => by go_simp <;> rfl)) S2 rfl (by go_simp <;> rfl) ?_
      refine h_take 7 rfl (by kernel_rfl) (by kernel_rfl) (by kernel_rfl) (fun _ _ _ h => h) (y_pure rfl (fun W hW => by go_simp <;> rfl)) S2 rfl (by go_simp <;> rfl) ?_
      refine h_take 9 rfl (by kernel_rfl) (by kernel_rfl) (by kernel_rfl) (fun _ _ _ h => h) (y_pure rfl (fun W hW => by go_simp <;> rfl)) S2 rfl (by go_simp <;> rfl) ?_
      refine h_one 10 (by kernel_rfl) rfl rfl rfl ?_
      refine wp_flt_store flt _ _ rfl rfl rfl hB8 HF.out (by go_simp <;> rfl) ?_
      intro v3 hB3 onl3
      have S3 : Below w23.heap.size w23 v3 := onl3.bel o8 S2
      refine ⟨S3, ?_⟩
      have ownc := ownc.only ne8 onl3
      refine h_take 11 rfl (by kernel_rfl) (by kernel_rfl) (by kernel_rfl) (fun _ _ _ h => h) (y_pure rfl (fun W hW => by go_simp <;> rfl)) S3 rfl (by go_simp <;> rfl) ?_
      refine h_done (by kernel_rfl) ?_
      go_wp2_with fail
      go_meet
      exact ⟨bc, vc, rfl, rfl, rfl, o8, hB3, ownc, S3⟩
  case rest =>
    obtain ⟨bc, vc, rfl, rfl, rfl, hbc, hBc, own24, bel24⟩ := hcut
    obtain ⟨w24, rfl⟩ : ∃ wq, wq = wc := ⟨_, rfl⟩
    obtain ⟨Ac, cc, rfl, _, _, sl24⟩ := own24.sln (HLN_c.out)
    have q_g_c : bg < bc := Nat.lt_of_lt_of_le Xg.out.lt hbc
    have q_u_c : bu < bc := Nat.lt_of_lt_of_le Xu.out.lt hbc
    have q_SZ_c := Nat.le_trans SZ.out.2 hbc
    have q_Sx_c := Nat.le_trans Sx.out.2 hbc
    have oc := Nat.le_trans BB.out.size hbc
    have Xg := Lib.hid (Xg.out.next bel24)
    have SZ := Lib.hid (SZ.out.next bel24)
    have Sx := Lib.hid (Sx.out.next bel24)
    have Xu := Lib.hid (Xu.out.next bel24)
    have BB := Lib.hid (bel_next BB.out bel24)
    have Xc := Lib.hid hBc
    have Sc := Lib.hid (SA.of sl24)
    clear bel24 hBc hbc own24 sl24
    go_wp2_with (first
      | (with_reducible refine flt_load (o := ⟨some 86, _, _, _, _, _⟩) flt rfl _ rfl rfl Xg.out ?_))
    refine (C8.out _).mono ?_
    rintro e w25 ⟨v25, rfl, own25, bel25⟩
    obtain ⟨Ad, cd, rfl, _, _, sl25⟩ := own25.sl
    have Sd := Lib.hid (SA.of sl25)
    have Xg := Lib.hid (Xg.out.next bel25)
    have SZ := Lib.hid (SZ.out.next bel25)
    have Sx := Lib.hid (Sx.out.next bel25)
    have Xu := Lib.hid (Xu.out.next bel25)
    have Sc := Lib.hid (Sc.out.next bel25)
    have Xc := Lib.hid (Xc.out.next bel25)
    have BB := Lib.hid (bel_next BB.out bel25)
    clear own25 bel25 sl25
    go_wp2_with (first
      | ((with_reducible refine flt_alloc (o := ⟨some 26, _, _, _, _, _⟩) flt rfl rfl ?_); intro w26 bd hbd hBd bel26; have q_g_d : bg < bd := Nat.lt_of_lt_of_le Xg.out.lt hbd; have q_u_d : bu < bd := Nat.lt_of_lt_of_le Xu.out.lt hbd; have q_c_d : bc < bd := Nat.lt_of_lt_of_le Xc.out.lt hbd; have q_SZ_d := Nat.le_trans SZ.out.2 hbd; have q_Sx_d := Nat.le_trans Sx.out.2 hbd; have q_Sc_d := Nat.le_trans Sc.out.2 hbd; have q_Sd_d := Nat.le_trans Sd.out.2 hbd; have od := Nat.le_trans BB.out.size hbd; have Xg := Lib.hid (Xg.out.next bel26); have SZ := Lib.hid (SZ.out.next bel26); have Sx := Lib.hid (Sx.out.next bel26); have Xu := Lib.hid (Xu.out.next bel26); have Sc := Lib.hid (Sc.out.next bel26); have Xc := Lib.hid (Xc.out.next bel26); have Sd := Lib.hid (Sd.out.next bel26); have BB := Lib.hid (bel_next BB.out bel26); have Xd := Lib.hid hBd; clear bel26 hBd hbd)
      | ((with_reducible refine flt_store flt rfl (.tmp 26) (.tmp 89) rfl rfl rfl Xd.out HF.out ?_); intro w27 hB27 onl27; have Xg := Lib.hid (Xg.out.only (by omega) onl27); have SZ := Lib.hid (SZ.out.only (by omega) onl27); have Sx := Lib.hid (Sx.out.only (by omega) onl27); have Xu := Lib.hid (Xu.out.only (by omega) onl27); have Sc := Lib.hid (Sc.out.only (by omega) onl27); have Xc := Lib.hid (Xc.out.only (by omega) onl27); have Sd := Lib.hid (Sd.out.only (by omega) onl27); have BB := Lib.hid (onl27.bel od BB.out); have Xd := Lib.hid hB27; clear onl27 hB27)
      | (with_reducible refine flt_load (o := ⟨some 92, _, _, _, _, _⟩) flt rfl _ rfl rfl Xg.out ?_))
    refine (C9.out _).mono ?_
    rintro e w28 ⟨rfl, bel28⟩
    have Xg := Lib.hid (Xg.out.next bel28)
    have SZ := Lib.hid (SZ.out.next bel28)
    have Sx := Lib.hid (Sx.out.next bel28)
    have Xu := Lib.hid (Xu.out.next bel28)
    have Sc := Lib.hid (Sc.out.next bel28)
    have Xc := Lib.hid (Xc.out.next bel28)
    have Sd := Lib.hid (Sd.out.next bel28)
    have Xd := Lib.hid (Xd.out.next bel28)
    have BB := Lib.hid (bel_next BB.out bel28)
    clear bel28
    go_wp2_with (first
      | ((with_reducible refine flt_alloc (o := ⟨some 29, _, _, _, _, _⟩) flt rfl rfl ?_); intro w29 bn hbn hBn bel29; have q_g_n : bg < bn := Nat.lt_of_lt_of_le Xg.out.lt hbn; have q_u_n : bu < bn := Nat.lt_of_lt_of_le Xu.out.lt hbn; have q_c_n : bc < bn := Nat.lt_of_lt_of_le Xc.out.lt hbn; have q_d_n : bd < bn := Nat.lt_of_lt_of_le Xd.out.lt hbn; have q_SZ_n := Nat.le_trans SZ.out.2 hbn; have q_Sx_n := Nat.le_trans Sx.out.2 hbn; have q_Sc_n := Nat.le_trans Sc.out.2 hbn; have q_Sd_n := Nat.le_trans Sd.out.2 hbn; have on := Nat.le_trans BB.out.size hbn; have Xg := Lib.hid (Xg.out.next bel29); have SZ := Lib.hid (SZ.out.next bel29); have Sx := Lib.hid (Sx.out.next bel29); have Xu := Lib.hid (Xu.out.next bel29); have Sc := Lib.hid (Sc.out.next bel29); have Xc := Lib.hid (Xc.out.next bel29); have Sd := Lib.hid (Sd.out.next bel29); have Xd := Lib.hid (Xd.out.next bel29); have BB := Lib.hid (bel_next BB.out bel29); have Xn := Lib.hid hBn; clear bel29 hBn hbn)
      | ((with_reducible refine flt_store flt rfl (.tmp 29) (.tmp 95) rfl rfl rfl Xn.out HP.out ?_); intro w30 hB30 onl30; have Xg := Lib.hid (Xg.out.only (by omega) onl30); have SZ := Lib.hid (SZ.out.only (by omega) onl30); have Sx := Lib.hid (Sx.out.only (by omega) onl30); have Xu := Lib.hid (Xu.out.only (by omega) onl30); have Sc := Lib.hid (Sc.out.only (by omega) onl30); have Xc := Lib.hid (Xc.out.only (by omega) onl30); have Sd := Lib.hid (Sd.out.only (by omega) onl30); have Xd := Lib.hid (Xd.out.only (by omega) onl30); have BB := Lib.hid (onl30.bel on BB.out); have Xn := Lib.hid hB30; clear onl30 hB30)
      | (with_reducible refine flt_load (o := ⟨some 98, _, _, _, _, _⟩) flt rfl _ rfl rfl Xn.out ?_))
    refine (C10.out _).mono ?_
    rintro e w31 ⟨rfl, bel31⟩
    have Xg := Lib.hid (Xg.out.next bel31)
    have SZ := Lib.hid (SZ.out.next bel31)
    have Sx := Lib.hid (Sx.out.next bel31)
    have Xu := Lib.hid (Xu.out.next bel31)
    have Sc := Lib.hid (Sc.out.next bel31)
    have Xc := Lib.hid (Xc.out.next bel31)
    have Sd := Lib.hid (Sd.out.next bel31)
    have Xd := Lib.hid (Xd.out.next bel31)
    have Xn := Lib.hid (Xn.out.next bel31)
    have BB := Lib.hid (bel_next BB.out bel31)
    clear bel31
    go_wp2_with (first
      | ((with_reducible refine flt_alloc (o := ⟨some 32, _, _, _, _, _⟩) flt rfl rfl ?_); intro w32 bl hbl hBl bel32; have q_g_l : bg < bl := Nat.lt_of_lt_of_le Xg.out.lt hbl; have q_u_l : bu < bl := Nat.lt_of_lt_of_le Xu.out.lt hbl; have q_c_l : bc < bl := Nat.lt_of_lt_of_le Xc.out.lt hbl; have q_d_l : bd < bl := Nat.lt_of_lt_of_le Xd.out.lt hbl; have q_n_l : bn < bl := Nat.lt_of_lt_of_le Xn.out.lt hbl; have q_SZ_l := Nat.le_trans SZ.out.2 hbl; have q_Sx_l := Nat.le_trans Sx.out.2 hbl; have q_Sc_l := Nat.le_trans Sc.out.2 hbl; have q_Sd_l := Nat.le_trans Sd.out.2 hbl; have ol := Nat.le_trans BB.out.size hbl; have Xg := Lib.hid (Xg.out.next bel32); have SZ := Lib.hid (SZ.out.next bel32); have Sx := Lib.hid (Sx.out.next bel32); have Xu := Lib.hid (Xu.out.next bel32); have Sc := Lib.hid (Sc.out.next bel32); have Xc := Lib.hid (Xc.out.next bel32); have Sd := Lib.hid (Sd.out.next bel32); have Xd := Lib.hid (Xd.out.next bel32); have Xn := Lib.hid (Xn.out.next bel32); have BB := Lib.hid (bel_next BB.out bel32); have Xl := Lib.hid hBl; clear bel32 hBl hbl)
      | ((with_reducible refine flt_store flt rfl (.tmp 32) (.tmp 101) rfl rfl rfl Xl.out HQ.out ?_); intro w33 hB33 onl33; have Xg := Lib.hid (Xg.out.only (by omega) onl33); have SZ := Lib.hid (SZ.out.only (by omega) onl33); have Sx := Lib.hid (Sx.out.only (by omega) onl33); have Xu := Lib.hid (Xu.out.only (by omega) onl33); have Sc := Lib.hid (Sc.out.only (by omega) onl33); have Xc := Lib.hid (Xc.out.only (by omega) onl33); have Sd := Lib.hid (Sd.out.only (by omega) onl33); have Xd := Lib.hid (Xd.out.only (by omega) onl33); have Xn := Lib.hid (Xn.out.only (by omega) onl33); have BB := Lib.hid (onl33.bel ol BB.out); have Xl := Lib.hid hB33; clear onl33 hB33))
    refine (alive_any _).mono ?_
    rintro e w34 ⟨rfl, bel34⟩
    have Xg := Lib.hid (Xg.out.next bel34)
    have SZ := Lib.hid (SZ.out.next bel34)
    have Sx := Lib.hid (Sx.out.next bel34)
    have Xu := Lib.hid (Xu.out.next bel34)
    have Sc := Lib.hid (Sc.out.next bel34)
    have Xc := Lib.hid (Xc.out.next bel34)
    have Sd := Lib.hid (Sd.out.next bel34)
    have Xd := Lib.hid (Xd.out.next bel34)
    have Xn := Lib.hid (Xn.out.next bel34)
    have Xl := Lib.hid (Xl.out.next bel34)
    have BB := Lib.hid (bel_next BB.out bel34)
    clear bel34
    show (_ : Act → World → Prop) _ _
    refine ‹∀ (a : Act) (w : World), wpList _ _ _ _ a w → _› _ _ ?_
    with_reducible apply wl_norm
    case e => simp only [List.append_eq, List.cons_append, List.nil_append]; rfl
    have c0 := Xn.out.cp (show 0 < 16 by omega)
    have c1 := Xl.out.cp (show 1 < 16 by omega)
    have c2 := Xl.out.ct (show 0 < 16 by omega)
    rw [P0.out] at c0
    rw [Q1.out] at c1
    rw [T0.out] at c2
    go_wp2_with (first
      | ((with_reducible refine wpl_guard (d := some 140) ?_ ?_); (next => first | kernel_rfl | go_simp); with_reducible refine flt_load (o := ⟨some 140, _, _, _, _, _⟩) flt rfl _ rfl rfl Xc.out ?_)
      | ((with_reducible refine wpl_guard (d := some 141) ?_ ?_); (next => first | kernel_rfl | go_simp); with_reducible refine flt_load (o := ⟨some 141, _, _, _, _, _⟩) flt rfl _ rfl rfl Xg.out ?_)
      | ((with_reducible refine wpl_guard (d := some 142) ?_ ?_); (next => first | kernel_rfl | go_simp); with_reducible refine wpl_eq (o := ⟨some 142, _, _, _, _, _⟩) (flt_eqs flt eqgF _ _ _ HF.out _ _ _) rfl rfl rfl rfl ?_)
      | ((with_reducible refine wpl_guard (d := some 154) ?_ ?_); (next => first | kernel_rfl | go_simp); with_reducible refine flt_load (o := ⟨some 154, _, _, _, _, _⟩) flt rfl _ rfl rfl Xd.out ?_)
      | ((with_reducible refine wpl_guard (d := some 155) ?_ ?_); (next => first | kernel_rfl | go_simp); with_reducible refine flt_load (o := ⟨some 155, _, _, _, _, _⟩) flt rfl _ rfl rfl Xg.out ?_)
      | ((with_reducible refine wpl_guard (d := some 156) ?_ ?_); (next => first | kernel_rfl | go_simp); with_reducible refine wpl_eq (o := ⟨some 156, _, _, _, _, _⟩) (flt_eqs flt eqgF _ _ _ HF.out _ _ _) rfl rfl rfl rfl ?_)
      | ((with_reducible refine wpl_guard (d := some 175) ?_ ?_); (next => first | kernel_rfl | go_simp); with_reducible refine flt_loadT (o := ⟨some 175, _, _, _, _, _⟩) flt rfl _ rfl rfl Xn.out ?_)
      | ((with_reducible refine wpl_guard (d := some 177) ?_ ?_); (next => first | kernel_rfl | go_simp); with_reducible refine flt_loadT (o := ⟨some 177, _, _, _, _, _⟩) flt rfl _ rfl rfl Xg.out ?_)
      | ((with_reducible refine wpl_guard (d := some 178) ?_ ?_); (next => first | kernel_rfl | go_simp); with_reducible refine wpl_eq (o := ⟨some 178, _, _, _, _, _⟩) (arr_eqs flt eqgA _ z16_len _ _ _) rfl rfl rfl rfl ?_))
    go_ret
    exact ⟨rfl, BB.out⟩
end Go.Proofs.Ytbiikhfhhfmkoaa

/-
  What Learn and Push of package taps compute. Conditions: numbers within their types.
-/
import Derived.Test.YtnhdhjcpbonfjaaTapsWalks
import Derived.StillTailTactics
namespace Go.Proofs.Ytnhdhjcpbonfjaa
open Go.RowKit
set_option linter.unusedVariables false

set_option maxHeartbeats 400000 in
theorem step_any (k : Nat) (w : World) :
    Calls Try.prog 23 #[.int .i64 (k : Int)] w fun e w' => e = .returned (.int .i32 (stp k)) ∧ w = w' := by
  by_cases h0 : k = 0
  · subst h0
    go_enter Try.func23, Try.ntmps23
    go_wp2_with fail
    go_ret
    exact ⟨rfl, rfl⟩
  · have q0 : ((k : Int) == 0) = false := by simp [h0]
    by_cases h4 : k < 4
    · have E := Lib.hid (show stp k = 2 by unfold stp; rw [if_neg h0, if_pos h4])
      have q4 : decide ((k : Int) < 4) = true := by simp; omega
      clear h0
      go_enter Try.func23, Try.ntmps23
      go_wp2_with fail
      go_ret
      exact ⟨ret_int E.out.symm, rfl⟩
    · have E := Lib.hid (show stp k = 1 by unfold stp; rw [if_neg h0, if_neg h4])
      have q4 : decide ((k : Int) < 4) = false := by simp; omega
      clear h0
      go_enter Try.func23, Try.ntmps23
      go_wp2_with fail
      go_ret
      exact ⟨ret_int E.out.symm, rfl⟩

set_option maxHeartbeats 1000000 in
theorem learn_bad (sh : Int) (ts ps : List Int) (x : Int) (w : World) (hF : F16 ts ps) (h : ckF sh ≠ 0) :
    Calls Try.prog 13 #[.agg (fA sh ts ps), .int .i32 x] w fun e w' => e = .returned (.tuple #[.agg (fA 0 z16 z16), .int .i64 (ckF sh)]) ∧ Below w.heap.size w w' := by
  have BB := Lib.hid (bel_self w)
  have CK := Lib.hid (fun W => tcheck_any sh ts ps W hF)
  have hq : (ckF sh != 0) = true := by simp [h]
  generalize ckF sh = ce at *
  clear h
  go_enter Try.func13, Try.ntmps13
  go_wp2_with (first
    | ((with_reducible refine flt_box (o := ⟨some 2, _, _, _, _, _⟩) flt rfl _ rfl rfl hF ?_); intro w1 bf hbf hBf bel1; have of := Nat.le_trans BB.out.size hbf; have BB := Lib.hid (bel_next BB.out bel1); have Xf := Lib.hid hBf; clear bel1 hBf hbf)
    | ((with_reducible refine flt_alloc (o := ⟨some 4, _, _, _, _, _⟩) flt rfl rfl ?_); intro w2 br hbr hBr bel2; have q_f_r : bf < br := Nat.lt_of_lt_of_le Xf.out.lt hbr; have or := Nat.le_trans BB.out.size hbr; have Xf := Lib.hid (Xf.out.next bel2); have BB := Lib.hid (bel_next BB.out bel2); have Xr := Lib.hid hBr; clear bel2 hBr hbr)
    | (with_reducible refine flt_load (o := ⟨some 9, _, _, _, _, _⟩) flt rfl _ rfl rfl Xf.out ?_))
  refine (CK.out _).mono ?_
  rintro e w3 ⟨rfl, bel3⟩
  have Xf := Lib.hid (Xf.out.next bel3)
  have Xr := Lib.hid (Xr.out.next bel3)
  have BB := Lib.hid (bel_next BB.out bel3)
  clear bel3
  go_wp2_with (first
    | (with_reducible refine flt_bld0 (o := ⟨some 13, _, _, _, _, _⟩) flt fltI rfl rfl ?_)
    | ((with_reducible refine flt_store flt rfl (.tmp 4) (.tmp 13) rfl rfl rfl Xr.out f16z ?_); intro w4 hB4 onl4; have Xf := Lib.hid (Xf.out.only (by omega) onl4); have BB := Lib.hid (onl4.bel or BB.out); have Xr := Lib.hid hB4; clear onl4 hB4))
  exact bodyPost_ret (flt_res1 flt rfl _ _ rfl Xr.out) rfl ⟨rfl, BB.out⟩
set_option maxHeartbeats 1000000 in
theorem learn_zero (sh : Int) (ts ps : List Int) (w : World) (hF : F16 ts ps) (h : ckF sh = 0) :
    Calls Try.prog 13 #[.agg (fA sh ts ps), .int .i32 0] w fun e w' => e = .returned (.tuple #[.agg (fA sh ts ps), .int .i64 0]) ∧ Below w.heap.size w w' := by
  have BB := Lib.hid (bel_self w)
  have CK := Lib.hid (fun W => tcheck_any sh ts ps W hF)
  rw [h] at CK
  clear h
  go_enter Try.func13, Try.ntmps13
  go_wp2_with (first
    | ((with_reducible refine flt_box (o := ⟨some 2, _, _, _, _, _⟩) flt rfl _ rfl rfl hF ?_); intro w1 bf hbf hBf bel1; have of := Nat.le_trans BB.out.size hbf; have BB := Lib.hid (bel_next BB.out bel1); have Xf := Lib.hid hBf; clear bel1 hBf hbf)
    | ((with_reducible refine flt_alloc (o := ⟨some 4, _, _, _, _, _⟩) flt rfl rfl ?_); intro w2 br hbr hBr bel2; have q_f_r : bf < br := Nat.lt_of_lt_of_le Xf.out.lt hbr; have or := Nat.le_trans BB.out.size hbr; have Xf := Lib.hid (Xf.out.next bel2); have BB := Lib.hid (bel_next BB.out bel2); have Xr := Lib.hid hBr; clear bel2 hBr hbr)
    | (with_reducible refine flt_load (o := ⟨some 9, _, _, _, _, _⟩) flt rfl _ rfl rfl Xf.out ?_))
  refine (CK.out _).mono ?_
  rintro e w3 ⟨rfl, bel3⟩
  have Xf := Lib.hid (Xf.out.next bel3)
  have Xr := Lib.hid (Xr.out.next bel3)
  have BB := Lib.hid (bel_next BB.out bel3)
  clear bel3
  go_wp2_with (first
    | (with_reducible refine flt_load (o := ⟨some 17, _, _, _, _, _⟩) flt rfl _ rfl rfl Xf.out ?_)
    | ((with_reducible refine flt_store flt rfl (.tmp 4) (.tmp 17) rfl rfl rfl Xr.out hF ?_); intro w4 hB4 onl4; have Xf := Lib.hid (Xf.out.only (by omega) onl4); have BB := Lib.hid (onl4.bel or BB.out); have Xr := Lib.hid hB4; clear onl4 hB4))
  exact bodyPost_ret (flt_res1 flt rfl _ _ rfl Xr.out) rfl ⟨rfl, BB.out⟩
set_option maxHeartbeats 1000000 in
theorem learn_ok (sh : Int) (ts ps : List Int) (x : Int) (w : World) (hF : F16 ts ps) (h : ckF sh = 0) (hx : x ≠ 0) (ht : I32 ts) (hp : I32 ps) :
    Calls Try.prog 13 #[.agg (fA sh ts ps), .int .i32 x] w fun e w' => e = .returned (.tuple #[.agg (fA sh (lrn ts ps x) ps), .int .i64 0]) ∧ Below w.heap.size w w' := by
  have BB := Lib.hid (bel_self w)
  have CK := Lib.hid (fun W => tcheck_any sh ts ps W hF)
  rw [h] at CK
  have HT := Lib.hid ht
  have HP := Lib.hid hp
  have hl := Lib.hid hF.2
  have qx : (x == 0) = false := by simp [hx]
  clear h ht hp
  go_enter Try.func13, Try.ntmps13
  go_wp2_with (first
    | ((with_reducible refine flt_box (o := ⟨some 2, _, _, _, _, _⟩) flt rfl _ rfl rfl hF ?_); intro w1 bf hbf hBf bel1; have of := Nat.le_trans BB.out.size hbf; have BB := Lib.hid (bel_next BB.out bel1); have Xf := Lib.hid hBf; clear bel1 hBf hbf)
    | ((with_reducible refine flt_alloc (o := ⟨some 4, _, _, _, _, _⟩) flt rfl rfl ?_); intro w2 br hbr hBr bel2; have q_f_r : bf < br := Nat.lt_of_lt_of_le Xf.out.lt hbr; have or := Nat.le_trans BB.out.size hbr; have Xf := Lib.hid (Xf.out.next bel2); have BB := Lib.hid (bel_next BB.out bel2); have Xr := Lib.hid hBr; clear bel2 hBr hbr)
    | (with_reducible refine flt_load (o := ⟨some 9, _, _, _, _, _⟩) flt rfl _ rfl rfl Xf.out ?_))
  refine (CK.out _).mono ?_
  rintro e w3 ⟨rfl, bel3⟩
  have Xf := Lib.hid (Xf.out.next bel3)
  have Xr := Lib.hid (Xr.out.next bel3)
  have BB := Lib.hid (bel_next BB.out bel3)
  clear bel3
  go_wp2_with (first
    | (with_reducible refine flt_loadP (o := ⟨some 19, _, _, _, _, _⟩) flt rfl _ rfl rfl Xf.out ?_))
  obtain ⟨W, rfl⟩ : ∃ W, W = w3 := ⟨_, rfl⟩
  go_loopw [20] (fun i wr => ∃ k : Nat, k ≤ 16 ∧ i = .int .i64 k ∧ FB wr bf 24 sh (lrK ts ps x k) ps ∧ FB wr br 24 0 z16 z16 ∧ Below w.heap.size w wr) (fun i _ => 16 - (intOf i).toNat)
  case atStart => exact ⟨0, by omega, rfl, by rw [lrK_0 hF.1]; exact Xf.out, Xr.out, BB.out⟩
  case round =>
    obtain ⟨k, hk, rfl, hf, hr, hb⟩ := hrel
    by_cases hlt : k < 16
    · have ct := hf.ct hlt
      have cf := hf.free (1 + k)
      rw [lrK_getD _ _ _ _ hlt, if_neg (by omega)] at ct
      have b1 := getD_i32 HT.out k
      have b2 := getD_i32 HP.out k
      have HN := Lib.hid (lrK_succ ts ps x hlt)
      have HL := Lib.hid (show lrT ts ps x k = wrap32 (ts.getD k 0 + stp k * (sgn (ps.getD k 0) * sgn x)) from rfl)
      have Xf := Lib.hid hf
      have Xr := Lib.hid hr
      have BB := Lib.hid hb
      have ST := Lib.hid (fun W => (step_any k W).mono (R' := fun e w' => e = .returned (.int .i32 (stp k)) ∧ w' = W) fun _ _ h => ⟨h.1, h.2.symm⟩)
      generalize hT : ts.getD k 0 = t at *
      generalize hP : ps.getD k 0 = p at *
      have HV := Lib.hid hP
      have HT0 := Lib.hid hT
      have hkz : (k : Int) < 16 := by omega
      clear hT hP hf hr hb
      by_cases p0 : p = 0
      · subst p0
        have HE := Lib.hid (show lrK ts ps x k = lrK ts ps x (k + 1) by
          rw [← HN.out, HL.out, show sgn 0 = 0 from rfl, Int.zero_mul, Int.mul_zero, Int.add_zero, IntWalk.wrap32_in _ b1]
          have := set_getD (lrK ts ps x k) k
          rw [lrK_getD _ _ _ _ hlt, if_neg (by omega), HT0.out] at this
          exact this.symm)
        go_wp2_with (first
          | (with_reducible refine arr_idx (o := ⟨some 23, _, _, _, _, _⟩) flt rfl _ _ rfl rfl rfl hl.out hlt HV.out ?_))
        have XF := Xf.out
        rw [HE.out] at XF
        go_roundw
        case rel => exact ⟨k + 1, by omega, by go_num, XF, Xr.out, BB.out⟩
        case measure => simp [intOf]; omega
      · have q0 : (p == 0) = false := by simp [p0]
        by_cases e : (p < 0) = (x < 0)
        · have qe : (decide (p < 0) == decide (x < 0)) = true := by simp [e]
          have HS := Lib.hid (show wrap32 (t + stp k) = lrT ts ps x k by rw [HL.out, sgn_same p0 hx e, Int.mul_one])
          clear e
          go_wp2_with (first
            | (with_reducible refine arr_idx (o := ⟨some 23, _, _, _, _, _⟩) flt rfl _ _ rfl rfl rfl hl.out hlt HV.out ?_))
          obtain ⟨wd, hwd⟩ : ∃ wd : World, wd = { wr with drawn := wr.drawn + 1 } := ⟨_, rfl⟩
          have ctd : wd.cell? ⟨bf, 1 + k, none⟩ = some (.int .i32 t) := by rw [hwd]; exact ct
          have Xf : Hid (FB wd bf 24 sh (lrK ts ps x k) ps) := by rw [hwd]; exact Xf
          have Xr : Hid (FB wd br 24 0 z16 z16) := by rw [hwd]; exact Xr
          have BB : Hid (Below w.heap.size w wd) := by rw [hwd]; exact BB.out.drew
          refine wp_region_still_tail 9 (by kernel_rfl) (by kernel_rfl) ?_
          simp only [List.take_succ_cons, List.take_zero, List.drop_succ_cons, List.drop_zero]
          rw [show ({ wr with drawn := wr.drawn + 1 } : World) = wd from hwd.symm]
          clear hwd ct
          still_step
          still_step
          still_step
          still_step
          still_step
          still_call (ST.out wd)
          still_step
          still_step
          still_step
          refine wpStill_nil ?_
          go_wp2_with (first
            | ((with_reducible refine flt_setT flt rfl (.tmp 50) (.tmp 48) rfl (k := k) (rfl) rfl rfl Xf.out (hlt) ?_); intro w1 hB1 onl1; have Xr := Lib.hid (Xr.out.only (by omega) onl1); have BB := Lib.hid (onl1.bel of BB.out); have Xf := Lib.hid hB1; clear onl1 hB1))
          have XF := Xf.out
          rw [IntWalk.i32_left, HS.out, HN.out] at XF
          go_roundw
          case rel => exact ⟨k + 1, by omega, by go_num, XF, Xr.out, BB.out⟩
          case measure => simp [intOf]; omega
        · have qe : (decide (p < 0) == decide (x < 0)) = false := by simpa using e
          have HS := Lib.hid (show wrap32 (t - stp k) = lrT ts ps x k by rw [HL.out, sgn_other p0 hx e, Int.mul_neg, Int.mul_one]; rfl)
          clear e
          go_wp2_with (first
            | (with_reducible refine arr_idx (o := ⟨some 23, _, _, _, _, _⟩) flt rfl _ _ rfl rfl rfl hl.out hlt HV.out ?_))
          obtain ⟨wd, hwd⟩ : ∃ wd : World, wd = { wr with drawn := wr.drawn + 1 } := ⟨_, rfl⟩
          have ctd : wd.cell? ⟨bf, 1 + k, none⟩ = some (.int .i32 t) := by rw [hwd]; exact ct
          have Xf : Hid (FB wd bf 24 sh (lrK ts ps x k) ps) := by rw [hwd]; exact Xf
          have Xr : Hid (FB wd br 24 0 z16 z16) := by rw [hwd]; exact Xr
          have BB : Hid (Below w.heap.size w wd) := by rw [hwd]; exact BB.out.drew
          refine wp_region_still_tail 9 (by kernel_rfl) (by kernel_rfl) ?_
          simp only [List.take_succ_cons, List.take_zero, List.drop_succ_cons, List.drop_zero]
          rw [show ({ wr with drawn := wr.drawn + 1 } : World) = wd from hwd.symm]
          clear hwd ct
          still_step
          still_step
          still_step
          still_step
          still_step
          still_call (ST.out wd)
          still_step
          still_step
          still_step
          refine wpStill_nil ?_
          go_wp2_with (first
            | ((with_reducible refine flt_setT flt rfl (.tmp 32) (.tmp 30) rfl (k := k) (rfl) rfl rfl Xf.out (hlt) ?_); intro w1 hB1 onl1; have Xr := Lib.hid (Xr.out.only (by omega) onl1); have BB := Lib.hid (onl1.bel of BB.out); have Xf := Lib.hid hB1; clear onl1 hB1))
          have XF := Xf.out
          rw [IntWalk.i32_left, HS.out, HN.out] at XF
          go_roundw
          case rel => exact ⟨k + 1, by omega, by go_num, XF, Xr.out, BB.out⟩
          case measure => simp [intOf]; omega
    · obtain rfl : k = 16 := by omega
      rw [lrK_16] at hf
      have Xf := Lib.hid hf
      have Xr := Lib.hid hr
      have BB := Lib.hid hb
      have HG := Lib.hid (f16 (lrn_len ts ps x) hF.2)
      clear hf hr hb
      obtain ⟨w4, rfl⟩ : ∃ w4, w4 = wr := ⟨_, rfl⟩
      go_wp2_with (first
        | (with_reducible refine flt_load (o := ⟨some 52, _, _, _, _, _⟩) flt rfl _ rfl rfl Xf.out ?_)
        | ((with_reducible refine flt_store flt rfl (.tmp 4) (.tmp 52) rfl rfl rfl Xr.out HG.out ?_); intro w5 hB5 onl5; have Xf := Lib.hid (Xf.out.only (by omega) onl5); have BB := Lib.hid (onl5.bel or BB.out); have Xr := Lib.hid hB5; clear onl5 hB5))
      exact bodyPost_ret (flt_res1 flt rfl _ _ rfl Xr.out) rfl ⟨rfl, BB.out⟩
def lrR (sh : Int) (ts ps : List Int) (x : Int) : List Int := if ckF sh = 0 then lrn ts ps x else z16
def ifP (sh : Int) (ps : List Int) : List Int := if ckF sh = 0 then ps else z16
def ifS (sh : Int) : Int := if ckF sh = 0 then sh else 0
theorem learn_any (sh : Int) (ts ps : List Int) (x : Int) (w : World) (hF : F16 ts ps) (ht : I32 ts) (hp : I32 ps) :
    Calls Try.prog 13 #[.agg (fA sh ts ps), .int .i32 x] w fun e w' => e = .returned (.tuple #[.agg (fA (ifS sh) (lrR sh ts ps x) (ifP sh ps)), .int .i64 (ckF sh)]) ∧ Below w.heap.size w w' := by
  unfold lrR ifP ifS
  by_cases h : ckF sh = 0
  · rw [if_pos h, if_pos h, if_pos h, h]
    by_cases hx : x = 0
    · subst hx
      rw [lrn_zero hF.1 ht]
      exact learn_zero sh ts ps w hF h
    · exact learn_ok sh ts ps x w hF h hx ht hp
  · rw [if_neg h, if_neg h, if_neg h]
    exact learn_bad sh ts ps x w hF h

theorem fA_spl_shift {sh : Int} {ts ps : List Int} (hF : F16 ts ps) : splA (fA sh ts ps) 18 ((ps.take 15).map (Value.int .i32)) = fA sh ts (ps.getD 0 0 :: ps.take 15) := by
  obtain ⟨ht, hp⟩ := hF
  apply Array.ext'
  rw [splA_list _ _ _ (by rw [fA_size ht hp]; simp [hp])]
  match ps, hp with
  | p0 :: r, hp =>
    have hr : r.length = 15 := by simpa using hp
    simp only [fA, fL, List.length_map, List.length_take, List.length_cons, hr]
    rw [show (18 : Nat) = 17 + 1 from rfl, List.take_succ_cons, List.take_append, List.take_of_length_le (show (ts.map (Value.int .i32)).length ≤ 17 by simp [ht])]
    simp [ht, List.drop_of_length_le, hr]
theorem flt_shift {P : Program} {T A E I S : TypeId} (hT : FltT P T A E I) (hS : P.underlying S = some (.slice E)) {ops : Array Oper} {rest : List Oper} {o : Oper} {a : Act} {w : World} {Q : Exit → Act → World → Prop} {b : Nat} {sh : Int} {ts ps : List Int}
    (hg : o.guard = none) (x y : Operand) (ho : o.op = .call { callee := .builtin .copy, args := #[x, y], argTypes := #[S, S] })
    (hx : a.eval x = .slice (some ⟨b, 18, none⟩) 15 15) (hy : a.eval y = .slice (some ⟨b, 17, none⟩) 16 16) (hb : FB w b T sh ts ps)
    (h : ∀ w', FB w' b T sh ts (ps.getD 0 0 :: ps.take 15) → Only b w w' → wpList P ops Q rest (a.put o.dst (.int .i64 15)) w') : wpList P ops Q (o :: rest) a w := by
  refine wpList_plain hg fun K hK => ?_
  have hlen : ((ps.take 15).map (Value.int .i32)).length = 15 := by simp [hb.2.2]
  have hl := run_loadCells_list (P := P) w ⟨b, 17, none⟩ ((ps.take 15).map (Value.int .i32)) (fun j v hv => by
    rw [Addr.add_mid]
    have hj : j < 15 := by have := (List.getElem?_eq_some_iff.1 hv).1; omega
    rw [List.getElem?_map, List.getElem?_take_of_lt hj] at hv
    rw [hb.cp (show j < 16 by omega), ← hv, List.getD_eq_getElem?_getD, List.getElem?_eq_getElem (by rw [hb.2.2]; omega)]
    rfl)
  rw [hlen] at hl
  have hs := run_storeCells_cells (P := P) b 18 ((ps.take 15).map (Value.int .i32)) 0 w (fun j hj => by
      rw [hlen] at hj
      have := hb.cp (show j + 1 < 16 by omega)
      rw [show 17 + (j + 1) = 18 + 0 + j by omega] at this
      rw [this]; rfl) (fun j hj => hb.free _) (ints_oneCell' .i32 _)
  simp only [Nat.add_zero] at hs
  have hblk := Blk.sets ((ps.take 15).map (Value.int .i32)) 18 w _ hb.1
  rw [fA_spl_shift hb.2] at hblk
  have sz := sizeOf_run hT.esize w
  generalize (ps.take 15).map (Value.int .i32) = l at *
  unfold Oper.wp execOp
  have e : (Builtin.copy_ #[S, S] o.type #[.slice (some ⟨b, 18, none⟩) 15 15, .slice (some ⟨b, 17, none⟩) 16 16]).run P w = .ok (.int .i64 15) (w.setCells b 18 l) := by
    simp [Builtin.copy_, run_underlying hS, Builtin.lenOf, Builtin.firstCells, sz, hl, hs, goInt, Sem.run_bind]
  simp only [ho, resolve, invoke, builtin, Sem.run_bind, Sem.run_pure, Result.andThen_ok, List.map_toArray, List.map_cons, List.map_nil, hx, hy, e]
  exact hK _ _ (h _ ⟨hblk, hb.2.1, by simp [hb.2.2]⟩ (Only.sets b _ _ _))

set_option maxHeartbeats 1000000 in
theorem push_bad (sh : Int) (ts ps : List Int) (x : Int) (w : World) (hF : F16 ts ps) (h : ckF sh ≠ 0) :
    Calls Try.prog 15 #[.agg (fA sh ts ps), .int .i32 x] w fun e w' => e = .returned (.tuple #[.agg (fA 0 z16 z16), .int .i64 (ckF sh)]) ∧ Below w.heap.size w w' := by
  have BB := Lib.hid (bel_self w)
  have CK := Lib.hid (fun W => tcheck_any sh ts ps W hF)
  have hq : (ckF sh != 0) = true := by simp [h]
  generalize ckF sh = ce at *
  clear h
  go_enter Try.func15, Try.ntmps15
  go_wp2_with (first
    | ((with_reducible refine flt_box (o := ⟨some 2, _, _, _, _, _⟩) flt rfl _ rfl rfl hF ?_); intro w1 bf hbf hBf bel1; have of := Nat.le_trans BB.out.size hbf; have BB := Lib.hid (bel_next BB.out bel1); have Xf := Lib.hid hBf; clear bel1 hBf hbf)
    | ((with_reducible refine flt_alloc (o := ⟨some 4, _, _, _, _, _⟩) flt rfl rfl ?_); intro w2 br hbr hBr bel2; have q_f_r : bf < br := Nat.lt_of_lt_of_le Xf.out.lt hbr; have or := Nat.le_trans BB.out.size hbr; have Xf := Lib.hid (Xf.out.next bel2); have BB := Lib.hid (bel_next BB.out bel2); have Xr := Lib.hid hBr; clear bel2 hBr hbr)
    | (with_reducible refine flt_load (o := ⟨some 7, _, _, _, _, _⟩) flt rfl _ rfl rfl Xf.out ?_))
  refine (CK.out _).mono ?_
  rintro e w3 ⟨rfl, bel3⟩
  have Xf := Lib.hid (Xf.out.next bel3)
  have Xr := Lib.hid (Xr.out.next bel3)
  have BB := Lib.hid (bel_next BB.out bel3)
  clear bel3
  go_wp2_with (first
    | (with_reducible refine flt_bld0 (o := ⟨some 11, _, _, _, _, _⟩) flt fltI rfl rfl ?_)
    | ((with_reducible refine flt_store flt rfl (.tmp 4) (.tmp 11) rfl rfl rfl Xr.out f16z ?_); intro w4 hB4 onl4; have Xf := Lib.hid (Xf.out.only (by omega) onl4); have BB := Lib.hid (onl4.bel or BB.out); have Xr := Lib.hid hB4; clear onl4 hB4))
  exact bodyPost_ret (flt_res1 flt rfl _ _ rfl Xr.out) rfl ⟨rfl, BB.out⟩
theorem psh_set (ps : List Int) (x : Int) : (ps.getD 0 0 :: ps.take 15).set 0 x = psh ps x := rfl
set_option maxHeartbeats 1000000 in
theorem push_ok (sh : Int) (ts ps : List Int) (x : Int) (w : World) (hF : F16 ts ps) (h : ckF sh = 0) :
    Calls Try.prog 15 #[.agg (fA sh ts ps), .int .i32 x] w fun e w' => e = .returned (.tuple #[.agg (fA sh ts (psh ps x)), .int .i64 0]) ∧ Below w.heap.size w w' := by
  have BB := Lib.hid (bel_self w)
  have CK := Lib.hid (fun W => tcheck_any sh ts ps W hF)
  rw [h] at CK
  have HG := Lib.hid (f16 hF.1 (psh_len hF.2 x))
  have HN := Lib.hid (psh_set ps x)
  clear h
  go_enter Try.func15, Try.ntmps15
  go_wp2_with (first
    | ((with_reducible refine flt_box (o := ⟨some 2, _, _, _, _, _⟩) flt rfl _ rfl rfl hF ?_); intro w1 bf hbf hBf bel1; have of := Nat.le_trans BB.out.size hbf; have BB := Lib.hid (bel_next BB.out bel1); have Xf := Lib.hid hBf; clear bel1 hBf hbf)
    | ((with_reducible refine flt_alloc (o := ⟨some 4, _, _, _, _, _⟩) flt rfl rfl ?_); intro w2 br hbr hBr bel2; have q_f_r : bf < br := Nat.lt_of_lt_of_le Xf.out.lt hbr; have or := Nat.le_trans BB.out.size hbr; have Xf := Lib.hid (Xf.out.next bel2); have BB := Lib.hid (bel_next BB.out bel2); have Xr := Lib.hid hBr; clear bel2 hBr hbr)
    | (with_reducible refine flt_load (o := ⟨some 7, _, _, _, _, _⟩) flt rfl _ rfl rfl Xf.out ?_))
  refine (CK.out _).mono ?_
  rintro e w3 ⟨rfl, bel3⟩
  have Xf := Lib.hid (Xf.out.next bel3)
  have Xr := Lib.hid (Xr.out.next bel3)
  have BB := Lib.hid (bel_next BB.out bel3)
  clear bel3
  go_wp2_with fail
  obtain ⟨wd, hwd⟩ : ∃ wd : World, wd = { w3 with drawn := w3.drawn + 1 } := ⟨_, rfl⟩
  have Xf : Hid (FB wd bf 24 sh ts ps) := by rw [hwd]; exact Xf
  have Xr : Hid (FB wd br 24 0 z16 z16) := by rw [hwd]; exact Xr
  have BB : Hid (Below w.heap.size w wd) := by rw [hwd]; exact BB.out.drew
  refine wp_region_still_tail 4 (by kernel_rfl) (by kernel_rfl) ?_
  simp only [List.take_succ_cons, List.take_zero, List.drop_succ_cons, List.drop_zero]
  rw [show ({ w3 with drawn := w3.drawn + 1 } : World) = wd from hwd.symm]
  clear hwd
  still_step
  still_step
  still_step
  still_step
  refine wpStill_nil ?_
  refine flt_shift flt Try.underlying45 rfl _ _ rfl rfl rfl Xf.out ?_
  intro w4 hB4 onl4
  have Xr := Lib.hid (Xr.out.only (by omega) onl4)
  have BB := Lib.hid (onl4.bel of BB.out)
  have Xf := Lib.hid hB4
  clear onl4 hB4
  go_wp2_with (first
    | ((with_reducible refine flt_setP flt rfl (.tmp 20) (.tmp 18) rfl (k := 0) (rfl) rfl rfl Xf.out ((by decide)) ?_); intro w5 hB5 onl5; have Xr := Lib.hid (Xr.out.only (by omega) onl5); have BB := Lib.hid (onl5.bel of BB.out); have Xf := Lib.hid hB5; clear onl5 hB5)
    | (with_reducible refine flt_load (o := ⟨some 21, _, _, _, _, _⟩) flt rfl _ rfl rfl Xf.out ?_)
    | ((with_reducible refine flt_store flt rfl (.tmp 4) (.tmp 21) rfl rfl rfl Xr.out HG.out ?_); intro w6 hB6 onl6; have Xf := Lib.hid (Xf.out.only (by omega) onl6); have BB := Lib.hid (onl6.bel or BB.out); have Xr := Lib.hid hB6; clear onl6 hB6))
  exact bodyPost_ret (flt_res1 flt rfl _ _ rfl Xr.out) rfl ⟨rfl, BB.out⟩
def puR (sh : Int) (ps : List Int) (x : Int) : List Int := if ckF sh = 0 then psh ps x else z16
theorem push_any (sh : Int) (ts ps : List Int) (x : Int) (w : World) (hF : F16 ts ps) :
    Calls Try.prog 15 #[.agg (fA sh ts ps), .int .i32 x] w fun e w' => e = .returned (.tuple #[.agg (fA (ifS sh) (ifP sh ts) (puR sh ps x)), .int .i64 (ckF sh)]) ∧ Below w.heap.size w w' := by
  unfold puR ifP ifS
  by_cases h : ckF sh = 0
  · rw [if_pos h, if_pos h, if_pos h, h]
    exact push_ok sh ts ps x w hF h
  · rw [if_neg h, if_neg h, if_neg h]
    exact push_bad sh ts ps x w hF h
end Go.Proofs.Ytnhdhjcpbonfjaa

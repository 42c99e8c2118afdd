/-
  What New, Check, Guess of package taps compute. Conditions: numbers within their types.
-/
import Derived.Test.YtnhdhjcpbonfjaaTapsPlain
import Derived.Test.YtnhdhjcpbonfjaaFlt2
import Derived.Test.YtnhdhjcpbonfjaaKit3
namespace Go.Proofs.Ytnhdhjcpbonfjaa
open Go.RowKit
set_option linter.unusedVariables false

theorem flt : FltT Try.prog 24 22 21 3 where
  flds := ⟨_, _, _, Try.underlying24, by decide, by decide, by decide, rfl, rfl, rfl, rfl, rfl, rfl⟩
  held := by kernel_rfl
  arr := Try.underlying22
  elt := Try.underlying21
  int := Try.underlying3
  size := by kernel_rfl
  asize := by kernel_rfl
  esize := by kernel_rfl
  zero := by kernel_rfl
  azero := by kernel_rfl
theorem fltI : (Try.prog.info? 3).map (·.size) = some 1 := by kernel_rfl

set_option maxHeartbeats 400000 in
theorem tcheck_any (sh : Int) (ts ps : List Int) (w : World) (hF : F16 ts ps) :
    Calls Try.prog 17 #[.agg (fA sh ts ps)] w fun e w' => e = .returned (.int .i64 (ckF sh)) ∧ Below w.heap.size w w' := by
  have BB := Lib.hid (bel_self w)
  by_cases h9 : sh = 9
  · subst h9
    go_enter Try.func17, Try.ntmps17
    go_wp2_with ((with_reducible refine blk_box rfl 24 _ rfl _ rfl ?_); intro w1 b hb hB bel; have c0 := (hB.cell 0).trans (fA_0 _ _ _); have BB := Lib.hid bel; clear bel hB)
    go_ret
    exact ⟨rfl, BB.out⟩
  · have q9 : (sh != 9) = true := by simp [h9]
    by_cases h10 : sh = 10
    · subst h10
      go_enter Try.func17, Try.ntmps17
      go_wp2_with ((with_reducible refine blk_box rfl 24 _ rfl _ rfl ?_); intro w1 b hb hB bel; have c0 := (hB.cell 0).trans (fA_0 _ _ _); have BB := Lib.hid bel; clear bel hB)
      go_ret
      exact ⟨rfl, BB.out⟩
    · have q10 : (sh != 10) = true := by simp [h10]
      have E := Lib.hid (show ckF sh = 8 from if_neg (by omega))
      clear h9 h10
      go_enter Try.func17, Try.ntmps17
      go_wp2_with ((with_reducible refine blk_box rfl 24 _ rfl _ rfl ?_); intro w1 b hb hB bel; have c0 := (hB.cell 0).trans (fA_0 _ _ _); have BB := Lib.hid bel; clear bel hB)
      go_ret
      exact ⟨ret_int E.out.symm, BB.out⟩

theorem nwS_of {b : Int} (h : b ≠ 16) : nwS b = 10 := if_neg h
set_option maxHeartbeats 1000000 in
theorem new_ten (b : Int) (ts : List Int) (w : World) (hF : ts.length = 16) (hb : b = 8 ∨ b = 24) :
    Calls Try.prog 9 #[.int .i64 b, .agg (aA ts)] w fun e w' => e = .returned (.tuple #[.agg (fA 10 ts z16), .int .i64 0]) ∧ Below w.heap.size w w' := by
  have BB := Lib.hid (bel_self w)
  rcases hb with rfl | rfl
  all_goals
    go_enter Try.func9, Try.ntmps9
    go_wp2_with (first
      | ((with_reducible refine arr_box (o := ⟨some 3, _, _, _, _, _⟩) flt rfl _ rfl rfl hF ?_); intro w1 bt hbt hBt bel1; have ot := Nat.le_trans BB.out.size hbt; have BB := Lib.hid (bel_next BB.out bel1); have Xt := Lib.hid hBt; clear bel1 hBt hbt)
      | ((with_reducible refine flt_alloc (o := ⟨some 4, _, _, _, _, _⟩) flt rfl rfl ?_); intro w2 br hbr hBr bel2; have q_t_r : bt < br := Nat.lt_of_lt_of_le Xt.out.lt hbr; have or := Nat.le_trans BB.out.size hbr; have Xt := Lib.hid (Xt.out.next bel2); have BB := Lib.hid (bel_next BB.out bel2); have Xr := Lib.hid hBr; clear bel2 hBr hbr)
      | (with_reducible refine arr_load (o := ⟨some 7, _, _, _, _, _⟩) flt rfl _ rfl rfl Xt.out ?_)
      | (with_reducible refine flt_bld2 (o := ⟨some 8, _, _, _, _, _⟩) flt fltI rfl _ _ rfl rfl rfl hF ?_)
      | ((with_reducible refine flt_alloc (o := ⟨some 6, _, _, _, _, _⟩) flt rfl rfl ?_); intro w3 bf hbf hBf bel3; have q_t_f : bt < bf := Nat.lt_of_lt_of_le Xt.out.lt hbf; have q_r_f : br < bf := Nat.lt_of_lt_of_le Xr.out.lt hbf; have of := Nat.le_trans BB.out.size hbf; have Xt := Lib.hid (Xt.out.next bel3); have Xr := Lib.hid (Xr.out.next bel3); have BB := Lib.hid (bel_next BB.out bel3); have Xf := Lib.hid hBf; clear bel3 hBf hbf)
      | ((with_reducible refine flt_store flt rfl (.tmp 6) (.tmp 8) rfl rfl rfl Xf.out (f16 hF z16_len) ?_); intro w4 hB4 onl4; have Xt := Lib.hid (Xt.out.only (by omega) onl4); have Xr := Lib.hid (Xr.out.only (by omega) onl4); have BB := Lib.hid (onl4.bel of BB.out); have Xf := Lib.hid hB4; clear onl4 hB4)
      | (with_reducible refine flt_load (o := ⟨some 17, _, _, _, _, _⟩) flt rfl _ rfl rfl Xf.out ?_)
      | ((with_reducible refine flt_store flt rfl (.tmp 4) (.tmp 17) rfl rfl rfl Xr.out (f16 hF z16_len) ?_); intro w5 hB5 onl5; have Xt := Lib.hid (Xt.out.only (by omega) onl5); have Xf := Lib.hid (Xf.out.only (by omega) onl5); have BB := Lib.hid (onl5.bel or BB.out); have Xr := Lib.hid hB5; clear onl5 hB5))
    exact bodyPost_ret (flt_res1 flt rfl _ _ rfl Xr.out) rfl ⟨rfl, BB.out⟩
set_option maxHeartbeats 1000000 in
theorem new_16 (ts : List Int) (w : World) (hF : ts.length = 16) :
    Calls Try.prog 9 #[.int .i64 16, .agg (aA ts)] w fun e w' => e = .returned (.tuple #[.agg (fA 9 ts z16), .int .i64 0]) ∧ Below w.heap.size w w' := by
  have BB := Lib.hid (bel_self w)
  go_enter Try.func9, Try.ntmps9
  go_wp2_with (first
    | ((with_reducible refine arr_box (o := ⟨some 3, _, _, _, _, _⟩) flt rfl _ rfl rfl hF ?_); intro w1 bt hbt hBt bel1; have ot := Nat.le_trans BB.out.size hbt; have BB := Lib.hid (bel_next BB.out bel1); have Xt := Lib.hid hBt; clear bel1 hBt hbt)
    | ((with_reducible refine flt_alloc (o := ⟨some 4, _, _, _, _, _⟩) flt rfl rfl ?_); intro w2 br hbr hBr bel2; have q_t_r : bt < br := Nat.lt_of_lt_of_le Xt.out.lt hbr; have or := Nat.le_trans BB.out.size hbr; have Xt := Lib.hid (Xt.out.next bel2); have BB := Lib.hid (bel_next BB.out bel2); have Xr := Lib.hid hBr; clear bel2 hBr hbr)
    | (with_reducible refine arr_load (o := ⟨some 7, _, _, _, _, _⟩) flt rfl _ rfl rfl Xt.out ?_)
    | (with_reducible refine flt_bld2 (o := ⟨some 8, _, _, _, _, _⟩) flt fltI rfl _ _ rfl rfl rfl hF ?_)
    | ((with_reducible refine flt_alloc (o := ⟨some 6, _, _, _, _, _⟩) flt rfl rfl ?_); intro w3 bf hbf hBf bel3; have q_t_f : bt < bf := Nat.lt_of_lt_of_le Xt.out.lt hbf; have q_r_f : br < bf := Nat.lt_of_lt_of_le Xr.out.lt hbf; have of := Nat.le_trans BB.out.size hbf; have Xt := Lib.hid (Xt.out.next bel3); have Xr := Lib.hid (Xr.out.next bel3); have BB := Lib.hid (bel_next BB.out bel3); have Xf := Lib.hid hBf; clear bel3 hBf hbf)
    | ((with_reducible refine flt_store flt rfl (.tmp 6) (.tmp 8) rfl rfl rfl Xf.out (f16 hF z16_len) ?_); intro w4 hB4 onl4; have Xt := Lib.hid (Xt.out.only (by omega) onl4); have Xr := Lib.hid (Xr.out.only (by omega) onl4); have BB := Lib.hid (onl4.bel of BB.out); have Xf := Lib.hid hB4; clear onl4 hB4)
    | ((with_reducible refine flt_set0 flt fltI rfl (.tmp 16) (.const (.int .i64 9)) rfl rfl rfl Xf.out ?_); intro w5 hB5 onl5; have Xt := Lib.hid (Xt.out.only (by omega) onl5); have Xr := Lib.hid (Xr.out.only (by omega) onl5); have BB := Lib.hid (onl5.bel of BB.out); have Xf := Lib.hid hB5; clear onl5 hB5)
    | (with_reducible refine flt_load (o := ⟨some 17, _, _, _, _, _⟩) flt rfl _ rfl rfl Xf.out ?_)
    | ((with_reducible refine flt_store flt rfl (.tmp 4) (.tmp 17) rfl rfl rfl Xr.out (f16 hF z16_len) ?_); intro w6 hB6 onl6; have Xt := Lib.hid (Xt.out.only (by omega) onl6); have Xf := Lib.hid (Xf.out.only (by omega) onl6); have BB := Lib.hid (onl6.bel or BB.out); have Xr := Lib.hid hB6; clear onl6 hB6))
  exact bodyPost_ret (flt_res1 flt rfl _ _ rfl Xr.out) rfl ⟨rfl, BB.out⟩
set_option maxHeartbeats 1000000 in
theorem new_bad (b : Int) (ts : List Int) (w : World) (hF : ts.length = 16) (h1 : b ≠ 8) (h2 : b ≠ 16) (h3 : b ≠ 24) :
    Calls Try.prog 9 #[.int .i64 b, .agg (aA ts)] w fun e w' => e = .returned (.tuple #[.agg (fA 0 z16 z16), .int .i64 2]) ∧ Below w.heap.size w w' := by
  have BB := Lib.hid (bel_self w)
  have q1 : (b == 8) = false := by simp [h1]
  have q2 : (b == 16) = false := by simp [h2]
  have q3 : (b == 24) = false := by simp [h3]
  clear h1 h2 h3
  go_enter Try.func9, Try.ntmps9
  go_wp2_with (first
    | ((with_reducible refine arr_box (o := ⟨some 3, _, _, _, _, _⟩) flt rfl _ rfl rfl hF ?_); intro w1 bt hbt hBt bel1; have ot := Nat.le_trans BB.out.size hbt; have BB := Lib.hid (bel_next BB.out bel1); have Xt := Lib.hid hBt; clear bel1 hBt hbt)
    | ((with_reducible refine flt_alloc (o := ⟨some 4, _, _, _, _, _⟩) flt rfl rfl ?_); intro w2 br hbr hBr bel2; have q_t_r : bt < br := Nat.lt_of_lt_of_le Xt.out.lt hbr; have or := Nat.le_trans BB.out.size hbr; have Xt := Lib.hid (Xt.out.next bel2); have BB := Lib.hid (bel_next BB.out bel2); have Xr := Lib.hid hBr; clear bel2 hBr hbr)
    | (with_reducible refine arr_load (o := ⟨some 7, _, _, _, _, _⟩) flt rfl _ rfl rfl Xt.out ?_)
    | (with_reducible refine flt_bld2 (o := ⟨some 8, _, _, _, _, _⟩) flt fltI rfl _ _ rfl rfl rfl hF ?_)
    | ((with_reducible refine flt_alloc (o := ⟨some 6, _, _, _, _, _⟩) flt rfl rfl ?_); intro w3 bf hbf hBf bel3; have q_t_f : bt < bf := Nat.lt_of_lt_of_le Xt.out.lt hbf; have q_r_f : br < bf := Nat.lt_of_lt_of_le Xr.out.lt hbf; have of := Nat.le_trans BB.out.size hbf; have Xt := Lib.hid (Xt.out.next bel3); have Xr := Lib.hid (Xr.out.next bel3); have BB := Lib.hid (bel_next BB.out bel3); have Xf := Lib.hid hBf; clear bel3 hBf hbf)
    | ((with_reducible refine flt_store flt rfl (.tmp 6) (.tmp 8) rfl rfl rfl Xf.out (f16 hF z16_len) ?_); intro w4 hB4 onl4; have Xt := Lib.hid (Xt.out.only (by omega) onl4); have Xr := Lib.hid (Xr.out.only (by omega) onl4); have BB := Lib.hid (onl4.bel of BB.out); have Xf := Lib.hid hB4; clear onl4 hB4)
    | (with_reducible refine flt_bld0 (o := ⟨some 10, _, _, _, _, _⟩) flt fltI rfl rfl ?_)
    | ((with_reducible refine flt_store flt rfl (.tmp 4) (.tmp 10) rfl rfl rfl Xr.out (f16 z16_len z16_len) ?_); intro w5 hB5 onl5; have Xt := Lib.hid (Xt.out.only (by omega) onl5); have Xf := Lib.hid (Xf.out.only (by omega) onl5); have BB := Lib.hid (onl5.bel or BB.out); have Xr := Lib.hid hB5; clear onl5 hB5))
  exact bodyPost_ret (flt_res1 flt rfl _ _ rfl Xr.out) rfl ⟨rfl, BB.out⟩
theorem nwE_ok {b : Int} (h : nwE b = 0) : b = 8 ∨ b = 16 ∨ b = 24 := by
  unfold nwE at h; split at h
  · assumption
  · omega
theorem nwE_bad {b : Int} (h : nwE b ≠ 0) : nwE b = 2 ∧ b ≠ 8 ∧ b ≠ 16 ∧ b ≠ 24 := by
  unfold nwE at h ⊢; split at h
  · omega
  · rename_i h'
    rw [if_neg h']; omega
def nwF (b : Int) (ts : List Int) : Array Value := if nwE b = 0 then fA (nwS b) ts z16 else fA 0 z16 z16
theorem tnew_any (b : Int) (ts : List Int) (w : World) (hF : ts.length = 16) :
    Calls Try.prog 9 #[.int .i64 b, .agg (aA ts)] w fun e w' => e = .returned (.tuple #[.agg (nwF b ts), .int .i64 (nwE b)]) ∧ Below w.heap.size w w' := by
  unfold nwF
  by_cases h : nwE b = 0
  · rw [if_pos h, h]
    rcases nwE_ok h with rfl | rfl | rfl
    · exact new_ten 8 ts w hF (.inl rfl)
    · exact new_16 ts w hF
    · exact new_ten 24 ts w hF (.inr rfl)
  · rw [if_neg h]
    obtain ⟨e, h1, h2, h3⟩ := nwE_bad h
    rw [e]
    exact new_bad b ts w hF h1 h2 h3

set_option maxHeartbeats 1000000 in
theorem tguess_bad (sh : Int) (ts ps : List Int) (w : World) (hF : F16 ts ps) (h : ckF sh ≠ 0) :
    Calls Try.prog 11 #[.agg (fA sh ts ps)] w fun e w' => e = .returned (.tuple #[.int .i32 0, .int .i64 (ckF sh)]) ∧ Below w.heap.size w w' := by
  have BB := Lib.hid (bel_self w)
  have CK := Lib.hid (fun W => tcheck_any sh ts ps W hF)
  have hq : (ckF sh != 0) = true := by simp [h]
  generalize ckF sh = ce at *
  clear h
  go_enter Try.func11, Try.ntmps11
  go_wp2_with (first
    | ((with_reducible refine flt_box (o := ⟨some 1, _, _, _, _, _⟩) flt rfl _ rfl rfl hF ?_); intro w1 bf hbf hBf bel1; have of := Nat.le_trans BB.out.size hbf; have BB := Lib.hid (bel_next BB.out bel1); have Xf := Lib.hid hBf; clear bel1 hBf hbf)
    | (with_reducible refine flt_load (o := ⟨some 8, _, _, _, _, _⟩) flt rfl _ rfl rfl Xf.out ?_))
  refine (CK.out _).mono ?_
  rintro e w2 ⟨rfl, bel2⟩
  have Xf := Lib.hid (Xf.out.next bel2)
  have BB := Lib.hid (bel_next BB.out bel2)
  clear bel2
  go_wp2_with fail
  go_ret2
  exact ⟨rfl, BB.out⟩
set_option maxHeartbeats 1000000 in
theorem tguess_9 (ts ps : List Int) (w : World) (hF : F16 ts ps) (ht : I32 ts) (hp : I32 ps) :
    Calls Try.prog 11 #[.agg (fA 9 ts ps)] w fun e w' => e = .returned (.tuple #[.int .i32 (gsV 9 ts ps), .int .i64 0]) ∧ Below w.heap.size w w' := by
  have BB := Lib.hid (bel_self w)
  have CK := Lib.hid (fun W => tcheck_any 9 ts ps W hF)
  rw [show ckF 9 = 0 from rfl] at CK
  have HT := Lib.hid ht
  have HP := Lib.hid hp
  have hl := Lib.hid hF.1
  clear ht hp
  go_enter Try.func11, Try.ntmps11
  go_wp2_with (first
    | ((with_reducible refine flt_box (o := ⟨some 1, _, _, _, _, _⟩) flt rfl _ rfl rfl hF ?_); intro w1 bf hbf hBf bel1; have of := Nat.le_trans BB.out.size hbf; have BB := Lib.hid (bel_next BB.out bel1); have Xf := Lib.hid hBf; clear bel1 hBf hbf)
    | (with_reducible refine flt_load (o := ⟨some 8, _, _, _, _, _⟩) flt rfl _ rfl rfl Xf.out ?_))
  refine (CK.out _).mono ?_
  rintro e w2 ⟨rfl, bel2⟩
  have Xf := Lib.hid (Xf.out.next bel2)
  have BB := Lib.hid (bel_next BB.out bel2)
  clear bel2
  have c0 := Xf.out.c0
  go_wp2_with (first
    | (with_reducible refine flt_loadT (o := ⟨some 18, _, _, _, _, _⟩) flt rfl _ rfl rfl Xf.out ?_))
  go_loop [5, 19] (fun s i => ∃ k : Nat, k ≤ 16 ∧ i = .int .i64 k ∧ s = .int .i32 (wrap32 (hlf 9 + dotTo ts ps k))) (fun _ i => 16 - (intOf i).toNat)
  case atStart => exact ⟨0, by omega, rfl, by simp [dotTo, hlf, wrap32]⟩
  case round =>
    obtain ⟨k, hk, rfl, rfl⟩ := hrel
    by_cases hlt : k < 16
    · have cp := Xf.out.cp hlt
      have b1 := getD_i32 HT.out k
      have b2 := getD_i32 HP.out k
      have HD := Lib.hid (show dotTo ts ps (k + 1) = dotTo ts ps k + ts.getD k 0 * ps.getD k 0 from rfl)
      generalize hT : ts.getD k 0 = t at *
      generalize ps.getD k 0 = p at *
      have HV := Lib.hid hT
      generalize dotTo ts ps k = dk at *
      have hkz : (k : Int) < 16 := by omega
      clear hT
      go_wp2_with (first
        | (with_reducible refine arr_idx (o := ⟨some 22, _, _, _, _, _⟩) flt rfl _ _ rfl rfl rfl hl.out hlt HV.out ?_))
      go_round
      case rel => exact ⟨k + 1, by omega, by go_num, by rw [HD.out, wrap32_add_r, wrap32_add_l, Int.add_assoc]⟩
      case measure => simp [intOf]; omega
    · obtain rfl : k = 16 := by omega
      have E := Lib.hid (show gsV 9 ts ps = wrap32 (hlf 9 + dotTo ts ps 16) / (2 * hlf 9) from rfl)
      generalize wrap32 (hlf 9 + dotTo ts ps 16) = z at *
      go_wp2_with fail
      go_ret2
      exact ⟨by rw [E.out]; rfl, BB.out⟩
set_option maxHeartbeats 1000000 in
theorem tguess_10 (ts ps : List Int) (w : World) (hF : F16 ts ps) (ht : I32 ts) (hp : I32 ps) :
    Calls Try.prog 11 #[.agg (fA 10 ts ps)] w fun e w' => e = .returned (.tuple #[.int .i32 (gsV 10 ts ps), .int .i64 0]) ∧ Below w.heap.size w w' := by
  have BB := Lib.hid (bel_self w)
  have CK := Lib.hid (fun W => tcheck_any 10 ts ps W hF)
  rw [show ckF 10 = 0 from rfl] at CK
  have HT := Lib.hid ht
  have HP := Lib.hid hp
  have hl := Lib.hid hF.1
  clear ht hp
  go_enter Try.func11, Try.ntmps11
  go_wp2_with (first
    | ((with_reducible refine flt_box (o := ⟨some 1, _, _, _, _, _⟩) flt rfl _ rfl rfl hF ?_); intro w1 bf hbf hBf bel1; have of := Nat.le_trans BB.out.size hbf; have BB := Lib.hid (bel_next BB.out bel1); have Xf := Lib.hid hBf; clear bel1 hBf hbf)
    | (with_reducible refine flt_load (o := ⟨some 8, _, _, _, _, _⟩) flt rfl _ rfl rfl Xf.out ?_))
  refine (CK.out _).mono ?_
  rintro e w2 ⟨rfl, bel2⟩
  have Xf := Lib.hid (Xf.out.next bel2)
  have BB := Lib.hid (bel_next BB.out bel2)
  clear bel2
  have c0 := Xf.out.c0
  go_wp2_with (first
    | (with_reducible refine flt_loadT (o := ⟨some 18, _, _, _, _, _⟩) flt rfl _ rfl rfl Xf.out ?_))
  go_loop [5, 19] (fun s i => ∃ k : Nat, k ≤ 16 ∧ i = .int .i64 k ∧ s = .int .i32 (wrap32 (hlf 10 + dotTo ts ps k))) (fun _ i => 16 - (intOf i).toNat)
  case atStart => exact ⟨0, by omega, rfl, by simp [dotTo, hlf, wrap32]⟩
  case round =>
    obtain ⟨k, hk, rfl, rfl⟩ := hrel
    by_cases hlt : k < 16
    · have cp := Xf.out.cp hlt
      have b1 := getD_i32 HT.out k
      have b2 := getD_i32 HP.out k
      have HD := Lib.hid (show dotTo ts ps (k + 1) = dotTo ts ps k + ts.getD k 0 * ps.getD k 0 from rfl)
      generalize hT : ts.getD k 0 = t at *
      generalize ps.getD k 0 = p at *
      have HV := Lib.hid hT
      generalize dotTo ts ps k = dk at *
      have hkz : (k : Int) < 16 := by omega
      clear hT
      go_wp2_with (first
        | (with_reducible refine arr_idx (o := ⟨some 22, _, _, _, _, _⟩) flt rfl _ _ rfl rfl rfl hl.out hlt HV.out ?_))
      go_round
      case rel => exact ⟨k + 1, by omega, by go_num, by rw [HD.out, wrap32_add_r, wrap32_add_l, Int.add_assoc]⟩
      case measure => simp [intOf]; omega
    · obtain rfl : k = 16 := by omega
      have E := Lib.hid (show gsV 10 ts ps = wrap32 (hlf 10 + dotTo ts ps 16) / (2 * hlf 10) from rfl)
      generalize wrap32 (hlf 10 + dotTo ts ps 16) = z at *
      go_wp2_with fail
      go_ret2
      exact ⟨by rw [E.out]; rfl, BB.out⟩
def gsR (sh : Int) (ts ps : List Int) : Int := if ckF sh = 0 then gsV sh ts ps else 0
theorem tguess_any (sh : Int) (ts ps : List Int) (w : World) (hF : F16 ts ps) (ht : I32 ts) (hp : I32 ps) :
    Calls Try.prog 11 #[.agg (fA sh ts ps)] w fun e w' => e = .returned (.tuple #[.int .i32 (gsR sh ts ps), .int .i64 (ckF sh)]) ∧ Below w.heap.size w w' := by
  unfold gsR
  by_cases h : ckF sh = 0
  · rw [if_pos h, h]
    rcases ckF_cases h with rfl | rfl
    · exact tguess_9 ts ps w hF ht hp
    · exact tguess_10 ts ps w hF ht hp
  · rw [if_neg h]
    exact tguess_bad sh ts ps w hF h
end Go.Proofs.Ytnhdhjcpbonfjaa

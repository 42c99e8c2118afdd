/-
  The walk of TapsSigns. Conditions: numbers within their types.
-/
import Derived.Test.YtnhdhjcpbonfjaaLaw14C
import Derived.Test.YtnhdhjcpbonfjaaTapsPlain2
namespace Go.Proofs.Ytnhdhjcpbonfjaa
open Go.RowKit
set_option linter.unusedVariables false

set_option maxRecDepth 100000 in
set_option maxHeartbeats 1000000 in
theorem signs_bad (sh : Int) (ts ps : List Int) (x y : Int) (w : World) (hF : F16 ts ps) (h : ckF sh ≠ 0) :
    Calls Try.prog 5 #[.agg (fA sh ts ps), .int .i32 x, .int .i32 y] w fun e w' => e = .returned (.bool true) ∧ Below w.heap.size w w' := by
  have BB := Lib.hid (bel_self w)
  have CK := Lib.hid (fun W => recheck_any sh ts ps W hF)
  have hq : (ckF sh != 0) = true := by simp [h]
  generalize ckF sh = ce at *
  clear h
  go_enter Try.func5, Try.ntmps5
  go_wp2_with (first
    | ((with_reducible refine flt_box (o := ⟨some 3, _, _, _, _, _⟩) flt rfl _ rfl rfl hF ?_); intro w1 bf hbf hBf bel1; have of := Nat.le_trans BB.out.size hbf; have BB := Lib.hid (bel_next BB.out bel1); have Xf := Lib.hid hBf; clear bel1 hBf hbf))
  refine (alive_any _).mono ?_
  rintro e w2 ⟨rfl, bel2⟩
  have Xf := Lib.hid (Xf.out.next bel2)
  have BB := Lib.hid (bel_next BB.out bel2)
  clear bel2
  go_wp2_with (first
    | (with_reducible refine flt_load (o := ⟨some 19, _, _, _, _, _⟩) flt rfl _ rfl rfl Xf.out ?_))
  refine (CK.out _).mono ?_
  rintro e w3 ⟨rfl, bel3⟩
  have Xf := Lib.hid (Xf.out.next bel3)
  have BB := Lib.hid (bel_next BB.out bel3)
  clear bel3
  go_wp2_with fail
  go_ret
  exact ⟨rfl, BB.out⟩

set_option maxRecDepth 100000 in
set_option maxHeartbeats 2000000 in
theorem signs_ok (sh : Int) (ts ps : List Int) (x y : Int) (w : World) (hF : F16 ts ps) (h : ckF sh = 0) (ht : I32 ts) (hp : I32 ps) (hx0 : -2147483648 ≤ x) (hx1 : x ≤ 2147483647) (hy0 : -2147483648 ≤ y) (hy1 : y ≤ 2147483647) :
    Calls Try.prog 5 #[.agg (fA sh ts ps), .int .i32 x, .int .i32 y] w fun e w' => e = .returned (.bool true) ∧ Below w.heap.size w w' := by
  have BB := Lib.hid (bel_self w)
  have CK := Lib.hid (fun W => recheck_any sh ts ps W hF)
  have CL := Lib.hid (fun W => learn_any sh ts ps x W hF ht hp)
  rw [show lrR sh ts ps x = lrn ts ps x from if_pos h, show ifP sh ps = ps from if_pos h, show ifS sh = sh from if_pos h, h] at CL
  rw [h] at CK
  have hL : F16 (lrn ts ps x) ps := f16 (lrn_len ts ps x) hF.2
  have hLi := lrn_i32 ts ps x
  have HG := Lib.hid hL
  have CM := Lib.hid (fun W => learn_any sh ts ps y W hF ht hp)
  rw [show lrR sh ts ps y = lrn ts ps y from if_pos h, show ifP sh ps = ps from if_pos h, show ifS sh = sh from if_pos h, h] at CM
  have CN := Lib.hid (fun W => learn_any sh (lrn ts ps x) ps y W hL hLi hp)
  rw [show lrR sh (lrn ts ps x) ps y = lrn (lrn ts ps x) ps y from if_pos h, show ifP sh ps = ps from if_pos h, show ifS sh = sh from if_pos h, h] at CN
  have S1 := Lib.hid (fun W => resum_any sh ts ps W hF ht hp)
  have S2 := Lib.hid (fun W => resum_any sh (lrn ts ps x) ps W hL hLi hp)
  have HS := Lib.hid (sum_lrn ts ps x)
  have HPL := Lib.hid hF.2
  have HT := Lib.hid ht
  have HP := Lib.hid hp
  have HM := Lib.hid (f16 (lrn_len ts ps y) hF.2)
  have HN := Lib.hid (f16 (lrn_len (lrn ts ps x) ps y) hF.2)
  have HZ := Lib.hid (lrn_zero (ps := ps) hF.1 ht)
  have HY := Lib.hid (fun hh => lrn_same (ts := ts) (ps := ps) (x := x) (y := y) hh)
  have HB := Lib.hid (fun hh => lrn_back (ts := ts) (ps := ps) (x := x) (y := y) hF.1 ht hh)
  have HL0 := Lib.hid (show x = 0 → lrn ts ps x = ts from fun e => by rw [e]; exact HZ.out)
  have q1 : (sh != sh) = false := by simp
  clear h ht hp hL hLi HZ
  generalize hl : lrn ts ps x = l at *
  have HLL := Lib.hid hl
  clear hl
  go_enter Try.func5, Try.ntmps5
  go_wp2_with (first
    | ((with_reducible refine flt_box (o := ⟨some 3, _, _, _, _, _⟩) flt rfl _ rfl rfl hF ?_); intro w1 bf hbf hBf bel1; have of := Nat.le_trans BB.out.size hbf; have BB := Lib.hid (bel_next BB.out bel1); have Xf := Lib.hid hBf; clear bel1 hBf hbf))
  refine (alive_any _).mono ?_
  rintro e w2 ⟨rfl, bel2⟩
  have Xf := Lib.hid (Xf.out.next bel2)
  have BB := Lib.hid (bel_next BB.out bel2)
  clear bel2
  go_wp2_with (first
    | (with_reducible refine flt_load (o := ⟨some 19, _, _, _, _, _⟩) flt rfl _ rfl rfl Xf.out ?_))
  refine (CK.out _).mono ?_
  rintro e w3 ⟨rfl, bel3⟩
  have Xf := Lib.hid (Xf.out.next bel3)
  have BB := Lib.hid (bel_next BB.out bel3)
  clear bel3
  go_wp2_with (first
    | (with_reducible refine flt_load (o := ⟨some 28, _, _, _, _, _⟩) flt rfl _ rfl rfl Xf.out ?_))
  refine (CL.out _).mono ?_
  rintro e w4 ⟨rfl, bel4⟩
  have Xf := Lib.hid (Xf.out.next bel4)
  have BB := Lib.hid (bel_next BB.out bel4)
  clear bel4
  go_wp2_with (first
    | ((with_reducible refine flt_alloc (o := ⟨some 8, _, _, _, _, _⟩) flt rfl rfl ?_); intro w5 ba hba hBa bel5; have q_f_a : bf < ba := Nat.lt_of_lt_of_le Xf.out.lt hba; have oa := Nat.le_trans BB.out.size hba; have Xf := Lib.hid (Xf.out.next bel5); have BB := Lib.hid (bel_next BB.out bel5); have Xa := Lib.hid hBa; clear bel5 hBa hba)
    | ((with_reducible refine flt_store flt rfl (.tmp 8) (.tmp 31) rfl rfl rfl Xa.out HG.out ?_); intro w6 hB6 onl6; have Xf := Lib.hid (Xf.out.only (by omega) onl6); have BB := Lib.hid (onl6.bel oa BB.out); have Xa := Lib.hid hB6; have c0 := Xf.out.c0; have c1 := Xa.out.c0; clear onl6 hB6)
    | ((with_reducible refine wpl_guard (d := some 37) ?_ ?_); (next => go_simp); with_reducible refine flt_loadP (o := ⟨some 37, _, _, _, _, _⟩) flt rfl _ rfl rfl Xa.out ?_)
    | ((with_reducible refine wpl_guard (d := some 39) ?_ ?_); (next => go_simp); with_reducible refine flt_loadP (o := ⟨some 39, _, _, _, _, _⟩) flt rfl _ rfl rfl Xf.out ?_)
    | ((with_reducible refine wpl_guard (d := some 40) ?_ ?_); (next => go_simp); with_reducible refine wpl_eq (o := ⟨some 40, _, _, _, _, _⟩) (arr_nes flt eqgA _ HPL.out _ _ _) rfl rfl rfl rfl ?_))
  go_loop [10, 11] (fun g i => ∃ k : Nat, k ≤ 16 ∧ i = .int .i64 k ∧ g = .int .i32 (wrap32 (gnTo ps k))) (fun _ i => 16 - (intOf i).toNat)
  case atStart => exact ⟨0, by omega, rfl, by simp [gnTo, wrap32]⟩
  case round =>
    obtain ⟨k, hk, rfl, rfl⟩ := hrel
    by_cases hlt : k < 16
    · have cp := Xf.out.cp hlt
      have b2 := getD_i32 HP.out k
      have HD := Lib.hid (show wrap32 (gnTo ps k + stp k * absZ (ps.getD k 0)) = wrap32 (gnTo ps (k + 1)) from rfl)
      generalize ps.getD k 0 = p at *
      have hkz : (k : Int) < 16 := by omega
      have HG2 := Lib.hid (show ∀ s, stp k = s → wrap32 (wrap32 (gnTo ps k) + wrap32 (s * (if p < 0 then wrap32 (-p) else p))) = wrap32 (gnTo ps (k + 1)) by
        intro s hs
        rw [gn_step, wrap32_add_r, wrap32_add_l, ← hs]
        exact HD.out)
      generalize wrap32 (gnTo ps k) = gk at *
      have h0 : k = 0 ∨ (1 ≤ k ∧ k < 4) ∨ 4 ≤ k := by omega
      by_cases hn : p < 0
      · rw [if_pos hn] at HG2
        rcases h0 with rfl | h0 | h0
        · have HX := Lib.hid (HG2.out 4 rfl)
          have HXa := Lib.hid (show wrap32 (gk + 4 * wrap32 (-p)) = wrap32 (gnTo ps (0 + 1)) by rw [← HX.out, wrap32_add_r])
          have HXb := Lib.hid (show 4 = (1 : Int) → wrap32 (gk + wrap32 (-p)) = wrap32 (gnTo ps (0 + 1)) by intro e; rw [← HXa.out, e, Int.one_mul])
          have HXc := Lib.hid (show 4 = (1 : Int) → wrap32 (gk + wrap32 (wrap32 (-p))) = wrap32 (gnTo ps (0 + 1)) by intro e; rw [← HXb.out e, wrap32_add_r])
          clear HG2
          go_wp2_with fail
          go_round
          case rel => exact ⟨0 + 1, by omega, by go_num, congrArg (Value.int .i32) (by first | exact HX.out | exact HXa.out | exact HXb.out rfl | exact HXc.out rfl)⟩
          case measure => simp [intOf] <;> omega
        · have HX := Lib.hid (HG2.out 2 (by unfold stp; rw [if_neg (by omega), if_pos (by omega)]))
          have z0 : ((k : Int) == 0) = false := by simp; omega
          have z4 : decide ((k : Int) < 4) = true := by simp; omega
          have HXa := Lib.hid (show wrap32 (gk + 2 * wrap32 (-p)) = wrap32 (gnTo ps (k + 1)) by rw [← HX.out, wrap32_add_r])
          have HXb := Lib.hid (show 2 = (1 : Int) → wrap32 (gk + wrap32 (-p)) = wrap32 (gnTo ps (k + 1)) by intro e; rw [← HXa.out, e, Int.one_mul])
          have HXc := Lib.hid (show 2 = (1 : Int) → wrap32 (gk + wrap32 (wrap32 (-p))) = wrap32 (gnTo ps (k + 1)) by intro e; rw [← HXb.out e, wrap32_add_r])
          clear HG2
          go_wp2_with fail
          go_round
          case rel => exact ⟨k + 1, by omega, by go_num, congrArg (Value.int .i32) (by first | exact HX.out | exact HXa.out | exact HXb.out rfl | exact HXc.out rfl)⟩
          case measure => simp [intOf] <;> omega
        · have HX := Lib.hid (HG2.out 1 (by unfold stp; rw [if_neg (by omega), if_neg (by omega)]))
          have z0 : ((k : Int) == 0) = false := by simp; omega
          have z4 : decide ((k : Int) < 4) = false := by simp; omega
          have HXa := Lib.hid (show wrap32 (gk + 1 * wrap32 (-p)) = wrap32 (gnTo ps (k + 1)) by rw [← HX.out, wrap32_add_r])
          have HXb := Lib.hid (show 1 = (1 : Int) → wrap32 (gk + wrap32 (-p)) = wrap32 (gnTo ps (k + 1)) by intro e; rw [← HXa.out, e, Int.one_mul])
          have HXc := Lib.hid (show 1 = (1 : Int) → wrap32 (gk + wrap32 (wrap32 (-p))) = wrap32 (gnTo ps (k + 1)) by intro e; rw [← HXb.out e, wrap32_add_r])
          clear HG2
          go_wp2_with fail
          go_round
          case rel => exact ⟨k + 1, by omega, by go_num, congrArg (Value.int .i32) (by first | exact HX.out | exact HXa.out | exact HXb.out rfl | exact HXc.out rfl)⟩
          case measure => simp [intOf] <;> omega
      · rw [if_neg hn] at HG2
        rcases h0 with rfl | h0 | h0
        · have HX := Lib.hid (HG2.out 4 rfl)
          have HXa := Lib.hid (show wrap32 (gk + 4 * p) = wrap32 (gnTo ps (0 + 1)) by rw [← HX.out, wrap32_add_r])
          have HXb := Lib.hid (show 4 = (1 : Int) → wrap32 (gk + p) = wrap32 (gnTo ps (0 + 1)) by intro e; rw [← HXa.out, e, Int.one_mul])
          have HXc := Lib.hid (show 4 = (1 : Int) → wrap32 (gk + wrap32 (p)) = wrap32 (gnTo ps (0 + 1)) by intro e; rw [← HXb.out e, wrap32_add_r])
          clear HG2
          go_wp2_with fail
          go_round
          case rel => exact ⟨0 + 1, by omega, by go_num, congrArg (Value.int .i32) (by first | exact HX.out | exact HXa.out | exact HXb.out rfl | exact HXc.out rfl)⟩
          case measure => simp [intOf] <;> omega
        · have HX := Lib.hid (HG2.out 2 (by unfold stp; rw [if_neg (by omega), if_pos (by omega)]))
          have z0 : ((k : Int) == 0) = false := by simp; omega
          have z4 : decide ((k : Int) < 4) = true := by simp; omega
          have HXa := Lib.hid (show wrap32 (gk + 2 * p) = wrap32 (gnTo ps (k + 1)) by rw [← HX.out, wrap32_add_r])
          have HXb := Lib.hid (show 2 = (1 : Int) → wrap32 (gk + p) = wrap32 (gnTo ps (k + 1)) by intro e; rw [← HXa.out, e, Int.one_mul])
          have HXc := Lib.hid (show 2 = (1 : Int) → wrap32 (gk + wrap32 (p)) = wrap32 (gnTo ps (k + 1)) by intro e; rw [← HXb.out e, wrap32_add_r])
          clear HG2
          go_wp2_with fail
          go_round
          case rel => exact ⟨k + 1, by omega, by go_num, congrArg (Value.int .i32) (by first | exact HX.out | exact HXa.out | exact HXb.out rfl | exact HXc.out rfl)⟩
          case measure => simp [intOf] <;> omega
        · have HX := Lib.hid (HG2.out 1 (by unfold stp; rw [if_neg (by omega), if_neg (by omega)]))
          have z0 : ((k : Int) == 0) = false := by simp; omega
          have z4 : decide ((k : Int) < 4) = false := by simp; omega
          have HXa := Lib.hid (show wrap32 (gk + 1 * p) = wrap32 (gnTo ps (k + 1)) by rw [← HX.out, wrap32_add_r])
          have HXb := Lib.hid (show 1 = (1 : Int) → wrap32 (gk + p) = wrap32 (gnTo ps (k + 1)) by intro e; rw [← HXa.out, e, Int.one_mul])
          have HXc := Lib.hid (show 1 = (1 : Int) → wrap32 (gk + wrap32 (p)) = wrap32 (gnTo ps (k + 1)) by intro e; rw [← HXb.out e, wrap32_add_r])
          clear HG2
          go_wp2_with fail
          go_round
          case rel => exact ⟨k + 1, by omega, by go_num, congrArg (Value.int .i32) (by first | exact HX.out | exact HXa.out | exact HXb.out rfl | exact HXc.out rfl)⟩
          case measure => simp [intOf] <;> omega
    · obtain rfl : k = 16 := by omega
      by_cases hx : x = 0
      · subst hx
        have HE := Lib.hid (HL0.out rfl)
        rw [HE.out] at Xa
        go_wp2_with (first
          | ((with_reducible refine wpl_guard (d := some 75) ?_ ?_); (next => go_simp); with_reducible refine flt_load (o := ⟨some 75, _, _, _, _, _⟩) flt rfl _ rfl rfl Xa.out ?_)
          | ((with_reducible refine wpl_guard (d := some 76) ?_ ?_); (next => go_simp); with_reducible refine flt_load (o := ⟨some 76, _, _, _, _, _⟩) flt rfl _ rfl rfl Xf.out ?_)
          | ((with_reducible refine wpl_guard (d := some 77) ?_ ?_); (next => go_simp); with_reducible refine wpl_eq (o := ⟨some 77, _, _, _, _, _⟩) (flt_eqs flt eqgF _ _ _ hF _ _ _) rfl rfl rfl rfl ?_))
        go_ret
        exact ⟨rfl, BB.out⟩
      · have HS2 := HS.out
        by_cases hn : x < 0
        · rw [sgn_neg hn, Int.neg_mul, Int.one_mul] at HS2
          have hg : (wrap32 (sumF l ps - sumF ts ps) != wrap32 (-wrap32 (gnTo ps 16))) = false := by
            rw [HS2, show wrap32 (-wrap32 (gnTo ps 16)) = wrap32 (-gnTo ps 16) by have := wrap32_sub_r 0 (gnTo ps 16); simpa using this]
            simp
          have hsx := Lib.hid (sgn_neg hn)
          have qx0 : (x == 0) = false := by simp [hx]
          have dx : decide (x < 0) = true := by simp; omega
          have e1 : ∀ z, IntKind.i32.wrap z = wrap32 z := fun z => IntWalk.i32_left z
          generalize sumF l ps = s2 at *
          generalize sumF ts ps = s1 at *
          generalize wrap32 (gnTo ps 16) = g at *
          clear HS2 HS
          go_wp2_with fail
          refine wp_region_since (by kernel_rfl) (by kernel_rfl) ?_
          refine qb_load (o := ⟨some 84, _, _, _, _, _⟩) flt (by go_simp) _ rfl rfl Xa.out (by go_simp <;> rfl) ?_
          refine qb_call (o := ⟨some 85, _, _, _, _, _⟩) (by go_simp) (fun W => by go_simp <;> rfl) (fun W _ => S2.out W) (by go_simp <;> rfl) ?_
          refine qb_load (o := ⟨some 86, _, _, _, _, _⟩) flt (by go_simp) _ rfl rfl Xf.out (by go_simp <;> rfl) ?_
          refine qb_call (o := ⟨some 87, _, _, _, _, _⟩) (by go_simp) (fun W => by go_simp <;> rfl) (fun W _ => S1.out W) (by go_simp <;> rfl) ?_
          refine qb_val (o := ⟨some 88, _, _, _, _, _⟩) (by go_simp) (fun W hW => (by go_simp <;> rfl)) (by go_simp <;> rfl) ?_
          refine qb_val (o := ⟨some 89, _, _, _, _, _⟩) (by go_simp) (fun W hW => (by go_simp <;> rfl)) (by go_simp <;> rfl) ?_
          refine qb_val (o := ⟨some 90, _, _, _, _, _⟩) (by go_simp) (fun W hW => (by go_simp <;> rfl)) (by go_simp <;> rfl) ?_
          refine wpQuiet_nil ?_
          intro w7 bel7
          have bel7 : Below w6.heap.size w6 w7 := bel7
          have Xf := Lib.hid (Xf.out.next bel7)
          have Xa := Lib.hid (Xa.out.next bel7)
          have BB := Lib.hid (bel_next BB.out bel7)
          clear bel7
          clear hg e1
          by_cases hy : y = 0
          · subst hy
            go_wp2_with fail
            go_ret
            exact ⟨rfl, BB.out⟩
          · have qy0 : (y == 0) = false := by simp [hy]
            by_cases hs : y < 0
            · have dy : decide (y < 0) = true := by simp; omega
              have HE := Lib.hid (HY.out (by rw [hsx.out, sgn_neg hs]))
              have hb1 : decide (y < 0) = true := dy
              rw [HE.out] at CM HM
              go_wp2_with (first
                | (with_reducible refine flt_load (o := ⟨some 95, _, _, _, _, _⟩) flt rfl _ rfl rfl Xf.out ?_))
              refine (CM.out _).mono ?_
              rintro e w8 ⟨rfl, bel8⟩
              have Xf := Lib.hid (Xf.out.next bel8)
              have Xa := Lib.hid (Xa.out.next bel8)
              have BB := Lib.hid (bel_next BB.out bel8)
              clear bel8
              go_wp2_with (first
                | ((with_reducible refine flt_alloc (o := ⟨some 14, _, _, _, _, _⟩) flt rfl rfl ?_); intro w9 bb hbb hBb bel9; have q_f_b : bf < bb := Nat.lt_of_lt_of_le Xf.out.lt hbb; have q_a_b : ba < bb := Nat.lt_of_lt_of_le Xa.out.lt hbb; have ob := Nat.le_trans BB.out.size hbb; have Xf := Lib.hid (Xf.out.next bel9); have Xa := Lib.hid (Xa.out.next bel9); have BB := Lib.hid (bel_next BB.out bel9); have Xb := Lib.hid hBb; clear bel9 hBb hbb)
                | ((with_reducible refine flt_store flt rfl (.tmp 14) (.tmp 98) rfl rfl rfl Xb.out HM.out ?_); intro w10 hB10 onl10; have Xf := Lib.hid (Xf.out.only (by omega) onl10); have Xa := Lib.hid (Xa.out.only (by omega) onl10); have BB := Lib.hid (onl10.bel ob BB.out); have Xb := Lib.hid hB10; clear onl10 hB10)
                | (with_reducible refine flt_load (o := ⟨some 101, _, _, _, _, _⟩) flt rfl _ rfl rfl Xa.out ?_))
              refine (CN.out _).mono ?_
              rintro e w11 ⟨rfl, bel11⟩
              have Xf := Lib.hid (Xf.out.next bel11)
              have Xa := Lib.hid (Xa.out.next bel11)
              have Xb := Lib.hid (Xb.out.next bel11)
              have BB := Lib.hid (bel_next BB.out bel11)
              clear bel11
              go_wp2_with (first
                | ((with_reducible refine flt_alloc (o := ⟨some 16, _, _, _, _, _⟩) flt rfl rfl ?_); intro w12 bc hbc hBc bel12; have q_f_c : bf < bc := Nat.lt_of_lt_of_le Xf.out.lt hbc; have q_a_c : ba < bc := Nat.lt_of_lt_of_le Xa.out.lt hbc; have q_b_c : bb < bc := Nat.lt_of_lt_of_le Xb.out.lt hbc; have oc := Nat.le_trans BB.out.size hbc; have Xf := Lib.hid (Xf.out.next bel12); have Xa := Lib.hid (Xa.out.next bel12); have Xb := Lib.hid (Xb.out.next bel12); have BB := Lib.hid (bel_next BB.out bel12); have Xc := Lib.hid hBc; clear bel12 hBc hbc)
                | ((with_reducible refine flt_store flt rfl (.tmp 16) (.tmp 104) rfl rfl rfl Xc.out HN.out ?_); intro w13 hB13 onl13; have Xf := Lib.hid (Xf.out.only (by omega) onl13); have Xa := Lib.hid (Xa.out.only (by omega) onl13); have Xb := Lib.hid (Xb.out.only (by omega) onl13); have BB := Lib.hid (onl13.bel oc BB.out); have Xc := Lib.hid hB13; clear onl13 hB13)
                | ((with_reducible refine wpl_guard (d := some 119) ?_ ?_); (next => go_simp); with_reducible refine flt_load (o := ⟨some 119, _, _, _, _, _⟩) flt rfl _ rfl rfl Xb.out ?_)
                | ((with_reducible refine wpl_guard (d := some 120) ?_ ?_); (next => go_simp); with_reducible refine flt_load (o := ⟨some 120, _, _, _, _, _⟩) flt rfl _ rfl rfl Xa.out ?_)
                | ((with_reducible refine wpl_guard (d := some 121) ?_ ?_); (next => go_simp); with_reducible refine wpl_eq (o := ⟨some 121, _, _, _, _, _⟩) (flt_eqs flt eqgF _ _ _ HG.out _ _ _) rfl rfl rfl rfl ?_))
              go_ret
              exact ⟨rfl, BB.out⟩
            · have dy : decide (y < 0) = false := by simpa using hs
              have HE := Lib.hid (HB.out (by rw [hsx.out, sgn_pos (show 0 < y by omega)]; rfl))
              rw [HE.out] at CN HN
              go_wp2_with (first
                | (with_reducible refine flt_load (o := ⟨some 95, _, _, _, _, _⟩) flt rfl _ rfl rfl Xf.out ?_))
              refine (CM.out _).mono ?_
              rintro e w8 ⟨rfl, bel8⟩
              have Xf := Lib.hid (Xf.out.next bel8)
              have Xa := Lib.hid (Xa.out.next bel8)
              have BB := Lib.hid (bel_next BB.out bel8)
              clear bel8
              go_wp2_with (first
                | ((with_reducible refine flt_alloc (o := ⟨some 14, _, _, _, _, _⟩) flt rfl rfl ?_); intro w9 bb hbb hBb bel9; have q_f_b : bf < bb := Nat.lt_of_lt_of_le Xf.out.lt hbb; have q_a_b : ba < bb := Nat.lt_of_lt_of_le Xa.out.lt hbb; have ob := Nat.le_trans BB.out.size hbb; have Xf := Lib.hid (Xf.out.next bel9); have Xa := Lib.hid (Xa.out.next bel9); have BB := Lib.hid (bel_next BB.out bel9); have Xb := Lib.hid hBb; clear bel9 hBb hbb)
                | ((with_reducible refine flt_store flt rfl (.tmp 14) (.tmp 98) rfl rfl rfl Xb.out HM.out ?_); intro w10 hB10 onl10; have Xf := Lib.hid (Xf.out.only (by omega) onl10); have Xa := Lib.hid (Xa.out.only (by omega) onl10); have BB := Lib.hid (onl10.bel ob BB.out); have Xb := Lib.hid hB10; clear onl10 hB10)
                | (with_reducible refine flt_load (o := ⟨some 101, _, _, _, _, _⟩) flt rfl _ rfl rfl Xa.out ?_))
              refine (CN.out _).mono ?_
              rintro e w11 ⟨rfl, bel11⟩
              have Xf := Lib.hid (Xf.out.next bel11)
              have Xa := Lib.hid (Xa.out.next bel11)
              have Xb := Lib.hid (Xb.out.next bel11)
              have BB := Lib.hid (bel_next BB.out bel11)
              clear bel11
              go_wp2_with (first
                | ((with_reducible refine flt_alloc (o := ⟨some 16, _, _, _, _, _⟩) flt rfl rfl ?_); intro w12 bc hbc hBc bel12; have q_f_c : bf < bc := Nat.lt_of_lt_of_le Xf.out.lt hbc; have q_a_c : ba < bc := Nat.lt_of_lt_of_le Xa.out.lt hbc; have q_b_c : bb < bc := Nat.lt_of_lt_of_le Xb.out.lt hbc; have oc := Nat.le_trans BB.out.size hbc; have Xf := Lib.hid (Xf.out.next bel12); have Xa := Lib.hid (Xa.out.next bel12); have Xb := Lib.hid (Xb.out.next bel12); have BB := Lib.hid (bel_next BB.out bel12); have Xc := Lib.hid hBc; clear bel12 hBc hbc)
                | ((with_reducible refine flt_store flt rfl (.tmp 16) (.tmp 104) rfl rfl rfl Xc.out HN.out ?_); intro w13 hB13 onl13; have Xf := Lib.hid (Xf.out.only (by omega) onl13); have Xa := Lib.hid (Xa.out.only (by omega) onl13); have Xb := Lib.hid (Xb.out.only (by omega) onl13); have BB := Lib.hid (onl13.bel oc BB.out); have Xc := Lib.hid hB13; clear onl13 hB13)
                | ((with_reducible refine wpl_guard (d := some 125) ?_ ?_); (next => go_simp); with_reducible refine flt_load (o := ⟨some 125, _, _, _, _, _⟩) flt rfl _ rfl rfl Xc.out ?_)
                | ((with_reducible refine wpl_guard (d := some 126) ?_ ?_); (next => go_simp); with_reducible refine flt_load (o := ⟨some 126, _, _, _, _, _⟩) flt rfl _ rfl rfl Xf.out ?_)
                | ((with_reducible refine wpl_guard (d := some 127) ?_ ?_); (next => go_simp); with_reducible refine wpl_eq (o := ⟨some 127, _, _, _, _, _⟩) (flt_eqs flt eqgF _ _ _ hF _ _ _) rfl rfl rfl rfl ?_))
              go_ret
              exact ⟨rfl, BB.out⟩
        · rw [sgn_pos (show 0 < x by omega), Int.one_mul] at HS2
          have hg : (wrap32 (sumF l ps - sumF ts ps) != wrap32 (gnTo ps 16)) = false := by
            rw [HS2]
            simp
          have hsx := Lib.hid (sgn_pos (show 0 < x by omega))
          have qx0 : (x == 0) = false := by simp [hx]
          have dx : decide (x < 0) = false := by simp; omega
          have e1 : ∀ z, IntKind.i32.wrap z = wrap32 z := fun z => IntWalk.i32_left z
          generalize sumF l ps = s2 at *
          generalize sumF ts ps = s1 at *
          generalize wrap32 (gnTo ps 16) = g at *
          clear HS2 HS
          go_wp2_with fail
          refine wp_region_since (by kernel_rfl) (by kernel_rfl) ?_
          refine qb_load (o := ⟨some 84, _, _, _, _, _⟩) flt (by go_simp) _ rfl rfl Xa.out (by go_simp <;> rfl) ?_
          refine qb_call (o := ⟨some 85, _, _, _, _, _⟩) (by go_simp) (fun W => by go_simp <;> rfl) (fun W _ => S2.out W) (by go_simp <;> rfl) ?_
          refine qb_load (o := ⟨some 86, _, _, _, _, _⟩) flt (by go_simp) _ rfl rfl Xf.out (by go_simp <;> rfl) ?_
          refine qb_call (o := ⟨some 87, _, _, _, _, _⟩) (by go_simp) (fun W => by go_simp <;> rfl) (fun W _ => S1.out W) (by go_simp <;> rfl) ?_
          refine qb_val (o := ⟨some 88, _, _, _, _, _⟩) (by go_simp) (fun W hW => (by go_simp <;> rfl)) (by go_simp <;> rfl) ?_
          refine qb_val (o := ⟨some 89, _, _, _, _, _⟩) (by go_simp) (fun W hW => (by go_simp <;> rfl)) (by go_simp <;> rfl) ?_
          refine qb_val (o := ⟨some 90, _, _, _, _, _⟩) (by go_simp) (fun W hW => (by go_simp <;> rfl)) (by go_simp <;> rfl) ?_
          refine wpQuiet_nil ?_
          intro w7 bel7
          have bel7 : Below w6.heap.size w6 w7 := bel7
          have Xf := Lib.hid (Xf.out.next bel7)
          have Xa := Lib.hid (Xa.out.next bel7)
          have BB := Lib.hid (bel_next BB.out bel7)
          clear bel7
          clear hg e1
          by_cases hy : y = 0
          · subst hy
            go_wp2_with fail
            go_ret
            exact ⟨rfl, BB.out⟩
          · have qy0 : (y == 0) = false := by simp [hy]
            by_cases hs : y < 0
            · have dy : decide (y < 0) = true := by simp; omega
              have HE := Lib.hid (HB.out (by rw [hsx.out, sgn_neg hs]))
              have hb1 : decide (y < 0) = true := dy
              rw [HE.out] at CN HN
              go_wp2_with (first
                | (with_reducible refine flt_load (o := ⟨some 95, _, _, _, _, _⟩) flt rfl _ rfl rfl Xf.out ?_))
              refine (CM.out _).mono ?_
              rintro e w8 ⟨rfl, bel8⟩
              have Xf := Lib.hid (Xf.out.next bel8)
              have Xa := Lib.hid (Xa.out.next bel8)
              have BB := Lib.hid (bel_next BB.out bel8)
              clear bel8
              go_wp2_with (first
                | ((with_reducible refine flt_alloc (o := ⟨some 14, _, _, _, _, _⟩) flt rfl rfl ?_); intro w9 bb hbb hBb bel9; have q_f_b : bf < bb := Nat.lt_of_lt_of_le Xf.out.lt hbb; have q_a_b : ba < bb := Nat.lt_of_lt_of_le Xa.out.lt hbb; have ob := Nat.le_trans BB.out.size hbb; have Xf := Lib.hid (Xf.out.next bel9); have Xa := Lib.hid (Xa.out.next bel9); have BB := Lib.hid (bel_next BB.out bel9); have Xb := Lib.hid hBb; clear bel9 hBb hbb)
                | ((with_reducible refine flt_store flt rfl (.tmp 14) (.tmp 98) rfl rfl rfl Xb.out HM.out ?_); intro w10 hB10 onl10; have Xf := Lib.hid (Xf.out.only (by omega) onl10); have Xa := Lib.hid (Xa.out.only (by omega) onl10); have BB := Lib.hid (onl10.bel ob BB.out); have Xb := Lib.hid hB10; clear onl10 hB10)
                | (with_reducible refine flt_load (o := ⟨some 101, _, _, _, _, _⟩) flt rfl _ rfl rfl Xa.out ?_))
              refine (CN.out _).mono ?_
              rintro e w11 ⟨rfl, bel11⟩
              have Xf := Lib.hid (Xf.out.next bel11)
              have Xa := Lib.hid (Xa.out.next bel11)
              have Xb := Lib.hid (Xb.out.next bel11)
              have BB := Lib.hid (bel_next BB.out bel11)
              clear bel11
              go_wp2_with (first
                | ((with_reducible refine flt_alloc (o := ⟨some 16, _, _, _, _, _⟩) flt rfl rfl ?_); intro w12 bc hbc hBc bel12; have q_f_c : bf < bc := Nat.lt_of_lt_of_le Xf.out.lt hbc; have q_a_c : ba < bc := Nat.lt_of_lt_of_le Xa.out.lt hbc; have q_b_c : bb < bc := Nat.lt_of_lt_of_le Xb.out.lt hbc; have oc := Nat.le_trans BB.out.size hbc; have Xf := Lib.hid (Xf.out.next bel12); have Xa := Lib.hid (Xa.out.next bel12); have Xb := Lib.hid (Xb.out.next bel12); have BB := Lib.hid (bel_next BB.out bel12); have Xc := Lib.hid hBc; clear bel12 hBc hbc)
                | ((with_reducible refine flt_store flt rfl (.tmp 16) (.tmp 104) rfl rfl rfl Xc.out HN.out ?_); intro w13 hB13 onl13; have Xf := Lib.hid (Xf.out.only (by omega) onl13); have Xa := Lib.hid (Xa.out.only (by omega) onl13); have Xb := Lib.hid (Xb.out.only (by omega) onl13); have BB := Lib.hid (onl13.bel oc BB.out); have Xc := Lib.hid hB13; clear onl13 hB13)
                | ((with_reducible refine wpl_guard (d := some 125) ?_ ?_); (next => go_simp); with_reducible refine flt_load (o := ⟨some 125, _, _, _, _, _⟩) flt rfl _ rfl rfl Xc.out ?_)
                | ((with_reducible refine wpl_guard (d := some 126) ?_ ?_); (next => go_simp); with_reducible refine flt_load (o := ⟨some 126, _, _, _, _, _⟩) flt rfl _ rfl rfl Xf.out ?_)
                | ((with_reducible refine wpl_guard (d := some 127) ?_ ?_); (next => go_simp); with_reducible refine wpl_eq (o := ⟨some 127, _, _, _, _, _⟩) (flt_eqs flt eqgF _ _ _ hF _ _ _) rfl rfl rfl rfl ?_))
              go_ret
              exact ⟨rfl, BB.out⟩
            · have dy : decide (y < 0) = false := by simpa using hs
              have HE := Lib.hid (HY.out (by rw [hsx.out, sgn_pos (show 0 < y by omega)]))
              rw [HE.out] at CM HM
              go_wp2_with (first
                | (with_reducible refine flt_load (o := ⟨some 95, _, _, _, _, _⟩) flt rfl _ rfl rfl Xf.out ?_))
              refine (CM.out _).mono ?_
              rintro e w8 ⟨rfl, bel8⟩
              have Xf := Lib.hid (Xf.out.next bel8)
              have Xa := Lib.hid (Xa.out.next bel8)
              have BB := Lib.hid (bel_next BB.out bel8)
              clear bel8
              go_wp2_with (first
                | ((with_reducible refine flt_alloc (o := ⟨some 14, _, _, _, _, _⟩) flt rfl rfl ?_); intro w9 bb hbb hBb bel9; have q_f_b : bf < bb := Nat.lt_of_lt_of_le Xf.out.lt hbb; have q_a_b : ba < bb := Nat.lt_of_lt_of_le Xa.out.lt hbb; have ob := Nat.le_trans BB.out.size hbb; have Xf := Lib.hid (Xf.out.next bel9); have Xa := Lib.hid (Xa.out.next bel9); have BB := Lib.hid (bel_next BB.out bel9); have Xb := Lib.hid hBb; clear bel9 hBb hbb)
                | ((with_reducible refine flt_store flt rfl (.tmp 14) (.tmp 98) rfl rfl rfl Xb.out HM.out ?_); intro w10 hB10 onl10; have Xf := Lib.hid (Xf.out.only (by omega) onl10); have Xa := Lib.hid (Xa.out.only (by omega) onl10); have BB := Lib.hid (onl10.bel ob BB.out); have Xb := Lib.hid hB10; clear onl10 hB10)
                | (with_reducible refine flt_load (o := ⟨some 101, _, _, _, _, _⟩) flt rfl _ rfl rfl Xa.out ?_))
              refine (CN.out _).mono ?_
              rintro e w11 ⟨rfl, bel11⟩
              have Xf := Lib.hid (Xf.out.next bel11)
              have Xa := Lib.hid (Xa.out.next bel11)
              have Xb := Lib.hid (Xb.out.next bel11)
              have BB := Lib.hid (bel_next BB.out bel11)
              clear bel11
              go_wp2_with (first
                | ((with_reducible refine flt_alloc (o := ⟨some 16, _, _, _, _, _⟩) flt rfl rfl ?_); intro w12 bc hbc hBc bel12; have q_f_c : bf < bc := Nat.lt_of_lt_of_le Xf.out.lt hbc; have q_a_c : ba < bc := Nat.lt_of_lt_of_le Xa.out.lt hbc; have q_b_c : bb < bc := Nat.lt_of_lt_of_le Xb.out.lt hbc; have oc := Nat.le_trans BB.out.size hbc; have Xf := Lib.hid (Xf.out.next bel12); have Xa := Lib.hid (Xa.out.next bel12); have Xb := Lib.hid (Xb.out.next bel12); have BB := Lib.hid (bel_next BB.out bel12); have Xc := Lib.hid hBc; clear bel12 hBc hbc)
                | ((with_reducible refine flt_store flt rfl (.tmp 16) (.tmp 104) rfl rfl rfl Xc.out HN.out ?_); intro w13 hB13 onl13; have Xf := Lib.hid (Xf.out.only (by omega) onl13); have Xa := Lib.hid (Xa.out.only (by omega) onl13); have Xb := Lib.hid (Xb.out.only (by omega) onl13); have BB := Lib.hid (onl13.bel oc BB.out); have Xc := Lib.hid hB13; clear onl13 hB13)
                | ((with_reducible refine wpl_guard (d := some 119) ?_ ?_); (next => go_simp); with_reducible refine flt_load (o := ⟨some 119, _, _, _, _, _⟩) flt rfl _ rfl rfl Xb.out ?_)
                | ((with_reducible refine wpl_guard (d := some 120) ?_ ?_); (next => go_simp); with_reducible refine flt_load (o := ⟨some 120, _, _, _, _, _⟩) flt rfl _ rfl rfl Xa.out ?_)
                | ((with_reducible refine wpl_guard (d := some 121) ?_ ?_); (next => go_simp); with_reducible refine wpl_eq (o := ⟨some 121, _, _, _, _, _⟩) (flt_eqs flt eqgF _ _ _ HG.out _ _ _) rfl rfl rfl rfl ?_))
              go_ret
              exact ⟨rfl, BB.out⟩
theorem tapsSigns_walk (sh : Int) (ts ps : List Int) (x y : Int) (w : World) (hF : F16 ts ps) (ht : I32 ts) (hp : I32 ps) (hb0 : -9223372036854775808 ≤ sh) (hb1 : sh ≤ 9223372036854775807) (hx0 : -2147483648 ≤ x) (hx1 : x ≤ 2147483647) (hy0 : -2147483648 ≤ y) (hy1 : y ≤ 2147483647) :
    Calls Try.prog 5 #[.agg (fA sh ts ps), .int .i32 x, .int .i32 y] w fun e w' => e = .returned (.bool true) ∧ Below w.heap.size w w' := by
  by_cases h : ckF sh = 0
  · exact signs_ok sh ts ps x y w hF h ht hp hx0 hx1 hy0 hy1
  · exact signs_bad sh ts ps x y w hF h
end Go.Proofs.Ytnhdhjcpbonfjaa

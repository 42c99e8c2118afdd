/-
  The walk of TapsDoes. Conditions: numbers within their types.
-/
import Derived.Test.YtnhdhjcpbonfjaaRef14Walks
import Derived.Test.YtnhdhjcpbonfjaaQuietB
namespace Go.Proofs.Ytnhdhjcpbonfjaa
open Go.RowKit
set_option linter.unusedVariables false

theorem eqg_flt : Try.prog.eqGuardType Try.prog.depth 24 = false := by kernel_rfl
theorem eqr_flt (sh : Int) (ts ps : List Int) (hF : F16 ts ps) (x y : Operand) (W : World) :
    (do eqGuard .eql 24 x y (.agg (fA sh ts ps)) (.agg (fA sh ts ps)); binOp .eql 24 (.agg (fA sh ts ps)) (.agg (fA sh ts ps))).run Try.prog W = .ok (.bool true) W := by
  have h := flt.eq 9997 sh sh ts ps ts ps W hF.1 hF.2 hF.1 hF.2
  simp only [beq_self_eq_true, Bool.and_self] at h
  rw [Sem.run_bind, run_eqGuard_agg W .eql _ x y _ _ eqg_flt]
  simp only [Result.andThen_ok]
  rw [run_eql_struct, h]
  rfl

theorem lrR_len (sh : Int) (ts ps : List Int) (x : Int) : (lrR sh ts ps x).length = 16 := by
  unfold lrR; split
  · exact lrn_len ts ps x
  · rfl
theorem ifP_len (sh : Int) {ps : List Int} (h : ps.length = 16) : (ifP sh ps).length = 16 := by
  unfold ifP; split
  · exact h
  · rfl
theorem puR_len (sh : Int) {ps : List Int} (h : ps.length = 16) (x : Int) : (puR sh ps x).length = 16 := by
  unfold puR; split
  · exact psh_len h x
  · rfl

set_option maxRecDepth 100000 in
set_option maxHeartbeats 1000000 in
theorem tapsDoes_walk (sh : Int) (ts ps : List Int) (x : Int) (w : World) (hF : F16 ts ps) (ht : I32 ts) (hp : I32 ps) (hb0 : -9223372036854775808 ≤ sh) (hb1 : sh ≤ 9223372036854775807) (hx0 : -2147483648 ≤ x) (hx1 : x ≤ 2147483647) :
    Calls Try.prog 4 #[.agg (fA sh ts ps), .int .i32 x] w fun e w' => e = .returned (.bool true) ∧ Below w.heap.size w w' := by
  have BB := Lib.hid (bel_self w)
  have C1 := Lib.hid (fun W => tguess_any sh ts ps W hF ht hp)
  have C2 := Lib.hid (fun W => reguess_any sh ts ps W hF ht hp)
  have C3 := Lib.hid (fun W => learn_any sh ts ps x W hF ht hp)
  have C4 := Lib.hid (fun W => relearn_any sh ts ps x W hF)
  have C5 := Lib.hid (fun W => push_any sh ts ps x W hF)
  have C6 := Lib.hid (fun W => repush_any sh ts ps x W hF)
  have C7 := Lib.hid (fun W => tcheck_any sh ts ps W hF)
  have C8 := Lib.hid (fun W => recheck_any sh ts ps W hF)
  have HG := Lib.hid (f16 (lrR_len sh ts ps x) (ifP_len sh hF.2))
  have HH := Lib.hid (f16 (ifP_len sh hF.1) (puR_len sh hF.2 x))
  have q1 : (ckF sh == ckF sh) = true := by simp
  have q2 : (gsR sh ts ps == gsR sh ts ps) = true := by simp
  generalize ckF sh = e1 at *
  generalize gsR sh ts ps = g at *
  generalize lrR sh ts ps x = l1 at *
  generalize ifP sh ps = l2 at *
  generalize ifP sh ts = l3 at *
  generalize puR sh ps x = l4 at *
  generalize ifS sh = s1 at *
  clear ht hp
  go_enter Try.func4, Try.ntmps4
  go_wp2_with (first
    | ((with_reducible refine flt_box (o := ⟨some 2, _, _, _, _, _⟩) flt rfl _ rfl rfl hF ?_); intro w1 bf hbf hBf bel1; have of := Nat.le_trans BB.out.size hbf; have BB := Lib.hid (bel_next BB.out bel1); have Xf := Lib.hid hBf; clear bel1 hBf hbf)
    | (with_reducible refine flt_load (o := ⟨some 18, _, _, _, _, _⟩) flt rfl _ rfl rfl Xf.out ?_))
  refine (C1.out _).mono ?_
  rintro e w2 ⟨rfl, bel2⟩
  have Xf := Lib.hid (Xf.out.next bel2)
  have BB := Lib.hid (bel_next BB.out bel2)
  clear bel2
  go_wp2_with (first
    | (with_reducible refine flt_load (o := ⟨some 23, _, _, _, _, _⟩) flt rfl _ rfl rfl Xf.out ?_))
  refine (C2.out _).mono ?_
  rintro e w3 ⟨rfl, bel3⟩
  have Xf := Lib.hid (Xf.out.next bel3)
  have BB := Lib.hid (bel_next BB.out bel3)
  clear bel3
  go_wp2_with (first
    | (with_reducible refine flt_load (o := ⟨some 28, _, _, _, _, _⟩) flt rfl _ rfl rfl Xf.out ?_))
  refine (C3.out _).mono ?_
  rintro e w4 ⟨rfl, bel4⟩
  have Xf := Lib.hid (Xf.out.next bel4)
  have BB := Lib.hid (bel_next BB.out bel4)
  clear bel4
  go_wp2_with (first
    | ((with_reducible refine flt_alloc (o := ⟨some 9, _, _, _, _, _⟩) flt rfl rfl ?_); intro w5 bc hbc hBc bel5; have q_f_c : bf < bc := Nat.lt_of_lt_of_le Xf.out.lt hbc; have oc := Nat.le_trans BB.out.size hbc; have Xf := Lib.hid (Xf.out.next bel5); have BB := Lib.hid (bel_next BB.out bel5); have Xc := Lib.hid hBc; clear bel5 hBc hbc)
    | ((with_reducible refine flt_store flt rfl (.tmp 9) (.tmp 31) rfl rfl rfl Xc.out HG.out ?_); intro w6 hB6 onl6; have Xf := Lib.hid (Xf.out.only (by omega) onl6); have BB := Lib.hid (onl6.bel oc BB.out); have Xc := Lib.hid hB6; clear onl6 hB6)
    | (with_reducible refine flt_load (o := ⟨some 34, _, _, _, _, _⟩) flt rfl _ rfl rfl Xf.out ?_))
  refine (C4.out _).mono ?_
  rintro e w7 ⟨rfl, bel7⟩
  have Xf := Lib.hid (Xf.out.next bel7)
  have Xc := Lib.hid (Xc.out.next bel7)
  have BB := Lib.hid (bel_next BB.out bel7)
  clear bel7
  go_wp2_with (first
    | ((with_reducible refine flt_alloc (o := ⟨some 11, _, _, _, _, _⟩) flt rfl rfl ?_); intro w8 bd hbd hBd bel8; have q_f_d : bf < bd := Nat.lt_of_lt_of_le Xf.out.lt hbd; have q_c_d : bc < bd := Nat.lt_of_lt_of_le Xc.out.lt hbd; have od := Nat.le_trans BB.out.size hbd; have Xf := Lib.hid (Xf.out.next bel8); have Xc := Lib.hid (Xc.out.next bel8); have BB := Lib.hid (bel_next BB.out bel8); have Xd := Lib.hid hBd; clear bel8 hBd hbd)
    | ((with_reducible refine flt_store flt rfl (.tmp 11) (.tmp 37) rfl rfl rfl Xd.out HG.out ?_); intro w9 hB9 onl9; have Xf := Lib.hid (Xf.out.only (by omega) onl9); have Xc := Lib.hid (Xc.out.only (by omega) onl9); have BB := Lib.hid (onl9.bel od BB.out); have Xd := Lib.hid hB9; clear onl9 hB9)
    | (with_reducible refine flt_load (o := ⟨some 40, _, _, _, _, _⟩) flt rfl _ rfl rfl Xf.out ?_))
  refine (C5.out _).mono ?_
  rintro e w10 ⟨rfl, bel10⟩
  have Xf := Lib.hid (Xf.out.next bel10)
  have Xc := Lib.hid (Xc.out.next bel10)
  have Xd := Lib.hid (Xd.out.next bel10)
  have BB := Lib.hid (bel_next BB.out bel10)
  clear bel10
  go_wp2_with (first
    | ((with_reducible refine flt_alloc (o := ⟨some 13, _, _, _, _, _⟩) flt rfl rfl ?_); intro w11 bp hbp hBp bel11; have q_f_p : bf < bp := Nat.lt_of_lt_of_le Xf.out.lt hbp; have q_c_p : bc < bp := Nat.lt_of_lt_of_le Xc.out.lt hbp; have q_d_p : bd < bp := Nat.lt_of_lt_of_le Xd.out.lt hbp; have op := Nat.le_trans BB.out.size hbp; have Xf := Lib.hid (Xf.out.next bel11); have Xc := Lib.hid (Xc.out.next bel11); have Xd := Lib.hid (Xd.out.next bel11); have BB := Lib.hid (bel_next BB.out bel11); have Xp := Lib.hid hBp; clear bel11 hBp hbp)
    | ((with_reducible refine flt_store flt rfl (.tmp 13) (.tmp 43) rfl rfl rfl Xp.out HH.out ?_); intro w12 hB12 onl12; have Xf := Lib.hid (Xf.out.only (by omega) onl12); have Xc := Lib.hid (Xc.out.only (by omega) onl12); have Xd := Lib.hid (Xd.out.only (by omega) onl12); have BB := Lib.hid (onl12.bel op BB.out); have Xp := Lib.hid hB12; clear onl12 hB12)
    | (with_reducible refine flt_load (o := ⟨some 46, _, _, _, _, _⟩) flt rfl _ rfl rfl Xf.out ?_))
  refine (C6.out _).mono ?_
  rintro e w13 ⟨rfl, bel13⟩
  have Xf := Lib.hid (Xf.out.next bel13)
  have Xc := Lib.hid (Xc.out.next bel13)
  have Xd := Lib.hid (Xd.out.next bel13)
  have Xp := Lib.hid (Xp.out.next bel13)
  have BB := Lib.hid (bel_next BB.out bel13)
  clear bel13
  go_wp2_with (first
    | ((with_reducible refine flt_alloc (o := ⟨some 15, _, _, _, _, _⟩) flt rfl rfl ?_); intro w14 bq hbq hBq bel14; have q_f_q : bf < bq := Nat.lt_of_lt_of_le Xf.out.lt hbq; have q_c_q : bc < bq := Nat.lt_of_lt_of_le Xc.out.lt hbq; have q_d_q : bd < bq := Nat.lt_of_lt_of_le Xd.out.lt hbq; have q_p_q : bp < bq := Nat.lt_of_lt_of_le Xp.out.lt hbq; have oq := Nat.le_trans BB.out.size hbq; have Xf := Lib.hid (Xf.out.next bel14); have Xc := Lib.hid (Xc.out.next bel14); have Xd := Lib.hid (Xd.out.next bel14); have Xp := Lib.hid (Xp.out.next bel14); have BB := Lib.hid (bel_next BB.out bel14); have Xq := Lib.hid hBq; clear bel14 hBq hbq)
    | ((with_reducible refine flt_store flt rfl (.tmp 15) (.tmp 49) rfl rfl rfl Xq.out HH.out ?_); intro w15 hB15 onl15; have Xf := Lib.hid (Xf.out.only (by omega) onl15); have Xc := Lib.hid (Xc.out.only (by omega) onl15); have Xd := Lib.hid (Xd.out.only (by omega) onl15); have Xp := Lib.hid (Xp.out.only (by omega) onl15); have BB := Lib.hid (onl15.bel oq BB.out); have Xq := Lib.hid hB15; clear onl15 hB15))
  refine wp_region_since (by kernel_rfl) (by kernel_rfl) ?_
  refine qb_load (o := ⟨some 51, _, _, _, _, _⟩) flt (by go_simp) _ rfl rfl Xf.out (by go_simp <;> rfl) ?_
  refine qb_call (o := ⟨some 52, _, _, _, _, _⟩) (by go_simp) (fun W => by go_simp <;> rfl) (fun W _ => C7.out W) (by go_simp <;> rfl) ?_
  refine qb_load (o := ⟨some 53, _, _, _, _, _⟩) flt (by go_simp) _ rfl rfl Xf.out (by go_simp <;> rfl) ?_
  refine qb_call (o := ⟨some 54, _, _, _, _, _⟩) (by go_simp) (fun W => by go_simp <;> rfl) (fun W _ => C8.out W) (by go_simp <;> rfl) ?_
  refine qb_val (o := ⟨some 55, _, _, _, _, _⟩) (by go_simp) (fun W hW => (by go_simp <;> rfl)) (by go_simp <;> rfl) ?_
  refine qb_val (o := ⟨some 56, _, _, _, _, _⟩) (by go_simp) (fun W hW => (by go_simp <;> rfl)) (by go_simp <;> rfl) ?_
  refine qb_val (o := ⟨some 57, _, _, _, _, _⟩) (by go_simp) (fun W hW => (by go_simp <;> rfl)) (by go_simp <;> rfl) ?_
  refine qb_val (o := ⟨some 58, _, _, _, _, _⟩) (by go_simp) (fun W hW => (by go_simp <;> rfl)) (by go_simp <;> rfl) ?_
  refine qb_val (o := ⟨some 59, _, _, _, _, _⟩) (by go_simp) (fun W hW => (by go_simp <;> rfl)) (by go_simp <;> rfl) ?_
  refine qb_val (o := ⟨some 60, _, _, _, _, _⟩) (by go_simp) (fun W hW => (by go_simp <;> rfl)) (by go_simp <;> rfl) ?_
  refine qb_val (o := ⟨some 61, _, _, _, _, _⟩) (by go_simp) (fun W hW => (by go_simp <;> rfl)) (by go_simp <;> rfl) ?_
  refine qb_val (o := ⟨some 62, _, _, _, _, _⟩) (by go_simp) (fun W hW => (by go_simp <;> rfl)) (by go_simp <;> rfl) ?_
  refine qb_val (o := ⟨some 63, _, _, _, _, _⟩) (by go_simp) (fun W hW => (by go_simp <;> rfl)) (by go_simp <;> rfl) ?_
  refine qb_val (o := ⟨some 64, _, _, _, _, _⟩) (by go_simp) (fun W hW => (by go_simp <;> rfl)) (by go_simp <;> rfl) ?_
  refine qb_val (o := ⟨some 65, _, _, _, _, _⟩) (by go_simp) (fun W hW => (by go_simp <;> rfl)) (by go_simp <;> rfl) ?_
  refine qb_val (o := ⟨some 66, _, _, _, _, _⟩) (by go_simp) (fun W hW => (by go_simp <;> rfl)) (by go_simp <;> rfl) ?_
  refine qb_load (o := ⟨some 67, _, _, _, _, _⟩) flt (by go_simp) _ rfl rfl Xc.out (by go_simp <;> rfl) ?_
  refine qb_load (o := ⟨some 68, _, _, _, _, _⟩) flt (by go_simp) _ rfl rfl Xd.out (by go_simp <;> rfl) ?_
  refine qb_eql (o := ⟨some 69, _, _, _, _, _⟩) (by go_simp) rfl rfl rfl (fun W => eqr_flt _ _ _ HG.out _ _ W) (by go_simp <;> rfl) ?_
  refine qb_val (o := ⟨some 70, _, _, _, _, _⟩) (by go_simp) (fun W hW => (by go_simp <;> rfl)) (by go_simp <;> rfl) ?_
  refine qb_val (o := ⟨some 71, _, _, _, _, _⟩) (by go_simp) (fun W hW => (by go_simp <;> rfl)) (by go_simp <;> rfl) ?_
  refine qb_val (o := ⟨some 72, _, _, _, _, _⟩) (by go_simp) (fun W hW => (by go_simp <;> rfl)) (by go_simp <;> rfl) ?_
  refine qb_val (o := ⟨some 73, _, _, _, _, _⟩) (by go_simp) (fun W hW => (by go_simp <;> rfl)) (by go_simp <;> rfl) ?_
  refine qb_val (o := ⟨some 74, _, _, _, _, _⟩) (by go_simp) (fun W hW => (by go_simp <;> rfl)) (by go_simp <;> rfl) ?_
  refine qb_val (o := ⟨some 75, _, _, _, _, _⟩) (by go_simp) (fun W hW => (by go_simp <;> rfl)) (by go_simp <;> rfl) ?_
  refine qb_val (o := ⟨some 76, _, _, _, _, _⟩) (by go_simp) (fun W hW => (by go_simp <;> rfl)) (by go_simp <;> rfl) ?_
  refine qb_load (o := ⟨some 77, _, _, _, _, _⟩) flt (by go_simp) _ rfl rfl Xp.out (by go_simp <;> rfl) ?_
  refine qb_load (o := ⟨some 78, _, _, _, _, _⟩) flt (by go_simp) _ rfl rfl Xq.out (by go_simp <;> rfl) ?_
  refine qb_eql (o := ⟨some 79, _, _, _, _, _⟩) (by go_simp) rfl rfl rfl (fun W => eqr_flt _ _ _ HH.out _ _ W) (by go_simp <;> rfl) ?_
  refine qb_val (o := ⟨some 80, _, _, _, _, _⟩) (by go_simp) (fun W hW => (by go_simp <;> rfl)) (by go_simp <;> rfl) ?_
  refine qb_val (o := ⟨some 81, _, _, _, _, _⟩) (by go_simp) (fun W hW => (by go_simp <;> rfl)) (by go_simp <;> rfl) ?_
  refine qb_val (o := ⟨some 82, _, _, _, _, _⟩) (by go_simp) (fun W hW => (by go_simp <;> rfl)) (by go_simp <;> rfl) ?_
  refine qb_val (o := ⟨some 83, _, _, _, _, _⟩) (by go_simp) (fun W hW => (by go_simp <;> rfl)) (by go_simp <;> rfl) ?_
  refine qb_val (o := ⟨some 84, _, _, _, _, _⟩) (by go_simp) (fun W hW => (by go_simp <;> rfl)) (by go_simp <;> rfl) ?_
  refine qb_val (o := ⟨some 85, _, _, _, _, _⟩) (by go_simp) (fun W hW => (by go_simp <;> rfl)) (by go_simp <;> rfl) ?_
  refine qb_val (o := ⟨some 4, _, _, _, _, _⟩) (by go_simp) (fun W hW => (by go_simp <;> rfl)) (by go_simp <;> rfl) ?_
  refine wpQuiet_nil ?_
  intro w16 bel16
  have bel16 : Below w15.heap.size w15 w16 := bel16
  have Xf := Lib.hid (Xf.out.next bel16)
  have Xc := Lib.hid (Xc.out.next bel16)
  have Xd := Lib.hid (Xd.out.next bel16)
  have Xp := Lib.hid (Xp.out.next bel16)
  have Xq := Lib.hid (Xq.out.next bel16)
  have BB := Lib.hid (bel_next BB.out bel16)
  clear bel16
  go_wp2_with fail
  go_ret
  exact ⟨rfl, BB.out⟩
end Go.Proofs.Ytnhdhjcpbonfjaa

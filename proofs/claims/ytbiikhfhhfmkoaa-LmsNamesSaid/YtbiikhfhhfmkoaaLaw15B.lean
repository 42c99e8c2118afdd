/-
  The walks of LmsSteps and LmsSilence. Conditions: numbers within their types.
-/
import Derived.Test.YtbiikhfhhfmkoaaLaw15A
import Derived.Test.YtbiikhfhhfmkoaaRef15
namespace Go.Proofs.Ytbiikhfhhfmkoaa
open Go.RowKit
set_option linter.unusedVariables false

set_option maxRecDepth 100000 in
set_option maxHeartbeats 1000000 in
theorem steps_ok (sh : Int) (s : St) (x : Int) (w : World) (hv : VS s) (h : ckF sh = 0) (hx : G32 x) :
    Calls Try.prog 3 #[.agg (fA sh s.1 s.2), .int .i32 x] w fun e w' => e = .returned (.bool true) ∧ Below w.heap.size w w' := by
  have BB := Lib.hid (bel_self w)
  have hF := hv.1
  have C1 := Lib.hid (fun W => lforward_ok sh s x W hv h hx)
  have C2 := Lib.hid (fun W => refForward_ok sh s x W hv h hx)
  have C3 := Lib.hid (fun W => lback_ok sh s x W hv h hx)
  have C4 := Lib.hid (fun W => refBack_ok sh s x W hv h hx)
  have HN := Lib.hid (nF_v sh s x hv hx).1
  have HM := Lib.hid (nB_v sh s x hv).1
  have q1 : (oF sh s x == oF sh s x) = true := by simp
  have q2 : (oB sh s x == oB sh s x) = true := by simp
  generalize (nF sh s x).1 = n1 at *
  generalize (nF sh s x).2 = n2 at *
  generalize (nBk sh s x).1 = m1 at *
  generalize (nBk sh s x).2 = m2 at *
  generalize oF sh s x = y at *
  generalize oB sh s x = z at *
  clear h hv hx
  go_enter Try.func3, Try.ntmps3
  go_wp2_with (first
    | ((with_reducible refine flt_box (o := ⟨some 2, _, _, _, _, _⟩) flt rfl _ rfl rfl hF ?_); intro w1 bf hbf hBf bel1; have of := Nat.le_trans BB.out.size hbf; have BB := Lib.hid (bel_next BB.out bel1); have Xf := Lib.hid hBf; clear bel1 hBf hbf)
    | (with_reducible refine flt_load (o := ⟨some 18, _, _, _, _, _⟩) flt rfl _ rfl rfl Xf.out ?_))
  refine (C1.out _).mono ?_
  rintro e w2 ⟨rfl, bel2⟩
  have Xf := Lib.hid (Xf.out.next bel2)
  have BB := Lib.hid (bel_next BB.out bel2)
  clear bel2
  go_wp2_with (first
    | ((with_reducible refine flt_alloc (o := ⟨some 6, _, _, _, _, _⟩) flt rfl rfl ?_); intro w3 ba hba hBa bel3; have q_f_a : bf < ba := Nat.lt_of_lt_of_le Xf.out.lt hba; have oa := Nat.le_trans BB.out.size hba; have Xf := Lib.hid (Xf.out.next bel3); have BB := Lib.hid (bel_next BB.out bel3); have Xa := Lib.hid hBa; clear bel3 hBa hba)
    | ((with_reducible refine flt_store flt rfl (.tmp 6) (.tmp 22) rfl rfl rfl Xa.out HN.out ?_); intro w4 hB4 onl4; have Xf := Lib.hid (Xf.out.only (by omega) onl4); have BB := Lib.hid (onl4.bel oa BB.out); have Xa := Lib.hid hB4; clear onl4 hB4)
    | (with_reducible refine flt_load (o := ⟨some 25, _, _, _, _, _⟩) flt rfl _ rfl rfl Xf.out ?_))
  refine (C2.out _).mono ?_
  rintro e w5 ⟨rfl, bel5⟩
  have Xf := Lib.hid (Xf.out.next bel5)
  have Xa := Lib.hid (Xa.out.next bel5)
  have BB := Lib.hid (bel_next BB.out bel5)
  clear bel5
  go_wp2_with (first
    | ((with_reducible refine flt_alloc (o := ⟨some 9, _, _, _, _, _⟩) flt rfl rfl ?_); intro w6 bb hbb hBb bel6; have q_f_b : bf < bb := Nat.lt_of_lt_of_le Xf.out.lt hbb; have q_a_b : ba < bb := Nat.lt_of_lt_of_le Xa.out.lt hbb; have ob := Nat.le_trans BB.out.size hbb; have Xf := Lib.hid (Xf.out.next bel6); have Xa := Lib.hid (Xa.out.next bel6); have BB := Lib.hid (bel_next BB.out bel6); have Xb := Lib.hid hBb; clear bel6 hBb hbb)
    | ((with_reducible refine flt_store flt rfl (.tmp 9) (.tmp 29) rfl rfl rfl Xb.out HN.out ?_); intro w7 hB7 onl7; have Xf := Lib.hid (Xf.out.only (by omega) onl7); have Xa := Lib.hid (Xa.out.only (by omega) onl7); have BB := Lib.hid (onl7.bel ob BB.out); have Xb := Lib.hid hB7; clear onl7 hB7)
    | (with_reducible refine flt_load (o := ⟨some 32, _, _, _, _, _⟩) flt rfl _ rfl rfl Xf.out ?_))
  refine (C3.out _).mono ?_
  rintro e w8 ⟨rfl, bel8⟩
  have Xf := Lib.hid (Xf.out.next bel8)
  have Xa := Lib.hid (Xa.out.next bel8)
  have Xb := Lib.hid (Xb.out.next bel8)
  have BB := Lib.hid (bel_next BB.out bel8)
  clear bel8
  go_wp2_with (first
    | ((with_reducible refine flt_alloc (o := ⟨some 12, _, _, _, _, _⟩) flt rfl rfl ?_); intro w9 bc hbc hBc bel9; have q_f_c : bf < bc := Nat.lt_of_lt_of_le Xf.out.lt hbc; have q_a_c : ba < bc := Nat.lt_of_lt_of_le Xa.out.lt hbc; have q_b_c : bb < bc := Nat.lt_of_lt_of_le Xb.out.lt hbc; have oc := Nat.le_trans BB.out.size hbc; have Xf := Lib.hid (Xf.out.next bel9); have Xa := Lib.hid (Xa.out.next bel9); have Xb := Lib.hid (Xb.out.next bel9); have BB := Lib.hid (bel_next BB.out bel9); have Xc := Lib.hid hBc; clear bel9 hBc hbc)
    | ((with_reducible refine flt_store flt rfl (.tmp 12) (.tmp 36) rfl rfl rfl Xc.out HM.out ?_); intro w10 hB10 onl10; have Xf := Lib.hid (Xf.out.only (by omega) onl10); have Xa := Lib.hid (Xa.out.only (by omega) onl10); have Xb := Lib.hid (Xb.out.only (by omega) onl10); have BB := Lib.hid (onl10.bel oc BB.out); have Xc := Lib.hid hB10; clear onl10 hB10)
    | (with_reducible refine flt_load (o := ⟨some 39, _, _, _, _, _⟩) flt rfl _ rfl rfl Xf.out ?_))
  refine (C4.out _).mono ?_
  rintro e w11 ⟨rfl, bel11⟩
  have Xf := Lib.hid (Xf.out.next bel11)
  have Xa := Lib.hid (Xa.out.next bel11)
  have Xb := Lib.hid (Xb.out.next bel11)
  have Xc := Lib.hid (Xc.out.next bel11)
  have BB := Lib.hid (bel_next BB.out bel11)
  clear bel11
  go_wp2_with (first
    | ((with_reducible refine flt_alloc (o := ⟨some 15, _, _, _, _, _⟩) flt rfl rfl ?_); intro w12 bd hbd hBd bel12; have q_f_d : bf < bd := Nat.lt_of_lt_of_le Xf.out.lt hbd; have q_a_d : ba < bd := Nat.lt_of_lt_of_le Xa.out.lt hbd; have q_b_d : bb < bd := Nat.lt_of_lt_of_le Xb.out.lt hbd; have q_c_d : bc < bd := Nat.lt_of_lt_of_le Xc.out.lt hbd; have od := Nat.le_trans BB.out.size hbd; have Xf := Lib.hid (Xf.out.next bel12); have Xa := Lib.hid (Xa.out.next bel12); have Xb := Lib.hid (Xb.out.next bel12); have Xc := Lib.hid (Xc.out.next bel12); have BB := Lib.hid (bel_next BB.out bel12); have Xd := Lib.hid hBd; clear bel12 hBd hbd)
    | ((with_reducible refine flt_store flt rfl (.tmp 15) (.tmp 43) rfl rfl rfl Xd.out HM.out ?_); intro w13 hB13 onl13; have Xf := Lib.hid (Xf.out.only (by omega) onl13); have Xa := Lib.hid (Xa.out.only (by omega) onl13); have Xb := Lib.hid (Xb.out.only (by omega) onl13); have Xc := Lib.hid (Xc.out.only (by omega) onl13); have BB := Lib.hid (onl13.bel od BB.out); have Xd := Lib.hid hB13; clear onl13 hB13)
    | ((with_reducible refine wpl_guard (d := some 49) ?_ ?_); (next => go_simp); with_reducible refine flt_load (o := ⟨some 49, _, _, _, _, _⟩) flt rfl _ rfl rfl Xa.out ?_)
    | ((with_reducible refine wpl_guard (d := some 50) ?_ ?_); (next => go_simp); with_reducible refine flt_load (o := ⟨some 50, _, _, _, _, _⟩) flt rfl _ rfl rfl Xb.out ?_)
    | ((with_reducible refine wpl_guard (d := some 51) ?_ ?_); (next => go_simp); with_reducible refine wpl_eq (o := ⟨some 51, _, _, _, _, _⟩) (flt_eqs flt eqgF _ _ _ HN.out _ _ _) rfl rfl rfl rfl ?_)
    | ((with_reducible refine wpl_guard (d := some 64) ?_ ?_); (next => go_simp); with_reducible refine flt_load (o := ⟨some 64, _, _, _, _, _⟩) flt rfl _ rfl rfl Xc.out ?_)
    | ((with_reducible refine wpl_guard (d := some 65) ?_ ?_); (next => go_simp); with_reducible refine flt_load (o := ⟨some 65, _, _, _, _, _⟩) flt rfl _ rfl rfl Xd.out ?_)
    | ((with_reducible refine wpl_guard (d := some 66) ?_ ?_); (next => go_simp); with_reducible refine wpl_eq (o := ⟨some 66, _, _, _, _, _⟩) (flt_eqs flt eqgF _ _ _ HM.out _ _ _) rfl rfl rfl rfl ?_))
  go_ret
  exact ⟨rfl, BB.out⟩

set_option maxRecDepth 100000 in
set_option maxHeartbeats 1000000 in
theorem steps_bad (sh : Int) (s : St) (x : Int) (w : World) (hv : VS s) (h : ckF sh ≠ 0) :
    Calls Try.prog 3 #[.agg (fA sh s.1 s.2), .int .i32 x] w fun e w' => e = .returned (.bool true) ∧ Below w.heap.size w w' := by
  have BB := Lib.hid (bel_self w)
  have hF := hv.1
  have C1 := Lib.hid (fun W => lforward_bad sh s x W hv h)
  have C2 := Lib.hid (fun W => refForward_bad sh s x W hv h)
  have C3 := Lib.hid (fun W => lback_bad sh s x W hv h)
  have C4 := Lib.hid (fun W => refBack_bad sh s x W hv h)
  have HN := Lib.hid f16z
  have HM := Lib.hid f16z
  have q1 : (ckF sh == ckF sh) = true := by simp
  generalize ckF sh = ce at *
  clear h hv
  go_enter Try.func3, Try.ntmps3
  go_wp2_with (first
    | ((with_reducible refine flt_box (o := ⟨some 2, _, _, _, _, _⟩) flt rfl _ rfl rfl hF ?_); intro w1 bf hbf hBf bel1; have of := Nat.le_trans BB.out.size hbf; have BB := Lib.hid (bel_next BB.out bel1); have Xf := Lib.hid hBf; clear bel1 hBf hbf)
    | (with_reducible refine flt_load (o := ⟨some 18, _, _, _, _, _⟩) flt rfl _ rfl rfl Xf.out ?_))
  refine (C1.out _).mono ?_
  rintro e w2 ⟨rfl, bel2⟩
  have Xf := Lib.hid (Xf.out.next bel2)
  have BB := Lib.hid (bel_next BB.out bel2)
  clear bel2
  go_wp2_with (first
    | ((with_reducible refine flt_alloc (o := ⟨some 6, _, _, _, _, _⟩) flt rfl rfl ?_); intro w3 ba hba hBa bel3; have q_f_a : bf < ba := Nat.lt_of_lt_of_le Xf.out.lt hba; have oa := Nat.le_trans BB.out.size hba; have Xf := Lib.hid (Xf.out.next bel3); have BB := Lib.hid (bel_next BB.out bel3); have Xa := Lib.hid hBa; clear bel3 hBa hba)
    | ((with_reducible refine flt_store flt rfl (.tmp 6) (.tmp 22) rfl rfl rfl Xa.out HN.out ?_); intro w4 hB4 onl4; have Xf := Lib.hid (Xf.out.only (by omega) onl4); have BB := Lib.hid (onl4.bel oa BB.out); have Xa := Lib.hid hB4; clear onl4 hB4)
    | (with_reducible refine flt_load (o := ⟨some 25, _, _, _, _, _⟩) flt rfl _ rfl rfl Xf.out ?_))
  refine (C2.out _).mono ?_
  rintro e w5 ⟨rfl, bel5⟩
  have Xf := Lib.hid (Xf.out.next bel5)
  have Xa := Lib.hid (Xa.out.next bel5)
  have BB := Lib.hid (bel_next BB.out bel5)
  clear bel5
  go_wp2_with (first
    | ((with_reducible refine flt_alloc (o := ⟨some 9, _, _, _, _, _⟩) flt rfl rfl ?_); intro w6 bb hbb hBb bel6; have q_f_b : bf < bb := Nat.lt_of_lt_of_le Xf.out.lt hbb; have q_a_b : ba < bb := Nat.lt_of_lt_of_le Xa.out.lt hbb; have ob := Nat.le_trans BB.out.size hbb; have Xf := Lib.hid (Xf.out.next bel6); have Xa := Lib.hid (Xa.out.next bel6); have BB := Lib.hid (bel_next BB.out bel6); have Xb := Lib.hid hBb; clear bel6 hBb hbb)
    | ((with_reducible refine flt_store flt rfl (.tmp 9) (.tmp 29) rfl rfl rfl Xb.out HN.out ?_); intro w7 hB7 onl7; have Xf := Lib.hid (Xf.out.only (by omega) onl7); have Xa := Lib.hid (Xa.out.only (by omega) onl7); have BB := Lib.hid (onl7.bel ob BB.out); have Xb := Lib.hid hB7; clear onl7 hB7)
    | (with_reducible refine flt_load (o := ⟨some 32, _, _, _, _, _⟩) flt rfl _ rfl rfl Xf.out ?_))
  refine (C3.out _).mono ?_
  rintro e w8 ⟨rfl, bel8⟩
  have Xf := Lib.hid (Xf.out.next bel8)
  have Xa := Lib.hid (Xa.out.next bel8)
  have Xb := Lib.hid (Xb.out.next bel8)
  have BB := Lib.hid (bel_next BB.out bel8)
  clear bel8
  go_wp2_with (first
    | ((with_reducible refine flt_alloc (o := ⟨some 12, _, _, _, _, _⟩) flt rfl rfl ?_); intro w9 bc hbc hBc bel9; have q_f_c : bf < bc := Nat.lt_of_lt_of_le Xf.out.lt hbc; have q_a_c : ba < bc := Nat.lt_of_lt_of_le Xa.out.lt hbc; have q_b_c : bb < bc := Nat.lt_of_lt_of_le Xb.out.lt hbc; have oc := Nat.le_trans BB.out.size hbc; have Xf := Lib.hid (Xf.out.next bel9); have Xa := Lib.hid (Xa.out.next bel9); have Xb := Lib.hid (Xb.out.next bel9); have BB := Lib.hid (bel_next BB.out bel9); have Xc := Lib.hid hBc; clear bel9 hBc hbc)
    | ((with_reducible refine flt_store flt rfl (.tmp 12) (.tmp 36) rfl rfl rfl Xc.out HM.out ?_); intro w10 hB10 onl10; have Xf := Lib.hid (Xf.out.only (by omega) onl10); have Xa := Lib.hid (Xa.out.only (by omega) onl10); have Xb := Lib.hid (Xb.out.only (by omega) onl10); have BB := Lib.hid (onl10.bel oc BB.out); have Xc := Lib.hid hB10; clear onl10 hB10)
    | (with_reducible refine flt_load (o := ⟨some 39, _, _, _, _, _⟩) flt rfl _ rfl rfl Xf.out ?_))
  refine (C4.out _).mono ?_
  rintro e w11 ⟨rfl, bel11⟩
  have Xf := Lib.hid (Xf.out.next bel11)
  have Xa := Lib.hid (Xa.out.next bel11)
  have Xb := Lib.hid (Xb.out.next bel11)
  have Xc := Lib.hid (Xc.out.next bel11)
  have BB := Lib.hid (bel_next BB.out bel11)
  clear bel11
  go_wp2_with (first
    | ((with_reducible refine flt_alloc (o := ⟨some 15, _, _, _, _, _⟩) flt rfl rfl ?_); intro w12 bd hbd hBd bel12; have q_f_d : bf < bd := Nat.lt_of_lt_of_le Xf.out.lt hbd; have q_a_d : ba < bd := Nat.lt_of_lt_of_le Xa.out.lt hbd; have q_b_d : bb < bd := Nat.lt_of_lt_of_le Xb.out.lt hbd; have q_c_d : bc < bd := Nat.lt_of_lt_of_le Xc.out.lt hbd; have od := Nat.le_trans BB.out.size hbd; have Xf := Lib.hid (Xf.out.next bel12); have Xa := Lib.hid (Xa.out.next bel12); have Xb := Lib.hid (Xb.out.next bel12); have Xc := Lib.hid (Xc.out.next bel12); have BB := Lib.hid (bel_next BB.out bel12); have Xd := Lib.hid hBd; clear bel12 hBd hbd)
    | ((with_reducible refine flt_store flt rfl (.tmp 15) (.tmp 43) rfl rfl rfl Xd.out HM.out ?_); intro w13 hB13 onl13; have Xf := Lib.hid (Xf.out.only (by omega) onl13); have Xa := Lib.hid (Xa.out.only (by omega) onl13); have Xb := Lib.hid (Xb.out.only (by omega) onl13); have Xc := Lib.hid (Xc.out.only (by omega) onl13); have BB := Lib.hid (onl13.bel od BB.out); have Xd := Lib.hid hB13; clear onl13 hB13)
    | ((with_reducible refine wpl_guard (d := some 49) ?_ ?_); (next => go_simp); with_reducible refine flt_load (o := ⟨some 49, _, _, _, _, _⟩) flt rfl _ rfl rfl Xa.out ?_)
    | ((with_reducible refine wpl_guard (d := some 50) ?_ ?_); (next => go_simp); with_reducible refine flt_load (o := ⟨some 50, _, _, _, _, _⟩) flt rfl _ rfl rfl Xb.out ?_)
    | ((with_reducible refine wpl_guard (d := some 51) ?_ ?_); (next => go_simp); with_reducible refine wpl_eq (o := ⟨some 51, _, _, _, _, _⟩) (flt_eqs flt eqgF _ _ _ HN.out _ _ _) rfl rfl rfl rfl ?_)
    | ((with_reducible refine wpl_guard (d := some 64) ?_ ?_); (next => go_simp); with_reducible refine flt_load (o := ⟨some 64, _, _, _, _, _⟩) flt rfl _ rfl rfl Xc.out ?_)
    | ((with_reducible refine wpl_guard (d := some 65) ?_ ?_); (next => go_simp); with_reducible refine flt_load (o := ⟨some 65, _, _, _, _, _⟩) flt rfl _ rfl rfl Xd.out ?_)
    | ((with_reducible refine wpl_guard (d := some 66) ?_ ?_); (next => go_simp); with_reducible refine wpl_eq (o := ⟨some 66, _, _, _, _, _⟩) (flt_eqs flt eqgF _ _ _ HM.out _ _ _) rfl rfl rfl rfl ?_))
  go_ret
  exact ⟨rfl, BB.out⟩

theorem lmsSteps_walk (sh : Int) (ts ps : List Int) (x : Int) (w : World) (hF : F16 ts ps) (ht : I32 ts) (hp : I32 ps) (hb0 : -9223372036854775808 ≤ sh) (hb1 : sh ≤ 9223372036854775807) (hx0 : -2147483648 ≤ x) (hx1 : x ≤ 2147483647) :
    Calls Try.prog 3 #[.agg (fA sh ts ps), .int .i32 x] w fun e w' => e = .returned (.bool true) ∧ Below w.heap.size w w' := by
  by_cases h : ckF sh = 0
  · exact steps_ok sh (ts, ps) x w ⟨hF, ht, hp⟩ h ⟨hx0, hx1⟩
  · exact steps_bad sh (ts, ps) x w ⟨hF, ht, hp⟩ h

theorem sil_gs {sh : Int} (h : ckF sh = 0) (ts : List Int) : gsV sh ts z16 = 0 := by
  have e : ∀ k, k ≤ 16 → dotTo ts z16 k = 0 := by
    intro k
    induction k with
    | zero => intro _; rfl
    | succ k ih =>
      intro hk
      have e : z16.getD k 0 = 0 := by
        match k, hk with
        | 0, _ | 1, _ | 2, _ | 3, _ | 4, _ | 5, _ | 6, _ | 7, _ | 8, _ | 9, _ | 10, _ | 11, _ | 12, _ | 13, _ | 14, _ | 15, _ => rfl
        | k + 16, h => omega
      rw [dotTo, ih (by omega), e, Int.mul_zero]; rfl
  unfold gsV
  rw [e 16 (Nat.le_refl _)]
  rcases ckF_cases h with rfl | rfl <;> decide +kernel
theorem sil_o {sh : Int} (h : ckF sh = 0) (ts : List Int) : oF sh (ts, z16) 0 = 0 ∧ oB sh (ts, z16) 0 = 0 := by
  unfold oF oB; rw [sil_gs h]; decide +kernel
theorem sil_n {sh : Int} (h : ckF sh = 0) {ts : List Int} (hl : ts.length = 16) (ht : I32 ts) : nF sh (ts, z16) 0 = (ts, z16) ∧ nBk sh (ts, z16) 0 = (ts, z16) := by
  unfold nF nBk
  obtain ⟨h1, h2⟩ := sil_o h ts
  rw [h1, h2]
  simp only [lrn_zero hl ht, show psh z16 0 = z16 from rfl, and_self]
theorem runL_still {S : Type} {o : S → Int → Int} {n : S → Int → S} {s : S} (h1 : o s 0 = 0) (h2 : n s 0 = s) : ∀ k : Nat, runL o n s (List.replicate k 0) = List.replicate k 0 ∧ finL n s (List.replicate k 0) = s
  | 0 => ⟨rfl, rfl⟩
  | k + 1 => by
    obtain ⟨a, b⟩ := runL_still h1 h2 k
    rw [List.replicate_succ]
    refine ⟨by rw [runL, h1, h2, a], ?_⟩
    show finL n (n s 0) _ = _
    rw [h2, b]

set_option maxRecDepth 100000 in
set_option maxHeartbeats 1000000 in
theorem sil_bad (sh : Int) (ts ps : List Int) (n : Int) (w : World) (hF : F16 ts ps) (h : ckF sh ≠ 0 ∨ n < 0 ∨ 100 < n) :
    Calls Try.prog 9 #[.agg (fA sh ts ps), .int .i64 n] w fun e w' => e = .returned (.bool true) ∧ Below w.heap.size w w' := by
  have BB := Lib.hid (bel_self w)
  have CK := Lib.hid (fun W => recheck_any sh ts ps W hF)
  by_cases h0 : ckF sh = 0
  · rw [h0] at CK
    have hn : n < 0 ∨ 100 < n := h.resolve_left (fun hh => hh h0)
    by_cases h1 : n < 0
    · have d1 : decide (n < 0) = true := by simp; omega
      clear h h0
      go_enter Try.func9, Try.ntmps9
      go_wp2_with (first
        | ((with_reducible refine flt_box (o := ⟨some 2, _, _, _, _, _⟩) flt rfl _ rfl rfl hF ?_); intro w1 bf hbf hBf bel1; have of := Nat.le_trans BB.out.size hbf; have BB := Lib.hid (bel_next BB.out bel1); have Xf := Lib.hid hBf; clear bel1 hBf hbf))
      refine (alive_any _).mono ?_
      rintro e w2 ⟨rfl, bel2⟩
      have Xf := Lib.hid (Xf.out.next bel2)
      have BB := Lib.hid (bel_next BB.out bel2)
      clear bel2
      go_wp2_with (first
        | (with_reducible refine flt_load (o := ⟨some 14, _, _, _, _, _⟩) flt rfl _ rfl rfl Xf.out ?_))
      refine (CK.out _).mono ?_
      rintro e w3 ⟨rfl, bel3⟩
      have Xf := Lib.hid (Xf.out.next bel3)
      have BB := Lib.hid (bel_next BB.out bel3)
      clear bel3
      go_wp2_with fail
      go_ret
      exact ⟨rfl, BB.out⟩
    · have d1 : decide (n < 0) = false := by simp; omega
      have d2 : decide (100 < n) = true := by simp; omega
      clear h h0
      go_enter Try.func9, Try.ntmps9
      go_wp2_with (first
        | ((with_reducible refine flt_box (o := ⟨some 2, _, _, _, _, _⟩) flt rfl _ rfl rfl hF ?_); intro w1 bf hbf hBf bel1; have of := Nat.le_trans BB.out.size hbf; have BB := Lib.hid (bel_next BB.out bel1); have Xf := Lib.hid hBf; clear bel1 hBf hbf))
      refine (alive_any _).mono ?_
      rintro e w2 ⟨rfl, bel2⟩
      have Xf := Lib.hid (Xf.out.next bel2)
      have BB := Lib.hid (bel_next BB.out bel2)
      clear bel2
      go_wp2_with (first
        | (with_reducible refine flt_load (o := ⟨some 14, _, _, _, _, _⟩) flt rfl _ rfl rfl Xf.out ?_))
      refine (CK.out _).mono ?_
      rintro e w3 ⟨rfl, bel3⟩
      have Xf := Lib.hid (Xf.out.next bel3)
      have BB := Lib.hid (bel_next BB.out bel3)
      clear bel3
      go_wp2_with fail
      go_ret
      exact ⟨rfl, BB.out⟩
  · have hq : (ckF sh != 0) = true := by simp [h0]
    generalize ckF sh = ce at *
    clear h h0
    go_enter Try.func9, Try.ntmps9
    go_wp2_with (first
      | ((with_reducible refine flt_box (o := ⟨some 2, _, _, _, _, _⟩) flt rfl _ rfl rfl hF ?_); intro w1 bf hbf hBf bel1; have of := Nat.le_trans BB.out.size hbf; have BB := Lib.hid (bel_next BB.out bel1); have Xf := Lib.hid hBf; clear bel1 hBf hbf))
    refine (alive_any _).mono ?_
    rintro e w2 ⟨rfl, bel2⟩
    have Xf := Lib.hid (Xf.out.next bel2)
    have BB := Lib.hid (bel_next BB.out bel2)
    clear bel2
    go_wp2_with (first
      | (with_reducible refine flt_load (o := ⟨some 14, _, _, _, _, _⟩) flt rfl _ rfl rfl Xf.out ?_))
    refine (CK.out _).mono ?_
    rintro e w3 ⟨rfl, bel3⟩
    have Xf := Lib.hid (Xf.out.next bel3)
    have BB := Lib.hid (bel_next BB.out bel3)
    clear bel3
    go_wp2_with fail
    go_ret
    exact ⟨rfl, BB.out⟩
set_option maxRecDepth 100000 in
set_option maxHeartbeats 1000000 in
theorem sil_ok (sh : Int) (ts ps : List Int) (m : Nat) (w : World) (hF : F16 ts ps) (ht : I32 ts) (h : ckF sh = 0) (hm : m ≤ 100) :
    Calls Try.prog 9 #[.agg (fA sh ts ps), .int .i64 (m : Int)] w fun e w' => e = .returned (.bool true) ∧ Below w.heap.size w w' := by
  have BB := Lib.hid (bel_self w)
  have CK := Lib.hid (fun W => recheck_any sh ts ps W hF)
  rw [h] at CK
  have hv : VS (ts, z16) := ⟨f16 hF.1 rfl, ht, s0_v.2.2⟩
  have hz : I32 (List.replicate m 0) := fun y hy => by rw [List.eq_of_mem_replicate hy]; decide
  obtain ⟨o1, o2⟩ := sil_o h ts
  obtain ⟨n1, n2⟩ := sil_n h hF.1 ht
  obtain ⟨r1, r2⟩ := runL_still o1 n1 m
  obtain ⟨r3, r4⟩ := runL_still o2 n2 m
  have C1 := Lib.hid (fun A W (hh : Sl W W.heap.size .i32 A (List.replicate m 0)) => lAll_ok sh (ts, z16) A m m (List.replicate m 0) W (by simp) hv h (by omega) hz hh)
  rw [r1, r2] at C1
  have C2 := Lib.hid (fun A W (hh : Sl W W.heap.size .i32 A (List.replicate m 0)) => lUndo_ok sh (ts, z16) A m m (List.replicate m 0) W (by simp) hv h (by omega) hz hh)
  rw [r3, r4] at C2
  have HG := Lib.hid hv.1
  have d1 : decide ((m : Int) < 0) = false := by simp
  have d2 : decide ((100 : Int) < (m : Int)) = false := by simp; omega
  have mk : ∀ W, (Instr.makeSlice 31 (.int .i64 m) (.int .i64 m)).run Try.prog W = .ok (.slice (some ⟨W.heap.size, 0, none⟩) m m) (W.alloc (.cells (zerosA .i32 m) 21)) := run_make_ints elI32 m rfl (by omega) (by omega)
  have LR := Lib.hid (show (List.replicate m (0 : Int)).length = m by simp)
  clear h hv hz o1 o2 n1 n2 r1 r2 r3 r4 ht
  go_enter Try.func9, Try.ntmps9
  go_wp2_with (first
    | ((with_reducible refine flt_box (o := ⟨some 2, _, _, _, _, _⟩) flt rfl _ rfl rfl hF ?_); intro w1 bf hbf hBf bel1; have of := Nat.le_trans BB.out.size hbf; have BB := Lib.hid (bel_next BB.out bel1); have Xf := Lib.hid hBf; clear bel1 hBf hbf))
  refine (alive_any _).mono ?_
  rintro e w2 ⟨rfl, bel2⟩
  have Xf := Lib.hid (Xf.out.next bel2)
  have BB := Lib.hid (bel_next BB.out bel2)
  clear bel2
  go_wp2_with (first
    | (with_reducible refine flt_load (o := ⟨some 14, _, _, _, _, _⟩) flt rfl _ rfl rfl Xf.out ?_))
  refine (CK.out _).mono ?_
  rintro e w3 ⟨rfl, bel3⟩
  have Xf := Lib.hid (Xf.out.next bel3)
  have BB := Lib.hid (bel_next BB.out bel3)
  clear bel3
  go_wp2_with (first
    | (with_reducible refine arr_bld0 (o := ⟨some 30, _, _, _, _, _⟩) flt rfl rfl ?_)
    | ((with_reducible refine flt_storeP flt rfl (.tmp 31) (.tmp 30) rfl rfl rfl Xf.out z16_len ?_); intro w4 hB4 onl4; have BB := Lib.hid (onl4.bel of BB.out); have Xf := Lib.hid hB4; have WZ := Lib.hid (Sl.zeros' w4 .i32 21 m); have WB := Lib.hid (bel_up (bel_self w4) (.cells (zerosA .i32 m) 21)); have Xf := Lib.hid (Xf.out.next WB.out); have BB := Lib.hid (bel_next BB.out WB.out); generalize hW : w4.alloc (.cells (zerosA .i32 m) 21) = w5 at *; clear onl4 hB4)
    | (with_reducible refine flt_load (o := ⟨some 35, _, _, _, _, _⟩) flt rfl _ rfl rfl Xf.out ?_))
  have SZ := Lib.hid (SA.of WZ.out)
  clear WZ WB hW mk
  go_wp2_with fail
  refine (C1.out _ _ SZ.out.sl).mono ?_
  rintro e w6 ⟨v6, rfl, own6, bel6⟩
  obtain ⟨Aa, ca, rfl, hca, hma, sl6⟩ := own6.sln (LR.out)
  have Sa := Lib.hid (SA.of sl6)
  have Xf := Lib.hid (Xf.out.next bel6)
  have SZ := Lib.hid (SZ.out.next bel6)
  have BB := Lib.hid (bel_next BB.out bel6)
  clear own6 bel6 sl6
  go_wp2_with (first
    | ((with_reducible refine flt_alloc (o := ⟨some 8, _, _, _, _, _⟩) flt rfl rfl ?_); intro w7 bn hbn hBn bel7; have q_f_n : bf < bn := Nat.lt_of_lt_of_le Xf.out.lt hbn; have q_SZ_n := Nat.le_trans SZ.out.2 hbn; have q_Sa_n := Nat.le_trans Sa.out.2 hbn; have on := Nat.le_trans BB.out.size hbn; have Xf := Lib.hid (Xf.out.next bel7); have SZ := Lib.hid (SZ.out.next bel7); have Sa := Lib.hid (Sa.out.next bel7); have BB := Lib.hid (bel_next BB.out bel7); have Xn := Lib.hid hBn; clear bel7 hBn hbn)
    | ((with_reducible refine flt_store flt rfl (.tmp 8) (.tmp 39) rfl rfl rfl Xn.out HG.out ?_); intro w8 hB8 onl8; have Xf := Lib.hid (Xf.out.only (by omega) onl8); have SZ := Lib.hid (SZ.out.only (by omega) onl8); have Sa := Lib.hid (Sa.out.only (by omega) onl8); have BB := Lib.hid (onl8.bel on BB.out); have Xn := Lib.hid hB8; clear onl8 hB8)
    | (with_reducible refine flt_load (o := ⟨some 42, _, _, _, _, _⟩) flt rfl _ rfl rfl Xf.out ?_))
  refine (C2.out _ _ SZ.out.sl).mono ?_
  rintro e w9 ⟨v9, rfl, own9, bel9⟩
  obtain ⟨Ab, cb, rfl, hcb, hmb, sl9⟩ := own9.sln (LR.out)
  have Sb := Lib.hid (SA.of sl9)
  have Xf := Lib.hid (Xf.out.next bel9)
  have SZ := Lib.hid (SZ.out.next bel9)
  have Sa := Lib.hid (Sa.out.next bel9)
  have Xn := Lib.hid (Xn.out.next bel9)
  have BB := Lib.hid (bel_next BB.out bel9)
  clear own9 bel9 sl9
  go_wp2_with (first
    | ((with_reducible refine flt_alloc (o := ⟨some 11, _, _, _, _, _⟩) flt rfl rfl ?_); intro w10 bm hbm hBm bel10; have q_f_m : bf < bm := Nat.lt_of_lt_of_le Xf.out.lt hbm; have q_n_m : bn < bm := Nat.lt_of_lt_of_le Xn.out.lt hbm; have q_SZ_m := Nat.le_trans SZ.out.2 hbm; have q_Sa_m := Nat.le_trans Sa.out.2 hbm; have q_Sb_m := Nat.le_trans Sb.out.2 hbm; have om := Nat.le_trans BB.out.size hbm; have Xf := Lib.hid (Xf.out.next bel10); have SZ := Lib.hid (SZ.out.next bel10); have Sa := Lib.hid (Sa.out.next bel10); have Xn := Lib.hid (Xn.out.next bel10); have Sb := Lib.hid (Sb.out.next bel10); have BB := Lib.hid (bel_next BB.out bel10); have Xm := Lib.hid hBm; clear bel10 hBm hbm)
    | ((with_reducible refine flt_store flt rfl (.tmp 11) (.tmp 46) rfl rfl rfl Xm.out HG.out ?_); intro w11 hB11 onl11; have Xf := Lib.hid (Xf.out.only (by omega) onl11); have SZ := Lib.hid (SZ.out.only (by omega) onl11); have Sa := Lib.hid (Sa.out.only (by omega) onl11); have Xn := Lib.hid (Xn.out.only (by omega) onl11); have Sb := Lib.hid (Sb.out.only (by omega) onl11); have BB := Lib.hid (onl11.bel om BB.out); have Xm := Lib.hid hB11; clear onl11 hB11))
  refine (same13 Aa _ _ _ ca m (List.replicate m 0) _ LR.out LR.out (by rw [LR.out]; omega) Sa.out.sl SZ.out.sl).mono ?_
  rintro e w12 ⟨rfl, bel12⟩
  have Xf := Lib.hid (Xf.out.next bel12)
  have SZ := Lib.hid (SZ.out.next bel12)
  have Sa := Lib.hid (Sa.out.next bel12)
  have Xn := Lib.hid (Xn.out.next bel12)
  have Sb := Lib.hid (Sb.out.next bel12)
  have Xm := Lib.hid (Xm.out.next bel12)
  have BB := Lib.hid (bel_next BB.out bel12)
  clear bel12
  go_wp2_with fail
  refine (same13 Ab _ _ _ cb m (List.replicate m 0) _ LR.out LR.out (by rw [LR.out]; omega) Sb.out.sl SZ.out.sl).mono ?_
  rintro e w13 ⟨rfl, bel13⟩
  have Xf := Lib.hid (Xf.out.next bel13)
  have SZ := Lib.hid (SZ.out.next bel13)
  have Sa := Lib.hid (Sa.out.next bel13)
  have Xn := Lib.hid (Xn.out.next bel13)
  have Sb := Lib.hid (Sb.out.next bel13)
  have Xm := Lib.hid (Xm.out.next bel13)
  have BB := Lib.hid (bel_next BB.out bel13)
  clear bel13
  go_wp2_with (first
    | ((with_reducible refine wpl_guard (d := some 68) ?_ ?_); (next => go_simp); with_reducible refine flt_load (o := ⟨some 68, _, _, _, _, _⟩) flt rfl _ rfl rfl Xn.out ?_)
    | ((with_reducible refine wpl_guard (d := some 69) ?_ ?_); (next => go_simp); with_reducible refine flt_load (o := ⟨some 69, _, _, _, _, _⟩) flt rfl _ rfl rfl Xf.out ?_)
    | ((with_reducible refine wpl_guard (d := some 70) ?_ ?_); (next => go_simp); with_reducible refine wpl_eq (o := ⟨some 70, _, _, _, _, _⟩) (flt_eqs flt eqgF _ _ _ HG.out _ _ _) rfl rfl rfl rfl ?_)
    | ((with_reducible refine wpl_guard (d := some 73) ?_ ?_); (next => go_simp); with_reducible refine flt_load (o := ⟨some 73, _, _, _, _, _⟩) flt rfl _ rfl rfl Xm.out ?_)
    | ((with_reducible refine wpl_guard (d := some 74) ?_ ?_); (next => go_simp); with_reducible refine flt_load (o := ⟨some 74, _, _, _, _, _⟩) flt rfl _ rfl rfl Xf.out ?_)
    | ((with_reducible refine wpl_guard (d := some 75) ?_ ?_); (next => go_simp); with_reducible refine wpl_eq (o := ⟨some 75, _, _, _, _, _⟩) (flt_eqs flt eqgF _ _ _ HG.out _ _ _) rfl rfl rfl rfl ?_))
  go_ret
  exact ⟨rfl, BB.out⟩
theorem lmsSilence_walk (sh : Int) (ts ps : List Int) (n : Int) (w : World) (hF : F16 ts ps) (ht : I32 ts) (hp : I32 ps) (hb0 : -9223372036854775808 ≤ sh) (hb1 : sh ≤ 9223372036854775807) (hn0 : -9223372036854775808 ≤ n) (hn1 : n ≤ 9223372036854775807) :
    Calls Try.prog 9 #[.agg (fA sh ts ps), .int .i64 n] w fun e w' => e = .returned (.bool true) ∧ Below w.heap.size w w' := by
  by_cases h : ckF sh ≠ 0 ∨ n < 0 ∨ 100 < n
  · exact sil_bad sh ts ps n w hF h
  · have h1 : ckF sh = 0 := by
      refine Decidable.by_contra fun h2 => h (.inl h2)
    obtain ⟨m, rfl⟩ := Int.eq_ofNat_of_zero_le (show 0 ≤ n by omega)
    exact sil_ok sh ts ps m w hF ht h1 (by omega)
end Go.Proofs.Ytbiikhfhhfmkoaa

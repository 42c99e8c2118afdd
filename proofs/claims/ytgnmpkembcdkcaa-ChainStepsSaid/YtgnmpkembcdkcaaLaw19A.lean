/-
  The walk of ChainSteps. Conditions: numbers within their types.
-/
import Derived.Test.YtgnmpkembcdkcaaChRef2
import Derived.Test.YtgnmpkembcdkcaaQuietC
namespace Go.Proofs.Ytgnmpkembcdkcaa
open Go.RowKit
set_option linter.unusedVariables false

/-- what New gives -/
def nwB (b : Int) : Int := if nwE b = 0 then b else 0
def nwH (b : Int) : Int := if nwE b = 0 then nwS b else 0
def nwT (b : Int) (ts : List Int) : List Int := if nwE b = 0 then ts else z16
theorem cnew_any (b : Int) (ts : List Int) (w : World) (hF : ts.length = 16) :
    Calls Try.prog 10 #[.int .i64 b, .agg (aA ts)] w fun e w' => e = .returned (.tuple #[.agg (cA (nwB b) 0 (nwH b) (nwT b ts) z16), .int .i64 (nwE b)]) ∧ Below w.heap.size w w' := by
  unfold nwB nwH nwT
  by_cases h : nwE b = 0
  · rw [if_pos h, if_pos h, if_pos h, h]; exact cnew_ok b ts w hF h
  · rw [if_neg h, if_neg h, if_neg h, (nwE_bad h).1]; exact cnew_bad b ts w hF h
theorem crenew_any (b : Int) (ts : List Int) (w : World) (hF : ts.length = 16) :
    Calls Try.prog 11 #[.int .i64 b, .agg (aA ts)] w fun e w' => e = .returned (.tuple #[.agg (cA (nwB b) 0 (nwH b) (nwT b ts) z16), .int .i64 (nwE b)]) ∧ Below w.heap.size w w' := by
  unfold nwB nwH nwT
  by_cases h : nwE b = 0
  · rw [if_pos h, if_pos h, if_pos h, h]; exact crenew_ok b ts w hF h
  · rw [if_neg h, if_neg h, if_neg h, (nwE_bad h).1]; exact crenew_bad b ts w hF h
theorem nwT_len {b : Int} {ts : List Int} (h : ts.length = 16) : (nwT b ts).length = 16 := by unfold nwT; split; exact h; rfl

/-- a step's results, whatever the channel -/
structure StepR (f : FuncId) (bt sh la x : Int) (ts ps : List Int) (y b' l' s' E : Int) (t' p' : List Int) : Prop where
  run : ∀ W, Calls Try.prog f #[.agg (cA bt la sh ts ps), .int .i32 x] W fun e w' => e = .returned (.tuple #[.int .i32 y, .agg (cA b' l' s' t' p'), .int .i64 E]) ∧ Below W.heap.size W w'
theorem steps_any (bt sh la x : Int) (ts ps : List Int) (hF : F16 ts ps) (ht : I32 ts) (hp : I32 ps) (hb0 : -9223372036854775808 ≤ bt) (hb1 : bt ≤ 9223372036854775807) (hl : G32 la) (hx : G32 x) :
    (∃ y b' l' s' E t' p', F16 t' p' ∧ StepR 12 bt sh la x ts ps y b' l' s' E t' p' ∧ StepR 13 bt sh la x ts ps y b' l' s' E t' p') ∧
    (∃ y b' l' s' E t' p', F16 t' p' ∧ StepR 14 bt sh la x ts ps y b' l' s' E t' p' ∧ StepR 15 bt sh la x ts ps y b' l' s' E t' p') := by
  by_cases h : cnC bt sh = 0
  · have hv : VC (la, ts, ps) := ⟨hl, hF, ht, hp⟩
    exact ⟨⟨_, _, _, _, _, _, _, (cN_v bt sh _ x hv hx).2.1, ⟨fun W => cforward_ok bt sh (la, ts, ps) x W hv h hb0 hb1 hx⟩, ⟨fun W => crefForward_ok bt sh (la, ts, ps) x W hv h hx⟩⟩,
      ⟨_, _, _, _, _, _, _, (cM_v bt sh _ x hv).2.1, ⟨fun W => cback_ok bt sh (la, ts, ps) x W hv h hb0 hb1 hx⟩, ⟨fun W => crefBack_ok bt sh (la, ts, ps) x W hv h hx⟩⟩⟩
  · exact ⟨⟨_, _, _, _, _, _, _, f16z, ⟨fun W => cforward_bad bt la sh x ts ps W hF h⟩, ⟨fun W => crefForward_bad bt la sh x ts ps W hF h⟩⟩,
      ⟨_, _, _, _, _, _, _, f16z, ⟨fun W => cback_bad bt la sh x ts ps W hF h⟩, ⟨fun W => crefBack_bad bt la sh x ts ps W hF h⟩⟩⟩

set_option maxRecDepth 100000 in
set_option maxHeartbeats 4000000 in
theorem chainSteps_walk (b bt la sh : Int) (ts ps : List Int) (x : Int) (w : World) (hn0 : -9223372036854775808 ≤ b) (hn1 : b ≤ 9223372036854775807) (hF : F16 ts ps) (ht : I32 ts) (hp : I32 ps) (hs0 : -9223372036854775808 ≤ sh) (hs1 : sh ≤ 9223372036854775807) (hb0 : -9223372036854775808 ≤ bt) (hb1 : bt ≤ 9223372036854775807)
    (hl0 : -2147483648 ≤ la) (hl1 : la ≤ 2147483647) (hx0 : -2147483648 ≤ x) (hx1 : x ≤ 2147483647) :
    Calls Try.prog 3 #[.int .i64 b, .agg (cA bt la sh ts ps), .int .i32 x] w fun e w' => e = .returned (.bool true) ∧ Below w.heap.size w w' := by
  have BB := Lib.hid (bel_self w)
  obtain ⟨⟨y, b1, l1, s1, E1, t1, p1, F1, R1, R2⟩, ⟨z, b2, l2, s2, E2, t2, p2, F2, R3, R4⟩⟩ := steps_any bt sh la x ts ps hF ht hp hb0 hb1 ⟨hl0, hl1⟩ ⟨hx0, hx1⟩
  have C1 := Lib.hid (fun W => cnew_any b ts W hF.1)
  have C2 := Lib.hid (fun W => crenew_any b ts W hF.1)
  have C3 := Lib.hid R1.run
  have C4 := Lib.hid R2.run
  have C5 := Lib.hid R3.run
  have C6 := Lib.hid R4.run
  have C7 := Lib.hid (fun W => ccheck_any bt la sh ts ps W hF)
  have C8 := Lib.hid (fun W => crecheck_any bt la sh ts ps W hF)
  have F0 := Lib.hid (f16 (nwT_len (b := b) hF.1) z16_len)
  have F1 := Lib.hid F1
  have F2 := Lib.hid F2
  have e1 : (nwE b == nwE b) = true := by simp
  have e2 : (cnC bt sh == cnC bt sh) = true := by simp
  have e3 : (y == y) = true := by simp
  have e4 : (E1 == E1) = true := by simp
  have e5 : (z == z) = true := by simp
  have e6 : (E2 == E2) = true := by simp
  generalize nwB b = nb at *
  generalize nwH b = nh at *
  generalize nwT b ts = nt at *
  generalize nwE b = ne at *
  generalize cnC bt sh = ck at *
  clear R1 R2 R3 R4 ht hp hl0 hl1 hx0 hx1
  go_enter Try.func3, Try.ntmps3
  go_wp2_with (first
    | ((with_reducible refine chn_box (o := ⟨some 4, _, _, _, _, _⟩) chn rfl _ rfl rfl hF ?_); intro w1 bc hbc hBc bel1; have oc := Nat.le_trans BB.out.size hbc; have BB := Lib.hid (bel_next BB.out bel1); have Xc := Lib.hid hBc; clear bel1 hBc hbc)
    | (with_reducible refine chn_loadT (o := ⟨some 27, _, _, _, _, _⟩) chn rfl _ rfl rfl Xc.out ?_))
  refine (C1.out _).mono ?_
  rintro e w2 ⟨rfl, bel2⟩
  have Xc := Lib.hid (Xc.out.next bel2)
  have BB := Lib.hid (bel_next BB.out bel2)
  clear bel2
  go_wp2_with (first
    | ((with_reducible refine chn_alloc (o := ⟨some 7, _, _, _, _, _⟩) chn rfl rfl ?_); intro w3 bn hbn hBn bel3; have q_c_n : bc < bn := Nat.lt_of_lt_of_le Xc.out.lt hbn; have on := Nat.le_trans BB.out.size hbn; have Xc := Lib.hid (Xc.out.next bel3); have BB := Lib.hid (bel_next BB.out bel3); have Xn := Lib.hid hBn; clear bel3 hBn hbn)
    | ((with_reducible refine chn_store chn rfl (.tmp 7) (.tmp 29) rfl rfl rfl Xn.out F0.out ?_); intro w4 hB4 onl4; have Xc := Lib.hid (Xc.out.only (by omega) onl4); have BB := Lib.hid (onl4.bel on BB.out); have Xn := Lib.hid hB4; clear onl4 hB4)
    | (with_reducible refine chn_loadT (o := ⟨some 35, _, _, _, _, _⟩) chn rfl _ rfl rfl Xc.out ?_))
  refine (C2.out _).mono ?_
  rintro e w5 ⟨rfl, bel5⟩
  have Xc := Lib.hid (Xc.out.next bel5)
  have Xn := Lib.hid (Xn.out.next bel5)
  have BB := Lib.hid (bel_next BB.out bel5)
  clear bel5
  go_wp2_with (first
    | ((with_reducible refine chn_alloc (o := ⟨some 9, _, _, _, _, _⟩) chn rfl rfl ?_); intro w6 bm hbm hBm bel6; have q_c_m : bc < bm := Nat.lt_of_lt_of_le Xc.out.lt hbm; have q_n_m : bn < bm := Nat.lt_of_lt_of_le Xn.out.lt hbm; have om := Nat.le_trans BB.out.size hbm; have Xc := Lib.hid (Xc.out.next bel6); have Xn := Lib.hid (Xn.out.next bel6); have BB := Lib.hid (bel_next BB.out bel6); have Xm := Lib.hid hBm; clear bel6 hBm hbm)
    | ((with_reducible refine chn_store chn rfl (.tmp 9) (.tmp 37) rfl rfl rfl Xm.out F0.out ?_); intro w7 hB7 onl7; have Xc := Lib.hid (Xc.out.only (by omega) onl7); have Xn := Lib.hid (Xn.out.only (by omega) onl7); have BB := Lib.hid (onl7.bel om BB.out); have Xm := Lib.hid hB7; clear onl7 hB7)
    | (with_reducible refine chn_load (o := ⟨some 40, _, _, _, _, _⟩) chn rfl _ rfl rfl Xc.out ?_))
  refine (C3.out _).mono ?_
  rintro e w8 ⟨rfl, bel8⟩
  have Xc := Lib.hid (Xc.out.next bel8)
  have Xn := Lib.hid (Xn.out.next bel8)
  have Xm := Lib.hid (Xm.out.next bel8)
  have BB := Lib.hid (bel_next BB.out bel8)
  clear bel8
  go_wp2_with (first
    | ((with_reducible refine chn_alloc (o := ⟨some 12, _, _, _, _, _⟩) chn rfl rfl ?_); intro w9 bp hbp hBp bel9; have q_c_p : bc < bp := Nat.lt_of_lt_of_le Xc.out.lt hbp; have q_n_p : bn < bp := Nat.lt_of_lt_of_le Xn.out.lt hbp; have q_m_p : bm < bp := Nat.lt_of_lt_of_le Xm.out.lt hbp; have op := Nat.le_trans BB.out.size hbp; have Xc := Lib.hid (Xc.out.next bel9); have Xn := Lib.hid (Xn.out.next bel9); have Xm := Lib.hid (Xm.out.next bel9); have BB := Lib.hid (bel_next BB.out bel9); have Xp := Lib.hid hBp; clear bel9 hBp hbp)
    | ((with_reducible refine chn_store chn rfl (.tmp 12) (.tmp 44) rfl rfl rfl Xp.out F1.out ?_); intro w10 hB10 onl10; have Xc := Lib.hid (Xc.out.only (by omega) onl10); have Xn := Lib.hid (Xn.out.only (by omega) onl10); have Xm := Lib.hid (Xm.out.only (by omega) onl10); have BB := Lib.hid (onl10.bel op BB.out); have Xp := Lib.hid hB10; clear onl10 hB10)
    | (with_reducible refine chn_load (o := ⟨some 47, _, _, _, _, _⟩) chn rfl _ rfl rfl Xc.out ?_))
  refine (C4.out _).mono ?_
  rintro e w11 ⟨rfl, bel11⟩
  have Xc := Lib.hid (Xc.out.next bel11)
  have Xn := Lib.hid (Xn.out.next bel11)
  have Xm := Lib.hid (Xm.out.next bel11)
  have Xp := Lib.hid (Xp.out.next bel11)
  have BB := Lib.hid (bel_next BB.out bel11)
  clear bel11
  go_wp2_with (first
    | ((with_reducible refine chn_alloc (o := ⟨some 15, _, _, _, _, _⟩) chn rfl rfl ?_); intro w12 bq hbq hBq bel12; have q_c_q : bc < bq := Nat.lt_of_lt_of_le Xc.out.lt hbq; have q_n_q : bn < bq := Nat.lt_of_lt_of_le Xn.out.lt hbq; have q_m_q : bm < bq := Nat.lt_of_lt_of_le Xm.out.lt hbq; have q_p_q : bp < bq := Nat.lt_of_lt_of_le Xp.out.lt hbq; have oq := Nat.le_trans BB.out.size hbq; have Xc := Lib.hid (Xc.out.next bel12); have Xn := Lib.hid (Xn.out.next bel12); have Xm := Lib.hid (Xm.out.next bel12); have Xp := Lib.hid (Xp.out.next bel12); have BB := Lib.hid (bel_next BB.out bel12); have Xq := Lib.hid hBq; clear bel12 hBq hbq)
    | ((with_reducible refine chn_store chn rfl (.tmp 15) (.tmp 51) rfl rfl rfl Xq.out F1.out ?_); intro w13 hB13 onl13; have Xc := Lib.hid (Xc.out.only (by omega) onl13); have Xn := Lib.hid (Xn.out.only (by omega) onl13); have Xm := Lib.hid (Xm.out.only (by omega) onl13); have Xp := Lib.hid (Xp.out.only (by omega) onl13); have BB := Lib.hid (onl13.bel oq BB.out); have Xq := Lib.hid hB13; clear onl13 hB13)
    | (with_reducible refine chn_load (o := ⟨some 54, _, _, _, _, _⟩) chn rfl _ rfl rfl Xc.out ?_))
  refine (C5.out _).mono ?_
  rintro e w14 ⟨rfl, bel14⟩
  have Xc := Lib.hid (Xc.out.next bel14)
  have Xn := Lib.hid (Xn.out.next bel14)
  have Xm := Lib.hid (Xm.out.next bel14)
  have Xp := Lib.hid (Xp.out.next bel14)
  have Xq := Lib.hid (Xq.out.next bel14)
  have BB := Lib.hid (bel_next BB.out bel14)
  clear bel14
  go_wp2_with (first
    | ((with_reducible refine chn_alloc (o := ⟨some 18, _, _, _, _, _⟩) chn rfl rfl ?_); intro w15 bu hbu hBu bel15; have q_c_u : bc < bu := Nat.lt_of_lt_of_le Xc.out.lt hbu; have q_n_u : bn < bu := Nat.lt_of_lt_of_le Xn.out.lt hbu; have q_m_u : bm < bu := Nat.lt_of_lt_of_le Xm.out.lt hbu; have q_p_u : bp < bu := Nat.lt_of_lt_of_le Xp.out.lt hbu; have q_q_u : bq < bu := Nat.lt_of_lt_of_le Xq.out.lt hbu; have ou := Nat.le_trans BB.out.size hbu; have Xc := Lib.hid (Xc.out.next bel15); have Xn := Lib.hid (Xn.out.next bel15); have Xm := Lib.hid (Xm.out.next bel15); have Xp := Lib.hid (Xp.out.next bel15); have Xq := Lib.hid (Xq.out.next bel15); have BB := Lib.hid (bel_next BB.out bel15); have Xu := Lib.hid hBu; clear bel15 hBu hbu)
    | ((with_reducible refine chn_store chn rfl (.tmp 18) (.tmp 58) rfl rfl rfl Xu.out F2.out ?_); intro w16 hB16 onl16; have Xc := Lib.hid (Xc.out.only (by omega) onl16); have Xn := Lib.hid (Xn.out.only (by omega) onl16); have Xm := Lib.hid (Xm.out.only (by omega) onl16); have Xp := Lib.hid (Xp.out.only (by omega) onl16); have Xq := Lib.hid (Xq.out.only (by omega) onl16); have BB := Lib.hid (onl16.bel ou BB.out); have Xu := Lib.hid hB16; clear onl16 hB16)
    | (with_reducible refine chn_load (o := ⟨some 61, _, _, _, _, _⟩) chn rfl _ rfl rfl Xc.out ?_))
  refine (C6.out _).mono ?_
  rintro e w17 ⟨rfl, bel17⟩
  have Xc := Lib.hid (Xc.out.next bel17)
  have Xn := Lib.hid (Xn.out.next bel17)
  have Xm := Lib.hid (Xm.out.next bel17)
  have Xp := Lib.hid (Xp.out.next bel17)
  have Xq := Lib.hid (Xq.out.next bel17)
  have Xu := Lib.hid (Xu.out.next bel17)
  have BB := Lib.hid (bel_next BB.out bel17)
  clear bel17
  go_upto_region 7 with (first
    | ((with_reducible refine chn_alloc (o := ⟨some 21, _, _, _, _, _⟩) chn rfl rfl ?_); intro w18 bv hbv hBv bel18; have q_c_v : bc < bv := Nat.lt_of_lt_of_le Xc.out.lt hbv; have q_n_v : bn < bv := Nat.lt_of_lt_of_le Xn.out.lt hbv; have q_m_v : bm < bv := Nat.lt_of_lt_of_le Xm.out.lt hbv; have q_p_v : bp < bv := Nat.lt_of_lt_of_le Xp.out.lt hbv; have q_q_v : bq < bv := Nat.lt_of_lt_of_le Xq.out.lt hbv; have q_u_v : bu < bv := Nat.lt_of_lt_of_le Xu.out.lt hbv; have ov := Nat.le_trans BB.out.size hbv; have Xc := Lib.hid (Xc.out.next bel18); have Xn := Lib.hid (Xn.out.next bel18); have Xm := Lib.hid (Xm.out.next bel18); have Xp := Lib.hid (Xp.out.next bel18); have Xq := Lib.hid (Xq.out.next bel18); have Xu := Lib.hid (Xu.out.next bel18); have BB := Lib.hid (bel_next BB.out bel18); have Xv := Lib.hid hBv; clear bel18 hBv hbv)
    | ((with_reducible refine chn_store chn rfl (.tmp 21) (.tmp 65) rfl rfl rfl Xv.out F2.out ?_); intro w19 hB19 onl19; have Xc := Lib.hid (Xc.out.only (by omega) onl19); have Xn := Lib.hid (Xn.out.only (by omega) onl19); have Xm := Lib.hid (Xm.out.only (by omega) onl19); have Xp := Lib.hid (Xp.out.only (by omega) onl19); have Xq := Lib.hid (Xq.out.only (by omega) onl19); have Xu := Lib.hid (Xu.out.only (by omega) onl19); have BB := Lib.hid (onl19.bel ov BB.out); have Xv := Lib.hid hB19; clear onl19 hB19))
  refine wp_region_since (by kernel_rfl) (by kernel_rfl) ?_
  refine qb_loadC (o := ⟨some 67, _, _, _, _, _⟩) chn (by go_simp) _ rfl rfl Xn.out (by go_simp <;> rfl) ?_
  refine qb_loadC (o := ⟨some 68, _, _, _, _, _⟩) chn (by go_simp) _ rfl rfl Xm.out (by go_simp <;> rfl) ?_
  refine qb_eql (o := ⟨some 69, _, _, _, _, _⟩) (by go_simp) rfl rfl rfl (fun W => chn_eqs chn eqgC F0.out _ _ W) (by go_simp <;> rfl) ?_
  refine qb_val (o := ⟨some 70, _, _, _, _, _⟩) (by go_simp) (fun W hW => (by go_simp <;> rfl)) (by go_simp <;> rfl) ?_
  refine qb_val (o := ⟨some 71, _, _, _, _, _⟩) (by go_simp) (fun W hW => (by go_simp <;> rfl)) (by go_simp <;> rfl) ?_
  refine qb_val (o := ⟨some 72, _, _, _, _, _⟩) (by go_simp) (fun W hW => (by go_simp <;> rfl)) (by go_simp <;> rfl) ?_
  refine qb_val (o := ⟨some 73, _, _, _, _, _⟩) (by go_simp) (fun W hW => (by go_simp <;> rfl)) (by go_simp <;> rfl) ?_
  refine qb_val (o := ⟨some 74, _, _, _, _, _⟩) (by go_simp) (fun W hW => (by go_simp <;> rfl)) (by go_simp <;> rfl) ?_
  refine qb_val (o := ⟨some 75, _, _, _, _, _⟩) (by go_simp) (fun W hW => (by go_simp <;> rfl)) (by go_simp <;> rfl) ?_
  refine qb_loadC (o := ⟨some 76, _, _, _, _, _⟩) chn (by go_simp) _ rfl rfl Xc.out (by go_simp <;> rfl) ?_
  refine qb_call (o := ⟨some 77, _, _, _, _, _⟩) (by go_simp) (fun W => by go_simp <;> rfl) (fun W _ => C7.out W) (by go_simp <;> rfl) ?_
  refine qb_loadC (o := ⟨some 78, _, _, _, _, _⟩) chn (by go_simp) _ rfl rfl Xc.out (by go_simp <;> rfl) ?_
  refine qb_call (o := ⟨some 79, _, _, _, _, _⟩) (by go_simp) (fun W => by go_simp <;> rfl) (fun W _ => C8.out W) (by go_simp <;> rfl) ?_
  refine qb_val (o := ⟨some 80, _, _, _, _, _⟩) (by go_simp) (fun W hW => (by go_simp <;> rfl)) (by go_simp <;> rfl) ?_
  refine qb_val (o := ⟨some 81, _, _, _, _, _⟩) (by go_simp) (fun W hW => (by go_simp <;> rfl)) (by go_simp <;> rfl) ?_
  refine qb_val (o := ⟨some 82, _, _, _, _, _⟩) (by go_simp) (fun W hW => (by go_simp <;> rfl)) (by go_simp <;> rfl) ?_
  refine qb_val (o := ⟨some 83, _, _, _, _, _⟩) (by go_simp) (fun W hW => (by go_simp <;> rfl)) (by go_simp <;> rfl) ?_
  refine qb_val (o := ⟨some 84, _, _, _, _, _⟩) (by go_simp) (fun W hW => (by go_simp <;> rfl)) (by go_simp <;> rfl) ?_
  refine qb_val (o := ⟨some 85, _, _, _, _, _⟩) (by go_simp) (fun W hW => (by go_simp <;> rfl)) (by go_simp <;> rfl) ?_
  refine qb_val (o := ⟨some 86, _, _, _, _, _⟩) (by go_simp) (fun W hW => (by go_simp <;> rfl)) (by go_simp <;> rfl) ?_
  refine qb_val (o := ⟨some 87, _, _, _, _, _⟩) (by go_simp) (fun W hW => (by go_simp <;> rfl)) (by go_simp <;> rfl) ?_
  refine qb_loadC (o := ⟨some 88, _, _, _, _, _⟩) chn (by go_simp) _ rfl rfl Xp.out (by go_simp <;> rfl) ?_
  refine qb_loadC (o := ⟨some 89, _, _, _, _, _⟩) chn (by go_simp) _ rfl rfl Xq.out (by go_simp <;> rfl) ?_
  refine qb_eql (o := ⟨some 90, _, _, _, _, _⟩) (by go_simp) rfl rfl rfl (fun W => chn_eqs chn eqgC F1.out _ _ W) (by go_simp <;> rfl) ?_
  refine qb_val (o := ⟨some 91, _, _, _, _, _⟩) (by go_simp) (fun W hW => (by go_simp <;> rfl)) (by go_simp <;> rfl) ?_
  refine qb_val (o := ⟨some 92, _, _, _, _, _⟩) (by go_simp) (fun W hW => (by go_simp <;> rfl)) (by go_simp <;> rfl) ?_
  refine qb_val (o := ⟨some 93, _, _, _, _, _⟩) (by go_simp) (fun W hW => (by go_simp <;> rfl)) (by go_simp <;> rfl) ?_
  refine qb_val (o := ⟨some 94, _, _, _, _, _⟩) (by go_simp) (fun W hW => (by go_simp <;> rfl)) (by go_simp <;> rfl) ?_
  refine qb_val (o := ⟨some 95, _, _, _, _, _⟩) (by go_simp) (fun W hW => (by go_simp <;> rfl)) (by go_simp <;> rfl) ?_
  refine qb_val (o := ⟨some 96, _, _, _, _, _⟩) (by go_simp) (fun W hW => (by go_simp <;> rfl)) (by go_simp <;> rfl) ?_
  refine qb_val (o := ⟨some 97, _, _, _, _, _⟩) (by go_simp) (fun W hW => (by go_simp <;> rfl)) (by go_simp <;> rfl) ?_
  refine qb_val (o := ⟨some 98, _, _, _, _, _⟩) (by go_simp) (fun W hW => (by go_simp <;> rfl)) (by go_simp <;> rfl) ?_
  refine qb_val (o := ⟨some 99, _, _, _, _, _⟩) (by go_simp) (fun W hW => (by go_simp <;> rfl)) (by go_simp <;> rfl) ?_
  refine qb_val (o := ⟨some 100, _, _, _, _, _⟩) (by go_simp) (fun W hW => (by go_simp <;> rfl)) (by go_simp <;> rfl) ?_
  refine qb_val (o := ⟨some 101, _, _, _, _, _⟩) (by go_simp) (fun W hW => (by go_simp <;> rfl)) (by go_simp <;> rfl) ?_
  refine qb_val (o := ⟨some 102, _, _, _, _, _⟩) (by go_simp) (fun W hW => (by go_simp <;> rfl)) (by go_simp <;> rfl) ?_
  refine qb_loadC (o := ⟨some 103, _, _, _, _, _⟩) chn (by go_simp) _ rfl rfl Xu.out (by go_simp <;> rfl) ?_
  refine qb_loadC (o := ⟨some 104, _, _, _, _, _⟩) chn (by go_simp) _ rfl rfl Xv.out (by go_simp <;> rfl) ?_
  refine qb_eql (o := ⟨some 105, _, _, _, _, _⟩) (by go_simp) rfl rfl rfl (fun W => chn_eqs chn eqgC F2.out _ _ W) (by go_simp <;> rfl) ?_
  refine qb_val (o := ⟨some 106, _, _, _, _, _⟩) (by go_simp) (fun W hW => (by go_simp <;> rfl)) (by go_simp <;> rfl) ?_
  refine qb_val (o := ⟨some 107, _, _, _, _, _⟩) (by go_simp) (fun W hW => (by go_simp <;> rfl)) (by go_simp <;> rfl) ?_
  refine qb_val (o := ⟨some 108, _, _, _, _, _⟩) (by go_simp) (fun W hW => (by go_simp <;> rfl)) (by go_simp <;> rfl) ?_
  refine qb_val (o := ⟨some 109, _, _, _, _, _⟩) (by go_simp) (fun W hW => (by go_simp <;> rfl)) (by go_simp <;> rfl) ?_
  refine qb_val (o := ⟨some 110, _, _, _, _, _⟩) (by go_simp) (fun W hW => (by go_simp <;> rfl)) (by go_simp <;> rfl) ?_
  refine qb_val (o := ⟨some 111, _, _, _, _, _⟩) (by go_simp) (fun W hW => (by go_simp <;> rfl)) (by go_simp <;> rfl) ?_
  refine qb_val (o := ⟨some 6, _, _, _, _, _⟩) (by go_simp) (fun W hW => (by go_simp <;> rfl)) (by go_simp <;> rfl) ?_
  refine wpQuiet_nil ?_
  intro w20 bel20
  have bel20 : Below w19.heap.size w19 w20 := bel20
  have Xc := Lib.hid (Xc.out.next bel20)
  have Xn := Lib.hid (Xn.out.next bel20)
  have Xm := Lib.hid (Xm.out.next bel20)
  have Xp := Lib.hid (Xp.out.next bel20)
  have Xq := Lib.hid (Xq.out.next bel20)
  have Xu := Lib.hid (Xu.out.next bel20)
  have Xv := Lib.hid (Xv.out.next bel20)
  have BB := Lib.hid (bel_next BB.out bel20)
  clear bel20
  go_wp2_with fail
  go_ret
  exact ⟨rfl, BB.out⟩
end Go.Proofs.Ytgnmpkembcdkcaa

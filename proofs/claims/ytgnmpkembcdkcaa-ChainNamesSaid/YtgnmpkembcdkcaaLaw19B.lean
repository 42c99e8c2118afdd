/-
  The walk of the law's check of the chapter's example, and of ChainSame. Conditions: numbers within their types.
-/
import Derived.Test.YtgnmpkembcdkcaaChAll
import Derived.Test.YtgnmpkembcdkcaaChRef
import Derived.Test.YtgnmpkembcdkcaaQuietC
import Derived.Test.YtgnmpkembcdkcaaSame13
namespace Go.Proofs.Ytgnmpkembcdkcaa
open Go.RowKit
set_option linter.unusedVariables false

def c0 : CS := (0, z16, z16)
theorem c0_v : VC c0 := ⟨⟨by decide, by decide⟩, f16z, by unfold I32; decide, by unfold I32; decide⟩
def exC : CS := finL (cN 16 9) c0 [100, 100, 100]
theorem exC_out : runL (cO 16 9) (cN 16 9) c0 [100, 100, 100] = [100, 4, 4] := by decide +kernel
theorem exC_v : VC exC := finC_v 16 9 c0 _ c0_v (by unfold I32; decide)
theorem exC_0 : exC.1 = 100 := by decide +kernel

set_option maxRecDepth 100000 in
set_option maxHeartbeats 1000000 in
theorem alive_any (w : World) : Calls Try.prog 18 #[] w fun e w' => e = .returned (.bool true) ∧ Below w.heap.size w w' := by
  have BB := Lib.hid (bel_self w)
  have CN := Lib.hid (fun W => cnew_ok 16 z16 W z16_len (by decide))
  rw [show nwS 16 = 9 from rfl] at CN
  have CA := Lib.hid (fun A c (W : World) (h : Sl W W.heap.size .i32 A [100, 100, 100]) => cAll_ok 16 9 c0 A 3 c [100, 100, 100] W rfl c0_v (by decide) (by decide) (by decide) (by omega) (by unfold I32; decide) h)
  rw [exC_out, show finL (cN 16 9) c0 [100, 100, 100] = exC from rfl, show c0.1 = 0 from rfl, show c0.2.1 = z16 from rfl, show c0.2.2 = z16 from rfl, exC_0] at CA
  have HZ := Lib.hid f16z
  have HV := Lib.hid exC_v.2.1
  generalize exC.2.1 = e1 at *
  generalize exC.2.2 = e2 at *
  go_enter Try.func18, Try.ntmps18
  go_wp2_with (first
    | (with_reducible refine arr_bld0 (o := ⟨some 7, _, _, _, _, _⟩) flt rfl rfl ?_))
  refine (CN.out _).mono ?_
  rintro e w1 ⟨rfl, bel1⟩
  have BB := Lib.hid (bel_next BB.out bel1)
  clear bel1
  go_wp2_with (first
    | ((with_reducible refine chn_alloc (o := ⟨some 1, _, _, _, _, _⟩) chn rfl rfl ?_); intro w2 bc hbc hBc bel2; have oc := Nat.le_trans BB.out.size hbc; have BB := Lib.hid (bel_next BB.out bel2); have Xc := Lib.hid hBc; clear bel2 hBc hbc)
    | ((with_reducible refine chn_store chn rfl (.tmp 1) (.tmp 9) rfl rfl rfl Xc.out HZ.out ?_); intro w3 hB3 onl3; have BB := Lib.hid (onl3.bel oc BB.out); have Xc := Lib.hid hB3; clear onl3 hB3)
    | (with_reducible refine chn_load (o := ⟨some 12, _, _, _, _, _⟩) chn rfl _ rfl rfl Xc.out ?_))
  refine (CA.out _ _ _ (Sl.lit' w3 .i32 _ [100, 100, 100] rfl)).mono ?_
  rintro e w4 ⟨v4, rfl, own4, bel4⟩
  obtain ⟨Aa, ca, rfl, _, _, sl4⟩ := own4.sl
  have Sa := Lib.hid (SA.of sl4)
  have BB := Lib.hid (bel_next (bel_up BB.out _) bel4)
  clear own4 bel4 sl4
  go_wp2_with (first
    | ((with_reducible refine chn_alloc (o := ⟨some 4, _, _, _, _, _⟩) chn rfl rfl ?_); intro w5 bd hbd hBd bel5; have q_Sa_d := Nat.le_trans Sa.out.2 hbd; have od := Nat.le_trans BB.out.size hbd; have Sa := Lib.hid (Sa.out.next bel5); have BB := Lib.hid (bel_next BB.out bel5); have Xd := Lib.hid hBd; clear bel5 hBd hbd)
    | ((with_reducible refine chn_store chn rfl (.tmp 4) (.tmp 16) rfl rfl rfl Xd.out HV.out ?_); intro w6 hB6 onl6; have Sa := Lib.hid (Sa.out.only (by omega) onl6); have BB := Lib.hid (onl6.bel od BB.out); have Xd := Lib.hid hB6; clear onl6 hB6))
  refine (same13 Aa _ 3 3 ca 3 [100, 4, 4] _ rfl rfl (by simp) (Sa.out.sl.up _) (Sl.lit' w6 .i32 _ [100, 4, 4] rfl)).mono ?_
  rintro e w7 ⟨rfl, bel7⟩
  have belA := bel_next (bel_up (bel_self w6) _) bel7
  have Xd := Lib.hid (Xd.out.next belA)
  have BB := Lib.hid (bel_next BB.out belA)
  have k1 := Xd.out.c1
  clear bel7 belA
  go_wp2_with fail
  go_ret
  exact ⟨rfl, BB.out⟩

set_option maxRecDepth 100000 in
set_option maxHeartbeats 1000000 in
theorem csame_bad (bt la sh : Int) (ts ps : List Int) (x : Int) (w : World) (hF : F16 ts ps) (h : cnC bt sh ≠ 0) :
    Calls Try.prog 4 #[.agg (cA bt la sh ts ps), .int .i32 x] w fun e w' => e = .returned (.bool true) ∧ Below w.heap.size w w' := by
  have BB := Lib.hid (bel_self w)
  have CK := Lib.hid (fun W => crecheck_any bt la sh ts ps W hF)
  rw [cnC_bad h] at CK
  clear h
  go_enter Try.func4, Try.ntmps4
  go_wp2_with (first
    | ((with_reducible refine chn_box (o := ⟨some 2, _, _, _, _, _⟩) chn rfl _ rfl rfl hF ?_); intro w1 bc hbc hBc bel1; have oc := Nat.le_trans BB.out.size hbc; have BB := Lib.hid (bel_next BB.out bel1); have Xc := Lib.hid hBc; clear bel1 hBc hbc))
  refine (alive_any _).mono ?_
  rintro e w2 ⟨rfl, bel2⟩
  have Xc := Lib.hid (Xc.out.next bel2)
  have BB := Lib.hid (bel_next BB.out bel2)
  clear bel2
  go_wp2_with (first
    | (with_reducible refine chn_load (o := ⟨some 19, _, _, _, _, _⟩) chn rfl _ rfl rfl Xc.out ?_))
  refine (CK.out _).mono ?_
  rintro e w3 ⟨rfl, bel3⟩
  have Xc := Lib.hid (Xc.out.next bel3)
  have BB := Lib.hid (bel_next BB.out bel3)
  clear bel3
  go_wp2_with fail
  go_ret
  exact ⟨rfl, BB.out⟩

set_option maxRecDepth 100000 in
set_option maxHeartbeats 2000000 in
theorem csame_ok (bt sh : Int) (s : CS) (x : Int) (w : World) (hv : VC s) (h : cnC bt sh = 0) (hb0 : -9223372036854775808 ≤ bt) (hb1 : bt ≤ 9223372036854775807) (hx : G32 x) :
    Calls Try.prog 4 #[.agg (cA bt s.1 sh s.2.1 s.2.2), .int .i32 x] w fun e w' => e = .returned (.bool true) ∧ Below w.heap.size w w' := by
  have BB := Lib.hid (bel_self w)
  have hF := hv.2.1
  have CK := Lib.hid (fun W => crecheck_any bt s.1 sh s.2.1 s.2.2 W hF)
  rw [h] at CK
  have C1 := Lib.hid (fun W => cforward_ok bt sh s x W hv h hb0 hb1 hx)
  have C2 := Lib.hid (fun W => cback_ok bt sh s (cO bt sh s x) W hv h hb0 hb1 (cO_bd bt sh s x))
  rw [cP_cO bt sh s x hx, cM_cO bt sh s x hx, show (cN bt sh s x).1 = x from rfl] at C2
  have C3 := Lib.hid (fun W => cback_ok bt sh s x W hv h hb0 hb1 hx)
  rw [show (cM bt sh s x).1 = cP bt sh s x from rfl] at C3
  have C4 := Lib.hid (fun W => cforward_ok bt sh s (cP bt sh s x) W hv h hb0 hb1 (cP_bd bt sh s x))
  rw [cO_cP bt sh s x hx, cN_cP bt sh s x hx] at C4
  have HN := Lib.hid (cN_v bt sh s x hv hx).2.1
  have HM := Lib.hid (cM_v bt sh s x hv).2.1
  have C5 := Lib.hid (fun W => crecheck_any bt x sh (cN bt sh s x).2.1 (cN bt sh s x).2.2 W HN.out)
  rw [h] at C5
  have q1 : (x == x) = true := by simp
  have q2 : (cP bt sh s x == cP bt sh s x) = true := by simp
  generalize (cN bt sh s x).2.1 = n1 at *
  generalize (cN bt sh s x).2.2 = n2 at *
  generalize (cM bt sh s x).2.1 = m1 at *
  generalize (cM bt sh s x).2.2 = m2 at *
  generalize cO bt sh s x = y at *
  generalize cP bt sh s x = z at *
  clear h hv hx
  go_enter Try.func4, Try.ntmps4
  go_wp2_with (first
    | ((with_reducible refine chn_box (o := ⟨some 2, _, _, _, _, _⟩) chn rfl _ rfl rfl hF ?_); intro w1 bf hbf hBf bel1; have of := Nat.le_trans BB.out.size hbf; have BB := Lib.hid (bel_next BB.out bel1); have Xf := Lib.hid hBf; clear bel1 hBf hbf))
  refine (alive_any _).mono ?_
  rintro e w2 ⟨rfl, bel2⟩
  have Xf := Lib.hid (Xf.out.next bel2)
  have BB := Lib.hid (bel_next BB.out bel2)
  clear bel2
  go_wp2_with (first
    | (with_reducible refine chn_load (o := ⟨some 19, _, _, _, _, _⟩) chn rfl _ rfl rfl Xf.out ?_))
  refine (CK.out _).mono ?_
  rintro e w3 ⟨rfl, bel3⟩
  have Xf := Lib.hid (Xf.out.next bel3)
  have BB := Lib.hid (bel_next BB.out bel3)
  clear bel3
  go_wp2_with (first
    | (with_reducible refine chn_load (o := ⟨some 28, _, _, _, _, _⟩) chn rfl _ rfl rfl Xf.out ?_))
  refine (C1.out _).mono ?_
  rintro e w4 ⟨rfl, bel4⟩
  have Xf := Lib.hid (Xf.out.next bel4)
  have BB := Lib.hid (bel_next BB.out bel4)
  clear bel4
  go_wp2_with (first
    | ((with_reducible refine chn_alloc (o := ⟨some 7, _, _, _, _, _⟩) chn rfl rfl ?_); intro w5 ba hba hBa bel5; have q_f_a : bf < ba := Nat.lt_of_lt_of_le Xf.out.lt hba; have oa := Nat.le_trans BB.out.size hba; have Xf := Lib.hid (Xf.out.next bel5); have BB := Lib.hid (bel_next BB.out bel5); have Xa := Lib.hid hBa; clear bel5 hBa hba)
    | ((with_reducible refine chn_store chn rfl (.tmp 7) (.tmp 32) rfl rfl rfl Xa.out HN.out ?_); intro w6 hB6 onl6; have Xf := Lib.hid (Xf.out.only (by omega) onl6); have BB := Lib.hid (onl6.bel oa BB.out); have Xa := Lib.hid hB6; clear onl6 hB6)
    | (with_reducible refine chn_load (o := ⟨some 35, _, _, _, _, _⟩) chn rfl _ rfl rfl Xf.out ?_))
  refine (C2.out _).mono ?_
  rintro e w7 ⟨rfl, bel7⟩
  have Xf := Lib.hid (Xf.out.next bel7)
  have Xa := Lib.hid (Xa.out.next bel7)
  have BB := Lib.hid (bel_next BB.out bel7)
  clear bel7
  go_wp2_with (first
    | ((with_reducible refine chn_alloc (o := ⟨some 10, _, _, _, _, _⟩) chn rfl rfl ?_); intro w8 bb hbb hBb bel8; have q_f_b : bf < bb := Nat.lt_of_lt_of_le Xf.out.lt hbb; have q_a_b : ba < bb := Nat.lt_of_lt_of_le Xa.out.lt hbb; have ob := Nat.le_trans BB.out.size hbb; have Xf := Lib.hid (Xf.out.next bel8); have Xa := Lib.hid (Xa.out.next bel8); have BB := Lib.hid (bel_next BB.out bel8); have Xb := Lib.hid hBb; clear bel8 hBb hbb)
    | ((with_reducible refine chn_store chn rfl (.tmp 10) (.tmp 39) rfl rfl rfl Xb.out HN.out ?_); intro w9 hB9 onl9; have Xf := Lib.hid (Xf.out.only (by omega) onl9); have Xa := Lib.hid (Xa.out.only (by omega) onl9); have BB := Lib.hid (onl9.bel ob BB.out); have Xb := Lib.hid hB9; clear onl9 hB9)
    | (with_reducible refine chn_load (o := ⟨some 42, _, _, _, _, _⟩) chn rfl _ rfl rfl Xf.out ?_))
  refine (C3.out _).mono ?_
  rintro e w10 ⟨rfl, bel10⟩
  have Xf := Lib.hid (Xf.out.next bel10)
  have Xa := Lib.hid (Xa.out.next bel10)
  have Xb := Lib.hid (Xb.out.next bel10)
  have BB := Lib.hid (bel_next BB.out bel10)
  clear bel10
  go_wp2_with (first
    | ((with_reducible refine chn_alloc (o := ⟨some 13, _, _, _, _, _⟩) chn rfl rfl ?_); intro w11 bc hbc hBc bel11; have q_f_c : bf < bc := Nat.lt_of_lt_of_le Xf.out.lt hbc; have q_a_c : ba < bc := Nat.lt_of_lt_of_le Xa.out.lt hbc; have q_b_c : bb < bc := Nat.lt_of_lt_of_le Xb.out.lt hbc; have oc := Nat.le_trans BB.out.size hbc; have Xf := Lib.hid (Xf.out.next bel11); have Xa := Lib.hid (Xa.out.next bel11); have Xb := Lib.hid (Xb.out.next bel11); have BB := Lib.hid (bel_next BB.out bel11); have Xc := Lib.hid hBc; clear bel11 hBc hbc)
    | ((with_reducible refine chn_store chn rfl (.tmp 13) (.tmp 46) rfl rfl rfl Xc.out HM.out ?_); intro w12 hB12 onl12; have Xf := Lib.hid (Xf.out.only (by omega) onl12); have Xa := Lib.hid (Xa.out.only (by omega) onl12); have Xb := Lib.hid (Xb.out.only (by omega) onl12); have BB := Lib.hid (onl12.bel oc BB.out); have Xc := Lib.hid hB12; clear onl12 hB12)
    | (with_reducible refine chn_load (o := ⟨some 49, _, _, _, _, _⟩) chn rfl _ rfl rfl Xf.out ?_))
  refine (C4.out _).mono ?_
  rintro e w13 ⟨rfl, bel13⟩
  have Xf := Lib.hid (Xf.out.next bel13)
  have Xa := Lib.hid (Xa.out.next bel13)
  have Xb := Lib.hid (Xb.out.next bel13)
  have Xc := Lib.hid (Xc.out.next bel13)
  have BB := Lib.hid (bel_next BB.out bel13)
  clear bel13
  go_wp2_with (first
    | ((with_reducible refine chn_alloc (o := ⟨some 16, _, _, _, _, _⟩) chn rfl rfl ?_); intro w14 bd hbd hBd bel14; have q_f_d : bf < bd := Nat.lt_of_lt_of_le Xf.out.lt hbd; have q_a_d : ba < bd := Nat.lt_of_lt_of_le Xa.out.lt hbd; have q_b_d : bb < bd := Nat.lt_of_lt_of_le Xb.out.lt hbd; have q_c_d : bc < bd := Nat.lt_of_lt_of_le Xc.out.lt hbd; have od := Nat.le_trans BB.out.size hbd; have Xf := Lib.hid (Xf.out.next bel14); have Xa := Lib.hid (Xa.out.next bel14); have Xb := Lib.hid (Xb.out.next bel14); have Xc := Lib.hid (Xc.out.next bel14); have BB := Lib.hid (bel_next BB.out bel14); have Xd := Lib.hid hBd; clear bel14 hBd hbd)
    | ((with_reducible refine chn_store chn rfl (.tmp 16) (.tmp 53) rfl rfl rfl Xd.out HM.out ?_); intro w15 hB15 onl15; have Xf := Lib.hid (Xf.out.only (by omega) onl15); have Xa := Lib.hid (Xa.out.only (by omega) onl15); have Xb := Lib.hid (Xb.out.only (by omega) onl15); have Xc := Lib.hid (Xc.out.only (by omega) onl15); have BB := Lib.hid (onl15.bel od BB.out); have Xd := Lib.hid hB15; have k0 := Xa.out.c1; have k1 := Xc.out.c1; clear onl15 hB15)
    | ((with_reducible refine wpl_guard (d := some 78) ?_ ?_); (next => first | kernel_rfl | go_simp); with_reducible refine chn_load (o := ⟨some 78, _, _, _, _, _⟩) chn rfl _ rfl rfl Xb.out ?_)
    | ((with_reducible refine wpl_guard (d := some 79) ?_ ?_); (next => first | kernel_rfl | go_simp); with_reducible refine chn_load (o := ⟨some 79, _, _, _, _, _⟩) chn rfl _ rfl rfl Xa.out ?_)
    | ((with_reducible refine wpl_guard (d := some 80) ?_ ?_); (next => first | kernel_rfl | go_simp); with_reducible refine wpl_eq (o := ⟨some 80, _, _, _, _, _⟩) (chn_eqs chn eqgC HN.out _ _ _) rfl rfl rfl rfl ?_)
    | ((with_reducible refine wpl_guard (d := some 88) ?_ ?_); (next => first | kernel_rfl | go_simp); with_reducible refine chn_load (o := ⟨some 88, _, _, _, _, _⟩) chn rfl _ rfl rfl Xd.out ?_)
    | ((with_reducible refine wpl_guard (d := some 89) ?_ ?_); (next => first | kernel_rfl | go_simp); with_reducible refine chn_load (o := ⟨some 89, _, _, _, _, _⟩) chn rfl _ rfl rfl Xc.out ?_)
    | ((with_reducible refine wpl_guard (d := some 90) ?_ ?_); (next => first | kernel_rfl | go_simp); with_reducible refine wpl_eq (o := ⟨some 90, _, _, _, _, _⟩) (chn_eqs chn eqgC HM.out _ _ _) rfl rfl rfl rfl ?_)
    | ((with_reducible refine wpl_guard (d := some 105) ?_ ?_); (next => first | kernel_rfl | go_simp); with_reducible refine chn_load (o := ⟨some 105, _, _, _, _, _⟩) chn rfl _ rfl rfl Xa.out ?_))
  refine (C5.out _).mono ?_
  rintro e w16 ⟨rfl, bel16⟩
  have Xf := Lib.hid (Xf.out.next bel16)
  have Xa := Lib.hid (Xa.out.next bel16)
  have Xb := Lib.hid (Xb.out.next bel16)
  have Xc := Lib.hid (Xc.out.next bel16)
  have Xd := Lib.hid (Xd.out.next bel16)
  have BB := Lib.hid (bel_next BB.out bel16)
  clear bel16
  go_wp2_with fail
  go_ret
  exact ⟨rfl, BB.out⟩
theorem chainSame_walk (bt la sh : Int) (ts ps : List Int) (x : Int) (w : World) (hF : F16 ts ps) (ht : I32 ts) (hp : I32 ps) (hs0 : -9223372036854775808 ≤ sh) (hs1 : sh ≤ 9223372036854775807) (hb0 : -9223372036854775808 ≤ bt) (hb1 : bt ≤ 9223372036854775807)
    (hl0 : -2147483648 ≤ la) (hl1 : la ≤ 2147483647) (hx0 : -2147483648 ≤ x) (hx1 : x ≤ 2147483647) :
    Calls Try.prog 4 #[.agg (cA bt la sh ts ps), .int .i32 x] w fun e w' => e = .returned (.bool true) ∧ Below w.heap.size w w' := by
  by_cases h : cnC bt sh = 0
  · exact csame_ok bt sh (la, ts, ps) x w ⟨⟨hl0, hl1⟩, hF, ht, hp⟩ h hb0 hb1 ⟨hx0, hx1⟩
  · exact csame_bad bt la sh ts ps x w hF h
end Go.Proofs.Ytgnmpkembcdkcaa

/-
  The walk of ChainRuns. Conditions: numbers within their types; the list lies below.
-/
import Derived.Test.YtgnmpkembcdkcaaLaw19B
import Derived.Test.YtgnmpkembcdkcaaChRef3
import Derived.Test.YtgnmpkembcdkcaaGreat13
namespace Go.Proofs.Ytgnmpkembcdkcaa
open Go.RowKit
set_option linter.unusedVariables false

theorem runsAll_ex (bt sh : Int) (s : CS) (xs : List Int) (hv : VC s) (hb0 : -9223372036854775808 ≤ bt) (hb1 : bt ≤ 9223372036854775807) (hn : xs.length ≤ 4100) (hx : I32 xs) : ∃ (b' l' s' ee : Int) (t' p' L : List Int), F16 t' p' ∧ L.length ≤ 4100 ∧
    (∀ (A : Option Addr) (c : Nat) (W : World), Sl W W.heap.size .i32 A xs → Calls Try.prog 20 #[.agg (cA bt s.1 sh s.2.1 s.2.2), .slice A xs.length c] W fun e w' => ∃ v, e = .returned (.tuple #[v, .agg (cA b' l' s' t' p'), .int .i64 ee]) ∧ Own w' W.heap.size 21 .i32 v L ∧ Below W.heap.size W w') ∧
    (∀ (A : Option Addr) (c : Nat) (W : World), Sl W W.heap.size .i32 A xs → Calls Try.prog 21 #[.agg (cA bt s.1 sh s.2.1 s.2.2), .slice A xs.length c] W fun e w' => ∃ v, e = .returned (.tuple #[v, .agg (cA b' l' s' t' p'), .int .i64 ee]) ∧ Own w' W.heap.size 21 .i32 v L ∧ Below W.heap.size W w') := by
  by_cases h : clE bt sh xs.length = 0
  · have h1 : cnC bt sh = 0 := by
      refine Decidable.by_contra fun hh => ?_
      unfold clE at h; rw [if_pos hh] at h; omega
    have h2 : xs.length ≤ 4000 := by
      refine Decidable.by_contra fun hh => ?_
      unfold clE at h; rw [if_neg (fun hk => hk h1), if_pos (by omega)] at h; omega
    exact ⟨bt, (finL (cN bt sh) s xs).1, sh, 0, (finL (cN bt sh) s xs).2.1, (finL (cN bt sh) s xs).2.2, runL (cO bt sh) (cN bt sh) s xs, (finC_v bt sh s xs hv hx).2.1, by rw [runL_len]; exact hn,
      fun A c W hs => cAll_ok bt sh s A _ c xs W rfl hv h1 hb0 hb1 h2 hx hs,
      fun A c W hs => crefAll_ok bt sh s A _ c xs W rfl hv h1 h2 hx hs⟩
  · refine ⟨0, 0, 0, clE bt sh xs.length, z16, z16, [], f16z, by simp, fun A c W hs => ?_, fun A c W hs => ?_⟩
    · refine (cAll_bad bt s.1 sh s.2.1 s.2.2 A _ c W hv.2.1 (by omega) h).mono ?_
      rintro e w' ⟨rfl, bel⟩
      exact ⟨_, rfl, Own.nil _ _ _ _, bel⟩
    · refine (crefAll_bad bt s.1 sh s.2.1 s.2.2 A _ c W hv.2.1 (by omega) h).mono ?_
      rintro e w' ⟨rfl, bel⟩
      exact ⟨_, rfl, Own.nil _ _ _ _, bel⟩
theorem runsUndo_ex (bt sh : Int) (s : CS) (xs : List Int) (hv : VC s) (hb0 : -9223372036854775808 ≤ bt) (hb1 : bt ≤ 9223372036854775807) (hn : xs.length ≤ 4100) (hx : I32 xs) : ∃ (b' l' s' ee : Int) (t' p' L : List Int), F16 t' p' ∧ L.length ≤ 4100 ∧
    (∀ (A : Option Addr) (c : Nat) (W : World), Sl W W.heap.size .i32 A xs → Calls Try.prog 22 #[.agg (cA bt s.1 sh s.2.1 s.2.2), .slice A xs.length c] W fun e w' => ∃ v, e = .returned (.tuple #[v, .agg (cA b' l' s' t' p'), .int .i64 ee]) ∧ Own w' W.heap.size 21 .i32 v L ∧ Below W.heap.size W w') ∧
    (∀ (A : Option Addr) (c : Nat) (W : World), Sl W W.heap.size .i32 A xs → Calls Try.prog 23 #[.agg (cA bt s.1 sh s.2.1 s.2.2), .slice A xs.length c] W fun e w' => ∃ v, e = .returned (.tuple #[v, .agg (cA b' l' s' t' p'), .int .i64 ee]) ∧ Own w' W.heap.size 21 .i32 v L ∧ Below W.heap.size W w') := by
  by_cases h : clE bt sh xs.length = 0
  · have h1 : cnC bt sh = 0 := by
      refine Decidable.by_contra fun hh => ?_
      unfold clE at h; rw [if_pos hh] at h; omega
    have h2 : xs.length ≤ 4000 := by
      refine Decidable.by_contra fun hh => ?_
      unfold clE at h; rw [if_neg (fun hk => hk h1), if_pos (by omega)] at h; omega
    exact ⟨bt, (finL (cM bt sh) s xs).1, sh, 0, (finL (cM bt sh) s xs).2.1, (finL (cM bt sh) s xs).2.2, runL (cP bt sh) (cM bt sh) s xs, (finM_v bt sh s xs hv).2.1, by rw [runL_len]; exact hn,
      fun A c W hs => cUndo_ok bt sh s A _ c xs W rfl hv h1 hb0 hb1 h2 hx hs,
      fun A c W hs => crefUndo_ok bt sh s A _ c xs W rfl hv h1 h2 hx hs⟩
  · refine ⟨0, 0, 0, clE bt sh xs.length, z16, z16, [], f16z, by simp, fun A c W hs => ?_, fun A c W hs => ?_⟩
    · refine (cUndo_bad bt s.1 sh s.2.1 s.2.2 A _ c W hv.2.1 (by omega) h).mono ?_
      rintro e w' ⟨rfl, bel⟩
      exact ⟨_, rfl, Own.nil _ _ _ _, bel⟩
    · refine (crefUndo_bad bt s.1 sh s.2.1 s.2.2 A _ c W hv.2.1 (by omega) h).mono ?_
      rintro e w' ⟨rfl, bel⟩
      exact ⟨_, rfl, Own.nil _ _ _ _, bel⟩

set_option maxRecDepth 100000 in
set_option maxHeartbeats 2000000 in
theorem cruns_main (bt sh : Int) (s : CS) (A : Option Addr) (c : Nat) (xs : List Int) (w : World) (hv : VC s) (hb0 : -9223372036854775808 ≤ bt) (hb1 : bt ≤ 9223372036854775807) (h1 : xs.length ≤ 600 ∨ 4000 < xs.length) (h2 : xs.length ≤ 4100) (hx : I32 xs) (hs : Sl w w.heap.size .i32 A xs) :
    Calls Try.prog 5 #[.agg (cA bt s.1 sh s.2.1 s.2.2), .slice A xs.length c] w fun e w' => e = .returned (.bool true) ∧ Below w.heap.size w w' := by
  have BB := Lib.hid (bel_self w)
  have hF := hv.2.1
  have SX := Lib.hid (SA.of hs)
  have GR := Lib.hid (fun W => great_no A xs.length c W h1 h2)
  obtain ⟨b1, l1, s1, e1, n1, n2, LF, hn, L1, c1, c2⟩ := runsAll_ex bt sh s xs hv hb0 hb1 h2 hx
  obtain ⟨b2, l2, s2, e2, m1, m2, LB, hm, L2, c3, c4⟩ := runsUndo_ex bt sh s xs hv hb0 hb1 h2 hx
  have C1 := Lib.hid c1
  have C2 := Lib.hid c2
  have C3 := Lib.hid c3
  have C4 := Lib.hid c4
  have HN := Lib.hid hn
  have HM := Lib.hid hm
  have q1 : (e1 == e1) = true := by simp
  have q2 : (e2 == e2) = true := by simp
  clear hs hx hv h1 c1 c2 c3 c4 hn hm
  go_enter Try.func5, Try.ntmps5
  go_wp2_with (first
    | ((with_reducible refine chn_box (o := ⟨some 2, _, _, _, _, _⟩) chn rfl _ rfl rfl hF ?_); intro w1 bf hbf hBf bel1; have q_SX_f := Nat.le_trans SX.out.2 hbf; have of := Nat.le_trans BB.out.size hbf; have SX := Lib.hid (SX.out.next bel1); have BB := Lib.hid (bel_next BB.out bel1); have Xf := Lib.hid hBf; clear bel1 hBf hbf))
  refine (GR.out _).mono ?_
  rintro e w' ⟨rfl, rfl⟩
  have B0 := Lib.hid (bel_up (bel_self w1) (.cells #[] 21))
  go_upto_region 4 with (at_builtin; refine appN (xs := []) (ys := xs) elI32 _ _ rfl rfl rfl rfl (Own.lit w1 w1.heap.size .i32 21 [] rfl rfl (Nat.le_refl _) (by decide)) (SX.out.sl.alloc (Nat.le_refl _) _) (by simp; omega) (by simp; omega) B0.out.size ?_; intro v2 w2 own2 bel2; have bel2 := B0.out.trans bel2; have O2 := Lib.hid own2; have SX := Lib.hid (SX.out.next bel2); have Xf := Lib.hid (Xf.out.next bel2); have BB := Lib.hid (bel_next BB.out bel2); clear own2 bel2 B0)
  obtain ⟨Ao, co, rfl, _, _, sl2⟩ := O2.out.sln (n := xs.length) (by simp)
  have So := Lib.hid (SA.of sl2)
  simp only [List.nil_append] at So
  clear sl2 O2
  go_wp2_with (first
    | (with_reducible refine chn_load (o := ⟨some 24, _, _, _, _, _⟩) chn rfl _ rfl rfl Xf.out ?_))
  refine (C1.out _ _ _ So.out.sl).mono ?_
  rintro e w3 ⟨v3, rfl, own3, bel3⟩
  obtain ⟨Aa, ca, rfl, _, _, sl3⟩ := own3.sl
  have Sa := Lib.hid (SA.of sl3)
  have SX := Lib.hid (SX.out.next bel3)
  have Xf := Lib.hid (Xf.out.next bel3)
  have So := Lib.hid (So.out.next bel3)
  have BB := Lib.hid (bel_next BB.out bel3)
  clear own3 bel3 sl3
  go_wp2_with (first
    | ((with_reducible refine chn_alloc (o := ⟨some 7, _, _, _, _, _⟩) chn rfl rfl ?_); intro w4 bn hbn hBn bel4; have q_f_n : bf < bn := Nat.lt_of_lt_of_le Xf.out.lt hbn; have q_SX_n := Nat.le_trans SX.out.2 hbn; have q_So_n := Nat.le_trans So.out.2 hbn; have q_Sa_n := Nat.le_trans Sa.out.2 hbn; have on := Nat.le_trans BB.out.size hbn; have SX := Lib.hid (SX.out.next bel4); have Xf := Lib.hid (Xf.out.next bel4); have So := Lib.hid (So.out.next bel4); have Sa := Lib.hid (Sa.out.next bel4); have BB := Lib.hid (bel_next BB.out bel4); have Xn := Lib.hid hBn; clear bel4 hBn hbn)
    | ((with_reducible refine chn_store chn rfl (.tmp 7) (.tmp 28) rfl rfl rfl Xn.out HN.out ?_); intro w5 hB5 onl5; have SX := Lib.hid (SX.out.only (by omega) onl5); have Xf := Lib.hid (Xf.out.only (by omega) onl5); have So := Lib.hid (So.out.only (by omega) onl5); have Sa := Lib.hid (Sa.out.only (by omega) onl5); have BB := Lib.hid (onl5.bel on BB.out); have Xn := Lib.hid hB5; clear onl5 hB5)
    | (with_reducible refine chn_load (o := ⟨some 31, _, _, _, _, _⟩) chn rfl _ rfl rfl Xf.out ?_))
  refine (C2.out _ _ _ SX.out.sl).mono ?_
  rintro e w6 ⟨v6, rfl, own6, bel6⟩
  obtain ⟨Ab, cb, rfl, _, _, sl6⟩ := own6.sl
  have Sb := Lib.hid (SA.of sl6)
  have SX := Lib.hid (SX.out.next bel6)
  have Xf := Lib.hid (Xf.out.next bel6)
  have So := Lib.hid (So.out.next bel6)
  have Sa := Lib.hid (Sa.out.next bel6)
  have Xn := Lib.hid (Xn.out.next bel6)
  have BB := Lib.hid (bel_next BB.out bel6)
  clear own6 bel6 sl6
  go_wp2_with (first
    | ((with_reducible refine chn_alloc (o := ⟨some 10, _, _, _, _, _⟩) chn rfl rfl ?_); intro w7 bm hbm hBm bel7; have q_f_m : bf < bm := Nat.lt_of_lt_of_le Xf.out.lt hbm; have q_n_m : bn < bm := Nat.lt_of_lt_of_le Xn.out.lt hbm; have q_SX_m := Nat.le_trans SX.out.2 hbm; have q_So_m := Nat.le_trans So.out.2 hbm; have q_Sa_m := Nat.le_trans Sa.out.2 hbm; have q_Sb_m := Nat.le_trans Sb.out.2 hbm; have om := Nat.le_trans BB.out.size hbm; have SX := Lib.hid (SX.out.next bel7); have Xf := Lib.hid (Xf.out.next bel7); have So := Lib.hid (So.out.next bel7); have Sa := Lib.hid (Sa.out.next bel7); have Xn := Lib.hid (Xn.out.next bel7); have Sb := Lib.hid (Sb.out.next bel7); have BB := Lib.hid (bel_next BB.out bel7); have Xm := Lib.hid hBm; clear bel7 hBm hbm)
    | ((with_reducible refine chn_store chn rfl (.tmp 10) (.tmp 35) rfl rfl rfl Xm.out HN.out ?_); intro w8 hB8 onl8; have SX := Lib.hid (SX.out.only (by omega) onl8); have Xf := Lib.hid (Xf.out.only (by omega) onl8); have So := Lib.hid (So.out.only (by omega) onl8); have Sa := Lib.hid (Sa.out.only (by omega) onl8); have Xn := Lib.hid (Xn.out.only (by omega) onl8); have Sb := Lib.hid (Sb.out.only (by omega) onl8); have BB := Lib.hid (onl8.bel om BB.out); have Xm := Lib.hid hB8; clear onl8 hB8)
    | (with_reducible refine chn_load (o := ⟨some 38, _, _, _, _, _⟩) chn rfl _ rfl rfl Xf.out ?_))
  refine (C3.out _ _ _ So.out.sl).mono ?_
  rintro e w9 ⟨v9, rfl, own9, bel9⟩
  obtain ⟨Ac, cc, rfl, _, _, sl9⟩ := own9.sl
  have Sc := Lib.hid (SA.of sl9)
  have SX := Lib.hid (SX.out.next bel9)
  have Xf := Lib.hid (Xf.out.next bel9)
  have So := Lib.hid (So.out.next bel9)
  have Sa := Lib.hid (Sa.out.next bel9)
  have Xn := Lib.hid (Xn.out.next bel9)
  have Sb := Lib.hid (Sb.out.next bel9)
  have Xm := Lib.hid (Xm.out.next bel9)
  have BB := Lib.hid (bel_next BB.out bel9)
  clear own9 bel9 sl9
  go_wp2_with (first
    | ((with_reducible refine chn_alloc (o := ⟨some 13, _, _, _, _, _⟩) chn rfl rfl ?_); intro w10 bp hbp hBp bel10; have q_f_p : bf < bp := Nat.lt_of_lt_of_le Xf.out.lt hbp; have q_n_p : bn < bp := Nat.lt_of_lt_of_le Xn.out.lt hbp; have q_m_p : bm < bp := Nat.lt_of_lt_of_le Xm.out.lt hbp; have q_SX_p := Nat.le_trans SX.out.2 hbp; have q_So_p := Nat.le_trans So.out.2 hbp; have q_Sa_p := Nat.le_trans Sa.out.2 hbp; have q_Sb_p := Nat.le_trans Sb.out.2 hbp; have q_Sc_p := Nat.le_trans Sc.out.2 hbp; have op := Nat.le_trans BB.out.size hbp; have SX := Lib.hid (SX.out.next bel10); have Xf := Lib.hid (Xf.out.next bel10); have So := Lib.hid (So.out.next bel10); have Sa := Lib.hid (Sa.out.next bel10); have Xn := Lib.hid (Xn.out.next bel10); have Sb := Lib.hid (Sb.out.next bel10); have Xm := Lib.hid (Xm.out.next bel10); have Sc := Lib.hid (Sc.out.next bel10); have BB := Lib.hid (bel_next BB.out bel10); have Xp := Lib.hid hBp; clear bel10 hBp hbp)
    | ((with_reducible refine chn_store chn rfl (.tmp 13) (.tmp 42) rfl rfl rfl Xp.out HM.out ?_); intro w11 hB11 onl11; have SX := Lib.hid (SX.out.only (by omega) onl11); have Xf := Lib.hid (Xf.out.only (by omega) onl11); have So := Lib.hid (So.out.only (by omega) onl11); have Sa := Lib.hid (Sa.out.only (by omega) onl11); have Xn := Lib.hid (Xn.out.only (by omega) onl11); have Sb := Lib.hid (Sb.out.only (by omega) onl11); have Xm := Lib.hid (Xm.out.only (by omega) onl11); have Sc := Lib.hid (Sc.out.only (by omega) onl11); have BB := Lib.hid (onl11.bel op BB.out); have Xp := Lib.hid hB11; clear onl11 hB11)
    | (with_reducible refine chn_load (o := ⟨some 45, _, _, _, _, _⟩) chn rfl _ rfl rfl Xf.out ?_))
  refine (C4.out _ _ _ SX.out.sl).mono ?_
  rintro e w12 ⟨v12, rfl, own12, bel12⟩
  obtain ⟨Ad, cd, rfl, _, _, sl12⟩ := own12.sl
  have Sd := Lib.hid (SA.of sl12)
  have SX := Lib.hid (SX.out.next bel12)
  have Xf := Lib.hid (Xf.out.next bel12)
  have So := Lib.hid (So.out.next bel12)
  have Sa := Lib.hid (Sa.out.next bel12)
  have Xn := Lib.hid (Xn.out.next bel12)
  have Sb := Lib.hid (Sb.out.next bel12)
  have Xm := Lib.hid (Xm.out.next bel12)
  have Sc := Lib.hid (Sc.out.next bel12)
  have Xp := Lib.hid (Xp.out.next bel12)
  have BB := Lib.hid (bel_next BB.out bel12)
  clear own12 bel12 sl12
  go_wp2_with (first
    | ((with_reducible refine chn_alloc (o := ⟨some 16, _, _, _, _, _⟩) chn rfl rfl ?_); intro w13 bq hbq hBq bel13; have q_f_q : bf < bq := Nat.lt_of_lt_of_le Xf.out.lt hbq; have q_n_q : bn < bq := Nat.lt_of_lt_of_le Xn.out.lt hbq; have q_m_q : bm < bq := Nat.lt_of_lt_of_le Xm.out.lt hbq; have q_p_q : bp < bq := Nat.lt_of_lt_of_le Xp.out.lt hbq; have q_SX_q := Nat.le_trans SX.out.2 hbq; have q_So_q := Nat.le_trans So.out.2 hbq; have q_Sa_q := Nat.le_trans Sa.out.2 hbq; have q_Sb_q := Nat.le_trans Sb.out.2 hbq; have q_Sc_q := Nat.le_trans Sc.out.2 hbq; have q_Sd_q := Nat.le_trans Sd.out.2 hbq; have oq := Nat.le_trans BB.out.size hbq; have SX := Lib.hid (SX.out.next bel13); have Xf := Lib.hid (Xf.out.next bel13); have So := Lib.hid (So.out.next bel13); have Sa := Lib.hid (Sa.out.next bel13); have Xn := Lib.hid (Xn.out.next bel13); have Sb := Lib.hid (Sb.out.next bel13); have Xm := Lib.hid (Xm.out.next bel13); have Sc := Lib.hid (Sc.out.next bel13); have Xp := Lib.hid (Xp.out.next bel13); have Sd := Lib.hid (Sd.out.next bel13); have BB := Lib.hid (bel_next BB.out bel13); have Xq := Lib.hid hBq; clear bel13 hBq hbq)
    | ((with_reducible refine chn_store chn rfl (.tmp 16) (.tmp 49) rfl rfl rfl Xq.out HM.out ?_); intro w14 hB14 onl14; have SX := Lib.hid (SX.out.only (by omega) onl14); have Xf := Lib.hid (Xf.out.only (by omega) onl14); have So := Lib.hid (So.out.only (by omega) onl14); have Sa := Lib.hid (Sa.out.only (by omega) onl14); have Xn := Lib.hid (Xn.out.only (by omega) onl14); have Sb := Lib.hid (Sb.out.only (by omega) onl14); have Xm := Lib.hid (Xm.out.only (by omega) onl14); have Sc := Lib.hid (Sc.out.only (by omega) onl14); have Xp := Lib.hid (Xp.out.only (by omega) onl14); have Sd := Lib.hid (Sd.out.only (by omega) onl14); have BB := Lib.hid (onl14.bel oq BB.out); have Xq := Lib.hid hB14; clear onl14 hB14))
  refine (same13 Aa Ab _ _ ca cb LF _ rfl rfl (by omega) Sa.out.sl Sb.out.sl).mono ?_
  rintro e w15 ⟨rfl, bel15⟩
  have SX := Lib.hid (SX.out.next bel15)
  have Xf := Lib.hid (Xf.out.next bel15)
  have So := Lib.hid (So.out.next bel15)
  have Sa := Lib.hid (Sa.out.next bel15)
  have Xn := Lib.hid (Xn.out.next bel15)
  have Sb := Lib.hid (Sb.out.next bel15)
  have Xm := Lib.hid (Xm.out.next bel15)
  have Sc := Lib.hid (Sc.out.next bel15)
  have Xp := Lib.hid (Xp.out.next bel15)
  have Sd := Lib.hid (Sd.out.next bel15)
  have Xq := Lib.hid (Xq.out.next bel15)
  have BB := Lib.hid (bel_next BB.out bel15)
  clear bel15
  go_wp2_with (first
    | ((with_reducible refine wpl_guard (d := some 55) ?_ ?_); (next => first | kernel_rfl | go_simp); with_reducible refine chn_load (o := ⟨some 55, _, _, _, _, _⟩) chn rfl _ rfl rfl Xn.out ?_)
    | ((with_reducible refine wpl_guard (d := some 56) ?_ ?_); (next => first | kernel_rfl | go_simp); with_reducible refine chn_load (o := ⟨some 56, _, _, _, _, _⟩) chn rfl _ rfl rfl Xm.out ?_)
    | ((with_reducible refine wpl_guard (d := some 57) ?_ ?_); (next => first | kernel_rfl | go_simp); with_reducible refine wpl_eq (o := ⟨some 57, _, _, _, _, _⟩) (chn_eqs chn eqgC HN.out _ _ _) rfl rfl rfl rfl ?_))
  refine (same13 Ac Ad _ _ cc cd LB _ rfl rfl (by omega) Sc.out.sl Sd.out.sl).mono ?_
  rintro e w16 ⟨rfl, bel16⟩
  have SX := Lib.hid (SX.out.next bel16)
  have Xf := Lib.hid (Xf.out.next bel16)
  have So := Lib.hid (So.out.next bel16)
  have Sa := Lib.hid (Sa.out.next bel16)
  have Xn := Lib.hid (Xn.out.next bel16)
  have Sb := Lib.hid (Sb.out.next bel16)
  have Xm := Lib.hid (Xm.out.next bel16)
  have Sc := Lib.hid (Sc.out.next bel16)
  have Xp := Lib.hid (Xp.out.next bel16)
  have Sd := Lib.hid (Sd.out.next bel16)
  have Xq := Lib.hid (Xq.out.next bel16)
  have BB := Lib.hid (bel_next BB.out bel16)
  clear bel16
  go_wp2_with (first
    | ((with_reducible refine wpl_guard (d := some 70) ?_ ?_); (next => first | kernel_rfl | go_simp); with_reducible refine chn_load (o := ⟨some 70, _, _, _, _, _⟩) chn rfl _ rfl rfl Xp.out ?_)
    | ((with_reducible refine wpl_guard (d := some 71) ?_ ?_); (next => first | kernel_rfl | go_simp); with_reducible refine chn_load (o := ⟨some 71, _, _, _, _, _⟩) chn rfl _ rfl rfl Xq.out ?_)
    | ((with_reducible refine wpl_guard (d := some 72) ?_ ?_); (next => first | kernel_rfl | go_simp); with_reducible refine wpl_eq (o := ⟨some 72, _, _, _, _, _⟩) (chn_eqs chn eqgC HM.out _ _ _) rfl rfl rfl rfl ?_))
  refine (same13 Ao A _ _ co c xs _ rfl rfl (by omega) So.out.sl SX.out.sl).mono ?_
  rintro e w17 ⟨rfl, bel17⟩
  have SX := Lib.hid (SX.out.next bel17)
  have Xf := Lib.hid (Xf.out.next bel17)
  have So := Lib.hid (So.out.next bel17)
  have Sa := Lib.hid (Sa.out.next bel17)
  have Xn := Lib.hid (Xn.out.next bel17)
  have Sb := Lib.hid (Sb.out.next bel17)
  have Xm := Lib.hid (Xm.out.next bel17)
  have Sc := Lib.hid (Sc.out.next bel17)
  have Xp := Lib.hid (Xp.out.next bel17)
  have Sd := Lib.hid (Sd.out.next bel17)
  have Xq := Lib.hid (Xq.out.next bel17)
  have BB := Lib.hid (bel_next BB.out bel17)
  clear bel17
  go_wp2_with fail
  go_ret
  exact ⟨rfl, BB.out⟩
theorem chainRuns_walk (bt la sh : Int) (ts ps : List Int) (A : Option Addr) (c : Nat) (xs : List Int) (w : World) (hF : F16 ts ps) (ht : I32 ts) (hp : I32 ps) (hs0 : -9223372036854775808 ≤ sh) (hs1 : sh ≤ 9223372036854775807) (hb0 : -9223372036854775808 ≤ bt) (hb1 : bt ≤ 9223372036854775807)
    (hl0 : -2147483648 ≤ la) (hl1 : la ≤ 2147483647) (hc : xs.length ≤ c) (hm : c ≤ 9223372036854775807) (hx : I32 xs) (hs : Sl w w.heap.size .i32 A xs) :
    Calls Try.prog 5 #[.agg (cA bt la sh ts ps), .slice A xs.length c] w fun e w' => e = .returned (.bool true) ∧ Below w.heap.size w w' := by
  by_cases h : (xs.length ≤ 600 ∨ 4000 < xs.length) ∧ xs.length ≤ 4100
  · exact cruns_main bt sh (la, ts, ps) A c xs w ⟨⟨hl0, hl1⟩, hF, ht, hp⟩ hb0 hb1 h.1 h.2 hx hs
  · have GR := Lib.hid (fun W => great_yes A xs.length c W (by omega) (by omega))
    have BB := Lib.hid (bel_self w)
    clear hs hx h
    go_enter Try.func5, Try.ntmps5
    go_wp2_with (first
      | ((with_reducible refine chn_box (o := ⟨some 2, _, _, _, _, _⟩) chn rfl _ rfl rfl hF ?_); intro w1 bf hbf hBf bel1; have of := Nat.le_trans BB.out.size hbf; have BB := Lib.hid (bel_next BB.out bel1); have Xf := Lib.hid hBf; clear bel1 hBf hbf))
    refine (GR.out _).mono ?_
    rintro e w' ⟨rfl, rfl⟩
    go_wp2_with fail
    go_ret
    exact ⟨rfl, BB.out⟩
end Go.Proofs.Ytgnmpkembcdkcaa

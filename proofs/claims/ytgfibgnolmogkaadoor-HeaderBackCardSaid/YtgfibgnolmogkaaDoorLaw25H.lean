/-
  The walk of HeaderBack. Conditions: numbers within their types; the bytes lie below; the package variable widths as the text lays it.
-/
import Derived.Test.YtgfibgnolmogkaaDoorLaw25F
namespace Go.Proofs.YtgfibgnolmogkaaDoor
open Go.RowKit
set_option linter.unusedVariables false

theorem WdAt.nx {w w' : World} (h : WdAt w) (hb : Below w.heap.size w w') : WdAt w' := h.next hb
theorem Own.nextH {w w' : World} {base e : Nat} {k : IntKind} {v : Value} {xs : List Int} (h : Own w base e k v xs) (hb : Below w.heap.size w w') : Own w' base e k v xs := h.below hb

set_option maxRecDepth 100000 in
set_option maxHeartbeats 1000000 in
theorem hback_long (f c b r n : Int) (A : Option Addr) (k m : Nat) (a y : Int) (w : World) (hW : WdAt w) (hm : m ≤ 9223372036854775807) (h1 : 500 < m) :
    Calls Tryd.prog 4 #[.agg #[.int .i64 f, .int .i64 c, .int .i64 b, .int .i64 r, .int .i64 n], .slice A m k, .int .i64 a, .int .u8 y] w fun e w' => e = .returned (.bool true) ∧ Below w.heap.size w w' := by
  have BB := Lib.hid (bel_up (bel_self w) (.cells #[.int .i64 f, .int .i64 c, .int .i64 b, .int .i64 r, .int .i64 n] 23))
  have WD := Lib.hid (hW.up (.cells #[.int .i64 f, .int .i64 c, .int .i64 b, .int .i64 r, .int .i64 n] 23))
  have h2 : (500 : Int) < (m : Int) := by omega
  clear hW
  go_enter Tryd.func4, Tryd.ntmps4
  go_wp2_with fail
  generalize w.alloc (.cells #[.int .i64 f, .int .i64 c, .int .i64 b, .int .i64 r, .int .i64 n] 23) = wb at *
  go_wp2_with fail
  refine (hdAlive _ WD.out).mono ?_
  rintro e w1 ⟨rfl, bel1⟩
  have BB := Lib.hid (bel_next BB.out bel1)
  clear bel1
  go_wp2_with fail
  go_ret
  exact ⟨rfl, BB.out⟩

set_option maxRecDepth 100000 in
set_option maxHeartbeats 1000000 in
theorem hback_bad (f c b r n : Int) (A : Option Addr) (k m : Nat) (a y : Int) (w : World) (hn1 : n ≤ 9223372036854775807) (hW : WdAt w) (hm : m ≤ 9223372036854775807) (h1 : ¬ 500 < m) (h0 : hdE f c b r n ≠ 0) :
    Calls Tryd.prog 4 #[.agg #[.int .i64 f, .int .i64 c, .int .i64 b, .int .i64 r, .int .i64 n], .slice A m k, .int .i64 a, .int .u8 y] w fun e w' => e = .returned (.bool true) ∧ Below w.heap.size w w' := by
  have BB := Lib.hid (bel_up (bel_self w) (.cells #[.int .i64 f, .int .i64 c, .int .i64 b, .int .i64 r, .int .i64 n] 23))
  have WD := Lib.hid (hW.up (.cells #[.int .i64 f, .int .i64 c, .int .i64 b, .int .i64 r, .int .i64 n] 23))
  have BH := Lib.hid (BlkH.new w 23 #[.int .i64 f, .int .i64 c, .int .i64 b, .int .i64 r, .int .i64 n])
  have CW := Lib.hid (fun W hq => hdWrite f c b r n W hn1 hq)
  have CK := Lib.hid (fun W => hdCheck f c b r n W hn1)
  rw [hdWR_bad h0] at CW
  have e1 : (hdE f c b r n != 0) = true := by simp; exact h0
  have e2 : (hdE f c b r n == hdE f c b r n) = true := by simp
  have h2 : ¬ (500 : Int) < (m : Int) := by omega
  generalize hdE f c b r n = E at *
  clear h0 hW
  go_enter Tryd.func4, Tryd.ntmps4
  go_wp2_with fail
  generalize w.alloc (.cells #[.int .i64 f, .int .i64 c, .int .i64 b, .int .i64 r, .int .i64 n] 23) = wb at *
  go_wp2_with fail
  refine (hdAlive _ WD.out).mono ?_
  rintro e w1 ⟨rfl, bel1⟩
  have BH := Lib.hid (BH.out.next bel1)
  have WD := Lib.hid (WD.out.next bel1)
  have BB := Lib.hid (bel_next BB.out bel1)
  clear bel1
  have c0 := BH.out.cell 0
  have c1 := BH.out.cell 1
  have c2 := BH.out.cell 2
  have c3 := BH.out.cell 3
  have c4 := BH.out.cell 4
  go_wp2_with fail
  refine (CW.out _ WD.out).mono ?_
  rintro e w2 ⟨v2, rfl, own2, bel2⟩
  obtain ⟨A2, k2, rfl, hk2, hm2, sl2⟩ := own2.sln (n := 0) rfl
  have BH := Lib.hid (BH.out.next bel2)
  have BB := Lib.hid (bel_next BB.out bel2)
  clear bel2 own2 sl2 c0 c1 c2 c3 c4 WD
  have c0 := BH.out.cell 0
  have c1 := BH.out.cell 1
  have c2 := BH.out.cell 2
  have c3 := BH.out.cell 3
  have c4 := BH.out.cell 4
  go_wp2_with fail
  refine (CK.out _).mono ?_
  rintro e w3 ⟨rfl, bel3⟩
  have BB := Lib.hid (bel_next BB.out bel3)
  clear bel3
  go_wp2_with fail
  go_ret
  exact ⟨rfl, BB.out⟩

set_option maxRecDepth 100000 in
set_option maxHeartbeats 2000000 in
theorem hback_main (f c b r n : Int) (A : Option Addr) (k m : Nat) (bs : List Int) (a y : Int) (w : World) (hn1 : n ≤ 9223372036854775807) (hW : WdAt w) (hm : bs.length = m) (hb : U8 bs) (hsb : Sl w w.heap.size .u8 A bs)
    (ha0 : -9223372036854775808 ≤ a) (ha1 : a ≤ 9223372036854775807) (hy0 : 0 ≤ y) (hy1 : y ≤ 255) (h1 : ¬ 500 < m) (h0 : hdE f c b r n = 0) :
    Calls Tryd.prog 4 #[.agg #[.int .i64 f, .int .i64 c, .int .i64 b, .int .i64 r, .int .i64 n], .slice A m k, .int .i64 a, .int .u8 y] w fun e w' => e = .returned (.bool true) ∧ Below w.heap.size w w' := by
  have BB := Lib.hid (bel_up (bel_self w) (.cells #[.int .i64 f, .int .i64 c, .int .i64 b, .int .i64 r, .int .i64 n] 23))
  have WD := Lib.hid (hW.up (.cells #[.int .i64 f, .int .i64 c, .int .i64 b, .int .i64 r, .int .i64 n] 23))
  have BH := Lib.hid (BlkH.new w 23 #[.int .i64 f, .int .i64 c, .int .i64 b, .int .i64 r, .int .i64 n])
  have SB := Lib.hid (hsb.up (.cells #[.int .i64 f, .int .i64 c, .int .i64 b, .int .i64 r, .int .i64 n] 23))
  have CW := Lib.hid (fun W hq => hdWrite f c b r n W hn1 hq)
  rw [hdWR_ok h0, h0] at CW
  have W0 := Lib.hid hW.1
  have LW := Lib.hid (hdW_len f c b r n)
  have U := Lib.hid (hdW_u8 f c b r n)
  have HBS := Lib.hid hb
  have M := Lib.hid hm
  have RB := Lib.hid (hdW_back h0 bs)
  have RC := Lib.hid (fun (j : Nat) (hj : j < 22) => hdW_cut f c b r n hj)
  have RO := Lib.hid (fun (i : Nat) (z : Int) (hi : i < 22) (hz : 0 ≤ z ∧ z ≤ 255) (hne : z ≠ (hdW f c b r n).getD i 0) => hdW_other f c b r n hi hz hne)
  have HE := Lib.hid (fun W => hd_eq f c b r n f c b r n W)
  have yf : (f == f) = true := by simp
  have yc : (c == c) = true := by simp
  have yb : (b == b) = true := by simp
  have yr : (r == r) = true := by simp
  have yn : (n == n) = true := by simp
  have h2 : ¬ (500 : Int) < (m : Int) := by omega
  generalize hdW f c b r n = xs at *
  clear h0 hW hsb hb hm
  go_enter Tryd.func4, Tryd.ntmps4
  go_wp2_with fail
  generalize w.alloc (.cells #[.int .i64 f, .int .i64 c, .int .i64 b, .int .i64 r, .int .i64 n] 23) = wb at *
  go_wp2_with fail
  refine (hdAlive _ WD.out).mono ?_
  rintro e w1 ⟨rfl, bel1⟩
  have BH := Lib.hid (BH.out.next bel1)
  have WD := Lib.hid (WD.out.next bel1)
  have SB := Lib.hid (SB.out.next bel1)
  have BB := Lib.hid (bel_next BB.out bel1)
  clear bel1
  have c0 := BH.out.cell 0
  have c1 := BH.out.cell 1
  have c2 := BH.out.cell 2
  have c3 := BH.out.cell 3
  have c4 := BH.out.cell 4
  go_wp2_with fail
  refine (CW.out _ WD.out).mono ?_
  rintro e w2 ⟨v2, rfl, own2, bel2⟩
  obtain ⟨Aa, ca, rfl, hca, hma, sl2⟩ := own2.sln LW.out
  obtain ⟨g, rfl, hg1, hg2⟩ := own2.addr (by rw [LW.out]; decide)
  have SA := Lib.hid sl2
  have OA := Lib.hid (own2.rebase (base' := w.heap.size) BB.out.size)
  have BH := Lib.hid (BH.out.next bel2)
  have WD := Lib.hid (WD.out.nx bel2)
  have SB := Lib.hid (SB.out.next bel2)
  have BB := Lib.hid (bel_next BB.out bel2)
  clear own2 bel2 sl2 c0 c1 c2 c3 c4
  have B0 := Lib.hid (bel_up (bel_self w2) (.cells #[] 5))
  go_wp2_with (first
    | (at_builtin; refine appNh (xs := []) (ys := xs) leElU8 _ _ rfl rfl rfl rfl LW.out (Own.lit w2 w2.heap.size .u8 5 [] rfl rfl (Nat.le_refl _) (by decide)) (SA.out.alloc (Nat.le_refl _) _) (by simp) (by simp) B0.out.size ?_; intro v3 w3 own3 bel3; have O3 := Lib.hid (show Own w3 w2.heap.size 5 .u8 v3 xs by simpa using own3); have B3 := Lib.hid (B0.out.trans bel3); clear own3 bel3)
    | (at_builtin; refine appNh (xs := xs) (ys := bs) leElU8 _ _ rfl rfl rfl rfl M.out O3.out (SB.out.below B3.out) (by rw [LW.out]; omega) (by rw [LW.out]; omega) B3.out.size ?_; intro v4 w4 own4 bel4; have O4 := Lib.hid own4; have B4 := Lib.hid (B3.out.trans bel4); clear own4 bel4 O3 B3))
  obtain ⟨Ab, cb, rfl, hcb, hmb, sl4⟩ := O4.out.sln (n := 22 + m) (by rw [List.length_append, LW.out, M.out])
  have SC := Lib.hid sl4
  have OA := Lib.hid (OA.out.nextH B4.out)
  have SA := Lib.hid (SA.out.next B4.out)
  have BH := Lib.hid (BH.out.next B4.out)
  have WD := Lib.hid (WD.out.nx B4.out)
  have BB := Lib.hid (bel_next BB.out B4.out)
  clear sl4 O4 B4 B0 SB
  have RD := Lib.hid (hdRead Ab (22 + m) cb (xs ++ bs) w4 (by rw [List.length_append, LW.out, M.out]) hcb hmb (u8_app U.out HBS.out) SC.out WD.out)
  rw [RB.out.1, RB.out.2] at RD
  go_wp2_with fail
  refine RD.out.mono ?_
  rintro e w5 ⟨rfl, bel5⟩
  have BK := Lib.hid (BlkH.new w5 23 #[.int .i64 f, .int .i64 c, .int .i64 b, .int .i64 r, .int .i64 n])
  have bel5 := bel_up bel5 (.cells #[.int .i64 f, .int .i64 c, .int .i64 b, .int .i64 r, .int .i64 n] 23)
  have OA := Lib.hid (OA.out.nextH bel5)
  have SA := Lib.hid (SA.out.next bel5)
  have BH := Lib.hid (BH.out.next bel5)
  have WD := Lib.hid (WD.out.nx bel5)
  have BB := Lib.hid (bel_next BB.out bel5)
  clear bel5 RD SC
  have c0 := BK.out.cell 0
  have c1 := BK.out.cell 1
  have c2 := BK.out.cell 2
  have c3 := BK.out.cell 3
  have c4 := BK.out.cell 4
  have d0 := BH.out.cell 0
  have d1 := BH.out.cell 1
  have d2 := BH.out.cell 2
  have d3 := BH.out.cell 3
  have d4 := BH.out.cell 4
  have he := HE.out
  by_cases hq : 0 ≤ a ∧ a < 22 ∧ y ≠ 0
  · obtain ⟨ha, hb, hy⟩ := hq
    obtain ⟨i, rfl⟩ := Int.eq_ofNat_of_zero_le ha
    have hi : i < 22 := by omega
    have y0 : (y == 0) = false := by simp; exact hy
    have r1 : ∀ W, (Instr.slice 24 (.slice (some ⟨g, 0, none⟩) 22 ca) none (some (.int .i64 (i : Int))) none).run Tryd.prog W = .ok (.slice (some ⟨g, 0, none⟩) i ca) W := run_upto leElU8 _ 22 ca i rfl (by omega)
    have FC := Lib.hid (fun W (h1 : Sl W W.heap.size .u8 (some ⟨g, 0, none⟩) xs) (h2 : WdAt W) => hdFails (some ⟨g, 0, none⟩) i ca (xs.take i) 24 W (by rw [List.length_take, LW.out]; omega) (by omega) hma (fun x h => U.out x (List.mem_of_mem_take h)) (h1.take i) h2 (RC.out i hi) (by decide))
    have nb : ¬ (i : Int) < 0 := by omega
    have nc : ¬ (22 : Int) ≤ (i : Int) := by omega
    go_wp2_with fail
    refine (FC.out _ SA.out WD.out).mono ?_
    rintro e w6 ⟨rfl, bel6⟩
    have OA := Lib.hid (OA.out.nextH bel6)
    have WD := Lib.hid (WD.out.nx bel6)
    have BB := Lib.hid (bel_next BB.out bel6)
    clear bel6 FC SA c0 c1 c2 c3 c4 d0 d1 d2 d3 d4 he r1 BH BK HE
    have cell := OA.out.cell i (by rw [LW.out]; exact hi)
    have free := OA.out.frozen i
    have hb2 := U.out _ (mem_getD (show i < xs.length by rw [LW.out]; exact hi))
    obtain ⟨z1, z2, z3⟩ := xor8_bd (y := y) hb2 ⟨hy0, hy1⟩ hy
    have RZ := Lib.hid (RO.out i _ hi ⟨z1, z2⟩ z3)
    generalize xs.getD i 0 = x at *
    generalize hz : bits .xor .u8 x y = z at *
    have O8 := Lib.hid (OA.out.set i z)
    have B8 := Lib.hid (BB.out.setCell (p := ⟨g, i, none⟩) OA.out.base_le (.int .u8 z))
    have W8 := Lib.hid (WD.out.ofBelow ((Below.refl w.heap.size w6).setCell (p := ⟨g, i, none⟩) OA.out.base_le (.int .u8 z)) (show 0 < w.heap.size from W0.out))
    have UZ := Lib.hid (u8_set U.out i ⟨z1, z2⟩)
    have LZ := Lib.hid (show (xs.set i z).length = 22 by rw [List.length_set]; exact LW.out)
    obtain ⟨A8, c8, hv8, hc8, hm8, sl8⟩ := O8.out.sln LZ.out
    injection hv8 with hA8 hn8 hcc8
    subst hA8 hcc8
    have S8 := Lib.hid sl8
    clear sl8 OA BB WD
    by_cases h4 : i < 4
    · rw [if_pos h4] at RZ
      have l4 : (i : Int) < 4 := by omega
      go_wp2_with fail
      refine (hdFails (some ⟨g, 0, none⟩) 22 ca (xs.set i z) 12 _ LZ.out hca hma UZ.out S8.out W8.out RZ.out (by decide)).mono ?_
      rintro e w9 ⟨rfl, bel9⟩
      have BB := Lib.hid (bel_next B8.out bel9)
      clear bel9
      go_wp2_with fail
      go_ret
      exact ⟨rfl, BB.out⟩
    · rw [if_neg h4] at RZ
      have l4 : ¬ (i : Int) < 4 := by omega
      go_wp2_with fail
      refine (hdFails (some ⟨g, 0, none⟩) 22 ca (xs.set i z) 22 _ LZ.out hca hma UZ.out S8.out W8.out RZ.out (by decide)).mono ?_
      rintro e w9 ⟨rfl, bel9⟩
      have BB := Lib.hid (bel_next B8.out bel9)
      clear bel9
      go_wp2_with fail
      go_ret
      exact ⟨rfl, BB.out⟩
  · by_cases ha : a < 0
    · go_wp2_with fail
      go_ret
      exact ⟨rfl, BB.out⟩
    · by_cases hb : (22 : Int) ≤ a
      · go_wp2_with fail
        go_ret
        exact ⟨rfl, BB.out⟩
      · obtain rfl : y = 0 := by
          by_cases h : y = 0
          · exact h
          · exact absurd ⟨by omega, by omega, h⟩ hq
        clear hq
        go_wp2_with fail
        go_ret
        exact ⟨rfl, BB.out⟩

theorem headerBack_walk (f c b r n : Int) (A : Option Addr) (k : Nat) (bs : List Int) (a y : Int) (w : World) (lf : -9223372036854775808 ≤ f) (uf : f ≤ 9223372036854775807) (lc : -9223372036854775808 ≤ c) (uc : c ≤ 9223372036854775807) (lb : -9223372036854775808 ≤ b) (ub : b ≤ 9223372036854775807)
    (lr : -9223372036854775808 ≤ r) (ur : r ≤ 9223372036854775807) (ln : -9223372036854775808 ≤ n) (un : n ≤ 9223372036854775807) (hc : bs.length ≤ k) (hm : k ≤ 9223372036854775807) (hb : U8 bs) (hs : Sl w w.heap.size .u8 A bs)
    (ha0 : -9223372036854775808 ≤ a) (ha1 : a ≤ 9223372036854775807) (hy0 : 0 ≤ y) (hy1 : y ≤ 255) (hW : WdAt w) :
    Calls Tryd.prog 4 #[.agg #[.int .i64 f, .int .i64 c, .int .i64 b, .int .i64 r, .int .i64 n], .slice A bs.length k, .int .i64 a, .int .u8 y] w fun e w' => e = .returned (.bool true) ∧ Below w.heap.size w w' := by
  by_cases h1 : 500 < bs.length
  · exact hback_long f c b r n A k _ a y w hW (by omega) h1
  · by_cases h0 : hdE f c b r n = 0
    · exact hback_main f c b r n A k _ bs a y w un hW rfl hb hs ha0 ha1 hy0 hy1 h1 h0
    · exact hback_bad f c b r n A k _ a y w un hW (by omega) h1 h0
end Go.Proofs.YtgfibgnolmogkaaDoor

/-
  The walks of FirstBack and FirstPart. Conditions: numbers within their types.
-/
import Derived.Test.YtkdfjhblkcbfdaaLaw13A
import Derived.Test.YtkdfjhblkcbfdaaKit2
namespace Go.Proofs.Ytkdfjhblkcbfdaa
open Go.RowKit
set_option linter.unusedVariables false

theorem bckR_fwdR {b : Int} {xs : List Int} (h : chE b xs.length = 0) (hx : I32 xs) : bckR b (fwdR b xs) = xs := by
  rw [fwdR_ok h, bckR_ok (by rw [fwd_len]; exact h)]; exact bck_fwd _ _ _ hx
theorem fwdR_bckR {b : Int} {xs : List Int} (h : chE b xs.length = 0) (hx : I32 xs) : fwdR b (bckR b xs) = xs := by
  rw [bckR_ok h, fwdR_ok (by rw [bck_len]; exact h)]; exact fwd_bck _ _ _ hx
theorem fwdR_i32 (b : Int) (xs : List Int) : I32 (fwdR b xs) := by
  by_cases h : chE b xs.length = 0
  · rw [fwdR_ok h]; exact fwd_i32 _ _ _
  · rw [fwdR_bad h]; intro x hx; cases hx
theorem bckR_i32 (b : Int) (xs : List Int) : I32 (bckR b xs) := by
  by_cases h : chE b xs.length = 0
  · rw [bckR_ok h]; exact bck_i32 _ _ _
  · rw [bckR_bad h]; intro x hx; cases hx
theorem fwdR_l {b : Int} {xs : List Int} (h : chE b xs.length = 0) : (fwdR b xs).length = xs.length := by rw [fwdR_ok h, fwd_len]
theorem bckR_l {b : Int} {xs : List Int} (h : chE b xs.length = 0) : (bckR b xs).length = xs.length := by rw [bckR_ok h, bck_len]
theorem shE_bad {b : Int} (h : shE b ≠ 0) : b ≠ 8 ∧ b ≠ 16 ∧ b ≠ 24 := by
  refine ⟨?_, ?_, ?_⟩ <;> (intro e; subst e; exact h (by decide))

set_option maxRecDepth 100000 in
set_option maxHeartbeats 1000000 in
theorem firstBack_walk (b : Int) (A : Option Addr) (c : Nat) (xs : List Int) (w : World) (hb0 : -9223372036854775808 ≤ b) (hb1 : b ≤ 9223372036854775807)
    (hc : xs.length ≤ c) (hm : c ≤ 9223372036854775807) (hx : I32 xs) (hs : Sl w w.heap.size .i32 A xs) :
    Calls Try.prog 8 #[.int .i64 b, .slice A xs.length c] w fun e w' => e = .returned (.bool true) ∧ Below w.heap.size w w' := by
  have SX := Lib.hid hs
  have HX := Lib.hid hx
  have BB := Lib.hid (bel_self w)
  clear hs hx
  by_cases hl : xs.length ≤ 4000
  · by_cases h0 : chE b xs.length = 0
    · have r1 := Lib.hid (bckR_fwdR h0 HX.out)
      have r2 := Lib.hid (fwdR_bckR h0 HX.out)
      have q1 := Lib.hid (fwdR_l h0)
      have q2 := Lib.hid (bckR_l h0)
      have H0 := Lib.hid h0
      clear h0
      go_enter Try.func8, Try.ntmps8
      go_wp2_with fail
      refine (alive_any w).mono ?_
      rintro e w1 ⟨rfl, bel1⟩
      have SX := Lib.hid (SX.out.next bel1)
      have BB := Lib.hid (bel_next BB.out bel1)
      clear bel1
      go_wp2_with fail
      refine (forward_v (e := 0) xs (fwdR b xs) _ rfl (by omega) HX.out SX.out hb0 hb1 H0.out rfl).mono ?_
      rintro e w2 ⟨v2, rfl, own2, bel2⟩
      obtain ⟨Aa, ca, rfl, _, _, sl2⟩ := own2.sl
      have Sa := Lib.hid sl2
      have SX := Lib.hid (SX.out.next bel2)
      have BB := Lib.hid (bel_next BB.out bel2)
      clear own2 bel2 sl2
      go_wp2_with fail
      refine (backward_v (e := 0) xs (bckR b xs) _ rfl (by omega) HX.out SX.out hb0 hb1 H0.out rfl).mono ?_
      rintro e w3 ⟨v3, rfl, own3, bel3⟩
      obtain ⟨Ab, cb, rfl, _, _, sl3⟩ := own3.sl
      have Sb := Lib.hid sl3
      have SX := Lib.hid (SX.out.next bel3)
      have Sa := Lib.hid (Sa.out.next bel3)
      have BB := Lib.hid (bel_next BB.out bel3)
      clear own3 bel3 sl3
      go_wp2_with fail
      refine (backward_v (e := 0) (fwdR b xs) xs _ rfl (by have := q1.out; omega) (fwdR_i32 b xs) Sa.out hb0 hb1 (by rw [q1.out]; exact H0.out) r1.out).mono ?_
      rintro e w4 ⟨v4, rfl, own4, bel4⟩
      obtain ⟨Ac, cc, rfl, _, _, sl4⟩ := own4.sl
      have Sc := Lib.hid sl4
      have SX := Lib.hid (SX.out.next bel4)
      have Sa := Lib.hid (Sa.out.next bel4)
      have Sb := Lib.hid (Sb.out.next bel4)
      have BB := Lib.hid (bel_next BB.out bel4)
      clear own4 bel4 sl4
      go_wp2_with fail
      refine (forward_v (e := 0) (bckR b xs) xs _ rfl (by have := q2.out; omega) (bckR_i32 b xs) Sb.out hb0 hb1 (by rw [q2.out]; exact H0.out) r2.out).mono ?_
      rintro e w5 ⟨v5, rfl, own5, bel5⟩
      obtain ⟨Ad, cd, rfl, _, _, sl5⟩ := own5.sl
      have Sd := Lib.hid sl5
      have SX := Lib.hid (SX.out.next bel5)
      have Sa := Lib.hid (Sa.out.next bel5)
      have Sb := Lib.hid (Sb.out.next bel5)
      have Sc := Lib.hid (Sc.out.next bel5)
      have BB := Lib.hid (bel_next BB.out bel5)
      clear own5 bel5 sl5
      go_wp2_with fail
      refine (same13 Ac A _ _ cc c xs _ rfl rfl (by omega) Sc.out SX.out).mono ?_
      rintro e w6 ⟨rfl, bel6⟩
      have SX := Lib.hid (SX.out.next bel6)
      have Sa := Lib.hid (Sa.out.next bel6)
      have Sb := Lib.hid (Sb.out.next bel6)
      have Sc := Lib.hid (Sc.out.next bel6)
      have Sd := Lib.hid (Sd.out.next bel6)
      have BB := Lib.hid (bel_next BB.out bel6)
      clear bel6
      go_wp2_with fail
      refine (same13 Ad A _ _ cd c xs _ rfl rfl (by omega) Sd.out SX.out).mono ?_
      rintro e w7 ⟨rfl, bel7⟩
      have SX := Lib.hid (SX.out.next bel7)
      have Sa := Lib.hid (Sa.out.next bel7)
      have Sb := Lib.hid (Sb.out.next bel7)
      have Sc := Lib.hid (Sc.out.next bel7)
      have Sd := Lib.hid (Sd.out.next bel7)
      have BB := Lib.hid (bel_next BB.out bel7)
      clear bel7
      go_wp2_with fail
      go_ret
      exact ⟨rfl, BB.out⟩
    · have hne : shE b ≠ 0 := fun h => h0 (chE_ok h hl)
      have H0 := Lib.hid (chE_bad (n := xs.length) hne)
      obtain ⟨n1, n2, n3⟩ := shE_bad hne
      have m1 : (b != 8) = true := by simp [n1]
      have m2 : (b != 16) = true := by simp [n2]
      have m3 : (b != 24) = true := by simp [n3]
      have E1 := Lib.hid (fwdR_bad h0)
      have E2 := Lib.hid (bckR_bad h0)
      clear h0 hne n1 n2 n3
      go_enter Try.func8, Try.ntmps8
      go_wp2_with fail
      refine (alive_any w).mono ?_
      rintro e w1 ⟨rfl, bel1⟩
      have SX := Lib.hid (SX.out.next bel1)
      have BB := Lib.hid (bel_next BB.out bel1)
      clear bel1
      go_wp2_with fail
      refine (forward_v (e := 2) xs [] _ rfl (by omega) HX.out SX.out hb0 hb1 H0.out E1.out).mono ?_
      rintro e w2 ⟨v2, rfl, own2, bel2⟩
      obtain ⟨Aa, ca, rfl, _, _, sl2⟩ := own2.sl
      have Sa := Lib.hid sl2
      have SX := Lib.hid (SX.out.next bel2)
      have BB := Lib.hid (bel_next BB.out bel2)
      clear own2 bel2 sl2
      go_wp2_with fail
      refine (backward_v (e := 2) xs [] _ rfl (by omega) HX.out SX.out hb0 hb1 H0.out E2.out).mono ?_
      rintro e w3 ⟨v3, rfl, own3, bel3⟩
      obtain ⟨Ab, cb, rfl, _, _, sl3⟩ := own3.sl
      have Sb := Lib.hid sl3
      have SX := Lib.hid (SX.out.next bel3)
      have Sa := Lib.hid (Sa.out.next bel3)
      have BB := Lib.hid (bel_next BB.out bel3)
      clear own3 bel3 sl3
      go_wp2_with fail
      go_ret
      exact ⟨rfl, BB.out⟩
  · go_enter Try.func8, Try.ntmps8
    go_wp2_with fail
    refine (alive_any w).mono ?_
    rintro e w1 ⟨rfl, bel1⟩
    have SX := Lib.hid (SX.out.next bel1)
    have BB := Lib.hid (bel_next BB.out bel1)
    clear bel1
    go_wp2_with fail
    go_ret
    exact ⟨rfl, BB.out⟩

set_option maxRecDepth 100000 in
set_option maxHeartbeats 1000000 in
theorem firstPart_main (b : Int) (A : Option Addr) (c n : Nat) (xs : List Int) (w : World) (hb0 : -9223372036854775808 ≤ b) (hb1 : b ≤ 9223372036854775807)
    (hc : xs.length ≤ c) (hm : c ≤ 9223372036854775807) (hx : I32 xs) (hs : Sl w w.heap.size .i32 A xs) (hl : xs.length ≤ 4000) (hn : n ≤ xs.length) :
    Calls Try.prog 9 #[.int .i64 b, .slice A xs.length c, .int .i64 n] w fun e w' => e = .returned (.bool true) ∧ Below w.heap.size w w' := by
  have SX := Lib.hid hs
  have HX := Lib.hid hx
  have BB := Lib.hid (bel_self w)
  have HN := Lib.hid (show (xs.take n).length = n by rw [List.length_take]; omega)
  clear hs hx
  by_cases h0 : chE b xs.length = 0
  · have q1 := Lib.hid (fwdR_l h0)
    have q2 := Lib.hid (bckR_l h0)
    have H0 := Lib.hid h0
    have H1 := Lib.hid (chE_ok (n := n) (chE_zero h0).1 (by omega))
    have r1 := Lib.hid (show fwdR b (xs.take n) = (fwdR b xs).take n by rw [fwdR_ok h0, fwdR_ok (by rw [HN.out]; exact H1.out), fwd_take])
    have r2 := Lib.hid (show bckR b (xs.take n) = (bckR b xs).take n by rw [bckR_ok h0, bckR_ok (by rw [HN.out]; exact H1.out), bck_take])
    have e0 : ((xs.length : Int) == (xs.length : Int)) = true := by simp
    clear h0
    go_enter Try.func9, Try.ntmps9
    go_wp2_with fail
    refine (alive_any w).mono ?_
    rintro e w1 ⟨rfl, bel1⟩
    have SX := Lib.hid (SX.out.next bel1)
    have BB := Lib.hid (bel_next BB.out bel1)
    clear bel1
    go_wp2_with fail
    refine (forward_v (e := 0) xs (fwdR b xs) _ rfl (by omega) HX.out SX.out hb0 hb1 H0.out rfl).mono ?_
    rintro e w2 ⟨v2, rfl, own2, bel2⟩
    obtain ⟨Aa, ca, rfl, hca, hma, sl2⟩ := own2.sln (q1.out)
    have Sa := Lib.hid sl2
    have SX := Lib.hid (SX.out.next bel2)
    have BB := Lib.hid (bel_next BB.out bel2)
    clear own2 bel2 sl2
    go_wp2_with fail
    refine (forward_v (e := 0) (xs.take n) ((fwdR b xs).take n) _ HN.out (by omega) (i32_take HX.out n) (SX.out.take n) hb0 hb1 H1.out r1.out).mono ?_
    rintro e w3 ⟨v3, rfl, own3, bel3⟩
    obtain ⟨Ab, cb, rfl, hcb, hmb, sl3⟩ := own3.sln ((by rw [List.length_take, q1.out]; omega : _ = n))
    have Sb := Lib.hid sl3
    have SX := Lib.hid (SX.out.next bel3)
    have Sa := Lib.hid (Sa.out.next bel3)
    have BB := Lib.hid (bel_next BB.out bel3)
    clear own3 bel3 sl3
    go_wp2_with fail
    refine (backward_v (e := 0) xs (bckR b xs) _ rfl (by omega) HX.out SX.out hb0 hb1 H0.out rfl).mono ?_
    rintro e w4 ⟨v4, rfl, own4, bel4⟩
    obtain ⟨Ac, cc, rfl, hcc, hmc, sl4⟩ := own4.sln (q2.out)
    have Sc := Lib.hid sl4
    have SX := Lib.hid (SX.out.next bel4)
    have Sa := Lib.hid (Sa.out.next bel4)
    have Sb := Lib.hid (Sb.out.next bel4)
    have BB := Lib.hid (bel_next BB.out bel4)
    clear own4 bel4 sl4
    go_wp2_with fail
    refine (backward_v (e := 0) (xs.take n) ((bckR b xs).take n) _ HN.out (by omega) (i32_take HX.out n) (SX.out.take n) hb0 hb1 H1.out r2.out).mono ?_
    rintro e w5 ⟨v5, rfl, own5, bel5⟩
    obtain ⟨Ad, cd, rfl, hcd, hmd, sl5⟩ := own5.sln ((by rw [List.length_take, q2.out]; omega : _ = n))
    have Sd := Lib.hid sl5
    have SX := Lib.hid (SX.out.next bel5)
    have Sa := Lib.hid (Sa.out.next bel5)
    have Sb := Lib.hid (Sb.out.next bel5)
    have Sc := Lib.hid (Sc.out.next bel5)
    have BB := Lib.hid (bel_next BB.out bel5)
    clear own5 bel5 sl5
    go_wp2_with fail
    refine (same13 Aa Ab n n ca cb ((fwdR b xs).take n) _ (by rw [List.length_take, q1.out]; omega) (by rw [List.length_take, q1.out]; omega) (by rw [List.length_take, q1.out]; omega) (Sa.out.take n) Sb.out).mono ?_
    rintro e w6 ⟨rfl, bel6⟩
    have SX := Lib.hid (SX.out.next bel6)
    have Sa := Lib.hid (Sa.out.next bel6)
    have Sb := Lib.hid (Sb.out.next bel6)
    have Sc := Lib.hid (Sc.out.next bel6)
    have Sd := Lib.hid (Sd.out.next bel6)
    have BB := Lib.hid (bel_next BB.out bel6)
    clear bel6
    go_wp2_with fail
    refine (same13 Ac Ad n n cc cd ((bckR b xs).take n) _ (by rw [List.length_take, q2.out]; omega) (by rw [List.length_take, q2.out]; omega) (by rw [List.length_take, q2.out]; omega) (Sc.out.take n) Sd.out).mono ?_
    rintro e w7 ⟨rfl, bel7⟩
    have SX := Lib.hid (SX.out.next bel7)
    have Sa := Lib.hid (Sa.out.next bel7)
    have Sb := Lib.hid (Sb.out.next bel7)
    have Sc := Lib.hid (Sc.out.next bel7)
    have Sd := Lib.hid (Sd.out.next bel7)
    have BB := Lib.hid (bel_next BB.out bel7)
    clear bel7
    go_wp2_with fail
    go_ret
    exact ⟨rfl, BB.out⟩
  · have hne : shE b ≠ 0 := fun h => h0 (chE_ok h hl)
    have H0 := Lib.hid (chE_bad (n := xs.length) hne)
    have H1 := Lib.hid (chE_bad (n := n) hne)
    have E1 := Lib.hid (fwdR_bad h0)
    have E2 := Lib.hid (bckR_bad h0)
    have E3 := Lib.hid (fwdR_bad (xs := xs.take n) (b := b) (by rw [HN.out, H1.out]; decide))
    have E4 := Lib.hid (bckR_bad (xs := xs.take n) (b := b) (by rw [HN.out, H1.out]; decide))
    clear h0 hne
    go_enter Try.func9, Try.ntmps9
    go_wp2_with fail
    refine (alive_any w).mono ?_
    rintro e w1 ⟨rfl, bel1⟩
    have SX := Lib.hid (SX.out.next bel1)
    have BB := Lib.hid (bel_next BB.out bel1)
    clear bel1
    go_wp2_with fail
    refine (forward_v (e := 2) xs [] _ rfl (by omega) HX.out SX.out hb0 hb1 H0.out E1.out).mono ?_
    rintro e w2 ⟨v2, rfl, own2, bel2⟩
    obtain ⟨Aa, ca, rfl, _, _, sl2⟩ := own2.sl
    have Sa := Lib.hid sl2
    have SX := Lib.hid (SX.out.next bel2)
    have BB := Lib.hid (bel_next BB.out bel2)
    clear own2 bel2 sl2
    go_wp2_with fail
    refine (forward_v (e := 2) (xs.take n) [] _ HN.out (by omega) (i32_take HX.out n) (SX.out.take n) hb0 hb1 H1.out E3.out).mono ?_
    rintro e w3 ⟨v3, rfl, own3, bel3⟩
    obtain ⟨Ab, cb, rfl, _, _, sl3⟩ := own3.sl
    have Sb := Lib.hid sl3
    have SX := Lib.hid (SX.out.next bel3)
    have Sa := Lib.hid (Sa.out.next bel3)
    have BB := Lib.hid (bel_next BB.out bel3)
    clear own3 bel3 sl3
    go_wp2_with fail
    refine (backward_v (e := 2) xs [] _ rfl (by omega) HX.out SX.out hb0 hb1 H0.out E2.out).mono ?_
    rintro e w4 ⟨v4, rfl, own4, bel4⟩
    obtain ⟨Ac, cc, rfl, _, _, sl4⟩ := own4.sl
    have Sc := Lib.hid sl4
    have SX := Lib.hid (SX.out.next bel4)
    have Sa := Lib.hid (Sa.out.next bel4)
    have Sb := Lib.hid (Sb.out.next bel4)
    have BB := Lib.hid (bel_next BB.out bel4)
    clear own4 bel4 sl4
    go_wp2_with fail
    refine (backward_v (e := 2) (xs.take n) [] _ HN.out (by omega) (i32_take HX.out n) (SX.out.take n) hb0 hb1 H1.out E4.out).mono ?_
    rintro e w5 ⟨v5, rfl, own5, bel5⟩
    obtain ⟨Ad, cd, rfl, _, _, sl5⟩ := own5.sl
    have Sd := Lib.hid sl5
    have SX := Lib.hid (SX.out.next bel5)
    have Sa := Lib.hid (Sa.out.next bel5)
    have Sb := Lib.hid (Sb.out.next bel5)
    have Sc := Lib.hid (Sc.out.next bel5)
    have BB := Lib.hid (bel_next BB.out bel5)
    clear own5 bel5 sl5
    go_wp2_with fail
    go_ret
    exact ⟨rfl, BB.out⟩

set_option maxRecDepth 100000 in
set_option maxHeartbeats 400000 in
theorem firstPart_walk (b : Int) (A : Option Addr) (c : Nat) (xs : List Int) (n : Int) (w : World) (hb0 : -9223372036854775808 ≤ b) (hb1 : b ≤ 9223372036854775807)
    (hc : xs.length ≤ c) (hm : c ≤ 9223372036854775807) (hx : I32 xs) (hs : Sl w w.heap.size .i32 A xs) (hn0 : -9223372036854775808 ≤ n) (hn1 : n ≤ 9223372036854775807) :
    Calls Try.prog 9 #[.int .i64 b, .slice A xs.length c, .int .i64 n] w fun e w' => e = .returned (.bool true) ∧ Below w.heap.size w w' := by
  by_cases hl : xs.length ≤ 4000
  · by_cases h0 : 0 ≤ n
    · by_cases h1 : n ≤ xs.length
      · obtain ⟨m, rfl⟩ := Int.eq_ofNat_of_zero_le h0
        exact firstPart_main b A c m xs w hb0 hb1 hc hm hx hs hl (by omega)
      · have BB := Lib.hid (bel_self w)
        clear hs hx
        go_enter Try.func9, Try.ntmps9
        go_wp2_with fail
        refine (alive_any w).mono ?_
        rintro e w1 ⟨rfl, bel1⟩
        have BB := Lib.hid (bel_next BB.out bel1)
        clear bel1
        go_wp2_with fail
        go_ret
        exact ⟨rfl, BB.out⟩
    · have BB := Lib.hid (bel_self w)
      clear hs hx
      go_enter Try.func9, Try.ntmps9
      go_wp2_with fail
      refine (alive_any w).mono ?_
      rintro e w1 ⟨rfl, bel1⟩
      have BB := Lib.hid (bel_next BB.out bel1)
      clear bel1
      go_wp2_with fail
      go_ret
      exact ⟨rfl, BB.out⟩
  · have BB := Lib.hid (bel_self w)
    clear hs hx
    go_enter Try.func9, Try.ntmps9
    go_wp2_with fail
    refine (alive_any w).mono ?_
    rintro e w1 ⟨rfl, bel1⟩
    have BB := Lib.hid (bel_next BB.out bel1)
    clear bel1
    go_wp2_with fail
    go_ret
    exact ⟨rfl, BB.out⟩
end Go.Proofs.Ytkdfjhblkcbfdaa

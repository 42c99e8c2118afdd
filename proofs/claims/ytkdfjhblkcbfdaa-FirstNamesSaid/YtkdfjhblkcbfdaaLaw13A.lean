/-
  The walks of the chapter's example of layer 13, and of FirstGuesses and FirstRuns. Conditions: numbers within their types.
-/
import Derived.Test.YtkdfjhblkcbfdaaRef13Runs
import Derived.Test.YtkdfjhblkcbfdaaSame13
namespace Go.Proofs.Ytkdfjhblkcbfdaa
open Go.RowKit
set_option linter.unusedVariables false

theorem Guess_v {b x r e : Int} (w : World) (hr : guR b x = r) (he : shE b = e) (hb0 : -9223372036854775808 ≤ b) (hb1 : b ≤ 9223372036854775807) (h0 : -2147483648 ≤ x) (h1 : x ≤ 2147483647) :
    Calls Try.prog 12 #[.int .i64 b, .int .i32 x] w fun e' w' => e' = .returned (.tuple #[.int .i32 r, .int .i64 e]) ∧ w = w' := by
  subst hr he
  exact Guess_any b x w hb0 hb1 h0 h1
theorem Shift_v {b r e : Int} (w : World) (hr : shS b = r) (he : shE b = e) (hb0 : -9223372036854775808 ≤ b) (hb1 : b ≤ 9223372036854775807) :
    Calls Try.prog 10 #[.int .i64 b] w fun e' w' => e' = .returned (.tuple #[.int .i64 r, .int .i64 e]) ∧ w = w' := by
  subst hr he
  exact shift_any b w hb0 hb1
theorem forward_v {b e : Int} {A : Option Addr} {n c : Nat} (xs : List Int) (ys : List Int) (w : World) (hn : xs.length = n) (hm : n ≤ 9223372036854775807) (hx : I32 xs) (hs : Sl w w.heap.size .i32 A xs)
    (hb0 : -9223372036854775808 ≤ b) (hb1 : b ≤ 9223372036854775807) (he : chE b n = e) (hy : fwdR b xs = ys) :
    Calls Try.prog 15 #[.int .i64 b, .slice A n c] w fun e' w' =>
      ∃ v, e' = .returned (.tuple #[v, .int .i64 e]) ∧ Own w' w.heap.size 21 .i32 v ys ∧ Below w.heap.size w w' := by
  subst he hy
  exact forward_any b A n c xs w hn hm hx hs hb0 hb1
theorem backward_v {b e : Int} {A : Option Addr} {n c : Nat} (xs : List Int) (ys : List Int) (w : World) (hn : xs.length = n) (hm : n ≤ 9223372036854775807) (hx : I32 xs) (hs : Sl w w.heap.size .i32 A xs)
    (hb0 : -9223372036854775808 ≤ b) (hb1 : b ≤ 9223372036854775807) (he : chE b n = e) (hy : bckR b xs = ys) :
    Calls Try.prog 18 #[.int .i64 b, .slice A n c] w fun e' w' =>
      ∃ v, e' = .returned (.tuple #[v, .int .i64 e]) ∧ Own w' w.heap.size 21 .i32 v ys ∧ Below w.heap.size w w' := by
  subst he hy
  exact backward_any b A n c xs w hn hm hx hs hb0 hb1

theorem ex13 : fwdR 16 [100, 100, 50] = [100, 4, -46] := by
  simp [fwdR, chE, shE, shS, fwd, gF, wrap32]

set_option maxHeartbeats 1000000 in
theorem alive_any (w : World) : Calls Try.prog 14 #[] w fun e w' => e = .returned (.bool true) ∧ Below w.heap.size w w' := by
  have BB := Lib.hid (bel_self w)
  go_enter Try.func14, Try.ntmps14
  go_wp2_with fail
  refine (Guess_v (r := 96) (e := 0) w (by decide) (by decide) (by decide) (by decide) (by decide) (by decide)).mono ?_
  rintro e w' ⟨rfl, rfl⟩
  go_wp2_with fail
  refine (Guess_v (r := -97) (e := 0) w (by decide) (by decide) (by decide) (by decide) (by decide) (by decide)).mono ?_
  rintro e w' ⟨rfl, rfl⟩
  go_wp2_with fail
  refine (Guess_v (r := 0) (e := 0) w (by decide) (by decide) (by decide) (by decide) (by decide) (by decide)).mono ?_
  rintro e w' ⟨rfl, rfl⟩
  go_wp2_with fail
  refine (forward_v (e := 0) [100, 100, 50] [100, 4, -46] _ rfl (by decide) (by unfold I32; decide) (Sl.lit' w .i32 _ [100, 100, 50] rfl) (by decide) (by decide) (by decide) ex13).mono ?_
  rintro e w1 ⟨v1, rfl, own1, bel1⟩
  obtain ⟨Aa, ca, rfl, _, _, sl1⟩ := own1.sl
  have Sa := Lib.hid sl1
  have BB := Lib.hid (bel_next (bel_up BB.out _) bel1)
  clear own1 bel1 sl1
  go_wp2_with fail
  refine (same13 Aa _ 3 3 ca 3 [100, 4, -46] _ rfl rfl (by decide) (Sa.out.up _) (Sl.lit' w1 .i32 _ [100, 4, -46] rfl)).mono ?_
  rintro e w2 ⟨rfl, bel2⟩
  have Sa := Lib.hid ((Sa.out.up _).next bel2)
  have BB := Lib.hid (bel_next (bel_up BB.out _) bel2)
  clear bel2
  go_wp2_with fail
  go_ret
  exact ⟨rfl, BB.out⟩

set_option maxHeartbeats 400000 in
theorem firstGuesses_walk (b x : Int) (w : World) (hb0 : -9223372036854775808 ≤ b) (hb1 : b ≤ 9223372036854775807) (h0 : -2147483648 ≤ x) (h1 : x ≤ 2147483647) :
    Calls Try.prog 3 #[.int .i64 b, .int .i32 x] w fun e w' => e = .returned (.bool true) ∧ Below w.heap.size w w' := by
  have BB := Lib.hid (bel_self w)
  have e1 : (shS b == shS b) = true := by simp
  have e2 : (shE b == shE b) = true := by simp
  have e3 : (guR b x == guR b x) = true := by simp
  go_enter Try.func3, Try.ntmps3
  go_wp2_with fail
  refine (shift_any b w hb0 hb1).mono ?_
  rintro e w' ⟨rfl, rfl⟩
  go_wp2_with fail
  refine (reshift_any b w hb0 hb1).mono ?_
  rintro e w' ⟨rfl, rfl⟩
  go_wp2_with fail
  refine (Guess_any b x w hb0 hb1 h0 h1).mono ?_
  rintro e w' ⟨rfl, rfl⟩
  go_wp2_with fail
  refine (reGuess_any b x w hb0 hb1 h0 h1).mono ?_
  rintro e w' ⟨rfl, rfl⟩
  go_wp2_with fail
  go_ret
  exact ⟨rfl, BB.out⟩

set_option maxHeartbeats 1000000 in
theorem firstRuns_main (b : Int) (A : Option Addr) (c : Nat) (xs : List Int) (w : World) (hb0 : -9223372036854775808 ≤ b) (hb1 : b ≤ 9223372036854775807)
    (hx : I32 xs) (hs : Sl w w.heap.size .i32 A xs) (h1 : xs.length ≤ 600 ∨ 4000 < xs.length) (h2 : xs.length ≤ 4100) :
    Calls Try.prog 6 #[.int .i64 b, .slice A xs.length c] w fun e w' => e = .returned (.bool true) ∧ Below w.heap.size w w' := by
  have GR := Lib.hid (great_no A xs.length c w h1 h2)
  have SX := Lib.hid hs
  have HX := Lib.hid hx
  have e2 : (chE b xs.length == chE b xs.length) = true := by simp
  have B0 := Lib.hid (bel_up (bel_self w) (.cells #[] 21))
  clear hs hx h1
  go_enter Try.func6, Try.ntmps6
  go_wp2_with fail
  refine (GR.out).mono ?_
  rintro e w' ⟨rfl, rfl⟩
  go_wp2_with (at_builtin; refine appN (xs := []) (ys := xs) elI32 _ _ rfl rfl rfl rfl (Own.lit w w.heap.size .i32 21 [] rfl rfl (Nat.le_refl _) (by decide)) (SX.out.alloc (Nat.le_refl _) _) (by simp; omega) (by simp; omega) B0.out.size ?_; intro v1 w1 own1 bel1; have BB := Lib.hid (B0.out.trans bel1); have O1 := Lib.hid own1; clear own1 bel1 B0)
  obtain ⟨Ao, co, rfl, _, _, sl1⟩ := O1.out.sln (n := xs.length) (by simp)
  have SO := Lib.hid sl1
  have SX := Lib.hid (SX.out.next BB.out)
  clear sl1 O1
  simp only [List.nil_append] at SO
  have l1 := fwdR_len b xs
  have l2 := bckR_len b xs
  go_wp2_with fail
  refine (forward_any b Ao _ co xs _ rfl (by omega) HX.out SO.out hb0 hb1).mono ?_
  rintro e w2 ⟨v2, rfl, own2, bel2⟩
  obtain ⟨Aa, ca, rfl, _, _, sl2⟩ := own2.sl
  have Sa := Lib.hid sl2
  have SO := Lib.hid (SO.out.next bel2)
  have SX := Lib.hid (SX.out.next bel2)
  have BB := Lib.hid (bel_next BB.out bel2)
  clear own2 bel2 sl2
  go_wp2_with fail
  refine (reforward_any b A _ c xs _ rfl (by omega) HX.out SX.out hb0 hb1).mono ?_
  rintro e w3 ⟨v3, rfl, own3, bel3⟩
  obtain ⟨Ab, cb, rfl, _, _, sl3⟩ := own3.sl
  have Sb := Lib.hid sl3
  have SO := Lib.hid (SO.out.next bel3)
  have SX := Lib.hid (SX.out.next bel3)
  have Sa := Lib.hid (Sa.out.next bel3)
  have BB := Lib.hid (bel_next BB.out bel3)
  clear own3 bel3 sl3
  go_wp2_with fail
  refine (backward_any b Ao _ co xs _ rfl (by omega) HX.out SO.out hb0 hb1).mono ?_
  rintro e w4 ⟨v4, rfl, own4, bel4⟩
  obtain ⟨Ac, cc, rfl, _, _, sl4⟩ := own4.sl
  have Sc := Lib.hid sl4
  have SO := Lib.hid (SO.out.next bel4)
  have SX := Lib.hid (SX.out.next bel4)
  have Sa := Lib.hid (Sa.out.next bel4)
  have Sb := Lib.hid (Sb.out.next bel4)
  have BB := Lib.hid (bel_next BB.out bel4)
  clear own4 bel4 sl4
  go_wp2_with fail
  refine (rebackward_any b A _ c xs _ rfl (by omega) HX.out SX.out hb0 hb1).mono ?_
  rintro e w5 ⟨v5, rfl, own5, bel5⟩
  obtain ⟨Ad, cd, rfl, _, _, sl5⟩ := own5.sl
  have Sd := Lib.hid sl5
  have SO := Lib.hid (SO.out.next bel5)
  have SX := Lib.hid (SX.out.next bel5)
  have Sa := Lib.hid (Sa.out.next bel5)
  have Sb := Lib.hid (Sb.out.next bel5)
  have Sc := Lib.hid (Sc.out.next bel5)
  have BB := Lib.hid (bel_next BB.out bel5)
  clear own5 bel5 sl5
  go_wp2_with fail
  refine (same13 Aa Ab _ _ ca cb (fwdR b xs) _ rfl rfl (by omega) Sa.out Sb.out).mono ?_
  rintro e w6 ⟨rfl, bel6⟩
  have SO := Lib.hid (SO.out.next bel6)
  have SX := Lib.hid (SX.out.next bel6)
  have Sa := Lib.hid (Sa.out.next bel6)
  have Sb := Lib.hid (Sb.out.next bel6)
  have Sc := Lib.hid (Sc.out.next bel6)
  have Sd := Lib.hid (Sd.out.next bel6)
  have BB := Lib.hid (bel_next BB.out bel6)
  clear bel6
  clear Sa Sb
  go_wp2_with fail
  refine (same13 Ac Ad _ _ cc cd (bckR b xs) _ rfl rfl (by omega) Sc.out Sd.out).mono ?_
  rintro e w7 ⟨rfl, bel7⟩
  have SO := Lib.hid (SO.out.next bel7)
  have SX := Lib.hid (SX.out.next bel7)
  have Sc := Lib.hid (Sc.out.next bel7)
  have Sd := Lib.hid (Sd.out.next bel7)
  have BB := Lib.hid (bel_next BB.out bel7)
  clear bel7
  clear Sc Sd
  go_wp2_with fail
  refine (same13 Ao A _ _ co c xs _ rfl rfl (by omega) SO.out SX.out).mono ?_
  rintro e w8 ⟨rfl, bel8⟩
  have SO := Lib.hid (SO.out.next bel8)
  have SX := Lib.hid (SX.out.next bel8)
  have BB := Lib.hid (bel_next BB.out bel8)
  clear bel8
  go_wp2_with fail
  go_ret
  exact ⟨rfl, BB.out⟩

set_option maxHeartbeats 400000 in
theorem firstRuns_walk (b : Int) (A : Option Addr) (c : Nat) (xs : List Int) (w : World) (hb0 : -9223372036854775808 ≤ b) (hb1 : b ≤ 9223372036854775807)
    (hc : xs.length ≤ c) (hm : c ≤ 9223372036854775807) (hx : I32 xs) (hs : Sl w w.heap.size .i32 A xs) :
    Calls Try.prog 6 #[.int .i64 b, .slice A xs.length c] w fun e w' => e = .returned (.bool true) ∧ Below w.heap.size w w' := by
  by_cases h : (xs.length ≤ 600 ∨ 4000 < xs.length) ∧ xs.length ≤ 4100
  · exact firstRuns_main b A c xs w hb0 hb1 hx hs h.1 h.2
  · have GR := Lib.hid (great_yes A xs.length c w (by omega) (by omega))
    have BB := Lib.hid (bel_self w)
    clear hs hx h
    go_enter Try.func6, Try.ntmps6
    go_wp2_with fail
    refine (GR.out).mono ?_
    rintro e w' ⟨rfl, rfl⟩
    go_wp2_with fail
    go_ret
    exact ⟨rfl, BB.out⟩
end Go.Proofs.Ytkdfjhblkcbfdaa

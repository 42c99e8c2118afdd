/-
  What Make of the reference of layer 25 computes; the walk of HeaderMakes. Conditions: numbers within their types; the samples lie below.
-/
import Derived.Test.YtgfibgnolmogkaaMkMake
import Derived.Test.YtgfibgnolmogkaaMkRef24B
import Derived.Test.YtgfibgnolmogkaaMkEq
namespace Go.Proofs.Ytgfibgnolmogkaa
open Go.RowKit
set_option linter.unusedVariables false

set_option maxRecDepth 100000 in
set_option maxHeartbeats 2000000 in
theorem re25Of (ch b r : Int) (A : Option Addr) (l c : Nat) (s : ByteArray) (w : World) (hm : l ≤ 9223372036854775807) (c0 : 1 ≤ ch) :
    Calls Try.prog 9 #[.agg #[.int .i64 ch, .int .i64 b, .int .i64 r, .slice A l c], .string s] w fun e w' => e = .returned (.agg #[.int .i64 (mkF s.size), .int .i64 ch, .int .i64 b, .int .i64 r, .int .i64 ((l : Int) / ch)]) ∧ Below w.heap.size w w' := by
  obtain ⟨q0, q1, q2⟩ := i64_div (ch := ch) (Int.natCast_nonneg l) (by omega) c0
  have cz : (ch == 0) = false := by simp; omega
  have cz2 : ¬ ch = 0 := by omega
  have wq : IntKind.i64.wrap ((l : Int) / ch) = (l : Int) / ch := IntWalk.i64_in _ (by omega)
  have BC := Lib.hid ((BlkH.new w 24 #[.int .i64 ch, .int .i64 b, .int .i64 r, .slice A l c]).up (.cells #[.int .i64 0, .int .i64 0, .int .i64 0, .int .i64 0, .int .i64 0] 27))
  have BK := BlkH.new (w.alloc (.cells #[.int .i64 ch, .int .i64 b, .int .i64 r, .slice A l c] 24)) 27 #[.int .i64 0, .int .i64 0, .int .i64 0, .int .i64 0, .int .i64 0]
  rw [size_alloc] at BK
  have BK := Lib.hid BK
  have BB := Lib.hid (bel_up (bel_up (bel_self w) (.cells #[.int .i64 ch, .int .i64 b, .int .i64 r, .slice A l c] 24)) (.cells #[.int .i64 0, .int .i64 0, .int .i64 0, .int .i64 0, .int .i64 0] 27))
  go_enter Try.func9, Try.ntmps9
  go_upto_region 1 with fail
  generalize (w.alloc (.cells #[.int .i64 ch, .int .i64 b, .int .i64 r, .slice A l c] 24)).alloc (.cells #[.int .i64 0, .int .i64 0, .int .i64 0, .int .i64 0, .int .i64 0] 27) = w1 at *
  have k0 := BC.out.cell 0
  have k1 := BC.out.cell 1
  have k2 := BC.out.cell 2
  have k3 := BC.out.cell 3
  generalize hq : (l : Int) / ch = qq at *
  go_cut [5] (fun s7 wx => ∃ g, s7 = .pointer (some ⟨g, 0, none⟩) ∧ w1.heap.size ≤ g ∧ BlkH wx g 27 #[.int .i64 1, .int .i64 ch, .int .i64 b, .int .i64 r, .int .i64 qq] ∧ Below w1.heap.size w1 wx)
  case first =>
    have ka0 := (BC.out.up (.cells #[.int .i64 0, .int .i64 0, .int .i64 0, .int .i64 0, .int .i64 0] 27)).cell 0
    have ka1 := (BC.out.up (.cells #[.int .i64 0, .int .i64 0, .int .i64 0, .int .i64 0, .int .i64 0] 27)).cell 1
    have ka2 := (BC.out.up (.cells #[.int .i64 0, .int .i64 0, .int .i64 0, .int .i64 0, .int .i64 0] 27)).cell 2
    have ka3 := (BC.out.up (.cells #[.int .i64 0, .int .i64 0, .int .i64 0, .int .i64 0, .int .i64 0] 27)).cell 3
    go_region
    all_goals
      go_wp2_with fail
      go_meet
      exact ⟨w1.heap.size, rfl, Nat.le_refl _, BlkH.new w1 _ _, (bel_up (bel_self w1) _).drew⟩
  case rest =>
    have BKlt := Lib.hid BK.out.lt
    obtain ⟨g, rfl, hg, hB, hb⟩ := hcut
    have BK := Lib.hid (BK.out.next hb)
    have BB := Lib.hid (bel_next BB.out hb)
    have BH := Lib.hid hB
    clear hB hb k0 k1 k2 k3
    have ch0 := BH.out.cell 0
    have ch1 := BH.out.cell 1
    have ch2 := BH.out.cell 2
    have ch3 := BH.out.cell 3
    have ch4 := BH.out.cell 4
    have fh0 := BH.out.free 0
    have hgl := BKlt.out
    have hne : ¬ w.heap.size + 1 = g := by omega
    have hne' : ¬ g = w.heap.size + 1 := by omega
    have d0 := BK.out.cell 0
    have e0 := BK.out.free 0
    have d1 := BK.out.cell 1
    have e1 := BK.out.free 1
    have d2 := BK.out.cell 2
    have e2 := BK.out.free 2
    have d3 := BK.out.cell 3
    have e3 := BK.out.free 3
    have d4 := BK.out.cell 4
    have e4 := BK.out.free 4
    have BO := Lib.hid (BlkH.other BK.out hne 0 (.int .i64 2))
    by_cases h0 : s.size = 0
    · have he := str_none h0
      have hf := Lib.hid (show mkF s.size = 1 from if_pos h0)
      go_wp2_with fail
      refine bodyPost_ret (results_c1 Try.results9 _ _ rfl BK.out.set5 _ Try.underlying27 rfl (by kernel_rfl)) rfl ⟨by rw [hf.out, hq], bel_set5 BB.out (Nat.le_succ _)⟩
    · have he := str_some h0
      have hf := Lib.hid (show mkF s.size = 2 from if_neg h0)
      have BB := Lib.hid (BB.out.setCell (p := ⟨g, 0, none⟩) (show w.heap.size ≤ g by omega) (.int .i64 2))
      go_wp2_with fail
      refine bodyPost_ret (results_c1 Try.results9 _ _ rfl BO.out.set5 _ Try.underlying27 rfl (by kernel_rfl)) rfl ⟨by rw [hf.out, hq], bel_set5 BB.out (Nat.le_succ _)⟩

set_option maxRecDepth 100000 in
set_option maxHeartbeats 2000000 in
theorem re25Make (ch b r : Int) (A : Option Addr) (l c : Nat) (xs : List Int) (s : ByteArray) (w : World) (hn : xs.length = l) (hm : l ≤ 9223372036854775807) (hsm : s.size ≤ 9223372036854775807) (hx : I32 xs) (hs : Sl w w.heap.size .i32 A xs)
    (hc0 : -9223372036854775808 ≤ ch) (hc1 : ch ≤ 9223372036854775807) (hb0 : -9223372036854775808 ≤ b) (hb1 : b ≤ 9223372036854775807) (hr0 : -9223372036854775808 ≤ r) (hr1 : r ≤ 9223372036854775807) :
    Calls Try.prog 6 #[.agg #[.int .i64 ch, .int .i64 b, .int .i64 r, .slice A l c], .string s] w fun e w' => e = .returned (.tuple #[mkV ch b r xs s.size, .int .i64 (mkE ch b r xs s.size)]) ∧ Below w.heap.size w w' := by
  subst hn
  have CC := Lib.hid (fun W hq => re24Check ch b r A xs.length c xs W rfl hm hx hq hc0 hc1 hb0 hb1 hr0 hr1)
  have BC := Lib.hid ((BlkH.new w 24 #[.int .i64 ch, .int .i64 b, .int .i64 r, .slice A xs.length c]).up (.cells #[.int .i64 0, .int .i64 0, .int .i64 0, .int .i64 0, .int .i64 0] 27))
  have BK := BlkH.new (w.alloc (.cells #[.int .i64 ch, .int .i64 b, .int .i64 r, .slice A xs.length c] 24)) 27 #[.int .i64 0, .int .i64 0, .int .i64 0, .int .i64 0, .int .i64 0]
  rw [size_alloc] at BK
  have BK := Lib.hid BK
  have BB := Lib.hid (bel_up (bel_up (bel_self w) (.cells #[.int .i64 ch, .int .i64 b, .int .i64 r, .slice A xs.length c] 24)) (.cells #[.int .i64 0, .int .i64 0, .int .i64 0, .int .i64 0, .int .i64 0] 27))
  have SX := Lib.hid ((hs.up (.cells #[.int .i64 ch, .int .i64 b, .int .i64 r, .slice A xs.length c] 24)).up (.cells #[.int .i64 0, .int .i64 0, .int .i64 0, .int .i64 0, .int .i64 0] 27))
  rcases clE_cases ch b r xs with h0 | h0
  · obtain ⟨c0, _, _, _⟩ := clE_ok h0
    by_cases h64 : 64 < s.size
    · have E1 := Lib.hid (show mkE ch b r xs s.size = 2 by unfold mkE; rw [h0, if_neg (by decide), if_pos h64])
      have E2 := Lib.hid (show mkV ch b r xs s.size = .agg #[.int .i64 0, .int .i64 0, .int .i64 0, .int .i64 0, .int .i64 0] by unfold mkV; rw [E1.out]; rfl)
      rw [h0] at CC
      have z2 : (64 : Int) < (s.size : Int) := by omega
      clear h0
      go_enter Try.func6, Try.ntmps6
      have k0 := BC.out.cell 0
      have k1 := BC.out.cell 1
      have k2 := BC.out.cell 2
      have k3 := BC.out.cell 3
      go_wp2_with fail
      refine (CC.out _ SX.out).mono ?_
      rintro e w1 ⟨rfl, bel1⟩
      have BB := Lib.hid (bel_next BB.out bel1)
      have BK := Lib.hid (BK.out.next bel1)
      clear bel1 k0 k1 k2 k3
      have c0 := BK.out.cell 0
      have f0 := BK.out.free 0
      have c1 := BK.out.cell 1
      have f1 := BK.out.free 1
      have c2 := BK.out.cell 2
      have f2 := BK.out.free 2
      have c3 := BK.out.cell 3
      have f3 := BK.out.free 3
      have c4 := BK.out.cell 4
      have f4 := BK.out.free 4
      go_wp2_with fail
      refine bodyPost_ret (results_hd Try.results6 _ _ rfl BK.out.set5 _ Try.underlying27 rfl (by kernel_rfl)) rfl ⟨by rw [E1.out, E2.out]; rfl, bel_set5 BB.out (Nat.le_succ _)⟩
    · have E1 := Lib.hid (show mkE ch b r xs s.size = 0 by unfold mkE; rw [h0, if_neg (by decide), if_neg h64])
      have E2 := Lib.hid (show mkV ch b r xs s.size = .agg #[.int .i64 (mkF s.size), .int .i64 ch, .int .i64 b, .int .i64 r, .int .i64 ((xs.length : Int) / ch)] by unfold mkV; rw [if_pos E1.out])
      have CO := Lib.hid (fun W => re25Of ch b r A xs.length c s W hm c0)
      rw [h0] at CC
      have z2 : ¬ (64 : Int) < (s.size : Int) := by omega
      clear h0
      go_enter Try.func6, Try.ntmps6
      have k0 := BC.out.cell 0
      have k1 := BC.out.cell 1
      have k2 := BC.out.cell 2
      have k3 := BC.out.cell 3
      go_wp2_with fail
      refine (CC.out _ SX.out).mono ?_
      rintro e w1 ⟨rfl, bel1⟩
      have BB := Lib.hid (bel_next BB.out bel1)
      have BK := Lib.hid (BK.out.next bel1)
      have BC := Lib.hid (BC.out.next bel1)
      clear bel1 k0 k1 k2 k3
      have k0 := BC.out.cell 0
      have k1 := BC.out.cell 1
      have k2 := BC.out.cell 2
      have k3 := BC.out.cell 3
      go_wp2_with fail
      refine (CO.out _).mono ?_
      rintro e w2 ⟨rfl, bel2⟩
      have BB := Lib.hid (bel_next BB.out bel2)
      have BK := Lib.hid (BK.out.next bel2)
      clear bel2 k0 k1 k2 k3
      have c0 := BK.out.cell 0
      have f0 := BK.out.free 0
      have c1 := BK.out.cell 1
      have f1 := BK.out.free 1
      have c2 := BK.out.cell 2
      have f2 := BK.out.free 2
      have c3 := BK.out.cell 3
      have f3 := BK.out.free 3
      have c4 := BK.out.cell 4
      have f4 := BK.out.free 4
      go_wp2_with fail
      refine bodyPost_ret (results_hd Try.results6 _ _ rfl BK.out.set5 _ Try.underlying27 rfl (by kernel_rfl)) rfl ⟨by rw [E1.out, E2.out]; rfl, bel_set5 BB.out (Nat.le_succ _)⟩
  · have E1 := Lib.hid (show mkE ch b r xs s.size = 8 by unfold mkE; rw [h0]; rfl)
    have E2 := Lib.hid (show mkV ch b r xs s.size = .agg #[.int .i64 0, .int .i64 0, .int .i64 0, .int .i64 0, .int .i64 0] by unfold mkV; rw [E1.out]; rfl)
    rw [h0] at CC
    clear h0
    go_enter Try.func6, Try.ntmps6
    have k0 := BC.out.cell 0
    have k1 := BC.out.cell 1
    have k2 := BC.out.cell 2
    have k3 := BC.out.cell 3
    go_wp2_with fail
    refine (CC.out _ SX.out).mono ?_
    rintro e w1 ⟨rfl, bel1⟩
    have BB := Lib.hid (bel_next BB.out bel1)
    have BK := Lib.hid (BK.out.next bel1)
    clear bel1 k0 k1 k2 k3
    have c0 := BK.out.cell 0
    have f0 := BK.out.free 0
    have c1 := BK.out.cell 1
    have f1 := BK.out.free 1
    have c2 := BK.out.cell 2
    have f2 := BK.out.free 2
    have c3 := BK.out.cell 3
    have f3 := BK.out.free 3
    have c4 := BK.out.cell 4
    have f4 := BK.out.free 4
    go_wp2_with fail
    refine bodyPost_ret (results_hd Try.results6 _ _ rfl BK.out.set5 _ Try.underlying27 rfl (by kernel_rfl)) rfl ⟨by rw [E1.out, E2.out]; rfl, bel_set5 BB.out (Nat.le_succ _)⟩

theorem mkV_agg (ch b r : Int) (xs : List Int) (m : Nat) : ∃ x0 x1 x2 x3 x4 : Int, mkV ch b r xs m = .agg #[.int .i64 x0, .int .i64 x1, .int .i64 x2, .int .i64 x3, .int .i64 x4] := by
  unfold mkV
  split
  · exact ⟨_, _, _, _, _, rfl⟩
  · exact ⟨0, 0, 0, 0, 0, rfl⟩

set_option maxRecDepth 100000 in
set_option maxHeartbeats 2000000 in
theorem headerMakes_walk (ch b r : Int) (A : Option Addr) (k : Nat) (xs : List Int) (s : ByteArray) (w : World)
    (hc0 : -9223372036854775808 ≤ ch) (hc1 : ch ≤ 9223372036854775807) (hb0 : -9223372036854775808 ≤ b) (hb1 : b ≤ 9223372036854775807) (hr0 : -9223372036854775808 ≤ r) (hr1 : r ≤ 9223372036854775807) (hk : xs.length ≤ k) (hk1 : k ≤ 9223372036854775807) (hx : I32 xs) (hs : Sl w w.heap.size .i32 A xs)
    (hp : s.size ≤ 9223372036854775807) :
    Calls Try.prog 3 #[.agg #[.int .i64 ch, .int .i64 b, .int .i64 r, .slice A xs.length k], .string s] w fun e w' => e = .returned (.bool true) ∧ Below w.heap.size w w' := by
  have hl := Nat.le_trans hk hk1
  obtain ⟨v1, hv1⟩ : ∃ v, decide ((300 < xs.length ∧ xs.length ≤ 4000) ∨ 4010 < xs.length) = v := ⟨_, rfl⟩
  have L1 := Lib.hid (fun W => re25Large v1 ch b r A xs.length k W hv1)
  have M1 := Lib.hid (fun W hq => hdMake ch b r A xs.length k xs s W rfl hl hp hx hq hc0 hc1 hb0 hb1 hr0 hr1)
  have M2 := Lib.hid (fun W hq => re25Make ch b r A xs.length k xs s W rfl hl hp hx hq hc0 hc1 hb0 hb1 hr0 hr1)
  obtain ⟨x0, x1, x2, x3, x4, hv⟩ := mkV_agg ch b r xs s.size
  rw [hv] at M1 M2
  have y0 : (x0 == x0) = true := by simp
  have y1 : (x1 == x1) = true := by simp
  have y2 : (x2 == x2) = true := by simp
  have y3 : (x3 == x3) = true := by simp
  have y4 : (x4 == x4) = true := by simp
  have ye : (mkE ch b r xs s.size == mkE ch b r xs s.size) = true := by simp
  have HE := Lib.hid (fun W => hd_eq x0 x1 x2 x3 x4 x0 x1 x2 x3 x4 W)
  have BC := Lib.hid (BlkH.new w 24 #[.int .i64 ch, .int .i64 b, .int .i64 r, .slice A xs.length k])
  have BB := Lib.hid (bel_up (bel_self w) (.cells #[.int .i64 ch, .int .i64 b, .int .i64 r, .slice A xs.length k] 24))
  have SX := Lib.hid (hs.up (.cells #[.int .i64 ch, .int .i64 b, .int .i64 r, .slice A xs.length k] 24))
  generalize mkE ch b r xs s.size = E at *
  generalize xs.length = l at *
  clear hv1 hv hs hx
  go_enter Try.func3, Try.ntmps3
  go_wp2_with fail
  generalize w.alloc (.cells #[.int .i64 ch, .int .i64 b, .int .i64 r, .slice A l k] 24) = wb at *
  have k0 := BC.out.cell 0
  have k1 := BC.out.cell 1
  have k2 := BC.out.cell 2
  have k3 := BC.out.cell 3
  go_wp2_with fail
  refine (L1.out _).mono ?_
  rintro e w1 ⟨rfl, bel1⟩
  have BC := Lib.hid (BC.out.next bel1)
  have SX := Lib.hid (SX.out.next bel1)
  have BB := Lib.hid (bel_next BB.out bel1)
  clear bel1
  cases v1
  case true =>
    go_wp2_with fail
    go_ret
    exact ⟨rfl, BB.out⟩
  clear k0 k1 k2 k3
  by_cases h200 : 200 < s.size
  · have h2 : (200 : Int) < (s.size : Int) := by omega
    go_wp2_with fail
    go_ret
    exact ⟨rfl, BB.out⟩
  have h2 : ¬ (200 : Int) < (s.size : Int) := by omega
  have k0 := BC.out.cell 0
  have k1 := BC.out.cell 1
  have k2 := BC.out.cell 2
  have k3 := BC.out.cell 3
  go_wp2_with fail
  refine (M1.out _ SX.out).mono ?_
  rintro e w2 ⟨rfl, bel2⟩
  have BH := Lib.hid (BlkH.new w2 27 #[.int .i64 x0, .int .i64 x1, .int .i64 x2, .int .i64 x3, .int .i64 x4])
  have BC := Lib.hid ((BC.out.next bel2).up (.cells #[.int .i64 x0, .int .i64 x1, .int .i64 x2, .int .i64 x3, .int .i64 x4] 27))
  have SX := Lib.hid ((SX.out.next bel2).up (.cells #[.int .i64 x0, .int .i64 x1, .int .i64 x2, .int .i64 x3, .int .i64 x4] 27))
  have BB := Lib.hid (bel_up (bel_next BB.out bel2) (.cells #[.int .i64 x0, .int .i64 x1, .int .i64 x2, .int .i64 x3, .int .i64 x4] 27))
  clear bel2 k0 k1 k2 k3
  have k0 := BC.out.cell 0
  have k1 := BC.out.cell 1
  have k2 := BC.out.cell 2
  have k3 := BC.out.cell 3
  go_wp2_with fail
  refine (M2.out _ SX.out).mono ?_
  clear k0 k1 k2 k3
  generalize w2.alloc (.cells #[.int .i64 x0, .int .i64 x1, .int .i64 x2, .int .i64 x3, .int .i64 x4] 27) = w3 at *
  rintro e w4 ⟨rfl, bel4⟩
  have BH := Lib.hid ((BH.out.next bel4).up (.cells #[.int .i64 x0, .int .i64 x1, .int .i64 x2, .int .i64 x3, .int .i64 x4] 27))
  have BK := Lib.hid (BlkH.new w4 27 #[.int .i64 x0, .int .i64 x1, .int .i64 x2, .int .i64 x3, .int .i64 x4])
  have BB := Lib.hid (bel_up (bel_next BB.out bel4) (.cells #[.int .i64 x0, .int .i64 x1, .int .i64 x2, .int .i64 x3, .int .i64 x4] 27))
  clear bel4
  have c0 := BH.out.cell 0
  have c1 := BH.out.cell 1
  have c2 := BH.out.cell 2
  have c3 := BH.out.cell 3
  have c4 := BH.out.cell 4
  have d0 := BK.out.cell 0
  have d1 := BK.out.cell 1
  have d2 := BK.out.cell 2
  have d3 := BK.out.cell 3
  have d4 := BK.out.cell 4
  have he := HE.out
  go_wp2_with fail
  go_ret
  exact ⟨rfl, BB.out⟩
end Go.Proofs.Ytgfibgnolmogkaa

/-
  What Make of package header computes. Conditions: numbers within their types; the samples lie below.
-/
import Derived.Test.YtgfibgnolmogkaaDoorClip
import Derived.Deep.RegionHeld3
import Derived.Deep.DeepCutAuto
import Derived.Deep.RegionWith
namespace Go.Proofs.YtgfibgnolmogkaaDoor
open Go.RowKit
set_option linter.unusedVariables false

/-- the error, and the header, of a clip and a password of m bytes -/
def mkE (ch b r : Int) (xs : List Int) (m : Nat) : Int := if clE ch b r xs ≠ 0 then 8 else if 64 < m then 2 else 0
def mkF (m : Nat) : Int := if m = 0 then 1 else 2
def mkV (ch b r : Int) (xs : List Int) (m : Nat) : Value := if mkE ch b r xs m = 0 then .agg #[.int .i64 (mkF m), .int .i64 ch, .int .i64 b, .int .i64 r, .int .i64 ((xs.length : Int) / ch)] else .agg #[.int .i64 0, .int .i64 0, .int .i64 0, .int .i64 0, .int .i64 0]
theorem BlkH.other {w : World} {g h : Nat} {T : TypeId} {cs : Array Value} (hb : BlkH w g T cs) (hne : g ≠ h) (i : Nat) (v : Value) : BlkH (w.setCell ⟨h, i, none⟩ v) g T cs :=
  (heap_setCell_other w ⟨h, i, none⟩ g v hne).trans hb
theorem toList_nil : ByteArray.empty.toList = [] := by unfold ByteArray.toList ByteArray.toList.loop; rfl
theorem str_none {s : ByteArray} (h : s.size = 0) : s.toList.isEmpty = true := by
  have : s = ByteArray.empty := ByteArray.ext (Array.eq_empty_of_size_eq_zero h)
  rw [this, toList_nil]; rfl
theorem str_some {s : ByteArray} (h : ¬ s.size = 0) : s.toList.isEmpty = false := by
  have hd := decide_eq_emptyBytes s
  rw [← hd]
  exact decide_eq_false (fun e => h (by rw [e]; rfl))
theorem clE_cases (ch b r : Int) (xs : List Int) : clE ch b r xs = 0 ∨ clE ch b r xs = 8 := by unfold clE; split <;> simp
theorem clE_ok {ch b r : Int} {xs : List Int} (h : clE ch b r xs = 0) : 1 ≤ ch ∧ (xs.length : Int) % ch = 0 ∧ heE ch b r ((xs.length : Int) / ch) = 0 ∧ ckE b xs = 0 := by
  unfold clE at h
  by_cases h1 : ch < 1 ∨ (xs.length : Int) % ch ≠ 0 ∨ heE ch b r ((xs.length : Int) / ch) ≠ 0 ∨ ckE b xs ≠ 0
  · rw [if_pos h1] at h; omega
  · simp only [not_or, Decidable.not_not] at h1
    exact ⟨by omega, h1.2.1, h1.2.2.1, h1.2.2.2⟩

set_option maxRecDepth 100000 in
set_option maxHeartbeats 2000000 in
theorem hdMake (ch b r : Int) (A : Option Addr) (l c : Nat) (xs : List Int) (s : ByteArray) (w : World) (hn : xs.length = l) (hm : l ≤ 9223372036854775807) (hsm : s.size ≤ 9223372036854775807) (hx : I32 xs) (hs : Sl w w.heap.size .i32 A xs)
    (hc0 : -9223372036854775808 ≤ ch) (hc1 : ch ≤ 9223372036854775807) (hb0 : -9223372036854775808 ≤ b) (hb1 : b ≤ 9223372036854775807) (hr0 : -9223372036854775808 ≤ r) (hr1 : r ≤ 9223372036854775807) :
    Calls Tryd.prog 15 #[.agg #[.int .i64 ch, .int .i64 b, .int .i64 r, .slice A l c], .string s] w fun e w' => e = .returned (.tuple #[mkV ch b r xs s.size, .int .i64 (mkE ch b r xs s.size)]) ∧ Below w.heap.size w w' := by
  subst hn
  have CC := Lib.hid (fun W hq => clCheck ch b r A xs.length c xs W rfl hm hx hq hc0 hc1 hb0 hb1 hr0 hr1)
  rcases clE_cases ch b r xs with h0 | h0
  · obtain ⟨c0, _, _, _⟩ := clE_ok h0
    obtain ⟨q0, q1, q2⟩ := i64_div (ch := ch) (Int.natCast_nonneg xs.length) (by omega) c0
    have cz : (ch == 0) = false := by simp; omega
    have wq : IntKind.i64.wrap ((xs.length : Int) / ch) = (xs.length : Int) / ch := IntWalk.i64_in _ (by omega)
    by_cases h64 : 64 < s.size
    · have E1 := Lib.hid (show mkE ch b r xs s.size = 2 by unfold mkE; rw [h0, if_neg (by decide), if_pos h64])
      have E2 := Lib.hid (show mkV ch b r xs s.size = .agg #[.int .i64 0, .int .i64 0, .int .i64 0, .int .i64 0, .int .i64 0] by unfold mkV; rw [E1.out]; rfl)
      rw [h0] at CC
      have z1 : ¬ ((s.size : Int) ≤ 64) := by omega
      have z2 : (64 : Int) < (s.size : Int) := by omega
      clear h0
      have SX := Lib.hid (hs.up (.cells #[.int .i64 ch, .int .i64 b, .int .i64 r, .slice A xs.length c] 40))
      have BC := Lib.hid ((BlkH.new w 40 #[.int .i64 ch, .int .i64 b, .int .i64 r, .slice A xs.length c]).up (.cells #[.int .i64 0, .int .i64 0, .int .i64 0, .int .i64 0, .int .i64 0] 23))
      have BK := BlkH.new (w.alloc (.cells #[.int .i64 ch, .int .i64 b, .int .i64 r, .slice A xs.length c] 40)) 23 #[.int .i64 0, .int .i64 0, .int .i64 0, .int .i64 0, .int .i64 0]
      rw [size_alloc] at BK
      have BK := Lib.hid BK
      go_enter Tryd.func15, Tryd.ntmps15
      go_wp2_with fail
      refine (CC.out _ (SX.out.up _)).mono ?_
      rintro e w1 ⟨rfl, bel1⟩
      have BB := Lib.hid (bel_next (bel_up (bel_up (bel_self w) _) _) bel1)
      have BK := Lib.hid (BK.out.next bel1)
      have BC := Lib.hid (BC.out.next bel1)
      clear bel1
      have c0 := BK.out.cell 0
      have f0 := BK.out.free 0
      have c1 := BK.out.cell 1
      have f1 := BK.out.free 1
      have c2 := BK.out.cell 2
      have f2 := BK.out.free 2
      have c3 := BK.out.cell 3
      have f3 := BK.out.free 3
      have c4 := BK.out.cell 4
      have f4 := BK.out.free 4
      go_wp2_with fail
      refine bodyPost_ret (results_hd Tryd.results15 _ _ rfl BK.out.set5 _ Tryd.underlying23 rfl (by kernel_rfl)) rfl ⟨by rw [E1.out, E2.out]; rfl, bel_set5 BB.out (Nat.le_succ _)⟩
    · have E1 := Lib.hid (show mkE ch b r xs s.size = 0 by unfold mkE; rw [h0, if_neg (by decide), if_neg h64])
      have E2 := Lib.hid (show mkV ch b r xs s.size = .agg #[.int .i64 (mkF s.size), .int .i64 ch, .int .i64 b, .int .i64 r, .int .i64 ((xs.length : Int) / ch)] by unfold mkV; rw [if_pos E1.out])
      rw [h0] at CC
      have z1 : ((s.size : Int) ≤ 64) := by omega
      have z2 : ¬ (64 : Int) < (s.size : Int) := by omega
      clear h0
      have SX := Lib.hid (hs.up (.cells #[.int .i64 ch, .int .i64 b, .int .i64 r, .slice A xs.length c] 40))
      have BC := Lib.hid ((BlkH.new w 40 #[.int .i64 ch, .int .i64 b, .int .i64 r, .slice A xs.length c]).up (.cells #[.int .i64 0, .int .i64 0, .int .i64 0, .int .i64 0, .int .i64 0] 23))
      have BK := BlkH.new (w.alloc (.cells #[.int .i64 ch, .int .i64 b, .int .i64 r, .slice A xs.length c] 40)) 23 #[.int .i64 0, .int .i64 0, .int .i64 0, .int .i64 0, .int .i64 0]
      rw [size_alloc] at BK
      have BK := Lib.hid BK
      go_enter Tryd.func15, Tryd.ntmps15
      go_wp2_with fail
      refine (CC.out _ (SX.out.up _)).mono ?_
      rintro e w1 ⟨rfl, bel1⟩
      have BB := Lib.hid (bel_next (bel_up (bel_up (bel_self w) _) _) bel1)
      have BK := Lib.hid (BK.out.next bel1)
      have BC := Lib.hid (BC.out.next bel1)
      clear bel1
      have c0 := BK.out.cell 0
      have f0 := BK.out.free 0
      have c1 := BK.out.cell 1
      have f1 := BK.out.free 1
      have c2 := BK.out.cell 2
      have f2 := BK.out.free 2
      have c3 := BK.out.cell 3
      have f3 := BK.out.free 3
      have c4 := BK.out.cell 4
      have f4 := BK.out.free 4
      go_upto_region 6 with fail
      have k0 := BC.out.cell 0
      have k1 := BC.out.cell 1
      have k2 := BC.out.cell 2
      have k3 := BC.out.cell 3
      have cz2 : ¬ ch = 0 := by omega
      generalize hq : (xs.length : Int) / ch = qq at *
      go_cut [7] (fun s7 wx => ∃ g, s7 = .pointer (some ⟨g, 0, none⟩) ∧ w1.heap.size ≤ g ∧ BlkH wx g 23 #[.int .i64 1, .int .i64 ch, .int .i64 b, .int .i64 r, .int .i64 qq] ∧ Below w1.heap.size w1 wx)
      case first =>
        have ka0 := (BC.out.up (.cells #[.int .i64 0, .int .i64 0, .int .i64 0, .int .i64 0, .int .i64 0] 23)).cell 0
        have ka1 := (BC.out.up (.cells #[.int .i64 0, .int .i64 0, .int .i64 0, .int .i64 0, .int .i64 0] 23)).cell 1
        have ka2 := (BC.out.up (.cells #[.int .i64 0, .int .i64 0, .int .i64 0, .int .i64 0, .int .i64 0] 23)).cell 2
        have ka3 := (BC.out.up (.cells #[.int .i64 0, .int .i64 0, .int .i64 0, .int .i64 0, .int .i64 0] 23)).cell 3
        go_region
        all_goals
          go_wp2_with fail
          go_meet
          exact ⟨w1.heap.size, rfl, Nat.le_refl _, BlkH.new w1 _ _, (bel_up (bel_self w1) _).drew⟩
      case rest =>
        have BKlt := Lib.hid BK.out.lt
        obtain ⟨g, rfl, hg, hB, hb⟩ := hcut
        have BK := Lib.hid (BK.out.next hb)
        have BB := Lib.hid (bel_next BB.out hb)
        have BH := Lib.hid hB
        clear hB hb
        have ch0 := BH.out.cell 0
        have ch1 := BH.out.cell 1
        have ch2 := BH.out.cell 2
        have ch3 := BH.out.cell 3
        have ch4 := BH.out.cell 4
        have fh0 := BH.out.free 0
        have hgl := BKlt.out
        have hne : ¬ w.heap.size + 1 = g := by omega
        have hne' : ¬ g = w.heap.size + 1 := by omega
        have d0 := BK.out.cell 0
        have e0 := BK.out.free 0
        have d1 := BK.out.cell 1
        have e1 := BK.out.free 1
        have d2 := BK.out.cell 2
        have e2 := BK.out.free 2
        have d3 := BK.out.cell 3
        have e3 := BK.out.free 3
        have d4 := BK.out.cell 4
        have e4 := BK.out.free 4
        have BO := Lib.hid (BlkH.other BK.out hne 0 (.int .i64 2))
        by_cases h0 : s.size = 0
        · have he := str_none h0
          have hf := Lib.hid (show mkF s.size = 1 from if_pos h0)
          go_wp2_with fail
          refine bodyPost_ret (results_hd Tryd.results15 _ _ rfl BK.out.set5 _ Tryd.underlying23 rfl (by kernel_rfl)) rfl ⟨by rw [E1.out, E2.out, hf.out]; rfl, bel_set5 BB.out (Nat.le_succ _)⟩
        · have he := str_some h0
          have hf := Lib.hid (show mkF s.size = 2 from if_neg h0)
          have BB := Lib.hid (BB.out.setCell (p := ⟨g, 0, none⟩) (show w.heap.size ≤ g by omega) (.int .i64 2))
          go_wp2_with fail
          refine bodyPost_ret (results_hd Tryd.results15 _ _ rfl BO.out.set5 _ Tryd.underlying23 rfl (by kernel_rfl)) rfl ⟨by rw [E1.out, E2.out, hf.out]; rfl, bel_set5 BB.out (Nat.le_succ _)⟩
  · have E1 := Lib.hid (show mkE ch b r xs s.size = 8 by unfold mkE; rw [h0]; rfl)
    have E2 := Lib.hid (show mkV ch b r xs s.size = .agg #[.int .i64 0, .int .i64 0, .int .i64 0, .int .i64 0, .int .i64 0] by unfold mkV; rw [E1.out]; rfl)
    rw [h0] at CC
    clear h0
    have SX := Lib.hid (hs.up (.cells #[.int .i64 ch, .int .i64 b, .int .i64 r, .slice A xs.length c] 40))
    have BC := Lib.hid ((BlkH.new w 40 #[.int .i64 ch, .int .i64 b, .int .i64 r, .slice A xs.length c]).up (.cells #[.int .i64 0, .int .i64 0, .int .i64 0, .int .i64 0, .int .i64 0] 23))
    have BK := BlkH.new (w.alloc (.cells #[.int .i64 ch, .int .i64 b, .int .i64 r, .slice A xs.length c] 40)) 23 #[.int .i64 0, .int .i64 0, .int .i64 0, .int .i64 0, .int .i64 0]
    rw [size_alloc] at BK
    have BK := Lib.hid BK
    go_enter Tryd.func15, Tryd.ntmps15
    go_wp2_with fail
    refine (CC.out _ (SX.out.up _)).mono ?_
    rintro e w1 ⟨rfl, bel1⟩
    have BB := Lib.hid (bel_next (bel_up (bel_up (bel_self w) _) _) bel1)
    have BK := Lib.hid (BK.out.next bel1)
    have BC := Lib.hid (BC.out.next bel1)
    clear bel1
    have c0 := BK.out.cell 0
    have f0 := BK.out.free 0
    have c1 := BK.out.cell 1
    have f1 := BK.out.free 1
    have c2 := BK.out.cell 2
    have f2 := BK.out.free 2
    have c3 := BK.out.cell 3
    have f3 := BK.out.free 3
    have c4 := BK.out.cell 4
    have f4 := BK.out.free 4
    go_wp2_with fail
    refine bodyPost_ret (results_hd Tryd.results15 _ _ rfl BK.out.set5 _ Tryd.underlying23 rfl (by kernel_rfl)) rfl ⟨by rw [E1.out, E2.out]; rfl, bel_set5 BB.out (Nat.le_succ _)⟩

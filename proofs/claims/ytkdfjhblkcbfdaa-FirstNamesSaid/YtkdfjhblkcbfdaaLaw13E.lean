/-
  The walk of FirstNames. No conditions.
-/
import Derived.Test.YtkdfjhblkcbfdaaLaw13A
import Derived.Test.YtkdfjhblkcbfdaaKit2
import Derived.Deep.DeepCutAuto
import Derived.Deep.RegionWith
namespace Go.Proofs.Ytkdfjhblkcbfdaa
open Go.RowKit
set_option linter.unusedVariables false

theorem forward_arg {b : Int} {A : Option Addr} {n c : Nat} (w : World) (hb : shE b ≠ 0) (hm : n ≤ 9223372036854775807) (hb0 : -9223372036854775808 ≤ b) (hb1 : b ≤ 9223372036854775807) :
    Calls Try.prog 15 #[.int .i64 b, .slice A n c] w fun e w' => e = .returned (.tuple #[.slice none 0 0, .int .i64 2]) ∧ w = w' := by
  have h := forward_bad b A n c w (by rw [chE_bad hb]; decide) hm hb0 hb1
  rwa [chE_bad hb] at h
theorem backward_arg {b : Int} {A : Option Addr} {n c : Nat} (w : World) (hb : shE b ≠ 0) (hm : n ≤ 9223372036854775807) (hb0 : -9223372036854775808 ≤ b) (hb1 : b ≤ 9223372036854775807) :
    Calls Try.prog 18 #[.int .i64 b, .slice A n c] w fun e w' => e = .returned (.tuple #[.slice none 0 0, .int .i64 2]) ∧ w = w' := by
  have h := backward_bad b A n c w (by rw [chE_bad hb]; decide) hm hb0 hb1
  rwa [chE_bad hb] at h
theorem forward_many {b : Int} {A : Option Addr} {n c : Nat} (w : World) (hb : shE b = 0) (hn : 4000 < n) (hm : n ≤ 9223372036854775807) (hb0 : -9223372036854775808 ≤ b) (hb1 : b ≤ 9223372036854775807) :
    Calls Try.prog 15 #[.int .i64 b, .slice A n c] w fun e w' => e = .returned (.tuple #[.slice none 0 0, .int .i64 4]) ∧ w = w' := by
  have h := forward_bad b A n c w (by rw [chE_many hb hn]; decide) hm hb0 hb1
  rwa [chE_many hb hn] at h
theorem backward_many {b : Int} {A : Option Addr} {n c : Nat} (w : World) (hb : shE b = 0) (hn : 4000 < n) (hm : n ≤ 9223372036854775807) (hb0 : -9223372036854775808 ≤ b) (hb1 : b ≤ 9223372036854775807) :
    Calls Try.prog 18 #[.int .i64 b, .slice A n c] w fun e w' => e = .returned (.tuple #[.slice none 0 0, .int .i64 4]) ∧ w = w' := by
  have h := backward_bad b A n c w (by rw [chE_many hb hn]; decide) hm hb0 hb1
  rwa [chE_many hb hn] at h

theorem ex13e : fwdR 8 [-2147483648, 2147483647] = [-2147483648, -134217729] := by
  simp [fwdR, chE, shE, shS, fwd, gF, wrap32]
theorem zeros4000 : (fwdR 24 (List.replicate 4000 0)).length = 4000 := by
  rw [fwdR_ok (by rw [List.length_replicate]; decide), fwd_len, List.length_replicate]
def bads : List Int := [0, 7, 9, 12, 15, 17, 23, 25, 32, -8]
theorem bads_ok : ∀ b ∈ bads, shE b ≠ 0 ∧ shE b = 2 ∧ shS b = 0 ∧ guR b 1 = 0 ∧ -9223372036854775808 ≤ b ∧ b ≤ 9223372036854775807 := by decide

set_option maxRecDepth 100000 in
set_option maxHeartbeats 1000000 in
theorem firstNames_walk (w : World) : Calls Try.prog 7 #[] w fun e w' => e = .returned (.bool true) ∧ Below w.heap.size w w' := by
  have BB := Lib.hid (bel_self w)
  have mk1 : ∀ W, (Instr.makeSlice 34 (.int .i64 4001) (.int .i64 4001)).run Try.prog W = .ok (.slice (some ⟨W.heap.size, 0, none⟩) 4001 4001) (W.alloc (.cells (zerosA .i32 4001) 21)) := run_make_ints elI32 4001 rfl (by decide) (by decide)
  have mk2 : ∀ W, (Instr.makeSlice 34 (.int .i64 4000) (.int .i64 4000)).run Try.prog W = .ok (.slice (some ⟨W.heap.size, 0, none⟩) 4000 4000) (W.alloc (.cells (zerosA .i32 4000) 21)) := run_make_ints elI32 4000 rfl (by decide) (by decide)
  have SB := Lib.hid (Sl.lit' w .i64 3 bads (cs := #[.int .i64 0, .int .i64 7, .int .i64 9, .int .i64 12, .int .i64 15, .int .i64 17, .int .i64 23, .int .i64 25, .int .i64 32, .int .i64 (-8)]) rfl)
  go_enter Try.func7, Try.ntmps7
  go_wp2_with fail
  generalize hW : w.alloc (.cells #[.int .i64 0, .int .i64 7, .int .i64 9, .int .i64 12, .int .i64 15, .int .i64 17, .int .i64 23, .int .i64 25, .int .i64 32, .int .i64 (-8)] 3) = W1 at *
  have BB := Lib.hid (show Below w.heap.size w W1 from hW ▸ bel_up (bel_self w) _)
  clear hW
  go_loopw [2] (fun i wr => ∃ k : Nat, k ≤ 10 ∧ i = .int .i64 k ∧ Below W1.heap.size W1 wr) (fun i _ => 10 - (intOf i).toNat)
  case atStart => exact ⟨0, by omega, rfl, bel_self _⟩
  case round =>
    obtain ⟨k, hk, rfl, hbel⟩ := hrel
    by_cases hlt : k < 10
    · obtain ⟨bb, oo, eo, hb, hc⟩ := SB.out (by decide)
      injection eo with eo
      injection eo with eo1 eo2
      subst eo1 eo2
      have hcell := (hbel.cell (p := ⟨w.heap.size, 0 + k, none⟩) hb).trans (hc k hlt)
      obtain ⟨p0, p1, p2, p3, p4, p5⟩ := bads_ok _ (mem_getD (show k < bads.length from hlt))
      generalize bads.getD k 0 = b at *
      rw [Nat.zero_add] at hcell
      have P0 := Lib.hid p0
      have P1 := Lib.hid p1
      have P2 := Lib.hid p2
      have P3 := Lib.hid p3
      have HB := Lib.hid hbel
      have hlt' : (k : Int) < 10 := by omega
      have hk0 : (0 : Int) ≤ (k : Int) := by omega
      clear hc p0 p1 p2 p3 hbel SB
      go_wp2_with fail
      refine (Shift_v (r := 0) (e := 2) _ P2.out P1.out p4 p5).mono ?_
      rintro e w' ⟨rfl, rfl⟩
      go_wp2_with fail
      refine (Guess_v (r := 0) (e := 2) _ P3.out P1.out p4 p5 (by decide) (by decide)).mono ?_
      rintro e w' ⟨rfl, rfl⟩
      go_upto_region 7 with fail
      go_cut [7, 8] (fun s7 s8 wx => s7 = .slice none 0 0 ∧ s8 = .int .i64 2 ∧ Below wr.heap.size wr wx)
      case first =>
        have hcell2 : ∀ o, (wr.alloc o).cell? ⟨w.heap.size, k, none⟩ = some (.int .i64 b) := fun o => by
          rw [World.cell?_alloc_lt wr o _ (by have := HB.out.size; simp; omega)]; exact hcell
        go_region_with (go_at_call 15; refine (forward_arg _ P0.out (by decide) p4 p5).mono ?_; rintro e w' ⟨rfl, rfl⟩)
        all_goals (go_wp2_with fail; go_meet; exact ⟨rfl, rfl, (bel_up (bel_self wr) _).drew⟩)
      case rest =>
        obtain ⟨rfl, rfl, hb7⟩ := hcut
        have hcell := (hb7.cell (p := ⟨w.heap.size, k, none⟩) (by have := HB.out.size; simp; omega)).trans hcell
        have HB := Lib.hid (bel_next HB.out hb7)
        clear hb7
        obtain ⟨wd, rfl⟩ : ∃ wo : World, wo = wc := ⟨_, rfl⟩
        go_upto_region 8 with fail
        go_cut [9, 10] (fun s9 s10 wx => s9 = .slice none 0 0 ∧ s10 = .int .i64 2 ∧ Below wd.heap.size wd wx)
        case first =>
          have hcell2 : ∀ o, (wd.alloc o).cell? ⟨w.heap.size, k, none⟩ = some (.int .i64 b) := fun o => by
            rw [World.cell?_alloc_lt wd o _ (by have := HB.out.size; simp; omega)]; exact hcell
          go_region_with (go_at_call 18; refine (backward_arg _ P0.out (by decide) p4 p5).mono ?_; rintro e w' ⟨rfl, rfl⟩)
          all_goals (go_wp2_with fail; go_meet; exact ⟨rfl, rfl, (bel_up (bel_self wd) _).drew⟩)
        case rest =>
          obtain ⟨rfl, rfl, hb8⟩ := hcut
          have HB := Lib.hid (bel_next HB.out hb8)
          clear hb8 hcell
          go_wp2_with fail
          go_roundw
          case rel => exact ⟨k + 1, by omega, by go_num, HB.out⟩
          case measure => simp [intOf]; omega
    · have BB := Lib.hid (bel_next BB.out hbel)
      clear hbel SB
      obtain ⟨w0, rfl⟩ : ∃ wo : World, wo = wr := ⟨_, rfl⟩
      go_wp2_with fail
      refine (Shift_v (r := 4) (e := 0) _ (by decide) (by decide) (by decide) (by decide)).mono ?_
      rintro e w' ⟨rfl, rfl⟩
      go_wp2_with fail
      refine (Shift_v (r := 5) (e := 0) _ (by decide) (by decide) (by decide) (by decide)).mono ?_
      rintro e w' ⟨rfl, rfl⟩
      go_wp2_with fail
      refine (Shift_v (r := 5) (e := 0) _ (by decide) (by decide) (by decide) (by decide)).mono ?_
      rintro e w' ⟨rfl, rfl⟩
      have BB := Lib.hid (bel_up BB.out (.cells (zerosA .i32 4001) 21))
      go_wp2_with fail
      refine (forward_many _ (by decide) (by decide) (by decide) (by decide) (by decide)).mono ?_
      rintro e w' ⟨rfl, rfl⟩
      have BB := Lib.hid (bel_up BB.out (.cells (zerosA .i32 4001) 21))
      go_wp2_with fail
      refine (backward_many _ (by decide) (by decide) (by decide) (by decide) (by decide)).mono ?_
      rintro e w' ⟨rfl, rfl⟩
      have SZ := Lib.hid (Sl.zeros' ((w0.alloc (.cells (zerosA .i32 4001) 21)).alloc (.cells (zerosA .i32 4001) 21)) .i32 21 4000)
      generalize hW : (w0.alloc (.cells (zerosA .i32 4001) 21)).alloc (.cells (zerosA .i32 4001) 21) = W2 at *
      have BB := Lib.hid (bel_up BB.out (.cells (zerosA .i32 4000) 21))
      go_wp2_with fail
      refine (forward_v (b := 24) (e := 0) (List.replicate 4000 0) (fwdR 24 (List.replicate 4000 0)) _ (by rw [List.length_replicate]) (by decide) (i32_zeros _) SZ.out (by decide) (by decide) (by decide) rfl).mono ?_
      rintro e w1 ⟨v1, rfl, own1, bel1⟩
      obtain ⟨Aa, ca, rfl, hca, hma, sl1⟩ := own1.sln (zeros4000)
      have Sa := Lib.hid sl1
      have BB := Lib.hid (bel_next BB.out bel1)
      clear own1 bel1 sl1
      clear hW SZ
      clear Sa
      go_wp2_with fail
      refine (backward_v (b := 8) (e := 0) [] [] _ rfl (by decide) (by unfold I32; simp) Sl.nil_ (by decide) (by decide) (by decide) rfl).mono ?_
      rintro e w2 ⟨v2, rfl, own2, bel2⟩
      obtain ⟨Ab, cb, rfl, _, _, sl2⟩ := own2.sl
      have Sb := Lib.hid sl2
      have BB := Lib.hid (bel_next BB.out bel2)
      clear own2 bel2 sl2
      clear Sb
      go_wp2_with fail
      refine (Guess_v (b := 8) (x := -2147483648) (r := -2013265920) (e := 0) _ (by decide) (by decide) (by decide) (by decide) (by decide) (by decide)).mono ?_
      rintro e w' ⟨rfl, rfl⟩
      go_wp2_with fail
      refine (Guess_v (b := 24) (x := 2147483647) (r := 2080374783) (e := 0) _ (by decide) (by decide) (by decide) (by decide) (by decide) (by decide)).mono ?_
      rintro e w' ⟨rfl, rfl⟩
      go_wp2_with fail
      refine (forward_v (b := 8) (e := 0) [-2147483648, 2147483647] [-2147483648, -134217729] _ rfl (by decide) (by unfold I32; decide) (Sl.lit' w2 .i32 _ [-2147483648, 2147483647] rfl) (by decide) (by decide) (by decide) ex13e).mono ?_
      rintro e w3 ⟨v3, rfl, own3, bel3⟩
      obtain ⟨Ac, cc, rfl, _, _, sl3⟩ := own3.sl
      have Sc := Lib.hid sl3
      have BB := Lib.hid (bel_next (bel_up BB.out _) bel3)
      clear own3 bel3 sl3
      go_wp2_with fail
      refine (alive_any w3).mono ?_
      rintro e w4 ⟨rfl, bel4⟩
      have Sc := Lib.hid (Sc.out.next bel4)
      have BB := Lib.hid (bel_next BB.out bel4)
      clear bel4
      go_wp2_with fail
      refine (same13 Ac _ 2 2 cc 2 [-2147483648, -134217729] _ rfl rfl (by decide) (Sc.out.up _) (Sl.lit' w4 .i32 _ [-2147483648, -134217729] rfl)).mono ?_
      rintro e w5 ⟨rfl, bel5⟩
      have Sc := Lib.hid ((Sc.out.up _).next bel5)
      have BB := Lib.hid (bel_next (bel_up BB.out _) bel5)
      clear bel5
      go_wp2_with fail
      go_ret
      exact ⟨rfl, BB.out⟩
end Go.Proofs.Ytkdfjhblkcbfdaa

/-
  The walk of LengthsNames. No conditions.
-/
import Derived.Test.YtabdadpcknlnbaaLaw22A
namespace Go.Proofs.Ytabdadpcknlnbaa
open Go.RowKit
set_option linter.unusedVariables false

def badR : List Int := [0, -1, 1048577, -9223372036854775808, 9223372036854775807]
def badN : List Int := [0, -1, 4001, -9223372036854775808, 9223372036854775807]
theorem badR_ok : ∀ r ∈ badR, lgV r = 0 ∧ lgE r = 2 ∧ cnV r 1 = 0 ∧ cnE r 1 = 2 ∧ alR r 0 = [] ∧ cnE r 0 = 2 ∧ plF r 1 0 = 0 ∧ plW r 1 0 = 0 ∧ plE r 1 0 = 2 ∧ -9223372036854775808 ≤ r ∧ r ≤ 9223372036854775807 := by decide +kernel
theorem badN_ok : ∀ n ∈ badN, cnV 1 n = 0 ∧ cnE 1 n = 2 ∧ alR 1 n = [] ∧ plF 1 n 0 = 0 ∧ plW 1 n 0 = 0 ∧ plE 1 n 0 = 2 ∧ -9223372036854775808 ≤ n ∧ n ≤ 9223372036854775807 := by decide +kernel

theorem Sl.at0 {w : World} {B b : Nat} {k : IntKind} {xs : List Int} (h : Sl w B k (some ⟨b, 0, none⟩) xs) {i : Nat} (hi : i < xs.length) : b < B ∧ w.cell? ⟨b, i, none⟩ = some (.int k (xs.getD i 0)) := by
  obtain ⟨bb, oo, eo, hb, hc⟩ := h (by omega)
  injection eo with eo
  injection eo with eo1 eo2
  subst eo1 eo2
  have := hc i hi
  rw [Nat.zero_add] at this
  exact ⟨hb, this⟩

set_option maxRecDepth 100000 in
set_option maxHeartbeats 2000000 in
theorem lengthsNames_walk (w : World) : Calls Try.prog 4 #[] w fun e w' => e = .returned (.bool true) ∧ Below w.heap.size w w' := by
  have SB := Lib.hid (Sl.lit' w .i64 3 badR (cs := #[.int .i64 0, .int .i64 (-1), .int .i64 1048577, .int .i64 (-9223372036854775808), .int .i64 9223372036854775807]) rfl)
  go_enter Try.func4, Try.ntmps4
  go_wp2_with fail
  generalize hW : w.alloc (.cells #[.int .i64 0, .int .i64 (-1), .int .i64 1048577, .int .i64 (-9223372036854775808), .int .i64 9223372036854775807] 3) = W1 at *
  have BB := Lib.hid (show Below w.heap.size w W1 from hW ▸ bel_up (bel_self w) _)
  clear hW
  go_loopw [2] (fun i wr => ∃ k : Nat, k ≤ 5 ∧ i = .int .i64 k ∧ Below W1.heap.size W1 wr) (fun i _ => 5 - (intOf i).toNat)
  case atStart => exact ⟨0, by omega, rfl, bel_self _⟩
  case round =>
    obtain ⟨k, hk, rfl, hbel⟩ := hrel
    by_cases hlt : k < 5
    · obtain ⟨hb, hc⟩ := (SB.out.next hbel).at0 (show k < badR.length from hlt)
      obtain ⟨p1, p2, p3, p4, p5, p6, p7, p8, p9, q0, q1⟩ := badR_ok _ (mem_getD (show k < badR.length from hlt))
      generalize badR.getD k 0 = r at *
      have P1 := Lib.hid p1
      have P2 := Lib.hid p2
      have P3 := Lib.hid p3
      have P4 := Lib.hid p4
      have P5 := Lib.hid p5
      have P6 := Lib.hid p6
      have P7 := Lib.hid p7
      have P8 := Lib.hid p8
      have P9 := Lib.hid p9
      have HB := Lib.hid hbel
      have hlt' : (k : Int) < 5 := by omega
      clear p1 p2 p3 p4 p5 p6 p7 p8 p9 hbel SB
      go_wp2_with fail
      refine (long_v _ P1.out P2.out q0 q1).mono ?_
      rintro e w' ⟨rfl, rfl⟩
      go_wp2_with fail
      refine (count_v _ P3.out P4.out q0 q1 (by decide) (by decide)).mono ?_
      rintro e w' ⟨rfl, rfl⟩
      go_wp2_with fail
      refine (all_v [] _ P5.out P6.out q0 q1 (by decide) (by decide)).mono ?_
      rintro e wa ⟨v, rfl, own, bel⟩
      obtain ⟨A, c, rfl, _, _, _⟩ := own.sl
      have hc := (bel.cell (p := ⟨w.heap.size, k, none⟩) hb).trans hc
      have HB := Lib.hid (bel_next HB.out bel)
      clear own bel
      go_wp2_with fail
      refine (place_v _ P7.out P8.out P9.out q0 q1 (by decide) (by decide)).mono ?_
      rintro e wb ⟨rfl, bel⟩
      have HB := Lib.hid (bel_next HB.out bel)
      clear bel hc
      go_wp2_with fail
      go_roundw
      case rel => exact ⟨k + 1, by omega, by go_num, HB.out⟩
      case measure => simp [intOf]; omega
    · have BB := Lib.hid (bel_next BB.out hbel)
      clear hbel SB
      obtain ⟨w0, rfl⟩ : ∃ wo : World, wo = wr := ⟨_, rfl⟩
      have SB := Lib.hid (Sl.lit' w0 .i64 3 badN (cs := #[.int .i64 0, .int .i64 (-1), .int .i64 4001, .int .i64 (-9223372036854775808), .int .i64 9223372036854775807]) rfl)
      go_wp2_with fail
      generalize hW : w0.alloc (.cells #[.int .i64 0, .int .i64 (-1), .int .i64 4001, .int .i64 (-9223372036854775808), .int .i64 9223372036854775807] 3) = W2 at *
      have BB := Lib.hid (show Below w.heap.size w W2 from hW ▸ bel_up BB.out _)
      clear hW
      go_loopw [13] (fun i wr => ∃ k : Nat, k ≤ 5 ∧ i = .int .i64 k ∧ Below W2.heap.size W2 wr) (fun i _ => 5 - (intOf i).toNat)
      case atStart => exact ⟨0, by omega, rfl, bel_self _⟩
      case round =>
        obtain ⟨j, hj, rfl, hbel⟩ := hrel
        by_cases hlj : j < 5
        · obtain ⟨hb, hc⟩ := (SB.out.next hbel).at0 (show j < badN.length from hlj)
          obtain ⟨p3, p4, p5, p7, p8, p9, q0, q1⟩ := badN_ok _ (mem_getD (show j < badN.length from hlj))
          generalize badN.getD j 0 = n at *
          have P3 := Lib.hid p3
          have P4 := Lib.hid p4
          have P5 := Lib.hid p5
          have P7 := Lib.hid p7
          have P8 := Lib.hid p8
          have P9 := Lib.hid p9
          have HB := Lib.hid hbel
          have hlt' : (j : Int) < 5 := by omega
          clear p3 p4 p5 p7 p8 p9 hbel SB
          go_wp2_with fail
          refine (count_v _ P3.out P4.out (by decide) (by decide) q0 q1).mono ?_
          rintro e w' ⟨rfl, rfl⟩
          go_wp2_with fail
          refine (all_v [] _ P5.out P4.out (by decide) (by decide) q0 q1).mono ?_
          rintro e wa ⟨v, rfl, own, bel⟩
          obtain ⟨A, c, rfl, _, _, _⟩ := own.sl
          have hc := (bel.cell (p := ⟨w0.heap.size, j, none⟩) hb).trans hc
          have HB := Lib.hid (bel_next HB.out bel)
          clear own bel
          go_wp2_with fail
          refine (place_v _ P7.out P8.out P9.out (by decide) (by decide) q0 q1).mono ?_
          rintro e wb ⟨rfl, bel⟩
          have HB := Lib.hid (bel_next HB.out bel)
          clear bel hc
          go_wp2_with fail
          go_roundw
          case rel => exact ⟨j + 1, by omega, by go_num, HB.out⟩
          case measure => simp [intOf]; omega
        · have BB := Lib.hid (bel_next BB.out hbel)
          clear hbel SB
          obtain ⟨w9, rfl⟩ : ∃ wo : World, wo = wr := ⟨_, rfl⟩
          go_wp2_with fail
          refine (count_v (v := 1000) (e := 0) _ (by decide +kernel) (by decide +kernel) (by decide) (by decide) (by decide) (by decide)).mono ?_
          rintro e w' ⟨rfl, rfl⟩
          go_wp2_with fail
          refine (count_v (v := 0) (e := 4) _ (by decide +kernel) (by decide +kernel) (by decide) (by decide) (by decide) (by decide)).mono ?_
          rintro e w' ⟨rfl, rfl⟩
          go_wp2_with fail
          refine (all_v (e := 4) [] _ (by decide +kernel) (by decide +kernel) (by decide) (by decide) (by decide) (by decide)).mono ?_
          rintro e w1 ⟨v1, rfl, own1, bel1⟩
          obtain ⟨Aa, ca, rfl, _, _, sl1⟩ := own1.sl
          have Sa := Lib.hid sl1
          have BB := Lib.hid (bel_next BB.out bel1)
          clear own1 bel1 sl1
          clear Sa
          go_wp2_with fail
          refine (count_v (v := 1000) (e := 0) _ (by decide +kernel) (by decide +kernel) (by decide) (by decide) (by decide) (by decide)).mono ?_
          rintro e w' ⟨rfl, rfl⟩
          go_wp2_with fail
          refine (place_v (f := 0) (x := 0) (e := 4) _ (by decide +kernel) (by decide +kernel) (by decide +kernel) (by decide) (by decide) (by decide) (by decide)).mono ?_
          rintro e w2 ⟨rfl, bel2⟩
          have BB := Lib.hid (bel_next BB.out bel2)
          clear bel2
          go_wp2_with fail
          refine (place_v (f := 0) (x := 0) (e := 2) _ (by decide +kernel) (by decide +kernel) (by decide +kernel) (by decide) (by decide) (by decide) (by decide)).mono ?_
          rintro e w3 ⟨rfl, bel3⟩
          have BB := Lib.hid (bel_next BB.out bel3)
          clear bel3
          go_wp2_with fail
          refine (place_v (f := 0) (x := 0) (e := 2) _ (by decide +kernel) (by decide +kernel) (by decide +kernel) (by decide) (by decide) (by decide) (by decide)).mono ?_
          rintro e w4 ⟨rfl, bel4⟩
          have BB := Lib.hid (bel_next BB.out bel4)
          clear bel4
          go_wp2_with fail
          refine (place_v (f := 2) (x := 4) (e := 0) _ (by decide +kernel) (by decide +kernel) (by decide +kernel) (by decide) (by decide) (by decide) (by decide)).mono ?_
          rintro e w5 ⟨rfl, bel5⟩
          have BB := Lib.hid (bel_next BB.out bel5)
          clear bel5
          go_wp2_with fail
          refine (long_v (v := 1095654) (e := 0) _ (by decide +kernel) (by decide +kernel) (by decide) (by decide)).mono ?_
          rintro e w' ⟨rfl, rfl⟩
          go_wp2_with fail
          refine (long_v (v := 22) (e := 0) _ (by decide +kernel) (by decide +kernel) (by decide) (by decide)).mono ?_
          rintro e w' ⟨rfl, rfl⟩
          go_wp2_with fail
          refine (long_v (v := 24) (e := 0) _ (by decide +kernel) (by decide +kernel) (by decide) (by decide)).mono ?_
          rintro e w' ⟨rfl, rfl⟩
          go_wp2_with fail
          refine (all_v (e := 0) [4000] _ (by decide +kernel) (by decide +kernel) (by decide) (by decide) (by decide) (by decide)).mono ?_
          rintro e w6 ⟨v6, rfl, own6, bel6⟩
          obtain ⟨Ab, cb, rfl, _, _, sl6⟩ := own6.sl
          have Sb := Lib.hid sl6
          have BB := Lib.hid (bel_next BB.out bel6)
          clear own6 bel6 sl6
          go_wp2_with fail
          refine (alive_any w6).mono ?_
          rintro e w7 ⟨rfl, bel7⟩
          have Sb := Lib.hid (Sb.out.next bel7)
          have BB := Lib.hid (bel_next BB.out bel7)
          clear bel7
          go_wp2_with fail
          refine (same22 Ab _ 1 1 cb 1 [4000] _ rfl rfl (by decide) (Sb.out.up _) (Sl.lit' w7 .i64 _ [4000] rfl)).mono ?_
          rintro e w8 ⟨rfl, bel8⟩
          have Sb := Lib.hid ((Sb.out.up _).next bel8)
          have BB := Lib.hid (bel_next (bel_up BB.out _) bel8)
          clear bel8
          go_wp2_with fail
          go_ret
          exact ⟨rfl, BB.out⟩
end Go.Proofs.Ytabdadpcknlnbaa

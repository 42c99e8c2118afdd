/-
  The walk of WidthWrites. Conditions: numbers within their types.
-/
import Derived.Test.YtfapkpegfgeliaaRef18Bytes
import Derived.Test.YtfapkpegfgeliaaGreat13
import Derived.Test.YtfapkpegfgeliaaSame13
import Derived.Test.YtfapkpegfgeliaaStr
namespace Go.Proofs.Ytfapkpegfgeliaa
open Go.RowKit
set_option linter.unusedVariables false

theorem byR_len (b : Int) (xs : List Int) : (byR b xs).length ≤ 12000 := by
  by_cases h : ckE b xs = 0
  · obtain ⟨h1, h2, _⟩ := ckE_zero h
    rw [show byR b xs = byL b xs from if_pos h, byL_len h1]
    have := Nat.mul_le_mul (nB_le b) h2
    omega
  · rw [show byR b xs = [] from if_neg h]; simp

set_option maxRecDepth 100000 in
set_option maxHeartbeats 1000000 in
theorem widthWrites_main (b : Int) (A : Option Addr) (c : Nat) (xs : List Int) (w : World) (hb0 : -9223372036854775808 ≤ b) (hb1 : b ≤ 9223372036854775807)
    (hx : I32 xs) (hs : Sl w w.heap.size .i32 A xs) (h1 : xs.length ≤ 600 ∨ 4000 < xs.length) (h2 : xs.length ≤ 4100) :
    Calls Try.prog 4 #[.int .i64 b, .slice A xs.length c] w fun e w' => e = .returned (.bool true) ∧ Below w.heap.size w w' := by
  have GR := Lib.hid (great_no A xs.length c w h1 h2)
  have SX := Lib.hid hs
  have HX := Lib.hid hx
  have e1 : (-wdH b == -wdH b) = true := by simp
  have e2 : (wdHi b == wdHi b) = true := by simp
  have e3 : (wdE b == wdE b) = true := by simp
  have e4 : (ckE b xs == ckE b xs) = true := by simp
  have B0 := Lib.hid (bel_up (bel_self w) (.cells #[] 21))
  clear hs hx h1
  go_enter Try.func4, Try.ntmps4
  go_wp2_with fail
  refine (GR.out).mono ?_
  rintro e w' ⟨rfl, rfl⟩
  go_wp2_with (at_builtin; refine appN (xs := []) (ys := xs) elI32 _ _ rfl rfl rfl rfl (Own.lit w w.heap.size .i32 21 [] rfl rfl (Nat.le_refl _) (by decide)) (SX.out.alloc (Nat.le_refl _) _) (by simp; omega) (by simp; omega) B0.out.size ?_; intro v1 w1 own1 bel1; have BB := Lib.hid (B0.out.trans bel1); have O1 := Lib.hid own1; clear own1 bel1 B0)
  obtain ⟨Ao, co, rfl, _, _, sl1⟩ := O1.out.sln (n := xs.length) (by simp)
  have SO := Lib.hid sl1
  have SX := Lib.hid (SX.out.next BB.out)
  clear sl1 O1
  simp only [List.nil_append] at SO
  have l1 := byR_len b xs
  go_wp2_with fail
  refine (range_any b _ hb0 hb1).mono ?_
  rintro e w' ⟨rfl, rfl⟩
  go_wp2_with fail
  refine (rerange_any b _ hb0 hb1).mono ?_
  rintro e w' ⟨rfl, rfl⟩
  go_wp2_with fail
  refine (bytes_any b Ao _ co xs _ rfl (by omega) HX.out SO.out hb0 hb1).mono ?_
  rintro e w2 ⟨v2, rfl, own2, bel2⟩
  obtain ⟨Aa, ca, rfl, _, _, sl2⟩ := own2.sl
  have Sa := Lib.hid sl2
  have SO := Lib.hid (SO.out.next bel2)
  have SX := Lib.hid (SX.out.next bel2)
  have BB := Lib.hid (bel_next BB.out bel2)
  clear own2 bel2 sl2
  go_wp2_with fail
  refine (rebytes_any b A _ c xs _ rfl (by omega) HX.out SX.out hb0 hb1).mono ?_
  rintro e w3 ⟨v3, rfl, own3, bel3⟩
  obtain ⟨Ab, cb, rfl, _, _, sl3⟩ := own3.sl
  have Sb := Lib.hid sl3
  have SO := Lib.hid (SO.out.next bel3)
  have SX := Lib.hid (SX.out.next bel3)
  have Sa := Lib.hid (Sa.out.next bel3)
  have BB := Lib.hid (bel_next BB.out bel3)
  clear own3 bel3 sl3
  go_wp2_with fail
  refine (wcheck_any b Ao _ co xs _ rfl (by omega) HX.out SO.out hb0 hb1).mono ?_
  rintro e w' ⟨rfl, rfl⟩
  go_wp2_with fail
  refine (recheck_any b A _ c xs _ rfl (by omega) HX.out SX.out hb0 hb1).mono ?_
  rintro e w4 ⟨rfl, bel4⟩
  have SO := Lib.hid (SO.out.next bel4)
  have SX := Lib.hid (SX.out.next bel4)
  have Sa := Lib.hid (Sa.out.next bel4)
  have Sb := Lib.hid (Sb.out.next bel4)
  have BB := Lib.hid (bel_next BB.out bel4)
  clear bel4
  have k1 := conv_sl (P := Try.prog) (c := ca) Try.underlying22 Try.underlying5 Try.underlying9 Sa.out rfl
  have k2 := conv_sl (P := Try.prog) (c := cb) Try.underlying22 Try.underlying5 Try.underlying9 Sb.out rfl
  generalize strOfNums (byR b xs) = str at *
  go_wp2_with fail
  refine (same13 Ao A _ _ co c xs _ rfl rfl (by omega) SO.out SX.out).mono ?_
  rintro e w5 ⟨rfl, bel5⟩
  have SO := Lib.hid (SO.out.next bel5)
  have SX := Lib.hid (SX.out.next bel5)
  have Sa := Lib.hid (Sa.out.next bel5)
  have Sb := Lib.hid (Sb.out.next bel5)
  have BB := Lib.hid (bel_next BB.out bel5)
  clear bel5
  go_wp2_with fail
  go_ret
  exact ⟨rfl, BB.out⟩

set_option maxRecDepth 100000 in
set_option maxHeartbeats 400000 in
theorem widthWrites_walk (b : Int) (A : Option Addr) (c : Nat) (xs : List Int) (w : World) (hb0 : -9223372036854775808 ≤ b) (hb1 : b ≤ 9223372036854775807)
    (hc : xs.length ≤ c) (hm : c ≤ 9223372036854775807) (hx : I32 xs) (hs : Sl w w.heap.size .i32 A xs) :
    Calls Try.prog 4 #[.int .i64 b, .slice A xs.length c] w fun e w' => e = .returned (.bool true) ∧ Below w.heap.size w w' := by
  by_cases h : (xs.length ≤ 600 ∨ 4000 < xs.length) ∧ xs.length ≤ 4100
  · exact widthWrites_main b A c xs w hb0 hb1 hx hs h.1 h.2
  · have GR := Lib.hid (great_yes A xs.length c w (by omega) (by omega))
    have BB := Lib.hid (bel_self w)
    clear hs hx h
    go_enter Try.func4, Try.ntmps4
    go_wp2_with fail
    refine (GR.out).mono ?_
    rintro e w' ⟨rfl, rfl⟩
    go_wp2_with fail
    go_ret
    exact ⟨rfl, BB.out⟩
end Go.Proofs.Ytfapkpegfgeliaa

/-
  The walk of WidthReads. Conditions: numbers within their types.
-/
import Derived.Test.YtfapkpegfgeliaaRef18Samples
import Derived.Test.YtfapkpegfgeliaaSame13
import Derived.Test.YtfapkpegfgeliaaStr
namespace Go.Proofs.Ytfapkpegfgeliaa
open Go.RowKit
set_option linter.unusedVariables false

theorem saL_len (b : Int) (xs : List Int) : (saL b xs).length ≤ 4000 := by
  by_cases h : saE b xs.length = 0
  · rw [show saL b xs = _ from if_pos h, sampTo_len]
    unfold saE at h
    split at h
    · omega
    · split at h
      · omega
      · split at h
        · omega
        · omega
  · rw [show saL b xs = [] from if_neg h]; simp

set_option maxHeartbeats 400000 in
theorem great18_no (A : Option Addr) (n c : Nat) (w : World) (h1 : n ≤ 2000 ∨ 4000 < n) (h2 : n ≤ 12100) :
    Calls Try.prog 9 #[.slice A n c] w fun e w' => e = .returned (.bool false) ∧ w = w' := by
  rcases h1 with h1 | h1
  all_goals
    go_enter Try.func9, Try.ntmps9
    go_wp2_with fail
    go_ret
    exact ⟨ret_bool (by simp; omega), rfl⟩
set_option maxHeartbeats 400000 in
theorem great18_yes (A : Option Addr) (n c : Nat) (w : World) (hm : n ≤ 9223372036854775807) (h : (2000 < n ∧ n ≤ 4000) ∨ 12100 < n) :
    Calls Try.prog 9 #[.slice A n c] w fun e w' => e = .returned (.bool true) ∧ w = w' := by
  rcases h with ⟨h1, h2⟩ | h1
  all_goals
    go_enter Try.func9, Try.ntmps9
    go_wp2_with fail
    go_ret
    exact ⟨ret_bool (by simp <;> omega), rfl⟩

set_option maxRecDepth 100000 in
set_option maxHeartbeats 1000000 in
theorem widthReads_main (b : Int) (A : Option Addr) (c : Nat) (xs : List Int) (w : World) (hb0 : -9223372036854775808 ≤ b) (hb1 : b ≤ 9223372036854775807)
    (hx : U8 xs) (hs : Sl w w.heap.size .u8 A xs) (h1 : xs.length ≤ 2000 ∨ 4000 < xs.length) (h2 : xs.length ≤ 12100) :
    Calls Try.prog 3 #[.int .i64 b, .slice A xs.length c] w fun e w' => e = .returned (.bool true) ∧ Below w.heap.size w w' := by
  have GR := Lib.hid (great18_no A xs.length c w h1 h2)
  have SX := Lib.hid hs
  have HX := Lib.hid hx
  have e4 : (saE b xs.length == saE b xs.length) = true := by simp
  have BB := Lib.hid (bel_self w)
  have k0 := conv_sl (P := Try.prog) (c := c) Try.underlying22 Try.underlying5 Try.underlying9 hs rfl
  have hsz := strOfNums_size xs
  have HZ := Lib.hid hsz
  have W1 := Lib.hid (fun W => bytesWorld_sl W 5 xs hx)
  have W2 := Lib.hid (fun W => bytesWorld_below W 5 (strOfNums xs))
  have CB := Lib.hid (fun W => Lib.run_convert_string_bytes (P := Try.prog) W 9 22 5 (strOfNums xs) Try.underlying9 Try.underlying22 Try.underlying5)
  have K0 := Lib.hid (fun (W : World) (c : Nat) (h : Sl W W.heap.size .u8 A xs) => conv_sl (P := Try.prog) (c := c) Try.underlying22 Try.underlying5 Try.underlying9 h rfl)
  have l1 := saL_len b xs
  generalize strOfNums xs = str at *
  clear hs hx h1 hsz
  go_enter Try.func3, Try.ntmps3
  go_wp2_with fail
  refine (GR.out).mono ?_
  rintro e w' ⟨rfl, rfl⟩
  go_wp2_with fail
  refine (samples_any b A _ c xs _ rfl (by omega) HX.out SX.out hb0 hb1).mono ?_
  rintro e w1 ⟨v1, rfl, own1, bel1⟩
  obtain ⟨Aa, ca, rfl, _, _, sl1⟩ := own1.sl
  have Sa := Lib.hid sl1
  have SX := Lib.hid (SX.out.next bel1)
  have BB := Lib.hid (bel_next BB.out bel1)
  clear own1 bel1 sl1
  have kcb := CB.out w1
  rw [HZ.out] at kcb
  clear k0
  have SB := Lib.hid (W1.out w1)
  have BW := Lib.hid (W2.out w1)
  have SX := Lib.hid (SX.out.next BW.out)
  have Sa := Lib.hid (Sa.out.next BW.out)
  have BB := Lib.hid (bel_next BB.out BW.out)
  generalize hW : Lib.bytesWorld w1 5 str = w2 at *
  clear hW W1 W2 BW
  go_wp2_with fail
  refine (resamples_any b _ _ _ xs _ rfl (by omega) HX.out SB.out hb0 hb1).mono ?_
  rintro e w3 ⟨v3, rfl, own3, bel3⟩
  obtain ⟨Ab, cb, rfl, _, _, sl3⟩ := own3.sl
  have Sb := Lib.hid sl3
  have SX := Lib.hid (SX.out.next bel3)
  have Sa := Lib.hid (Sa.out.next bel3)
  have SB := Lib.hid (SB.out.next bel3)
  have BB := Lib.hid (bel_next BB.out bel3)
  clear own3 bel3 sl3
  clear kcb
  go_wp2_with fail
  refine (same13 Aa Ab _ _ ca cb (saL b xs) _ rfl rfl (by omega) Sa.out Sb.out).mono ?_
  rintro e w4 ⟨rfl, bel4⟩
  have SX := Lib.hid (SX.out.next bel4)
  have Sa := Lib.hid (Sa.out.next bel4)
  have SB := Lib.hid (SB.out.next bel4)
  have Sb := Lib.hid (Sb.out.next bel4)
  have BB := Lib.hid (bel_next BB.out bel4)
  clear bel4
  have k2 := K0.out w4 c SX.out
  go_wp2_with fail
  go_ret
  exact ⟨rfl, BB.out⟩

set_option maxHeartbeats 400000 in
theorem widthReads_walk (b : Int) (A : Option Addr) (c : Nat) (xs : List Int) (w : World) (hb0 : -9223372036854775808 ≤ b) (hb1 : b ≤ 9223372036854775807)
    (hc : xs.length ≤ c) (hm : c ≤ 9223372036854775807) (hx : U8 xs) (hs : Sl w w.heap.size .u8 A xs) :
    Calls Try.prog 3 #[.int .i64 b, .slice A xs.length c] w fun e w' => e = .returned (.bool true) ∧ Below w.heap.size w w' := by
  by_cases h : (xs.length ≤ 2000 ∨ 4000 < xs.length) ∧ xs.length ≤ 12100
  · exact widthReads_main b A c xs w hb0 hb1 hx hs h.1 h.2
  · have GR := Lib.hid (great18_yes A xs.length c w (by omega) (by omega))
    have BB := Lib.hid (bel_self w)
    clear hs hx h
    go_enter Try.func3, Try.ntmps3
    go_wp2_with fail
    refine (GR.out).mono ?_
    rintro e w' ⟨rfl, rfl⟩
    go_wp2_with fail
    go_ret
    exact ⟨rfl, BB.out⟩
end Go.Proofs.Ytfapkpegfgeliaa

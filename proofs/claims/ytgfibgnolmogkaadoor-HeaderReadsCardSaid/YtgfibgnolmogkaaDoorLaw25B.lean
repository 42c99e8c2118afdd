/-
  The walk of HeaderReads. Conditions: numbers within their types; the package variable widths as the text lays it.
-/
import Derived.Test.YtgfibgnolmogkaaDoorRef25R
import Derived.Test.YtgfibgnolmogkaaDoorHdEq
namespace Go.Proofs.YtgfibgnolmogkaaDoor
open Go.RowKit
set_option linter.unusedVariables false

theorem rhV_agg (b : List Int) : ∃ x0 x1 x2 x3 x4 : Int, rhV b = .agg #[.int .i64 x0, .int .i64 x1, .int .i64 x2, .int .i64 x3, .int .i64 x4] := by
  unfold rhV
  split
  · exact ⟨_, _, _, _, _, rfl⟩
  · exact ⟨0, 0, 0, 0, 0, rfl⟩

set_option maxRecDepth 100000 in
set_option maxHeartbeats 1000000 in
theorem headerReads_main (A : Option Addr) (n c : Nat) (b : List Int) (w : World) (hn : b.length = n) (hc : n ≤ c) (hcm : c ≤ 9223372036854775807) (hx : U8 b) (hs : Sl w w.heap.size .u8 A b) (hW : WdAt w) (hl : n ≤ 500) :
    Calls Tryd.prog 5 #[.slice A n c] w fun e w' => e = .returned (.bool true) ∧ Below w.heap.size w w' := by
  have hl' : ¬ (500 : Int) < (n : Int) := by omega
  obtain ⟨x0, x1, x2, x3, x4, hv⟩ := rhV_agg b
  have P1 := Lib.hid (fun W (h1 : Sl W W.heap.size .u8 A b) (h2 : WdAt W) => hdRead A n c b W hn hc hcm hx h1 h2)
  have P2 := Lib.hid (fun W (h1 : Sl W W.heap.size .u8 A b) => reRead A n c b W hn hc hx h1)
  rw [hv] at P1 P2
  have k0 := conv_sl (P := Tryd.prog) (c := c) Tryd.underlying24 Tryd.underlying5 Tryd.underlying9 hs hn
  have K0 := Lib.hid (fun (W : World) (h : Sl W W.heap.size .u8 A b) => conv_sl (P := Tryd.prog) (c := c) Tryd.underlying24 Tryd.underlying5 Tryd.underlying9 h hn)
  have e1 : (rhE b == rhE b) = true := by simp
  have SX := Lib.hid hs
  have WD := Lib.hid hW
  have BB := Lib.hid (bel_self w)
  have y0 : (x0 == x0) = true := by simp
  have HE := Lib.hid (fun W => hd_eq x0 x1 x2 x3 x4 x0 x1 x2 x3 x4 W)
  generalize strOfNums b = str at *
  generalize rhE b = E at *
  clear hs hW hv hn hx
  go_enter Tryd.func5, Tryd.ntmps5
  go_wp2_with fail
  refine (P1.out _ SX.out WD.out).mono ?_
  rintro e w1 ⟨rfl, bel1⟩
  have SX := Lib.hid (SX.out.next bel1)
  have BB := Lib.hid (bel_next BB.out bel1)
  clear bel1 k0
  have BH := Lib.hid (BlkH.new w1 23 #[.int .i64 x0, .int .i64 x1, .int .i64 x2, .int .i64 x3, .int .i64 x4])
  have SX := Lib.hid (SX.out.up (.cells #[.int .i64 x0, .int .i64 x1, .int .i64 x2, .int .i64 x3, .int .i64 x4] 23))
  have BB := Lib.hid (bel_up BB.out (.cells #[.int .i64 x0, .int .i64 x1, .int .i64 x2, .int .i64 x3, .int .i64 x4] 23))
  go_wp2_with fail
  refine (P2.out _ SX.out).mono ?_
  rintro e w2 ⟨rfl, bel2⟩
  have BH := Lib.hid (BH.out.next bel2)
  have SX := Lib.hid ((SX.out.next bel2).up (.cells #[.int .i64 x0, .int .i64 x1, .int .i64 x2, .int .i64 x3, .int .i64 x4] 23))
  have BB := Lib.hid (bel_up (bel_next BB.out bel2) (.cells #[.int .i64 x0, .int .i64 x1, .int .i64 x2, .int .i64 x3, .int .i64 x4] 23))
  clear bel2
  have hz := BH.out.lt
  have c0 := BH.out.cell 0
  have c1 := BH.out.cell 1
  have c2 := BH.out.cell 2
  have c3 := BH.out.cell 3
  have c4 := BH.out.cell 4
  have k1 := K0.out _ SX.out
  have he := HE.out
  go_wp2_with fail
  go_ret
  exact ⟨rfl, BB.out⟩

set_option maxRecDepth 100000 in
set_option maxHeartbeats 400000 in
theorem headerReads_walk (A : Option Addr) (c : Nat) (b : List Int) (w : World) (hc : b.length ≤ c) (hcm : c ≤ 9223372036854775807) (hx : U8 b) (hs : Sl w w.heap.size .u8 A b) (hW : WdAt w) :
    Calls Tryd.prog 5 #[.slice A b.length c] w fun e w' => e = .returned (.bool true) ∧ Below w.heap.size w w' := by
  by_cases hl : b.length ≤ 500
  · exact headerReads_main A _ c b w rfl hc hcm hx hs hW hl
  · have hl' : (500 : Int) < (b.length : Int) := by omega
    clear hs hx hW
    go_enter Tryd.func5, Tryd.ntmps5
    go_wp2_with fail
    go_ret
    exact ⟨rfl, bel_self _⟩
end Go.Proofs.YtgfibgnolmogkaaDoor

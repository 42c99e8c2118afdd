/-
  The walks of the chapter's example of layer 3, and of Crc32Sums. Conditions: numbers within their types.
-/
import Derived.Test.YtfhodjdbbocpiaaRef03Next
import Derived.Test.YtfhodjdbbocpiaaStr
namespace Go.Proofs.Ytfhodjdbbocpiaa
open Go.RowKit
set_option linter.unusedVariables false

theorem elU8 : Elem Try.prog 23 5 .u8 1 := Elem.mk' Try.underlying23 (by kernel_rfl)

theorem sum_nine : sumL [49, 50, 51, 52, 53, 54, 55, 56, 57] = 3421780262 := by decide +kernel
theorem tab_some : tabF 0 = 0 ∧ tabF 1 = 1996959894 ∧ tabF 2 = 3993919788 ∧ tabF 255 = 755167117 := by decide +kernel
theorem sum_v {A : Option Addr} {n c : Nat} {v : Int} (xs : List Int) (w : World) (hn : xs.length = n) (hl : n ≤ 100000) (hx : U8 xs) (hsl : Sl w w.heap.size .u8 A xs) (hv : ((sumL xs : Nat) : Int) = v) :
    Calls Try.prog 12 #[.slice A n c] w fun e w' => e = .returned (.tuple #[.int .u32 v, .int .i64 0]) ∧ Below w.heap.size w w' := by
  subst hv
  exact sum_ok A n c xs w hn hl hx hsl

set_option maxHeartbeats 1000000 in
theorem alive_any (w : World) : Calls Try.prog 15 #[] w fun e w' => e = .returned (.bool true) ∧ Below w.heap.size w w' := by
  have BB := Lib.hid (bel_self w)
  have kc := fun (w : World) (C : Array Value) (n c : Nat) => Lib.run_convert_bytes_const (P := Try.prog) w 23 5 C n c Try.underlying23 Try.underlying5
  go_enter Try.func15, Try.ntmps15
  go_wp2_with fail
  refine (sum_v (v := 0) [] w rfl (by decide) (by unfold U8; simp) Sl.nil_ (by decide)).mono ?_
  rintro e w1 ⟨rfl, bel1⟩
  have BB := Lib.hid (bel_next BB.out bel1)
  clear bel1
  go_wp2_with fail
  refine (sum_v (v := 3421780262) [49, 50, 51, 52, 53, 54, 55, 56, 57] _ rfl (by decide) (by unfold U8; decide) (Sl.marked w1 .u8 _ [49, 50, 51, 52, 53, 54, 55, 56, 57] rfl) (by rw [sum_nine]; rfl)).mono ?_
  rintro e w2 ⟨rfl, bel2⟩
  have BB := Lib.hid (bel_next (bel_up BB.out _) bel2)
  clear bel2
  clear kc
  go_wp2_with fail
  refine (Table_any _).mono ?_
  rintro e w3 ⟨v, rfl, own3, bel3⟩
  obtain ⟨A, c, rfl, hc, hm, sl3⟩ := own3.sln (tabL_len 256)
  obtain ⟨b, o, rfl, hb, hcell⟩ := sl3 (by rw [tabL_len]; decide)
  have c0 := hcell 0 (by rw [tabL_len]; decide)
  have c1 := hcell 1 (by rw [tabL_len]; decide)
  have c2 := hcell 2 (by rw [tabL_len]; decide)
  rw [tabL_get _ (by decide), tab_some.1, Nat.add_zero] at c0
  rw [tabL_get _ (by decide), tab_some.2.1] at c1
  rw [tabL_get _ (by decide), tab_some.2.2.1] at c2
  have BB := Lib.hid (bel_next BB.out bel3)
  clear hcell sl3 own3 bel3
  go_wp2_with fail
  go_ret
  exact ⟨rfl, BB.out⟩
end Go.Proofs.Ytfhodjdbbocpiaa

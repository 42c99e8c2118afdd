/-
  What Next and Sum of the reference of layer 3 compute. Conditions: numbers within their types.
-/
import Derived.Test.YtfhodjdbbocpiaaRef03Walks
namespace Go.Proofs.Ytfhodjdbbocpiaa
open Go.RowKit
set_option linter.unusedVariables false

set_option maxHeartbeats 400000 in
theorem renext_ok (s : Nat) (A : Option Addr) (n c : Nat) (xs : List Int) (w : World) (hs : s < 4294967296) (hn : xs.length = n) (hl : n ≤ 100000) (hx : U8 xs) (hsl : Sl w w.heap.size .u8 A xs) :
    Calls Try.prog 11 #[.int .u32 (s : Int), .slice A n c] w fun e w' => e = .returned (.tuple #[.int .u32 ((crcL s xs : Nat) : Int), .int .i64 0]) ∧ w = w' := by
  have C := Lib.hid (Behind_any s A n c xs w hs hn (by omega) hx hsl)
  clear hsl hn
  go_enter Try.func11, Try.ntmps11
  go_wp2_with fail
  refine C.out.mono ?_
  rintro e w1 ⟨rfl, rfl⟩
  go_wp2_with fail
  go_ret2
  exact ⟨rfl, rfl⟩
theorem renext_many (s : Int) (A : Option Addr) (n c : Nat) (w : World) (hl : 100000 < n) (hm : n ≤ 9223372036854775807) :
    Calls Try.prog 11 #[.int .u32 s, .slice A n c] w fun e w' => e = .returned (.tuple #[.int .u32 0, .int .i64 4]) ∧ w = w' := by
  go_enter Try.func11, Try.ntmps11
  go_wp2_with fail
  go_ret2
  exact ⟨rfl, rfl⟩
set_option maxHeartbeats 400000 in
theorem resum_ok (A : Option Addr) (n c : Nat) (xs : List Int) (w : World) (hn : xs.length = n) (hl : n ≤ 100000) (hx : U8 xs) (hsl : Sl w w.heap.size .u8 A xs) :
    Calls Try.prog 13 #[.slice A n c] w fun e w' => e = .returned (.tuple #[.int .u32 ((sumL xs : Nat) : Int), .int .i64 0]) ∧ w = w' := by
  have C := Lib.hid (Of_any A n c xs w hn (by omega) hx hsl)
  clear hsl hn
  go_enter Try.func13, Try.ntmps13
  go_wp2_with fail
  refine C.out.mono ?_
  rintro e w1 ⟨rfl, rfl⟩
  go_wp2_with fail
  go_ret2
  exact ⟨rfl, rfl⟩
theorem resum_many (A : Option Addr) (n c : Nat) (w : World) (hl : 100000 < n) (hm : n ≤ 9223372036854775807) :
    Calls Try.prog 13 #[.slice A n c] w fun e w' => e = .returned (.tuple #[.int .u32 0, .int .i64 4]) ∧ w = w' := by
  go_enter Try.func13, Try.ntmps13
  go_wp2_with fail
  go_ret2
  exact ⟨rfl, rfl⟩
end Go.Proofs.Ytfhodjdbbocpiaa

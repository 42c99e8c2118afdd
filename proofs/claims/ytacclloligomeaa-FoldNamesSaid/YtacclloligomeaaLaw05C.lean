/-
  The walks of FoldNames and FoldLists. Conditions: numbers within their types.
-/
import Derived.Test.YtacclloligomeaaLaw05A
namespace Go.Proofs.Ytacclloligomeaa
open Go.RowKit

theorem i32_zeros (n : Nat) : I32 (List.replicate n 0) := fun x hx => by have := List.eq_of_mem_replicate hx; omega

set_option maxHeartbeats 1000000 in
theorem foldNames_walk (w : World) : Calls Try.prog 6 #[] w fun e w' => e = .returned (.bool true) ∧ Below w.heap.size w w' := by
  have mk1 : ∀ W, (Instr.makeSlice 35 (.int .i64 4001) (.int .i64 4001)).run Try.prog W = .ok (.slice (some ⟨W.heap.size, 0, none⟩) 4001 4001) (W.alloc (.cells (zerosA .i32 4001) 21)) := run_make_ints elI32 4001 rfl (by decide) (by decide)
  have mk2 : ∀ W, (Instr.makeSlice 31 (.int .i64 4001) (.int .i64 4001)).run Try.prog W = .ok (.slice (some ⟨W.heap.size, 0, none⟩) 4001 4001) (W.alloc (.cells (zerosA .u32 4001) 22)) := run_make_ints elU32 4001 rfl (by decide) (by decide)
  have mk3 : ∀ W, (Instr.makeSlice 35 (.int .i64 4000) (.int .i64 4000)).run Try.prog W = .ok (.slice (some ⟨W.heap.size, 0, none⟩) 4000 4000) (W.alloc (.cells (zerosA .i32 4000) 21)) := run_make_ints elI32 4000 rfl (by decide) (by decide)
  go_enter Try.func6, Try.ntmps6
  go_wp2_with fail
  refine (all_many _ _ 4001 _ (by decide) (by decide)).mono ?_
  rintro e w1 ⟨rfl, h1⟩
  have B1 : Below w.heap.size w w1 := h1 ▸ ((Below.refl _ w).alloc (Nat.le_refl _) _)
  have B1 := Lib.hid B1
  clear h1
  go_wp2_with fail
  refine (undo_many _ _ 4001 _ (by decide) (by decide)).mono ?_
  rintro e w2 ⟨rfl, h2⟩
  have B2 : Below w.heap.size w w2 := h2 ▸ (B1.out.alloc B1.out.size _)
  have B2 := Lib.hid B2
  clear h2
  go_wp2_with fail
  have c3 := all_any (some ⟨w2.heap.size, 0, none⟩) 4000 (List.replicate 4000 0) (w2.alloc (.cells (zerosA .i32 4000) 21)) (by rw [List.length_replicate]; decide) (i32_zeros _) (Sl.zeros' w2 .i32 21 4000)
  rw [List.length_replicate] at c3
  refine c3.mono ?_
  clear c3
  rintro e w3 ⟨v, rfl, hown, hbel⟩
  have B3 : Below w.heap.size w w3 := (B2.out.alloc B2.out.size _).trans (hbel.mono (by have := B2.out.size; simp; omega))
  obtain ⟨A3, c3, rfl, _, _, hsl⟩ := hown.sl
  rw [List.map_replicate, List.length_replicate]
  have B3 := Lib.hid B3
  clear hown hbel hsl
  go_wp2_with fail
  refine (undo_any _ 4 [4294967295, 4294967294, 1, 0] _ (by decide) (by unfold U32; decide) (by simpa using Sl.lit w3 .u32 _ [4294967295, 4294967294, 1, 0] rfl)).mono ?_
  rintro e w4 ⟨v, rfl, hown, hbel⟩
  rw [show [4294967295, 4294967294, 1, 0].map backF = [-2147483648, 2147483647, -1, 0] from by decide] at hown
  obtain ⟨A4, c4, rfl, _, _, hsl⟩ := hown.sl
  have B4 : Below w.heap.size w w4 := (B3.out.alloc B3.out.size _).trans (hbel.mono (by have := B3.out.size; simp; omega))
  have B4 := Lib.hid B4
  have S4 := Lib.hid hsl
  clear hbel hown hsl
  go_wp2_with fail
  refine (all_any none 0 [] _ (by decide) (by unfold I32; simp) Sl.nil_).mono ?_
  rintro e w5 ⟨v, rfl, hown, hbel⟩
  obtain ⟨A5, c5, rfl, _, _, hsl⟩ := hown.sl
  have B5 : Below w.heap.size w w5 := B4.out.trans (hbel.mono B4.out.size)
  have B5 := Lib.hid B5
  have S5 := Lib.hid ((S4.out.below hbel).more hbel.size)
  clear hbel hown hsl
  go_wp2_with fail
  refine (sameS_any A4 _ c4 4 [-2147483648, 2147483647, -1, 0] _ (by decide) ((S5.out.alloc (Nat.le_refl _) _).more (by simp)) (by simpa using Sl.lit w5 .i32 _ [-2147483648, 2147483647, -1, 0] rfl)).mono ?_
  rintro e w6 ⟨rfl, hbel⟩
  have B6 : Below w.heap.size w w6 := (B5.out.alloc B5.out.size _).trans (hbel.mono (by have := B5.out.size; simp; omega))
  have B6 := Lib.hid B6
  clear hbel
  go_wp2_with fail
  refine (alive_any _).mono ?_
  rintro e w7 ⟨rfl, hbel⟩
  have B7 := Lib.hid (B6.out.trans (hbel.mono B6.out.size))
  clear hbel
  go_wp2_with fail
  go_ret
  exact ⟨rfl, B7.out⟩
end Go.Proofs.Ytacclloligomeaa

/-
  What slices.Grow of nil and slices.Concat of two compute, and the package lengths' All and Place. Conditions: sizes.
-/
import Derived.Test.YtgfibgnolmogkaaDoorLenLib
namespace Go.Proofs.YtgfibgnolmogkaaDoor
open Go.RowKit
set_option linter.unusedVariables false

set_option maxHeartbeats 1000000 in
theorem grow_nil (n : Nat) (w : World) (h0 : 0 < n) (hn : n ≤ 4000) :
    Calls Tryd.prog 70 #[.slice none 0 0, .int .i64 n] w fun e w' =>
      ∃ v, e = .returned v ∧ Own w' w.heap.size 3 .i64 v [] ∧ Below w.heap.size w w' := by
  obtain ⟨i, hi, hz, h1, h2⟩ := elI64.info
  have hrz : ∀ ty, (Builtin.append_ #[28, 3] ty #[.slice none 0 0, .int .i64 (n : Int)]).run Tryd.prog w =
      .ok (.slice (some ⟨w.heap.size, 0, none⟩) (0 + n) (grownCap w (0 + n) 0 3)) (w.drew.alloc (.cells (([] : List Value).toArray ++ Builtin.zeroCells (Value.int .i64 0).cells n ++ Builtin.zeroCells (Value.int .i64 0).cells (grownCap w (0 + n) 0 3 - (0 + n))) 3)) := fun ty =>
    Lib.run_append_grow_zeros w 28 3 ty 3 i (.int .i64 0) .i64 .i64 Tryd.underlying28 Tryd.underlying3 hi hz none 0 0 [] (run_firstCells_none w.drew i.size 0 0 0) n h0 (by omega) (by omega) (by omega)
      (by rw [h2]; omega) (growslice_fits (by omega) (by rw [h2]; omega))
  have hGn : 0 + n ≤ grownCap w (0 + n) 0 3 := grownCap_ge w _ _ _
  have hG63 := grownCap_le_maxLen w (0 + n) 0 3 (by unfold maxLen; omega)
  generalize grownCap w (0 + n) 0 3 = G at *
  have OW := Lib.hid (show Own (w.drew.alloc (.cells (([] : List Value).toArray ++ Builtin.zeroCells (Value.int .i64 0).cells n ++ Builtin.zeroCells (Value.int .i64 0).cells (G - (0 + n))) 3)) w.heap.size 3 .i64 (.slice (some ⟨w.heap.size, 0, none⟩) 0 G) [] from
    ⟨rfl, .inr ⟨w.heap.size, G, _, rfl, Nat.le_refl _, heap_alloc_new w.drew _, by simp, hG63, by simp [size_zeroCells, Value.cells]; omega, by simp⟩⟩)
  rw [Nat.zero_add] at hrz OW hGn
  have BB := Lib.hid (show Below w.heap.size w (w.drew.alloc (.cells (([] : List Value).toArray ++ Builtin.zeroCells (Value.int .i64 0).cells n ++ Builtin.zeroCells (Value.int .i64 0).cells (G - n)) 3)) from (Below.refl w.heap.size w).drew.alloc (Nat.le_refl _) _)
  generalize hO : w.drew.alloc (.cells (([] : List Value).toArray ++ Builtin.zeroCells (Value.int .i64 0).cells n ++ Builtin.zeroCells (Value.int .i64 0).cells (G - n)) 3) = w2 at *
  have HRZ := Lib.hid hrz
  have hn' : 0 < (n : Int) := by omega
  unfold maxLen at hG63
  clear hrz hi hz h1 h2 hO
  go_enter Tryd.func70, Tryd.ntmps70
  go_wp2_with (at_builtin; refine Lib.wpList_append_run _ rfl _ _ _ _ rfl _ _ rfl rfl _ _ (HRZ.out _) ?_)
  all_goals (go_ret; exact ⟨_, rfl, OW.out, BB.out⟩)

theorem bcell {W w1 : World} (hb : Below W.heap.size W w1) (b o : Nat) (h : b < W.heap.size) : w1.cell? ⟨b, o, none⟩ = W.cell? ⟨b, o, none⟩ := hb.cell (p := ⟨b, o, none⟩) h

set_option maxHeartbeats 2000000 in
theorem concat2 (A A' : Option Addr) (n m c c' g : Nat) (xs ys : List Int) (w : World) (hn : xs.length = n) (hm : ys.length = m) (h1 : 0 < m) (h2 : n + m ≤ 4000) (hs : Sl w w.heap.size .i64 A xs) (hs' : Sl w w.heap.size .i64 A' ys)
    (hg : g < w.heap.size) (c1 : w.cell? ⟨g, 0, none⟩ = some (.slice A n c)) (c2 : w.cell? ⟨g, 1, none⟩ = some (.slice A' m c')) :
    Calls Tryd.prog 60 #[.slice (some ⟨g, 0, none⟩) 2 2] w fun e w' =>
      ∃ v, e = .returned v ∧ Own w' w.heap.size 3 .i64 v (xs ++ ys) ∧ Below w.heap.size w w' := by
  subst hn hm
  have HS := Lib.hid hs
  have HS' := Lib.hid hs'
  have k1 : ¬ ((xs.length : Int) < 0) := by omega
  have k2 : ¬ ((xs.length : Int) + (ys.length : Int) < 0) := by omega
  have GR := Lib.hid (fun w => grow_nil (xs.length + ys.length) w (by omega) h2)
  have C1 := Lib.hid c1
  have C2 := Lib.hid c2
  clear hs hs'
  go_enter Tryd.func60, Tryd.ntmps60
  go_wp2_with fail
  refine wp_loop_rounds 3 ?_
  rw [rounds_succ]; go_wp2_with fail
  rw [rounds_succ]; go_wp2_with fail
  rw [rounds_succ]; go_wp2_with fail
  refine (GR.out _).mono ?_
  rintro e w1 ⟨v, rfl, hown, hbel⟩
  have HO := Lib.hid hown
  have HB := Lib.hid hbel
  have D1 := (bcell hbel g 0 hg).trans C1.out
  have D2 := (bcell hbel g 1 hg).trans C2.out
  clear hown hbel
  go_wp2_with fail
  refine wp_loop_rounds 3 ?_
  rw [rounds_succ]
  go_wp2_with ((at_builtin; refine appN elI64 (xs := []) (ys := xs) _ _ rfl rfl rfl rfl HO.out (HS.out.below HB.out) (by simp; omega) (by simp; omega) HB.out.size ?_; intro v2 w2 ho2 hb2))
  have HO2 := Lib.hid (show Own w2 w.heap.size 3 .i64 v2 xs by simpa using ho2)
  have HB2 := Lib.hid (HB.out.trans hb2)
  have D3 := (bcell HB2.out g 1 hg).trans C2.out
  clear ho2 hb2 D1 D2
  rw [rounds_succ]
  go_wp2_with ((at_builtin; refine appN elI64 (xs := xs) (ys := ys) _ _ rfl rfl rfl rfl HO2.out (HS'.out.below HB2.out) (by omega) (by omega) HB2.out.size ?_; intro v3 w3 ho3 hb3))
  have HO3 := Lib.hid ho3
  have HB3 := Lib.hid (HB2.out.trans hb3)
  clear ho3 hb3 D3
  rw [rounds_succ]
  go_wp2_with fail
  go_ret
  exact ⟨_, rfl, HO3.out, HB3.out⟩
end Go.Proofs.YtgfibgnolmogkaaDoor

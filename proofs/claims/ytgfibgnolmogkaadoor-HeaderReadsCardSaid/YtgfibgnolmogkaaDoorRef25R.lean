/-
  What Read of the reference of layer 25 computes. Conditions: numbers within their types.
-/
import Derived.Test.YtgfibgnolmogkaaDoorHdRead2
import Derived.Test.YtgfibgnolmogkaaDoorRef25B
import Derived.Deep.RegionHeld3
namespace Go.Proofs.YtgfibgnolmogkaaDoor
open Go.RowKit
set_option linter.unusedVariables false

/-- a part of a slice, between numbers -/
theorem midz {z y : Int} (A : Option Addr) (l c i k : Nat) (xs : List Int) (hz : z = (i : Int)) (hy : y = (i : Int) + (k : Int)) (hl : xs.length = l) (hn : i + k ≤ l) (hc : l ≤ c) :
    ∃ A', (∀ W, (Instr.slice 24 (.slice A l c) (some (.int .i64 z)) (some (.int .i64 y)) none).run Tryd.prog W = .ok (.slice A' k (c - i)) W) ∧
      ∀ W B, Sl W B .u8 A xs → Sl W B .u8 A' ((xs.drop i).take k) := by
  subst hz hy
  exact mid_ex leElU8 A l c i k xs hl hn hc
theorem reOf4m {c' : Nat} (A' : Option Addr) (i : Nat) (xs : List Int) (w : World) (hn : i + 4 ≤ xs.length) (hx : U8 xs) (hs : Sl w w.heap.size .u8 A' ((xs.drop i).take 4)) :
    Calls Tryd.prog 37 #[.slice A' 4 c'] w fun e w' => e = .returned (.int .u64 (va4 xs i)) ∧ w = w' := by
  rw [← va4_mid xs i]
  exact reOf4 A' 4 c' _ w (by rw [List.length_take, List.length_drop]; omega) rfl (fun x h => hx x (List.mem_of_mem_drop (List.mem_of_mem_take h))) hs
theorem BlkH.dr {w : World} {g : Nat} {T : TypeId} {cs : Array Value} (h : BlkH w g T cs) : BlkH w.drew g T cs := h
theorem rh_cases (b : List Int) (h : pfx b = true) (h2 : 22 ≤ b.length) (h3 : ((sumL (b.take 18) : Nat) : Int) = va4 b 18) :
    (rhS b = false → rhE b = 12 ∧ rhV b = .agg #[.int .i64 0, .int .i64 0, .int .i64 0, .int .i64 0, .int .i64 0]) ∧ (rhS b = true → rhF b = false → rhE b = 4 ∧ rhV b = .agg #[.int .i64 0, .int .i64 0, .int .i64 0, .int .i64 0, .int .i64 0]) ∧
      (rhS b = true → rhF b = true → rhE b = 0 ∧ rhV b = .agg #[.int .i64 (va2 b 4), .int .i64 (va2 b 6), .int .i64 (va2 b 8), .int .i64 (va4 b 10), .int .i64 (va4 b 14)]) := by
  have key : rhE b = if rhS b = false then 12 else if rhF b = false then 4 else 0 := by
    unfold rhE; rw [h, if_neg (by decide), if_neg (by omega), if_neg (by simpa using h3)]
  refine ⟨fun h1 => ?_, fun h1 h2 => ?_, fun h1 h2 => ?_⟩
  · have : rhE b = 12 := by rw [key, if_pos h1]
    exact ⟨this, by unfold rhV; rw [this, if_neg (by decide)]⟩
  · have : rhE b = 4 := by rw [key, if_neg (by rw [h1]; decide), if_pos h2]
    exact ⟨this, by unfold rhV; rw [this, if_neg (by decide)]⟩
  · have : rhE b = 0 := by rw [key, if_neg (by rw [h1]; decide), if_neg (by rw [h2]; decide)]
    exact ⟨this, by unfold rhV; rw [this, if_pos rfl]⟩
theorem reOf2m {c' : Nat} (A' : Option Addr) (i : Nat) (xs : List Int) (w : World) (hn : i + 2 ≤ xs.length) (hx : U8 xs) (hs : Sl w w.heap.size .u8 A' ((xs.drop i).take 2)) :
    Calls Tryd.prog 37 #[.slice A' 2 c'] w fun e w' => e = .returned (.int .u64 (va2 xs i)) ∧ w = w' := by
  rw [← va2_mid xs i]
  exact reOf2 A' 2 c' _ w (by rw [List.length_take, List.length_drop]; omega) rfl (fun x h => hx x (List.mem_of_mem_drop (List.mem_of_mem_take h))) hs


set_option maxRecDepth 100000 in
set_option maxHeartbeats 4000000 in
theorem reRead_form (A : Option Addr) (n c : Nat) (b : List Int) (w : World) (hn : b.length = n) (hc : n ≤ c) (hx : U8 b) (hs : Sl w w.heap.size .u8 A b) (h : pfx b = false) :
    Calls Tryd.prog 20 #[.slice A n c] w fun e w' => e = .returned (.tuple #[.agg #[.int .i64 0, .int .i64 0, .int .i64 0, .int .i64 0, .int .i64 0], .int .i64 12]) ∧ Below w.heap.size w w' := by
  obtain ⟨m, hm⟩ : ∃ m, m = (b.take 4).length := ⟨_, rfl⟩
  have hm2 : m = min 4 n := by rw [hm, List.length_take, hn]
  have r1 : ∀ W, (Instr.slice 24 (.slice A n c) none (some (.int .i64 (m : Int))) none).run Tryd.prog W = .ok (.slice A m c) W := run_upto leElU8 A n c m rfl (by omega)
  have k1 : ∀ o d, (convert 24 9 (.slice A m c)).run Tryd.prog ((w.alloc o).drewN d) = .ok (.string (strOfNums (b.take 4))) ((w.alloc o).drewN d) := fun o d => conv_sl (P := Tryd.prog) (c := c) Tryd.underlying24 Tryd.underlying5 Tryd.underlying9 (((hs.up o).take 4).drewN d) hm.symm
  have cmp := (pfx_cmp b hx).2
  rw [← hm, h] at cmp
  generalize strOfNums (b.take 4) = s at *
  by_cases h4 : n < 4
  · obtain rfl : m = n := by omega
    have h5 : ¬ ((4 : Int) < (m : Int)) := by omega
    have h6 : (m : Int) < 4 := by omega
    have h7 : (m : Int) ≤ 4 := by omega
    clear hm hm2 hs hx h hn
    go_enter Tryd.func20, Tryd.ntmps20
    go_wp2_with fail
    go_quiet (fail)
    rename_i nq
    have BK := Lib.hid (show BlkH ((w.alloc (.cells #[.int .i64 0, .int .i64 0, .int .i64 0, .int .i64 0, .int .i64 0] 23)).drewN nq) w.heap.size 23 #[.int .i64 0, .int .i64 0, .int .i64 0, .int .i64 0, .int .i64 0] from BlkH.new w _ _)
    have BB := Lib.hid (below_drewN (bel_up (bel_self w) (.cells #[.int .i64 0, .int .i64 0, .int .i64 0, .int .i64 0, .int .i64 0] 23)) nq)
    generalize (w.alloc (.cells #[.int .i64 0, .int .i64 0, .int .i64 0, .int .i64 0, .int .i64 0] 23)).drewN nq = wz at *
    have c0 := BK.out.cell 0
    have c1 := BK.out.cell 1
    have c2 := BK.out.cell 2
    have c3 := BK.out.cell 3
    have c4 := BK.out.cell 4
    have f0 := BK.out.free 0
    have f1 := BK.out.free 1
    have f2 := BK.out.free 2
    have f3 := BK.out.free 3
    have f4 := BK.out.free 4
    go_wp2_with fail
    refine bodyPost_ret (results_hd Tryd.results20 _ _ rfl BK.out.set5 _ Tryd.underlying23 rfl (by kernel_rfl)) rfl ⟨rfl, bel_set5 BB.out (Nat.le_refl _)⟩
  · obtain rfl : m = 4 := by omega
    have h6 : ¬ (n : Int) < 4 := by omega
    clear hm hm2 hs hx h hn
    go_enter Tryd.func20, Tryd.ntmps20
    go_wp2_with fail
    all_goals
      go_quiet (fail)
      rename_i nq
      have BK := Lib.hid (show BlkH ((w.alloc (.cells #[.int .i64 0, .int .i64 0, .int .i64 0, .int .i64 0, .int .i64 0] 23)).drewN nq) w.heap.size 23 #[.int .i64 0, .int .i64 0, .int .i64 0, .int .i64 0, .int .i64 0] from BlkH.new w _ _)
      have BB := Lib.hid (below_drewN (bel_up (bel_self w) (.cells #[.int .i64 0, .int .i64 0, .int .i64 0, .int .i64 0, .int .i64 0] 23)) nq)
      generalize (w.alloc (.cells #[.int .i64 0, .int .i64 0, .int .i64 0, .int .i64 0, .int .i64 0] 23)).drewN nq = wz at *
      have c0 := BK.out.cell 0
      have c1 := BK.out.cell 1
      have c2 := BK.out.cell 2
      have c3 := BK.out.cell 3
      have c4 := BK.out.cell 4
      have f0 := BK.out.free 0
      have f1 := BK.out.free 1
      have f2 := BK.out.free 2
      have f3 := BK.out.free 3
      have f4 := BK.out.free 4
      go_wp2_with fail
      refine bodyPost_ret (results_hd Tryd.results20 _ _ rfl BK.out.set5 _ Tryd.underlying23 rfl (by kernel_rfl)) rfl ⟨rfl, bel_set5 BB.out (Nat.le_refl _)⟩


set_option maxRecDepth 100000 in
set_option maxHeartbeats 4000000 in
theorem reRead_short (A : Option Addr) (n c : Nat) (b : List Int) (w : World) (hn : b.length = n) (hc : n ≤ c) (hx : U8 b) (hs : Sl w w.heap.size .u8 A b) (h : pfx b = true) (h2 : n < 22) :
    Calls Tryd.prog 20 #[.slice A n c] w fun e w' => e = .returned (.tuple #[.agg #[.int .i64 0, .int .i64 0, .int .i64 0, .int .i64 0, .int .i64 0], .int .i64 24]) ∧ Below w.heap.size w w' := by
  obtain ⟨m, hm⟩ : ∃ m, m = (b.take 4).length := ⟨_, rfl⟩
  have hm2 : m = min 4 n := by rw [hm, List.length_take, hn]
  have r1 : ∀ W, (Instr.slice 24 (.slice A n c) none (some (.int .i64 (m : Int))) none).run Tryd.prog W = .ok (.slice A m c) W := run_upto leElU8 A n c m rfl (by omega)
  have k1 : ∀ o d, (convert 24 9 (.slice A m c)).run Tryd.prog ((w.alloc o).drewN d) = .ok (.string (strOfNums (b.take 4))) ((w.alloc o).drewN d) := fun o d => conv_sl (P := Tryd.prog) (c := c) Tryd.underlying24 Tryd.underlying5 Tryd.underlying9 (((hs.up o).take 4).drewN d) hm.symm
  have cmp := (pfx_cmp b hx).2
  rw [← hm, h] at cmp
  generalize strOfNums (b.take 4) = s at *
  by_cases h4 : n < 4
  · obtain rfl : m = n := by omega
    have h5 : ¬ ((4 : Int) < (m : Int)) := by omega
    have h6 : (m : Int) < 4 := by omega
    have h7 : (m : Int) ≤ 4 := by omega
    have h8 : (m : Int) < 22 := by omega
    clear hm hm2 hs hx h hn
    go_enter Tryd.func20, Tryd.ntmps20
    go_wp2_with fail
    go_quiet (fail)
    rename_i nq
    have BK := Lib.hid (show BlkH ((w.alloc (.cells #[.int .i64 0, .int .i64 0, .int .i64 0, .int .i64 0, .int .i64 0] 23)).drewN nq) w.heap.size 23 #[.int .i64 0, .int .i64 0, .int .i64 0, .int .i64 0, .int .i64 0] from BlkH.new w _ _)
    have BB := Lib.hid (below_drewN (bel_up (bel_self w) (.cells #[.int .i64 0, .int .i64 0, .int .i64 0, .int .i64 0, .int .i64 0] 23)) nq)
    generalize (w.alloc (.cells #[.int .i64 0, .int .i64 0, .int .i64 0, .int .i64 0, .int .i64 0] 23)).drewN nq = wz at *
    have c0 := BK.out.cell 0
    have c1 := BK.out.cell 1
    have c2 := BK.out.cell 2
    have c3 := BK.out.cell 3
    have c4 := BK.out.cell 4
    have f0 := BK.out.free 0
    have f1 := BK.out.free 1
    have f2 := BK.out.free 2
    have f3 := BK.out.free 3
    have f4 := BK.out.free 4
    go_wp2_with fail
    refine bodyPost_ret (results_hd Tryd.results20 _ _ rfl BK.out.set5 _ Tryd.underlying23 rfl (by kernel_rfl)) rfl ⟨rfl, bel_set5 BB.out (Nat.le_refl _)⟩
  · obtain rfl : m = 4 := by omega
    have h6 : ¬ (n : Int) < 4 := by omega
    have h8 : (n : Int) < 22 := by omega
    clear hm hm2 hs hx h hn
    go_enter Tryd.func20, Tryd.ntmps20
    go_wp2_with fail
    all_goals
      go_quiet (fail)
      rename_i nq
      have BK := Lib.hid (show BlkH ((w.alloc (.cells #[.int .i64 0, .int .i64 0, .int .i64 0, .int .i64 0, .int .i64 0] 23)).drewN nq) w.heap.size 23 #[.int .i64 0, .int .i64 0, .int .i64 0, .int .i64 0, .int .i64 0] from BlkH.new w _ _)
      have BB := Lib.hid (below_drewN (bel_up (bel_self w) (.cells #[.int .i64 0, .int .i64 0, .int .i64 0, .int .i64 0, .int .i64 0] 23)) nq)
      generalize (w.alloc (.cells #[.int .i64 0, .int .i64 0, .int .i64 0, .int .i64 0, .int .i64 0] 23)).drewN nq = wz at *
      have c0 := BK.out.cell 0
      have c1 := BK.out.cell 1
      have c2 := BK.out.cell 2
      have c3 := BK.out.cell 3
      have c4 := BK.out.cell 4
      have f0 := BK.out.free 0
      have f1 := BK.out.free 1
      have f2 := BK.out.free 2
      have f3 := BK.out.free 3
      have f4 := BK.out.free 4
      go_wp2_with fail
      refine bodyPost_ret (results_hd Tryd.results20 _ _ rfl BK.out.set5 _ Tryd.underlying23 rfl (by kernel_rfl)) rfl ⟨rfl, bel_set5 BB.out (Nat.le_refl _)⟩


set_option maxRecDepth 100000 in
set_option maxHeartbeats 4000000 in
theorem reRead_sum (A : Option Addr) (n c : Nat) (b : List Int) (w : World) (hn : b.length = n) (hc : n ≤ c) (hx : U8 b) (hs : Sl w w.heap.size .u8 A b) (h : pfx b = true) (h2 : 22 ≤ n) (h3 : ((sumL (b.take 18) : Nat) : Int) ≠ va4 b 18) :
    Calls Tryd.prog 20 #[.slice A n c] w fun e w' => e = .returned (.tuple #[.agg #[.int .i64 0, .int .i64 0, .int .i64 0, .int .i64 0, .int .i64 0], .int .i64 22]) ∧ Below w.heap.size w w' := by
  obtain ⟨m, hm⟩ : ∃ m, m = (b.take 4).length := ⟨_, rfl⟩
  obtain rfl : m = 4 := by rw [hm, List.length_take]; omega
  have r1 : ∀ W, (Instr.slice 24 (.slice A n c) none (some (.int .i64 4)) none).run Tryd.prog W = .ok (.slice A 4 c) W := run_upto leElU8 A n c 4 rfl (by omega)
  have k1 : ∀ o d, (convert 24 9 (.slice A 4 c)).run Tryd.prog ((w.alloc o).drewN d) = .ok (.string (strOfNums (b.take 4))) ((w.alloc o).drewN d) := fun o d => conv_sl (P := Tryd.prog) (c := c) Tryd.underlying24 Tryd.underlying5 Tryd.underlying9 (((hs.up o).take 4).drewN d) hm.symm
  have cmp := (pfx_cmp b hx).2
  rw [← hm, h] at cmp
  generalize strOfNums (b.take 4) = s at *
  have r2 : ∀ W, (Instr.slice 24 (.slice A n c) none (some (.int .i64 18)) none).run Tryd.prog W = .ok (.slice A 18 c) W := run_upto leElU8 A n c 18 rfl (by omega)
  obtain ⟨A18, r3, s18⟩ := midz (z := 18) (y := 22) A n c 18 4 b rfl rfl hn (by omega) hc
  have SX := Lib.hid (fun o => hs.up o)
  have D1 := Lib.hid (fun W (hW : Sl W W.heap.size .u8 A b) => reOf4m (c' := c - 18) A18 18 b W (by omega) hx (s18 _ _ hW))
  have D2 := Lib.hid (fun W (hW : Sl W W.heap.size .u8 A b) => Of_any A 18 c (b.take 18) W (by rw [List.length_take]; omega) (by decide) (fun x h => hx x (List.mem_of_mem_take h)) (hW.take _))
  have z := sumL_lt (b.take 18)
  generalize sumL (b.take 18) = t at *
  generalize va4 b 18 = v at *
  have ne : (v != (t : Int)) = true := by simp; omega
  have h6 : ¬ (n : Int) < 4 := by omega
  have h7 : ¬ (n : Int) < 22 := by omega
  clear hm hs h s18 hx hn h3
  go_enter Tryd.func20, Tryd.ntmps20
  go_wp2_with fail
  all_goals
    go_quiet (fail)
    rename_i nq
    have BK := Lib.hid (show BlkH ((w.alloc (.cells #[.int .i64 0, .int .i64 0, .int .i64 0, .int .i64 0, .int .i64 0] 23)).drewN nq) w.heap.size 23 #[.int .i64 0, .int .i64 0, .int .i64 0, .int .i64 0, .int .i64 0] from BlkH.new w _ _)
    have BB := Lib.hid (below_drewN (bel_up (bel_self w) (.cells #[.int .i64 0, .int .i64 0, .int .i64 0, .int .i64 0, .int .i64 0] 23)) nq)
    have SW := Lib.hid (show Sl ((w.alloc (.cells #[.int .i64 0, .int .i64 0, .int .i64 0, .int .i64 0, .int .i64 0] 23)).drewN nq) ((w.alloc (.cells #[.int .i64 0, .int .i64 0, .int .i64 0, .int .i64 0, .int .i64 0] 23)).drewN nq).heap.size .u8 A b from (SX.out _).drewN nq)
    generalize (w.alloc (.cells #[.int .i64 0, .int .i64 0, .int .i64 0, .int .i64 0, .int .i64 0] 23)).drewN nq = wz at *
    have C1 := Lib.hid (fun d => D1.out (wz.drewN d) (SW.out.drewN d))
    have C2 := Lib.hid (fun d => D2.out (wz.drewN d) (SW.out.drewN d))
    clear cmp r1 k1 SX D1 D2
    go_wp2_with fail
    go_quiet (first | (go_at_call 37; with_reducible exact quiet_left5 (C1.out _)) | (go_at_call 38; with_reducible exact quiet_left5 (C2.out _)))
    have BK := Lib.hid (show BlkH (wz.drewN nq) w.heap.size 23 #[.int .i64 0, .int .i64 0, .int .i64 0, .int .i64 0, .int .i64 0] from BK.out)
    have BB := Lib.hid (below_drewN BB.out nq)
    generalize wz.drewN nq = wy at *
    have c0 := BK.out.cell 0
    have c1 := BK.out.cell 1
    have c2 := BK.out.cell 2
    have c3 := BK.out.cell 3
    have c4 := BK.out.cell 4
    have f0 := BK.out.free 0
    have f1 := BK.out.free 1
    have f2 := BK.out.free 2
    have f3 := BK.out.free 3
    have f4 := BK.out.free 4
    go_wp2_with fail
    refine bodyPost_ret (results_hd Tryd.results20 _ _ rfl BK.out.set5 _ Tryd.underlying23 rfl (by kernel_rfl)) rfl ⟨rfl, bel_set5 BB.out (Nat.le_refl _)⟩


set_option maxRecDepth 100000 in
set_option maxHeartbeats 4000000 in
theorem reRead_main (A : Option Addr) (n c : Nat) (b : List Int) (w : World) (hn : b.length = n) (hc : n ≤ c) (hx : U8 b) (hs : Sl w w.heap.size .u8 A b) (h : pfx b = true) (h2 : 22 ≤ n) (h3 : ((sumL (b.take 18) : Nat) : Int) = va4 b 18) :
    Calls Tryd.prog 20 #[.slice A n c] w fun e w' => e = .returned (.tuple #[rhV b, .int .i64 (rhE b)]) ∧ Below w.heap.size w w' := by
  obtain ⟨m, hm⟩ : ∃ m, m = (b.take 4).length := ⟨_, rfl⟩
  obtain rfl : m = 4 := by rw [hm, List.length_take]; omega
  have r1 : ∀ W, (Instr.slice 24 (.slice A n c) none (some (.int .i64 4)) none).run Tryd.prog W = .ok (.slice A 4 c) W := run_upto leElU8 A n c 4 rfl (by omega)
  have k1 : ∀ o d, (convert 24 9 (.slice A 4 c)).run Tryd.prog ((w.alloc o).drewN d) = .ok (.string (strOfNums (b.take 4))) ((w.alloc o).drewN d) := fun o d => conv_sl (P := Tryd.prog) (c := c) Tryd.underlying24 Tryd.underlying5 Tryd.underlying9 (((hs.up o).take 4).drewN d) hm.symm
  have cmp := (pfx_cmp b hx).2
  rw [← hm, h] at cmp
  generalize strOfNums (b.take 4) = s at *
  have r2 : ∀ W, (Instr.slice 24 (.slice A n c) none (some (.int .i64 18)) none).run Tryd.prog W = .ok (.slice A 18 c) W := run_upto leElU8 A n c 18 rfl (by omega)
  obtain ⟨A18, r3, s18⟩ := midz (z := 18) (y := 22) A n c 18 4 b rfl rfl hn (by omega) hc
  have SX := Lib.hid (fun o => hs.up o)
  have D1 := Lib.hid (fun W (hW : Sl W W.heap.size .u8 A b) => reOf4m (c' := c - 18) A18 18 b W (by omega) hx (s18 _ _ hW))
  have D2 := Lib.hid (fun W (hW : Sl W W.heap.size .u8 A b) => Of_any A 18 c (b.take 18) W (by rw [List.length_take]; omega) (by decide) (fun x h => hx x (List.mem_of_mem_take h)) (hW.take _))
  have z := sumL_lt (b.take 18)
  have RE := Lib.hid (rh_cases b h (by omega) h3)
  rw [← h3] at D1
  generalize sumL (b.take 18) = t at *
  have ne : ((t : Int) != (t : Int)) = false := by simp
  obtain ⟨B4, q4, s4⟩ := midz (z := 4) (y := 6) A n c 4 2 b rfl rfl hn (by omega) hc
  obtain ⟨B6, q6, s6⟩ := midz (z := 6) (y := 8) A n c 6 2 b rfl rfl hn (by omega) hc
  obtain ⟨B8, q8, s8⟩ := midz (z := 8) (y := 10) A n c 8 2 b rfl rfl hn (by omega) hc
  obtain ⟨B10, q10, s10⟩ := midz (z := 10) (y := 14) A n c 10 4 b rfl rfl hn (by omega) hc
  obtain ⟨B14, q14, s14⟩ := midz (z := 14) (y := 18) A n c 14 4 b rfl rfl hn (by omega) hc
  have h6 : ¬ (n : Int) < 4 := by omega
  have h7 : ¬ (n : Int) < 22 := by omega
  clear hm hs s18
  go_enter Tryd.func20, Tryd.ntmps20
  go_wp2_with fail
  all_goals
    go_quiet (fail)
    rename_i nq
    have BK := Lib.hid (show BlkH ((w.alloc (.cells #[.int .i64 0, .int .i64 0, .int .i64 0, .int .i64 0, .int .i64 0] 23)).drewN nq) w.heap.size 23 #[.int .i64 0, .int .i64 0, .int .i64 0, .int .i64 0, .int .i64 0] from BlkH.new w _ _)
    have BB := Lib.hid (below_drewN (bel_up (bel_self w) (.cells #[.int .i64 0, .int .i64 0, .int .i64 0, .int .i64 0, .int .i64 0] 23)) nq)
    have SW := Lib.hid (show Sl ((w.alloc (.cells #[.int .i64 0, .int .i64 0, .int .i64 0, .int .i64 0, .int .i64 0] 23)).drewN nq) ((w.alloc (.cells #[.int .i64 0, .int .i64 0, .int .i64 0, .int .i64 0, .int .i64 0] 23)).drewN nq).heap.size .u8 A b from (SX.out _).drewN nq)
    generalize (w.alloc (.cells #[.int .i64 0, .int .i64 0, .int .i64 0, .int .i64 0, .int .i64 0] 23)).drewN nq = wz at *
    have C1 := Lib.hid (fun d => D1.out (wz.drewN d) (SW.out.drewN d))
    have C2 := Lib.hid (fun d => D2.out (wz.drewN d) (SW.out.drewN d))
    clear cmp r1 k1 SX D1 D2
    go_wp2_with fail
    go_quiet (first | (go_at_call 37; with_reducible exact quiet_left5 (C1.out _)) | (go_at_call 38; with_reducible exact quiet_left5 (C2.out _)))
    have BK := Lib.hid (show BlkH (wz.drewN nq) w.heap.size 23 #[.int .i64 0, .int .i64 0, .int .i64 0, .int .i64 0, .int .i64 0] from BK.out)
    have BB := Lib.hid (below_drewN BB.out nq)
    have SY := Lib.hid (show Sl (wz.drewN nq) (wz.drewN nq).heap.size .u8 A b from SW.out.drewN nq)
    generalize wz.drewN nq = wy at *
    have E4 := Lib.hid (fun W (h : Below wy.heap.size wy W) => reOf2m (c' := c - 4) B4 4 b W (by omega) hx (s4 _ _ (SY.out.next h)))
    have E6 := Lib.hid (fun W (h : Below wy.heap.size wy W) => reOf2m (c' := c - 6) B6 6 b W (by omega) hx (s6 _ _ (SY.out.next h)))
    have E8 := Lib.hid (fun W (h : Below wy.heap.size wy W) => reOf2m (c' := c - 8) B8 8 b W (by omega) hx (s8 _ _ (SY.out.next h)))
    have E10 := Lib.hid (fun W (h : Below wy.heap.size wy W) => reOf4m (c' := c - 10) B10 10 b W (by omega) hx (s10 _ _ (SY.out.next h)))
    have E14 := Lib.hid (fun W (h : Below wy.heap.size wy W) => reOf4m (c' := c - 14) B14 14 b W (by omega) hx (s14 _ _ (SY.out.next h)))
    have g1 := va2_bd hx 4 (by omega)
    have g2 := va2_bd hx 6 (by omega)
    have g3 := va2_bd hx 8 (by omega)
    have g4 := va4_bd5 hx 10 (by omega)
    have g5 := va4_bd5 hx 14 (by omega)
    have RS := Lib.hid (show rhS b = hdS (va2 b 4) (va2 b 6) (va2 b 8) (va4 b 10) (va4 b 14) from rfl)
    have RF := Lib.hid (show rhF b = hdF (va2 b 6) (va4 b 10) (va4 b 14) from rfl)
    generalize va2 b 4 = x0 at *
    generalize va2 b 6 = x1 at *
    generalize va2 b 8 = x2 at *
    generalize va4 b 10 = x3 at *
    generalize va4 b 14 = x4 at *
    clear s4 s6 s8 s10 s14 hx hn h h3 C1 C2 r2 r3
    have j0 : IntKind.i64.wrap x0 = x0 := IntWalk.i64_in _ (by omega)
    have j1 : IntKind.i64.wrap x1 = x1 := IntWalk.i64_in _ (by omega)
    have j2 : IntKind.i64.wrap x2 = x2 := IntWalk.i64_in _ (by omega)
    have j3 : IntKind.i64.wrap x3 = x3 := IntWalk.i64_in _ (by omega)
    have j4 : IntKind.i64.wrap x4 = x4 := IntWalk.i64_in _ (by omega)
    go_upto_region 8 with fail
    go_cut [5] (fun s5 wx => ∃ g, s5 = .pointer (some ⟨g, 0, none⟩) ∧ wy.heap.size ≤ g ∧ BlkH wx g 23 #[.int .i64 x0, .int .i64 x1, .int .i64 x2, .int .i64 x3, .int .i64 x4] ∧ Below wy.heap.size wy wx)
    case first =>
      go_region_with (first | (go_at_call 37; (with_reducible refine (E4.out _ ?_).mono ?_); (first | exact (bel_self wy).drew | exact bel_up (bel_self wy).drew _); rintro e w' ⟨rfl, rfl⟩) | (go_at_call 37; (with_reducible refine (E6.out _ ?_).mono ?_); (first | exact (bel_self wy).drew | exact bel_up (bel_self wy).drew _); rintro e w' ⟨rfl, rfl⟩) | (go_at_call 37; (with_reducible refine (E8.out _ ?_).mono ?_); (first | exact (bel_self wy).drew | exact bel_up (bel_self wy).drew _); rintro e w' ⟨rfl, rfl⟩) | (go_at_call 37; (with_reducible refine (E10.out _ ?_).mono ?_); (first | exact (bel_self wy).drew | exact bel_up (bel_self wy).drew _); rintro e w' ⟨rfl, rfl⟩) | (go_at_call 37; (with_reducible refine (E14.out _ ?_).mono ?_); (first | exact (bel_self wy).drew | exact bel_up (bel_self wy).drew _); rintro e w' ⟨rfl, rfl⟩))
      all_goals
        go_wp2_with fail
        go_meet
        exact ⟨wy.heap.size, rfl, Nat.le_refl _, BlkH.dr (BlkH.new wy _ _), (bel_up (bel_self wy) _).drew⟩
    case rest =>
      obtain ⟨g, rfl, hg, hB, hb⟩ := hcut
      obtain ⟨w1, rfl⟩ : ∃ wq, wq = wc := ⟨_, rfl⟩
      have BK := Lib.hid (BK.out.next hb)
      have BB := Lib.hid (bel_next BB.out hb)
      have BH := Lib.hid hB
      clear hB hb E4 E6 E8 E10 E14 SY SW j0 j1 j2 j3 j4
      have ch0 := BH.out.cell 0
      have ch1 := BH.out.cell 1
      have ch2 := BH.out.cell 2
      have ch3 := BH.out.cell 3
      have ch4 := BH.out.cell 4
      go_wp2_with fail
      refine (re25shaped x0 x1 x2 x3 x4 _).mono ?_
      rintro e w2 ⟨rfl, bel2⟩
      have BK := Lib.hid (BK.out.next bel2)
      have BH := Lib.hid (BH.out.next bel2)
      have BB := Lib.hid (bel_next BB.out bel2)
      clear bel2 ch0 ch1 ch2 ch3 ch4
      rw [← RS.out]
      obtain ⟨R1, R2, R3⟩ := RE.out
      clear RE
      have H1 := Lib.hid R1
      have H2 := Lib.hid R2
      have H3 := Lib.hid R3
      clear R1 R2 R3
      by_cases hS : rhS b = true
      · have FT := Lib.hid (fun W => re25many x0 x1 x2 x3 x4 W (hdS_ok (RS.out.symm.trans hS)).2.2.1 (hdS_ok (RS.out.symm.trans hS)).2.2.2.1 (hdS_ok (RS.out.symm.trans hS)).2.2.2.2.1 (hdS_ok (RS.out.symm.trans hS)).2.2.2.2.2.1 (hdS_ok (RS.out.symm.trans hS)).2.2.2.2.2.2 (by omega))
        rw [← RF.out] at FT
        rw [hS]
        have HS := Lib.hid hS
        clear hS
        have ch0 := BH.out.cell 0
        have ch1 := BH.out.cell 1
        have ch2 := BH.out.cell 2
        have ch3 := BH.out.cell 3
        have ch4 := BH.out.cell 4
        go_wp2_with fail
        refine (FT.out _).mono ?_
        rintro e w3 ⟨rfl, bel3⟩
        have BK := Lib.hid (BK.out.next bel3)
        have BH := Lib.hid (BH.out.next bel3)
        have BB := Lib.hid (bel_next BB.out bel3)
        clear bel3 ch0 ch1 ch2 ch3 ch4
        have ck0 := BK.out.cell 0
        have ck1 := BK.out.cell 1
        have ck2 := BK.out.cell 2
        have ck3 := BK.out.cell 3
        have ck4 := BK.out.cell 4
        have fk0 := BK.out.free 0
        have fk1 := BK.out.free 1
        have fk2 := BK.out.free 2
        have fk3 := BK.out.free 3
        have fk4 := BK.out.free 4
        have ch0 := BH.out.cell 0
        have ch1 := BH.out.cell 1
        have ch2 := BH.out.cell 2
        have ch3 := BH.out.cell 3
        have ch4 := BH.out.cell 4
        by_cases hF : rhF b = true
        · obtain ⟨q1, q2⟩ := H3.out HS.out hF
          have Q1 := Lib.hid q1
          have Q2 := Lib.hid q2
          rw [hF]
          clear hF q1 q2 H1 H2 H3
          go_wp2_with fail
          refine bodyPost_ret (results_hd Tryd.results20 _ _ rfl BK.out.set5 _ Tryd.underlying23 rfl (by kernel_rfl)) rfl ⟨by rw [Q1.out, Q2.out]; rfl, bel_set5 BB.out (Nat.le_refl _)⟩
        · have hF' : rhF b = false := by simpa using hF
          obtain ⟨q1, q2⟩ := H2.out HS.out hF'
          have Q1 := Lib.hid q1
          have Q2 := Lib.hid q2
          rw [hF']
          clear hF hF' q1 q2 H1 H2 H3
          go_wp2_with fail
          refine bodyPost_ret (results_hd Tryd.results20 _ _ rfl BK.out.set5 _ Tryd.underlying23 rfl (by kernel_rfl)) rfl ⟨by rw [Q1.out, Q2.out]; rfl, bel_set5 BB.out (Nat.le_refl _)⟩
      · have hS' : rhS b = false := by simpa using hS
        obtain ⟨q1, q2⟩ := H1.out hS'
        have Q1 := Lib.hid q1
        have Q2 := Lib.hid q2
        rw [hS']
        clear hS hS' q1 q2 H1 H2 H3
        have ck0 := BK.out.cell 0
        have ck1 := BK.out.cell 1
        have ck2 := BK.out.cell 2
        have ck3 := BK.out.cell 3
        have ck4 := BK.out.cell 4
        have fk0 := BK.out.free 0
        have fk1 := BK.out.free 1
        have fk2 := BK.out.free 2
        have fk3 := BK.out.free 3
        have fk4 := BK.out.free 4
        go_wp2_with fail
        refine bodyPost_ret (results_hd Tryd.results20 _ _ rfl BK.out.set5 _ Tryd.underlying23 rfl (by kernel_rfl)) rfl ⟨by rw [Q1.out, Q2.out]; rfl, bel_set5 BB.out (Nat.le_refl _)⟩


theorem reRead (A : Option Addr) (n c : Nat) (b : List Int) (w : World) (hn : b.length = n) (hc : n ≤ c) (hx : U8 b) (hs : Sl w w.heap.size .u8 A b) :
    Calls Tryd.prog 20 #[.slice A n c] w fun e w' => e = .returned (.tuple #[rhV b, .int .i64 (rhE b)]) ∧ Below w.heap.size w w' := by
  have hz : ∀ E, rhE b = E → E ≠ 0 → rhV b = .agg #[.int .i64 0, .int .i64 0, .int .i64 0, .int .i64 0, .int .i64 0] := fun E h h0 => by unfold rhV; rw [if_neg (by rw [h]; exact h0)]
  by_cases h : pfx b = false
  · have e : rhE b = 12 := by unfold rhE; rw [if_pos h]
    rw [hz _ e (by decide), e]
    exact reRead_form A n c b w hn hc hx hs h
  · have h' : pfx b = true := by simpa using h
    by_cases h2 : n < 22
    · have e : rhE b = 24 := by unfold rhE; rw [if_neg h, if_pos (by omega)]
      rw [hz _ e (by decide), e]
      exact reRead_short A n c b w hn hc hx hs h' h2
    · by_cases h3 : ((sumL (b.take 18) : Nat) : Int) ≠ va4 b 18
      · have e : rhE b = 22 := by unfold rhE; rw [if_neg h, if_neg (by omega), if_pos h3]
        rw [hz _ e (by decide), e]
        exact reRead_sum A n c b w hn hc hx hs h' (by omega) h3
      · exact reRead_main A n c b w hn hc hx hs h' (by omega) (Decidable.not_not.1 h3)
end Go.Proofs.YtgfibgnolmogkaaDoor

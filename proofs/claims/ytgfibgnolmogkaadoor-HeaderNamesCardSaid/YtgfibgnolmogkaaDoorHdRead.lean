/-
  What Read of package header computes. Conditions: numbers within their types; the package variable widths as the text lays it.
-/
import Derived.Test.YtgfibgnolmogkaaDoorHdPfx
import Derived.Test.YtgfibgnolmogkaaDoorFull
import Derived.Deep.MidRow
namespace Go.Proofs.YtgfibgnolmogkaaDoor
open Go.RowKit
set_option linter.unusedVariables false

def rhS (b : List Int) : Bool := hdS (va2 b 4) (va2 b 6) (va2 b 8) (va4 b 10) (va4 b 14)
def rhF (b : List Int) : Bool := hdF (va2 b 6) (va4 b 10) (va4 b 14)
def rhE (b : List Int) : Int := if pfx b = false then 12 else if b.length < 22 then 24 else if ((sumL (b.take 18) : Nat) : Int) ≠ va4 b 18 then 22 else if rhS b = false then 12 else if rhF b = false then 4 else 0
/-- a header that was read, or none -/
def rhV (b : List Int) : Value := if rhE b = 0 then .agg #[.int .i64 (va2 b 4), .int .i64 (va2 b 6), .int .i64 (va2 b 8), .int .i64 (va4 b 10), .int .i64 (va4 b 14)] else .agg #[.int .i64 0, .int .i64 0, .int .i64 0, .int .i64 0, .int .i64 0]

set_option maxRecDepth 100000 in
set_option maxHeartbeats 1000000 in
theorem hdRead_form (A : Option Addr) (n c : Nat) (b : List Int) (w : World) (hn : b.length = n) (hc : n ≤ c) (hx : U8 b) (hs : Sl w w.heap.size .u8 A b) (h : pfx b = false) :
    Calls Tryd.prog 14 #[.slice A n c] w fun e w' => e = .returned (.tuple #[.agg #[.int .i64 0, .int .i64 0, .int .i64 0, .int .i64 0, .int .i64 0], .int .i64 12]) ∧ Below w.heap.size w w' := by
  obtain ⟨m, hm⟩ : ∃ m, m = (b.take 4).length := ⟨_, rfl⟩
  have hm2 : m = min 4 n := by rw [hm, List.length_take, hn]
  have r1 : ∀ W, (Instr.slice 24 (.slice A n c) none (some (.int .i64 (m : Int))) none).run Tryd.prog W = .ok (.slice A m c) W := run_upto leElU8 A n c m rfl (by omega)
  have k1 : ∀ o, (convert 24 9 (.slice A m c)).run Tryd.prog (w.alloc o) = .ok (.string (strOfNums (b.take 4))) (w.alloc o) := fun o => conv_sl (P := Tryd.prog) (c := c) Tryd.underlying24 Tryd.underlying5 Tryd.underlying9 ((hs.up o).take 4) hm.symm
  have HP := Lib.hid (fun W => hasPrefix b W hx)
  rw [h] at HP
  generalize strOfNums (b.take 4) = s at *
  by_cases h4 : n < 4
  · obtain rfl : m = n := by omega
    have h5 : ¬ ((4 : Int) < (m : Int)) := by omega
    have h6 : (m : Int) < 4 := by omega
    clear hm hm2 hs hx h hn
    go_enter Tryd.func14, Tryd.ntmps14
    go_wp2_with fail
    refine (HP.out _).mono ?_
    rintro e w' ⟨rfl, rfl⟩
    go_wp2_with fail
    refine bodyPost_ret (v := .tuple #[.agg #[.int .i64 0, .int .i64 0, .int .i64 0, .int .i64 0, .int .i64 0], .int .i64 12]) (by simp [results, Tryd.results14, go_sem]) rfl ⟨rfl, bel_up (bel_self w) _⟩
  · obtain rfl : m = 4 := by omega
    have h6 : ¬ (n : Int) < 4 := by omega
    clear hm hm2 hs hx h hn
    go_enter Tryd.func14, Tryd.ntmps14
    go_wp2_with fail
    all_goals
      refine (HP.out _).mono ?_
      rintro e w' ⟨rfl, rfl⟩
      go_wp2_with fail
      refine bodyPost_ret (v := .tuple #[.agg #[.int .i64 0, .int .i64 0, .int .i64 0, .int .i64 0, .int .i64 0], .int .i64 12]) (by simp [results, Tryd.results14, go_sem]) rfl ⟨rfl, bel_up (bel_self w) _⟩

set_option maxRecDepth 100000 in
set_option maxHeartbeats 1000000 in
theorem hdRead_short (A : Option Addr) (n c : Nat) (b : List Int) (w : World) (hn : b.length = n) (hc : n ≤ c) (hx : U8 b) (hs : Sl w w.heap.size .u8 A b) (h : pfx b = true) (h2 : n < 22) :
    Calls Tryd.prog 14 #[.slice A n c] w fun e w' => e = .returned (.tuple #[.agg #[.int .i64 0, .int .i64 0, .int .i64 0, .int .i64 0, .int .i64 0], .int .i64 24]) ∧ Below w.heap.size w w' := by
  obtain ⟨m, hm⟩ : ∃ m, m = (b.take 4).length := ⟨_, rfl⟩
  have hm2 : m = min 4 n := by rw [hm, List.length_take, hn]
  have r1 : ∀ W, (Instr.slice 24 (.slice A n c) none (some (.int .i64 (m : Int))) none).run Tryd.prog W = .ok (.slice A m c) W := run_upto leElU8 A n c m rfl (by omega)
  have k1 : ∀ o, (convert 24 9 (.slice A m c)).run Tryd.prog (w.alloc o) = .ok (.string (strOfNums (b.take 4))) (w.alloc o) := fun o => conv_sl (P := Tryd.prog) (c := c) Tryd.underlying24 Tryd.underlying5 Tryd.underlying9 ((hs.up o).take 4) hm.symm
  have HP := Lib.hid (fun W => hasPrefix b W hx)
  rw [h] at HP
  generalize strOfNums (b.take 4) = s at *
  by_cases h4 : n < 4
  · obtain rfl : m = n := by omega
    have h5 : ¬ ((4 : Int) < (m : Int)) := by omega
    have h6 : (m : Int) < 4 := by omega
    have h7 : (m : Int) < 22 := by omega
    clear hm hm2 hs hx h hn
    go_enter Tryd.func14, Tryd.ntmps14
    go_wp2_with fail
    refine (HP.out _).mono ?_
    rintro e w' ⟨rfl, rfl⟩
    go_wp2_with fail
    refine bodyPost_ret (v := .tuple #[.agg #[.int .i64 0, .int .i64 0, .int .i64 0, .int .i64 0, .int .i64 0], .int .i64 24]) (by simp [results, Tryd.results14, go_sem]) rfl ⟨rfl, bel_up (bel_self w) _⟩
  · obtain rfl : m = 4 := by omega
    have h6 : ¬ (n : Int) < 4 := by omega
    have h7 : (n : Int) < 22 := by omega
    clear hm hm2 hs hx h hn
    go_enter Tryd.func14, Tryd.ntmps14
    go_wp2_with fail
    all_goals
      refine (HP.out _).mono ?_
      rintro e w' ⟨rfl, rfl⟩
      go_wp2_with fail
      refine bodyPost_ret (v := .tuple #[.agg #[.int .i64 0, .int .i64 0, .int .i64 0, .int .i64 0, .int .i64 0], .int .i64 24]) (by simp [results, Tryd.results14, go_sem]) rfl ⟨rfl, bel_up (bel_self w) _⟩

/-- A block known whole. -/
def BlkH (w : World) (g : Nat) (T : TypeId) (cs : Array Value) : Prop := w.heap[g]? = some (.cells cs T (0, 0))
theorem BlkH.next {w w' : World} {g : Nat} {T : TypeId} {cs : Array Value} (h : BlkH w g T cs) (hb : Below w.heap.size w w') : BlkH w' g T cs := (hb.block g (Array.getElem?_eq_some_iff.1 h).1).trans h
theorem BlkH.up {w : World} {g : Nat} {T : TypeId} {cs : Array Value} (h : BlkH w g T cs) (o : Obj) : BlkH (w.alloc o) g T cs := h.next (bel_up (bel_self w) o)
theorem BlkH.lt {w : World} {g : Nat} {T : TypeId} {cs : Array Value} (h : BlkH w g T cs) : g < w.heap.size := (Array.getElem?_eq_some_iff.1 h).1
theorem BlkH.cell {w : World} {g : Nat} {T : TypeId} {cs : Array Value} (h : BlkH w g T cs) (i : Nat) : w.cell? ⟨g, i, none⟩ = cs[i]? := cell_of_row w g i cs T (0, 0) h
theorem BlkH.free {w : World} {g : Nat} {T : TypeId} {cs : Array Value} (h : BlkH w g T cs) (i : Nat) : w.frozen? ⟨g, i, none⟩ = false := frozen_of_row w g i cs T h
theorem BlkH.new (w : World) (T : TypeId) (cs : Array Value) : BlkH (w.alloc (.cells cs T)) w.heap.size T cs := heap_alloc_new w _
theorem BlkH.set {w : World} {g : Nat} {T : TypeId} {cs : Array Value} (h : BlkH w g T cs) (i : Nat) (v : Value) : BlkH (w.setCell ⟨g, i, none⟩ v) g T (cs.setIfInBounds i v) := heap_setCell_same w g i cs T v h

theorem BlkH.set5 {w : World} {g : Nat} {T : TypeId} {a0 a1 a2 a3 a4 v0 v1 v2 v3 v4 : Value} (h : BlkH w g T #[a0, a1, a2, a3, a4]) :
    BlkH (((((w.setCell ⟨g, 0, none⟩ v0).setCell ⟨g, 1, none⟩ v1).setCell ⟨g, 2, none⟩ v2).setCell ⟨g, 3, none⟩ v3).setCell ⟨g, 4, none⟩ v4) g T #[v0, v1, v2, v3, v4] :=
  ((((h.set 0 v0).set 1 v1).set 2 v2).set 3 v3).set 4 v4
theorem bel_set5 {w w' : World} {g B : Nat} {v0 v1 v2 v3 v4 : Value} (h : Below B w w') (hB : B ≤ g) :
    Below B w (((((w'.setCell ⟨g, 0, none⟩ v0).setCell ⟨g, 1, none⟩ v1).setCell ⟨g, 2, none⟩ v2).setCell ⟨g, 3, none⟩ v3).setCell ⟨g, 4, none⟩ v4) :=
  ((((h.setCell (p := ⟨g, 0, none⟩) hB v0).setCell (p := ⟨g, 1, none⟩) hB v1).setCell (p := ⟨g, 2, none⟩) hB v2).setCell (p := ⟨g, 3, none⟩) hB v3).setCell (p := ⟨g, 4, none⟩) hB v4
theorem results_hd {P : Program} {fn : Func} {r u : Tmp} {t : TypeId} (h : fn.results = #[.cell r t, .tmp u]) (tmps : Array Value) (w : World) {b : Nat} {cs : Array Value} (hr : tmps.getD r undef = .pointer (some ⟨b, 0, none⟩))
    (hb : BlkH w b t cs) (d : TypeDesc) (hu : P.underlying t = some d) (hd : d.isRow = true) (hi : (P.info? t).map (·.size) = some cs.size) :
    (results fn tmps).run P w = .ok (.tuple #[.agg cs, tmps.getD u undef]) w := by
  have hl := run_loadVar_mid (P := P) w b 0 t cs.toList d (by have := World.rangeAt_of_block hb 0 cs.size; simpa using this) hu hd (by simpa using hi)
  simp only [Array.toArray_toList] at hl
  have hr' : tmps[r]?.getD undef = .pointer (some ⟨b, 0, none⟩) := by simpa using hr
  simp [results, h, hr', asAddr, hl]

theorem leAt4z {z : Int} (A : Option Addr) (n c i : Nat) (xs : List Int) (w : World) (hz : z = (i : Int)) (hn : xs.length = n) (hi : i + 4 ≤ n) (hc : n ≤ c) (hm : n ≤ 9223372036854775807) (hx : U8 xs) (hs : Sl w w.heap.size .u8 A xs) :
    Calls Tryd.prog 32 #[.slice A n c, .int .i64 z, .int .i64 4] w fun e w' => e = .returned (.tuple #[.int .u64 (va4 xs i), .int .i64 0]) ∧ w = w' := by
  subst hz
  exact leAt4 A n c i xs w hn hi hc hm hx hs
theorem leAt2z {z : Int} (A : Option Addr) (n c i : Nat) (xs : List Int) (w : World) (hz : z = (i : Int)) (hn : xs.length = n) (hi : i + 2 ≤ n) (hc : n ≤ c) (hm : n ≤ 9223372036854775807) (hx : U8 xs) (hs : Sl w w.heap.size .u8 A xs) :
    Calls Tryd.prog 32 #[.slice A n c, .int .i64 z, .int .i64 2] w fun e w' => e = .returned (.tuple #[.int .u64 (va2 xs i), .int .i64 0]) ∧ w = w' := by
  subst hz
  exact leAt2 A n c i xs w hn hi hc hm hx hs

set_option maxRecDepth 100000 in
set_option maxHeartbeats 1000000 in
theorem hdRead_sum (A : Option Addr) (n c : Nat) (b : List Int) (w : World) (hn : b.length = n) (hc : n ≤ c) (hcm : c ≤ 9223372036854775807) (hx : U8 b) (hs : Sl w w.heap.size .u8 A b) (h : pfx b = true) (h2 : 22 ≤ n) (h3 : ((sumL (b.take 18) : Nat) : Int) ≠ va4 b 18) :
    Calls Tryd.prog 14 #[.slice A n c] w fun e w' => e = .returned (.tuple #[.agg #[.int .i64 0, .int .i64 0, .int .i64 0, .int .i64 0, .int .i64 0], .int .i64 22]) ∧ Below w.heap.size w w' := by
  obtain ⟨m, hm⟩ : ∃ m, m = (b.take 4).length := ⟨_, rfl⟩
  obtain rfl : m = 4 := by rw [hm, List.length_take]; omega
  have r1 : ∀ W, (Instr.slice 24 (.slice A n c) none (some (.int .i64 4)) none).run Tryd.prog W = .ok (.slice A 4 c) W := run_upto leElU8 A n c 4 rfl (by omega)
  have r2 : ∀ W, (Instr.slice 24 (.slice A n c) none (some (.int .i64 18)) none).run Tryd.prog W = .ok (.slice A 18 c) W := run_upto leElU8 A n c 18 rfl (by omega)
  have k1 : ∀ o, (convert 24 9 (.slice A 4 c)).run Tryd.prog (w.alloc o) = .ok (.string (strOfNums (b.take 4))) (w.alloc o) := fun o => conv_sl (P := Tryd.prog) (c := c) Tryd.underlying24 Tryd.underlying5 Tryd.underlying9 ((hs.up o).take 4) hm.symm
  have HP := Lib.hid (fun W => hasPrefix b W hx)
  have SX := Lib.hid (fun o => hs.up o)
  have AT := Lib.hid (fun W (hW : Sl W W.heap.size .u8 A b) => leAt4z (z := 18) A n c 18 b W rfl hn (by omega) hc (by omega) hx hW)
  have SM := Lib.hid (fun W (hW : Sl W W.heap.size .u8 A b) => sum_ok A 18 c (b.take 18) W (by rw [List.length_take]; omega) (by decide) (fun x h => hx x (List.mem_of_mem_take h)) (hW.take _))
  rw [h] at HP
  generalize strOfNums (b.take 4) = s at *
  have z := sumL_lt (b.take 18)
  generalize sumL (b.take 18) = t at *
  generalize va4 b 18 = v at *
  have ne : ((t : Int) != v) = true := by simp; exact h3
  have h6 : ¬ (n : Int) < 4 := by omega
  have h7 : ¬ (n : Int) < 22 := by omega
  clear hm hs hx h hn h3
  go_enter Tryd.func14, Tryd.ntmps14
  go_wp2_with fail
  all_goals
    refine (HP.out _).mono ?_
    rintro e w' ⟨rfl, rfl⟩
    go_wp2_with fail
    refine (AT.out _ (SX.out _)).mono ?_
    rintro e w' ⟨rfl, rfl⟩
    go_wp2_with fail
    refine (SM.out _ (SX.out _)).mono ?_
    rintro e w1 ⟨rfl, bel1⟩
    have BB := Lib.hid (bel_next (bel_up (bel_self w) _) bel1)
    have BK := Lib.hid ((BlkH.new w 23 #[.int .i64 0, .int .i64 0, .int .i64 0, .int .i64 0, .int .i64 0]).next bel1)
    have c0 := BK.out.cell 0
    have c1 := BK.out.cell 1
    have c2 := BK.out.cell 2
    have c3 := BK.out.cell 3
    have c4 := BK.out.cell 4
    have f0 := BK.out.free 0
    have f1 := BK.out.free 1
    have f2 := BK.out.free 2
    have f3 := BK.out.free 3
    have f4 := BK.out.free 4
    clear bel1
    go_wp2_with fail
    refine bodyPost_ret (results_hd Tryd.results14 _ _ rfl BK.out.set5 _ Tryd.underlying23 rfl (by kernel_rfl)) rfl ⟨rfl, bel_set5 BB.out (Nat.le_refl _)⟩
end Go.Proofs.YtgfibgnolmogkaaDoor

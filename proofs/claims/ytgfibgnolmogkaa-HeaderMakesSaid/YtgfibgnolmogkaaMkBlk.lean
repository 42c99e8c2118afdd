/-
  A block known whole. No conditions.
-/
import Derived.Test.YtgfibgnolmogkaaKit5
import Derived.Deep.MidRow
namespace Go.Proofs.Ytgfibgnolmogkaa
open Go.RowKit
set_option linter.unusedVariables false

/-- A block known whole. -/
def BlkH (w : World) (g : Nat) (T : TypeId) (cs : Array Value) : Prop := w.heap[g]? = some (.cells cs T (0, 0))
theorem BlkH.next {w w' : World} {g : Nat} {T : TypeId} {cs : Array Value} (h : BlkH w g T cs) (hb : Below w.heap.size w w') : BlkH w' g T cs := (hb.block g (Array.getElem?_eq_some_iff.1 h).1).trans h
theorem BlkH.up {w : World} {g : Nat} {T : TypeId} {cs : Array Value} (h : BlkH w g T cs) (o : Obj) : BlkH (w.alloc o) g T cs := h.next (bel_up (bel_self w) o)
theorem BlkH.lt {w : World} {g : Nat} {T : TypeId} {cs : Array Value} (h : BlkH w g T cs) : g < w.heap.size := (Array.getElem?_eq_some_iff.1 h).1
theorem BlkH.cell {w : World} {g : Nat} {T : TypeId} {cs : Array Value} (h : BlkH w g T cs) (i : Nat) : w.cell? ⟨g, i, none⟩ = cs[i]? := cell_of_row w g i cs T (0, 0) h
theorem BlkH.free {w : World} {g : Nat} {T : TypeId} {cs : Array Value} (h : BlkH w g T cs) (i : Nat) : w.frozen? ⟨g, i, none⟩ = false := frozen_of_row w g i cs T h
theorem BlkH.new (w : World) (T : TypeId) (cs : Array Value) : BlkH (w.alloc (.cells cs T)) w.heap.size T cs := heap_alloc_new w _
theorem BlkH.set {w : World} {g : Nat} {T : TypeId} {cs : Array Value} (h : BlkH w g T cs) (i : Nat) (v : Value) : BlkH (w.setCell ⟨g, i, none⟩ v) g T (cs.setIfInBounds i v) := heap_setCell_same w g i cs T v h

theorem BlkH.set5 {w : World} {g : Nat} {T : TypeId} {a0 a1 a2 a3 a4 v0 v1 v2 v3 v4 : Value} (h : BlkH w g T #[a0, a1, a2, a3, a4]) :
    BlkH (((((w.setCell ⟨g, 0, none⟩ v0).setCell ⟨g, 1, none⟩ v1).setCell ⟨g, 2, none⟩ v2).setCell ⟨g, 3, none⟩ v3).setCell ⟨g, 4, none⟩ v4) g T #[v0, v1, v2, v3, v4] :=
  ((((h.set 0 v0).set 1 v1).set 2 v2).set 3 v3).set 4 v4
theorem bel_set5 {w w' : World} {g B : Nat} {v0 v1 v2 v3 v4 : Value} (h : Below B w w') (hB : B ≤ g) :
    Below B w (((((w'.setCell ⟨g, 0, none⟩ v0).setCell ⟨g, 1, none⟩ v1).setCell ⟨g, 2, none⟩ v2).setCell ⟨g, 3, none⟩ v3).setCell ⟨g, 4, none⟩ v4) :=
  ((((h.setCell (p := ⟨g, 0, none⟩) hB v0).setCell (p := ⟨g, 1, none⟩) hB v1).setCell (p := ⟨g, 2, none⟩) hB v2).setCell (p := ⟨g, 3, none⟩) hB v3).setCell (p := ⟨g, 4, none⟩) hB v4
theorem results_hd {P : Program} {fn : Func} {r u : Tmp} {t : TypeId} (h : fn.results = #[.cell r t, .tmp u]) (tmps : Array Value) (w : World) {b : Nat} {cs : Array Value} (hr : tmps.getD r undef = .pointer (some ⟨b, 0, none⟩))
    (hb : BlkH w b t cs) (d : TypeDesc) (hu : P.underlying t = some d) (hd : d.isRow = true) (hi : (P.info? t).map (·.size) = some cs.size) :
    (results fn tmps).run P w = .ok (.tuple #[.agg cs, tmps.getD u undef]) w := by
  have hl := run_loadVar_mid (P := P) w b 0 t cs.toList d (by have := World.rangeAt_of_block hb 0 cs.size; simpa using this) hu hd (by simpa using hi)
  simp only [Array.toArray_toList] at hl
  have hr' : tmps[r]?.getD undef = .pointer (some ⟨b, 0, none⟩) := by simpa using hr
  simp [results, h, hr', asAddr, hl]

end Go.Proofs.Ytgfibgnolmogkaa

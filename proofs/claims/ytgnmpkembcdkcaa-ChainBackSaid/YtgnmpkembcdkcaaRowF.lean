/-
  How a filter, and sixteen numbers, that came in read, for the rows' last steps. No conditions.
-/
import Derived.Test.YtgnmpkembcdkcaaRow
import Derived.Test.YtgnmpkembcdkcaaFlt2
namespace Go.Proofs.Ytgnmpkembcdkcaa
open Go.ChangeShapes Go.WideShapes Go.ChangeAt Go.RowKit
set_option linter.unusedVariables false

section
variable {H : Type} {enc : TypeId × Value → H} {P : Program} {W : World} {T A E I : TypeId}
theorem ints_arg (ha : P.underlying A = some (.array 16 E)) (he : P.underlying E = some (.int .i32)) (hc : P.cellsOf E = 1) (hA : P.cellsOf A = 16) {base : Nat} {spare : Nat → Bool} {held : Bool} {fuel : Nat} {cs : List Value} {x : DataW H × List MemPlace}
    (h : DataW.trod enc P W base spare held fuel A cs = some x) : ∃ xs : List Int, cs = xs.map (Value.int .i32) ∧ xs.length = 16 ∧ I32 xs := by
  obtain ⟨ys, m, rfl, rfl, hl, hn, hi⟩ := DataW.trod_array ha h
  rw [hA] at hl
  have key : ∀ i, i < 16 → ∃ n : Int, cs[i]? = some (.int .i32 n) ∧ -2147483648 ≤ n ∧ n ≤ 2147483647 := fun i hi16 => by
    have h1 := hi i hi16
    rw [List.getElem?_eq_getElem (by omega)] at h1
    obtain ⟨n, h2, _, hw⟩ := DataW.trod_int he h1
    rw [hc, Nat.mul_one] at h2
    have h3 : cs[i]? = some (.int .i32 n) := by
      have : ((cs.drop i).take 1)[0]? = some (.int .i32 n) := by rw [h2]; rfl
      rw [List.getElem?_take_of_lt (by omega), List.getElem?_drop] at this
      simpa using this
    exact ⟨n, h3, bounds_i32 hw⟩
  refine ⟨(List.range 16).map fun i => intOf (cs[i]?.getD undef), ?_, by simp, ?_⟩
  · apply List.ext_getElem?
    intro i
    rcases Nat.lt_or_ge i 16 with h' | h'
    · obtain ⟨n, h3, _⟩ := key i h'
      rw [h3]
      simp [List.getElem?_range h', h3, intOf]
    · rw [List.getElem?_eq_none (by omega), List.getElem?_eq_none (by simpa using h')]
  · intro y hy
    simp only [List.mem_map, List.mem_range] at hy
    obtain ⟨i, hi', rfl⟩ := hy
    obtain ⟨n, h3, h4⟩ := key i hi'
    simp only [h3, Option.getD_some, intOf]
    exact h4
theorem arr_arg (ha : P.underlying A = some (.array 16 E)) (he : P.underlying E = some (.int .i32)) (hc : P.cellsOf E = 1) (hA : P.cellsOf A = 16) {r : Reach} {b0 : Nat} {v : Value} {d : DataW H} {p : List MemPlace}
    (hv : Value.okWide P W r b0 A v) (h : DataW.Trod enc P W 0 (fun _ => true) true A v d p) : ∃ xs : List Int, v = .agg (aA xs) ∧ xs.length = 16 ∧ I32 xs := by
  have hv' : ∃ cs, v = .agg cs := by
    simp only [Value.okWide, ha] at hv
    obtain ⟨cs, h1, _⟩ := hv
    exact ⟨cs, h1⟩
  obtain ⟨cs, rfl⟩ := hv'
  obtain ⟨fuel, hf⟩ := h
  obtain ⟨xs, h1, h2, h3⟩ := ints_arg ha he hc hA hf
  refine ⟨xs, ?_, h2, h3⟩
  simp only [Value.cells] at h1
  rw [aA, ← h1]
theorem flt_arg (hT : FltT P T A E I) (hc : P.cellsOf E = 1) (hA : P.cellsOf A = 16) (hI : P.cellsOf I = 1) (hS : P.cellsOf T = 33) {base : Nat} {spare : Nat → Bool} {held : Bool} {fuel : Nat} {cs : List Value} {x : DataW H × List MemPlace}
    (h : DataW.trod enc P W base spare held fuel T cs = some x) : ∃ (sh : Int) (ts ps : List Int), cs = fL sh ts ps ∧ F16 ts ps ∧ I32 ts ∧ I32 ps ∧ -9223372036854775808 ≤ sh ∧ sh ≤ 9223372036854775807 := by
  obtain ⟨f0, f1, f2, hu, n0, n1, n2, y0, y1, y2, o0, o1, o2⟩ := hT.flds
  obtain ⟨ys, m, rfl, rfl, hl, hn, hi⟩ := DataW.trod_struct hu h
  rw [hS] at hl
  have hn' : ys.length = 3 := by simpa using hn
  have h0 := hi 0 f0 rfl
  have h1 := hi 1 f1 rfl
  have h2 := hi 2 f2 rfl
  rw [List.getElem?_eq_getElem (by omega), y0, o0, hI] at h0
  rw [List.getElem?_eq_getElem (by omega), y1, o1, hA] at h1
  rw [List.getElem?_eq_getElem (by omega), y2, o2, hA] at h2
  obtain ⟨sh, e0, _, hw⟩ := DataW.trod_int hT.int h0
  obtain ⟨ts, e1, l1, b1⟩ := ints_arg hT.arr hT.elt hc hA h1
  obtain ⟨ps, e2, l2, b2⟩ := ints_arg hT.arr hT.elt hc hA h2
  refine ⟨sh, ts, ps, ?_, ⟨l1, l2⟩, b1, b2, (bounds_i64 hw).1, (bounds_i64 hw).2⟩
  have s1 : cs = (cs.drop 0).take 1 ++ ((cs.drop 1).take 16 ++ (cs.drop 17).take 16) := by
    rw [List.drop_zero]
    have e17 : (cs.drop 17).take 16 = cs.drop 17 := List.take_of_length_le (by simp [hl])
    rw [e17, show cs.drop 17 = (cs.drop 1).drop 16 by rw [List.drop_drop], List.take_append_drop, List.take_append_drop]
  rw [s1, e0, e1, e2]
  rfl
theorem flt_argv (hT : FltT P T A E I) (hc : P.cellsOf E = 1) (hA : P.cellsOf A = 16) (hI : P.cellsOf I = 1) (hS : P.cellsOf T = 33) {r : Reach} {b0 : Nat} {v : Value} {d : DataW H} {p : List MemPlace}
    (hv : Value.okWide P W r b0 T v) (h : DataW.Trod enc P W 0 (fun _ => true) true T v d p) :
    ∃ (sh : Int) (ts ps : List Int), v = .agg (fA sh ts ps) ∧ F16 ts ps ∧ I32 ts ∧ I32 ps ∧ -9223372036854775808 ≤ sh ∧ sh ≤ 9223372036854775807 := by
  obtain ⟨f0, f1, f2, hu, _⟩ := hT.flds
  obtain ⟨cs, rfl, hsz⟩ := okWide_struct hu hv
  obtain ⟨fuel, hf⟩ := h
  obtain ⟨sh, ts, ps, h1, h2⟩ := flt_arg hT hc hA hI hS hf
  refine ⟨sh, ts, ps, ?_, h2⟩
  simp only [Value.cells] at h1
  rw [fA, ← h1]
end
end Go.Proofs.Ytgnmpkembcdkcaa

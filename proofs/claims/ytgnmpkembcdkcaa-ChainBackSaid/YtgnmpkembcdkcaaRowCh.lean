/-
  How a channel that came in reads, for the rows' last steps. No conditions.
-/
import Derived.Test.YtgnmpkembcdkcaaRowF
import Derived.Test.YtgnmpkembcdkcaaChn
namespace Go.Proofs.Ytgnmpkembcdkcaa
open Go.ChangeShapes Go.WideShapes Go.ChangeAt Go.RowKit
set_option linter.unusedVariables false

section
variable {H : Type} {enc : TypeId × Value → H} {P : Program} {W : World} {C T A E I : TypeId}
theorem chn_argv (hC : ChnT P C T A E I) (hc : P.cellsOf E = 1) (hA : P.cellsOf A = 16) (hI : P.cellsOf I = 1) (hS : P.cellsOf T = 33) (hK : P.cellsOf C = 35) {r : Reach} {b0 : Nat} {v : Value} {d : DataW H} {p : List MemPlace}
    (hv : Value.okWide P W r b0 C v) (h : DataW.Trod enc P W 0 (fun _ => true) true C v d p) :
    ∃ (bt la sh : Int) (ts ps : List Int), v = .agg (cA bt la sh ts ps) ∧ F16 ts ps ∧ I32 ts ∧ I32 ps ∧ -9223372036854775808 ≤ sh ∧ sh ≤ 9223372036854775807 ∧ -9223372036854775808 ≤ bt ∧ bt ≤ 9223372036854775807 ∧ -2147483648 ≤ la ∧ la ≤ 2147483647 := by
  obtain ⟨f0, f1, f2, hu, n0, n1, n2, y0, y1, y2, o0, o1, o2⟩ := hC.flds
  obtain ⟨cs, rfl, hsz⟩ := okWide_struct hu hv
  obtain ⟨fuel, hf⟩ := h
  obtain ⟨ys, m, rfl, hx, hl, hn, hi⟩ := DataW.trod_struct hu hf
  simp only [Value.cells] at hl hi
  rw [hK] at hl
  have hn' : ys.length = 3 := by simpa using hn
  have h0 := hi 0 f0 rfl
  have h1 := hi 1 f1 rfl
  have h2 := hi 2 f2 rfl
  rw [List.getElem?_eq_getElem (by omega), y0, o0, hI] at h0
  rw [List.getElem?_eq_getElem (by omega), y1, o1, hc] at h1
  rw [List.getElem?_eq_getElem (by omega), y2, o2, hS] at h2
  obtain ⟨bt, e0, _, w0⟩ := DataW.trod_int hC.flt.int h0
  obtain ⟨la, e1, _, w1⟩ := DataW.trod_int hC.flt.elt h1
  obtain ⟨sh, ts, ps, e2, hF, b1, b2, s0, s1⟩ := flt_arg hC.flt hc hA hI hS h2
  refine ⟨bt, la, sh, ts, ps, ?_, hF, b1, b2, s0, s1, (bounds_i64 w0).1, (bounds_i64 w0).2, (bounds_i32 w1).1, (bounds_i32 w1).2⟩
  have s : cs.toList = (cs.toList.drop 0).take 1 ++ ((cs.toList.drop 1).take 1 ++ (cs.toList.drop 2).take 33) := by
    rw [List.drop_zero]
    have e33 : (cs.toList.drop 2).take 33 = cs.toList.drop 2 := List.take_of_length_le (by rw [List.length_drop]; omega)
    rw [e33, show cs.toList.drop 2 = (cs.toList.drop 1).drop 1 by rw [List.drop_drop], List.take_append_drop, List.take_append_drop]
  have : cs.toList = cL bt la sh ts ps := by rw [s, e0, e1, e2]; rfl
  rw [cA, ← this]
end
end Go.Proofs.Ytgnmpkembcdkcaa

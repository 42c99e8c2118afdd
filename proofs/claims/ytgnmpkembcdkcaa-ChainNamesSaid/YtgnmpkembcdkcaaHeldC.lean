/-
  Channels' variables in regions that draw their order. No conditions.
-/
import Derived.Test.YtgnmpkembcdkcaaHeld2
import Derived.Test.YtgnmpkembcdkcaaChn
namespace Go.Proofs.Ytgnmpkembcdkcaa
open Go.RowKit
set_option linter.unusedVariables false

section
variable {P : Program} {ops : Array Oper} {Q : Exit → Act → World → Prop} {S : World → Prop} {a a' : Act} {w w' : World} {fuel i : Nat} {o : Oper} {v : Value} {row : Option Nat}
variable {b : Nat} {C T A E I : TypeId} {bt la sh bt' la' sh' : Int} {ts ps ts' ps' : List Int} {K : Act → World → Prop}
theorem y_loadC (hC : ChnT P C T A E I) (hg : o.guard = none) (x : Operand) (ho : o.op = .load C x) (hx : a.eval x = .pointer (some ⟨b, 0, none⟩)) (hb : ∀ W, S W → CB W b C bt la sh ts ps) : YieldsIf P ops S o (.agg (cA bt la sh ts ps)) a := by
  obtain ⟨d, hu, hd⟩ := hC.row
  refine y_pure hg fun W hW => ?_
  have hB := hb W hW
  have hr : W.rangeAt b 0 (cA bt la sh ts ps).toList := by
    have := World.rangeAt_of_block hB.1 0 (cA bt la sh ts ps).size
    simpa using this
  have := run_loadAt_mid (P := P) W b 0 C (cA bt la sh ts ps).toList d hr hu hd (by simpa using chn_sz hC hB.2)
  simp only [execOp, ho, hx, Sem.run_bind, this, Result.andThen_ok, Sem.run_pure, Array.toArray_toList]
theorem y_bldC3 (hC : ChnT P C T A E I) (hg : o.guard = none) (x y z : Operand) (ho : o.op = .build C #[(0, x), (1, y), (2, z)]) (hx : a.eval x = .int .i64 bt) (hy : a.eval y = .int .i32 la) (hz : a.eval z = .agg (fA sh ts ps)) (hF : F16 ts ps) : YieldsIf P ops S o (.agg (cA bt la sh ts ps)) a := by
  refine y_pure hg fun W hW => ?_
  have := chn_built3 hC bt la sh hF W
  simp [execOp, ho, hx, hy, hz, this]
theorem wp_chn_alloc (hC : ChnT P C T A E I) (ho : o.op = .alloc C) {fa : Nat → Act} (ha : ∀ b, a.put o.dst (.pointer (some ⟨b, 0, none⟩)) = fa b)
    (h : ∀ w' b, w.heap.size ≤ b → CB w' b C 0 0 0 z16 z16 → Below w.heap.size w w' → K (fa b) w') : o.wp P a w K Q := by
  have hz := hC.zero
  cases hi : P.info? C with
  | none => simp [hi] at hz
  | some i =>
    simp only [hi, Option.bind_some] at hz
    unfold Oper.wp execOp
    simp only [ho, Sem.run_bind, Instr.alloc, zeroValue, typeInfo, hi, hz, run_program, newVar, newRow, run_newObj_alloc, Sem.run_pure, Result.andThen_ok, Value.cells]
    have hh := h _ _ (Nat.le_refl _) ⟨Blk.new w C (cA 0 0 0 z16 z16), f16z⟩ (bel_up (bel_self w) _)
    rw [← ha] at hh
    exact hh
theorem wp_chn_store (hC : ChnT P C T A E I) (x y : Operand) (ho : o.op = .store C x y) (hx : a.eval x = .pointer (some ⟨b, 0, none⟩)) (hy : a.eval y = .agg (cA bt' la' sh' ts' ps')) (hb : CB w b C bt la sh ts ps) (hF : F16 ts' ps')
    (ha : a.put o.dst undef = a') (h : ∀ w', CB w' b C bt' la' sh' ts' ps' → Only b w w' → K a' w') : o.wp P a w K Q := by
  subst ha
  have ht : w.there b 0 (cA bt' la' sh' ts' ps').size := fun j hj => ⟨by rw [hb.1.cell, Array.getElem?_eq_getElem (by rw [cA_size hb.2]; rw [cA_size hF] at hj; omega)]; rfl, hb.1.free _⟩
  refine wp_store_mid C x y ho b 0 _ hx hy ht (chn_sz hC hF) cA_one (h _ ?_ (Only.sets b _ _ _))
  have := Blk.sets (cA bt' la' sh' ts' ps').toList 0 w _ hb.1
  rw [splA_whole _ _ (by rw [cA_size hF, cA_size hb.2])] at this
  exact ⟨this, hF⟩
theorem CB.grown (h : CB w b C bt la sh ts ps) (hg : w.grownBy w' row) (hne : some b ≠ row) : CB w' b C bt la sh ts ps := ⟨(hg.block b h.lt hne).trans h.1, h.2⟩
end
end Go.Proofs.Ytgnmpkembcdkcaa

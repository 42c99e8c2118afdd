/-
  A region that draws its order, whose operations only read, and whose callees may make memory but change nothing that was there. No conditions.
-/
import Derived.Test.YtfapkpegfgeliaaKit5
namespace Go.Proofs.Ytfapkpegfgeliaa
open Go.RowKit
set_option linter.unusedVariables false

section
variable {P : Program} {w : World} {ops : Array Oper} {Q : Act → Prop} {a : Act} {o : Oper} {rest : List Oper}
/-- The worlds in which all that was in w is as it was. -/
def Since (w : World) : World → Prop := fun W => Below w.heap.size w W
theorem wp_region_since {id : Nat} {Q : Exit → Act → World → Prop} {l : List Oper} (hm : P.follows .mixedOrders = true) (hB : Region.lexB .any l.toArray = true)
    (h : wpQuiet P l.toArray (Since w) (fun a' => ∀ w', Since w w' → Q .normal a' w') l a) : (Code.region id l.toArray true).wp P Q a w :=
  wp_region_quiet (C := Since w) hm hB (show Below w.heap.size w w.drew from (bel_self w).drew) (by simpa using h)
theorem qb_val {v : Value} (hw : Region.wanted o (yielded ops a.tmps) = true) (hrun : ∀ W, Since w W → (execOp a.eval o).run P W = .ok (.value v) W) {a' : Act} (ha : a.put o.dst v = a') (h : wpQuiet P ops (Since w) Q rest a') : wpQuiet P ops (Since w) Q (o :: rest) a := by
  subst ha
  refine wpQuiet_step fun K hK => ?_
  rw [if_pos hw]
  refine ⟨v, fun W hW => ?_, hK _ h⟩
  unfold Oper.quietAt
  rw [hrun W hW]
  exact ⟨rfl, rfl⟩
theorem qb_skip (hw : Region.wanted o (yielded ops a.tmps) = false) {a' : Act} (ha : a.put o.dst undef = a') (h : wpQuiet P ops (Since w) Q rest a') : wpQuiet P ops (Since w) Q (o :: rest) a := by
  subst ha
  refine wpQuiet_step fun K hK => ?_
  rw [if_neg (by rw [hw]; exact Bool.false_ne_true)]
  exact hK _ h
theorem qb_call {v : Value} {f : FuncId} {args : Array Value} (hw : Region.wanted o (yielded ops a.tmps) = true) (hrun : ∀ W, (execOp a.eval o).run P W = .ok (.enter f args) W)
    (hc : ∀ W, Since w W → Calls P f args W fun e w' => e = .returned v ∧ Below W.heap.size W w') {a' : Act} (ha : a.put o.dst v = a') (h : wpQuiet P ops (Since w) Q rest a') : wpQuiet P ops (Since w) Q (o :: rest) a := by
  subst ha
  refine wpQuiet_step fun K hK => ?_
  rw [if_pos hw]
  refine ⟨v, fun W hW => ?_, hK _ h⟩
  unfold Oper.quietAt
  rw [hrun W]
  exact ⟨rfl, (hc W hW).mono fun e w' ⟨he, hb⟩ => ⟨he, bel_next hW hb⟩⟩
theorem qb_eql {x y : Operand} {t u : TypeId} {v1 v2 v : Value} (hw : Region.wanted o (yielded ops a.tmps) = true) (ho : o.op = .binOp .eql t x y u) (hx : a.eval x = v1) (hy : a.eval y = v2)
    (hrun : ∀ W, (do eqGuard .eql t x y v1 v2; binOp .eql t v1 v2).run P W = .ok v W) {a' : Act} (ha : a.put o.dst v = a') (h : wpQuiet P ops (Since w) Q rest a') : wpQuiet P ops (Since w) Q (o :: rest) a := by
  subst hx hy
  refine qb_val hw (fun W _ => ?_) ha h
  have := hrun W
  simp only [execOp, ho, Sem.run_bind] at this ⊢
  rw [this]
  rfl
end
end Go.Proofs.Ytfapkpegfgeliaa

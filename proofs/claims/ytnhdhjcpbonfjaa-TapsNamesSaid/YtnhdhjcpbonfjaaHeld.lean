/-
  A region that draws its order and makes memory: its moves, with filters' variables. No conditions.
-/
import Derived.Test.YtnhdhjcpbonfjaaFlt3
import Derived.OrdersHeld
namespace Go.Proofs.Ytnhdhjcpbonfjaa
open Go.RowKit
set_option linter.unusedVariables false

section
variable {P : Program} {ops : Array Oper} {Q : Exit → Act → World → Prop} {S : World → Prop} {a a' : Act} {w : World} {fuel i j : Nat} {o oi : Oper} {listed l' : Array Bool} {v : Value}
theorem h_begin {id : Nat} {l : Array Bool} (hm : P.follows .mixedOrders = true) (hl : Array.replicate ops.size false = l) (h : wpAnyH P .any ops Q S ops.size l a { w with drawn := w.drawn + 1 }) : (Code.region id ops true).wp P Q a w :=
  wp_region_held hm (by rw [hl]; exact h)
theorem h_take (i : Nat) (hi : ops[i]? = some oi) (hs : Region.noSelect ops = true) (hf : Region.free .any ops listed i = true) (hr : (Region.ready .any ops listed).contains i = true)
    (hQ : ∀ c a w, Q (.panic c) (a.put oi.dst v) w → Q (.panic c) a w) (hy : YieldsIf P ops S oi v a) (hS : S w) (hl : listed.setIfInBounds i true = l') (ha : a.put oi.dst v = a')
    (h : wpAnyH P .any ops Q S fuel l' a' w) : wpAnyH P .any ops Q S (fuel + 1) listed a w := by
  subst hl ha
  exact wpAnyH_take hi hs hf hr hQ hy hS h
theorem h_one (i : Nat) (hr : Region.ready .any ops listed = [i]) (hi : ops[i]? = some o) (hg : o.guard = none) (hl : listed.setIfInBounds i true = l')
    (h : o.wp P a w (fun a' w' => S w' ∧ wpAnyH P .any ops Q S fuel l' a' w') Q) : wpAnyH P .any ops Q S (fuel + 1) listed a w := by
  subst hl
  refine wpAnyH_all hr (by simp) fun k hk => ?_
  have : k = i := by simpa using hk
  subst this
  unfold wpOp
  simp only [hi]
  rw [if_pos (by simp [Region.wanted, hg])]
  exact .inl h
theorem h_two (i j : Nat) (hr : Region.ready .any ops listed = [i, j]) {o1 o2 : Oper} {l1 l2 : Array Bool} (hi : ops[i]? = some o1) (hj : ops[j]? = some o2) (hg1 : o1.guard = none) (hg2 : o2.guard = none) (hl1 : listed.setIfInBounds i true = l1) (hl2 : listed.setIfInBounds j true = l2)
    (h1 : o1.wp P a w (fun a' w' => S w' ∧ wpAnyH P .any ops Q S fuel l1 a' w') Q) (h2 : o2.wp P a w (fun a' w' => S w' ∧ wpAnyH P .any ops Q S fuel l2 a' w') Q) : wpAnyH P .any ops Q S (fuel + 1) listed a w := by
  subst hl1 hl2
  refine wpAnyH_all hr (by simp) fun k hk => ?_
  have : k = i ∨ k = j := by simpa using hk
  rcases this with rfl | rfl
  · unfold wpOp
    simp only [hi]
    rw [if_pos (by simp [Region.wanted, hg1])]
    exact .inl h1
  · unfold wpOp
    simp only [hj]
    rw [if_pos (by simp [Region.wanted, hg2])]
    exact .inl h2
theorem h_done (hr : Region.ready .any ops listed = []) (h : Q .normal a w) : wpAnyH P .any ops Q S fuel listed a w := wpAnyH_done hr h fuel
theorem y_pure (hg : o.guard = none) (hrun : ∀ W, S W → (execOp a.eval o).run P W = .ok (.value v) W) : YieldsIf P ops S o v a :=
  .inl ⟨by simp [Region.wanted, hg], hrun⟩
variable {b : Nat} {T A E I : TypeId} {sh sh' : Int} {ts ps ts' ps' : List Int} {K : Act → World → Prop}
theorem y_load (hT : FltT P T A E I) (hg : o.guard = none) (x : Operand) (ho : o.op = .load T x) (hx : a.eval x = .pointer (some ⟨b, 0, none⟩)) (hb : ∀ W, S W → FB W b T sh ts ps) : YieldsIf P ops S o (.agg (fA sh ts ps)) a := by
  obtain ⟨d, hu, hd⟩ := hT.row
  refine y_pure hg fun W hW => ?_
  have hB := hb W hW
  have hr : W.rangeAt b 0 (fA sh ts ps).toList := by
    have := World.rangeAt_of_block hB.1 0 (fA sh ts ps).size
    simpa using this
  have := run_loadAt_mid (P := P) W b 0 T (fA sh ts ps).toList d hr hu hd (by simpa using flt_sz hT hB.2)
  simp only [execOp, ho, hx, Sem.run_bind, this, Result.andThen_ok, Sem.run_pure, Array.toArray_toList]
theorem wp_flt_alloc (hT : FltT P T A E I) (ho : o.op = .alloc T) {fa : Nat → Act} (ha : ∀ b, a.put o.dst (.pointer (some ⟨b, 0, none⟩)) = fa b)
    (h : ∀ w' b, w.heap.size ≤ b → FB w' b T 0 z16 z16 → Below w.heap.size w w' → K (fa b) w') : o.wp P a w K Q := by
  have hz := hT.zero
  cases hi : P.info? T with
  | none => simp [hi] at hz
  | some i =>
    simp only [hi, Option.bind_some] at hz
    unfold Oper.wp execOp
    simp only [ho, Sem.run_bind, Instr.alloc, zeroValue, typeInfo, hi, hz, run_program, newVar, newRow, run_newObj_alloc, Sem.run_pure, Result.andThen_ok, Value.cells]
    have hh := h _ _ (Nat.le_refl _) ⟨Blk.new w T (fA 0 z16 z16), f16z⟩ (bel_up (bel_self w) _)
    rw [← ha] at hh
    exact hh
theorem wp_flt_store (hT : FltT P T A E I) (x y : Operand) (ho : o.op = .store T x y) (hx : a.eval x = .pointer (some ⟨b, 0, none⟩)) (hy : a.eval y = .agg (fA sh' ts' ps')) (hb : FB w b T sh ts ps) (hF : F16 ts' ps')
    (ha : a.put o.dst undef = a') (h : ∀ w', FB w' b T sh' ts' ps' → Only b w w' → K a' w') : o.wp P a w K Q := by
  subst ha
  have ht : w.there b 0 (fA sh' ts' ps').size := fun j hj => ⟨by rw [hb.1.cell, Array.getElem?_eq_getElem (by rw [fA_size hb.2.1 hb.2.2]; rw [fA_size hF.1 hF.2] at hj; omega)]; rfl, hb.1.free _⟩
  refine wp_store_mid T x y ho b 0 _ hx hy ht (flt_sz hT hF) (fA_one _ _ _) (h _ ?_ (Only.sets b _ _ _))
  have := Blk.sets (fA sh' ts' ps').toList 0 w _ hb.1
  rw [splA_whole _ _ (by rw [fA_size hF.1 hF.2, fA_size hb.2.1 hb.2.2])] at this
  exact ⟨this, hF⟩
theorem wp_call {f : FuncId} {args : Array Value} (hrun : (execOp a.eval o).run P w = .ok (.enter f args) w) (hc : Calls P f args w fun e w' => e = .returned v ∧ Below w.heap.size w w')
    (ha : a.put o.dst v = a') (h : ∀ w', Below w.heap.size w w' → K a' w') : o.wp P a w K Q := by
  subst ha
  unfold Oper.wp
  rw [hrun]
  simp only [Oper.upon]
  exact hc.mono fun e w' ⟨he, hb⟩ => by subst he; exact h w' hb
end
end Go.Proofs.Ytnhdhjcpbonfjaa

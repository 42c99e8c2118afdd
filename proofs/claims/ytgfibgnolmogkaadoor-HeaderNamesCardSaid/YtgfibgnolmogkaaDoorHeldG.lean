/-
  A region that draws its order and makes memory: its moves, whatever the guards. No conditions.
-/
import Derived.Test.YtgfibgnolmogkaaDoorKit5
import Derived.Test.YtgfibgnolmogkaaDoorBlk
import Derived.Test.YtgfibgnolmogkaaDoorHdRead
import Derived.OrdersHeld
namespace Go.Proofs.YtgfibgnolmogkaaDoor
open Go.RowKit
set_option linter.unusedVariables false

/-- The worlds in which all that was in w is as it was. -/
def SinceG (w : World) : World → Prop := fun W => Below w.heap.size w W
section
variable {P : Program} {ops : Array Oper} {Q : Exit → Act → World → Prop} {S : World → Prop} {a a' : Act} {w : World} {fuel i j : Nat} {o oi : Oper} {listed l' : Array Bool} {v : Value} {K : Act → World → Prop}
theorem hg_begin {id : Nat} {l : Array Bool} (hm : P.follows .mixedOrders = true) (hl : Array.replicate ops.size false = l) (h : wpAnyH P .any ops Q S ops.size l a { w with drawn := w.drawn + 1 }) : (Code.region id ops true).wp P Q a w :=
  wp_region_held hm (by rw [hl]; exact h)
theorem hg_take (i : Nat) (hi : ops[i]? = some oi) (hs : Region.noSelect ops = true) (hf : Region.free .any ops listed i = true) (hr : (Region.ready .any ops listed).contains i = true)
    (hQ : ∀ c a w, Q (.panic c) (a.put oi.dst v) w → Q (.panic c) a w) (hw : Region.wanted oi (yielded ops a.tmps) = true) (hrun : ∀ W, S W → (execOp a.eval oi).run P W = .ok (.value v) W) (hS : S w) (hl : listed.setIfInBounds i true = l') (ha : a.put oi.dst v = a')
    (h : wpAnyH P .any ops Q S fuel l' a' w) : wpAnyH P .any ops Q S (fuel + 1) listed a w := by
  subst hl ha
  exact wpAnyH_take hi hs hf hr hQ (.inl ⟨hw, hrun⟩) hS h
theorem hg_one (i : Nat) (hr : Region.ready .any ops listed = [i]) (hi : ops[i]? = some o) (hw : Region.wanted o (yielded ops a.tmps) = true) (hl : listed.setIfInBounds i true = l')
    (h : o.wp P a w (fun a' w' => S w' ∧ wpAnyH P .any ops Q S fuel l' a' w') Q) : wpAnyH P .any ops Q S (fuel + 1) listed a w := by
  subst hl
  refine wpAnyH_all hr (by simp) fun k hk => ?_
  have : k = i := by simpa using hk
  subst this
  unfold wpOp
  simp only [hi]
  rw [if_pos hw]
  exact .inl h
theorem hg_two (i j : Nat) (hr : Region.ready .any ops listed = [i, j]) {o1 o2 : Oper} {l1 l2 : Array Bool} (hi : ops[i]? = some o1) (hj : ops[j]? = some o2) (hw1 : Region.wanted o1 (yielded ops a.tmps) = true) (hw2 : Region.wanted o2 (yielded ops a.tmps) = true) (hl1 : listed.setIfInBounds i true = l1) (hl2 : listed.setIfInBounds j true = l2)
    (h1 : o1.wp P a w (fun a' w' => S w' ∧ wpAnyH P .any ops Q S fuel l1 a' w') Q) (h2 : o2.wp P a w (fun a' w' => S w' ∧ wpAnyH P .any ops Q S fuel l2 a' w') Q) : wpAnyH P .any ops Q S (fuel + 1) listed a w := by
  subst hl1 hl2
  refine wpAnyH_all hr (by simp) fun k hk => ?_
  have : k = i ∨ k = j := by simpa using hk
  rcases this with rfl | rfl
  · unfold wpOp
    simp only [hi]
    rw [if_pos hw1]
    exact .inl h1
  · unfold wpOp
    simp only [hj]
    rw [if_pos hw2]
    exact .inl h2
theorem hg_done (hr : Region.ready .any ops listed = []) (h : Q .normal a w) : wpAnyH P .any ops Q S fuel listed a w := wpAnyH_done hr h fuel
theorem wp_val1 (hrun : (execOp a.eval o).run P w = .ok (.value v) w) (ha : a.put o.dst v = a') (h : K a' w) : o.wp P a w K Q := by
  subst ha
  unfold Oper.wp
  rw [hrun]
  exact h
theorem wp_callB {f : FuncId} {args : Array Value} (hrun : (execOp a.eval o).run P w = .ok (.enter f args) w) (hc : Calls P f args w fun e w' => e = .returned v ∧ Below w.heap.size w w')
    (ha : a.put o.dst v = a') (h : ∀ w', Below w.heap.size w w' → K a' w') : o.wp P a w K Q := by
  subst ha
  unfold Oper.wp
  rw [hrun]
  simp only [Oper.upon]
  exact hc.mono fun e w' ⟨he, hb⟩ => by subst he; exact h w' hb
theorem wp_callV {f : FuncId} {args : Array Value} {V : Type} {g : V → Value} {R : V → World → Prop} (hc : Calls P f args w fun e w' => ∃ u, e = .returned (g u) ∧ R u w' ∧ Below w.heap.size w w') (hrun : (execOp a.eval o).run P w = .ok (.enter f args) w)
    {fa : V → Act} (ha : ∀ u, a.put o.dst (g u) = fa u) (h : ∀ u w', R u w' → Below w.heap.size w w' → K (fa u) w') : o.wp P a w K Q := by
  unfold Oper.wp
  rw [hrun]
  simp only [Oper.upon]
  exact hc.mono fun e w' ⟨u, he, hr, hb⟩ => by
    subst he
    have := h u w' hr hb
    rw [← ha] at this
    exact this
theorem wp_allocH {T : TypeId} {cs : Array Value} (ho : o.op = .alloc T) (hz : (P.info? T).bind (·.zero) = some (.agg cs)) {fa : Nat → Act} (ha : ∀ b, a.put o.dst (.pointer (some ⟨b, 0, none⟩)) = fa b)
    (h : ∀ w' b, w.heap.size ≤ b → BlkH w' b T cs → Below w.heap.size w w' → K (fa b) w') : o.wp P a w K Q := by
  cases hi : P.info? T with
  | none => simp [hi] at hz
  | some i =>
    simp only [hi, Option.bind_some] at hz
    unfold Oper.wp execOp
    simp only [ho, Sem.run_bind, Instr.alloc, zeroValue, typeInfo, hi, hz, run_program, newVar, newRow, run_newObj_alloc, Sem.run_pure, Result.andThen_ok, Value.cells]
    have hh := h _ _ (Nat.le_refl _) (BlkH.new w T cs) (bel_up (bel_self w) _)
    rw [← ha] at hh
    exact hh
theorem wp_storeH {T : TypeId} {b : Nat} {cs cs' : Array Value} (x y : Operand) (ho : o.op = .store T x y) (hx : a.eval x = .pointer (some ⟨b, 0, none⟩)) (hy : a.eval y = .agg cs') (hb : BlkH w b T cs) (hsz : cs'.size = cs.size)
    (hi : (P.info? T).map (·.size) = some cs'.size) (h1 : cs'.all (·.oneCell') = true) (ha : a.put o.dst undef = a') (h : ∀ w', BlkH w' b T cs' → Only b w w' → K a' w') : o.wp P a w K Q := by
  subst ha
  have hB : Blk w b T cs := hb
  have ht : w.there b 0 cs'.size := fun j hj => ⟨by rw [hB.cell, Array.getElem?_eq_getElem (by omega)]; rfl, hB.free _⟩
  refine wp_store_mid T x y ho b 0 _ hx hy ht hi h1 (h _ ?_ (Only.sets b _ _ _))
  have := Blk.sets cs'.toList 0 w _ hB
  rw [splA_whole _ _ hsz] at this
  exact this
end
end Go.Proofs.YtgfibgnolmogkaaDoor

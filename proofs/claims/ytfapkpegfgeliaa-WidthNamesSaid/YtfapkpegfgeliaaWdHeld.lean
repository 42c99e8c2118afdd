/-
  A region that draws its order and makes memory: its moves (for the widths). No conditions.
-/
import Derived.Test.YtfapkpegfgeliaaKit5
import Derived.Test.YtfapkpegfgeliaaBlk
import Derived.Test.YtfapkpegfgeliaaSince
import Derived.OrdersHeld
import Derived.Great.BuildSlice
namespace Go.Proofs.Ytfapkpegfgeliaa
open Go.RowKit
set_option linter.unusedVariables false

/-- The worlds in which all that was in w is as it was. -/
def SinceG (w : World) : World → Prop := fun W => Below w.heap.size w W
section
variable {P : Program} {ops : Array Oper} {Q : Exit → Act → World → Prop} {S : World → Prop} {a a' : Act} {w w' : World} {fuel i j : Nat} {o oi : Oper} {listed l' : Array Bool} {v : Value} {K : Act → World → Prop}
theorem hg_begin {id : Nat} {l : Array Bool} (hm : P.follows .mixedOrders = true) (hl : Array.replicate ops.size false = l) (h : wpAnyH P .any ops Q S ops.size l a { w with drawn := w.drawn + 1 }) : (Code.region id ops true).wp P Q a w :=
  wp_region_held hm (by rw [hl]; exact h)
theorem hg_take (i : Nat) (hi : ops[i]? = some oi) (hs : Region.noSelect ops = true) (hf : Region.free .any ops listed i = true) (hr : (Region.ready .any ops listed).contains i = true)
    (hQ : ∀ c a w, Q (.panic c) (a.put oi.dst v) w → Q (.panic c) a w) (hw : Region.wanted oi (yielded ops a.tmps) = true) (hrun : ∀ W, S W → (execOp a.eval oi).run P W = .ok (.value v) W) (hS : S w) (hl : listed.setIfInBounds i true = l') (ha : a.put oi.dst v = a')
    (h : wpAnyH P .any ops Q S fuel l' a' w) : wpAnyH P .any ops Q S (fuel + 1) listed a w := by
  subst hl ha
  exact wpAnyH_take hi hs hf hr hQ (.inl ⟨hw, hrun⟩) hS h
theorem hg_one (i : Nat) (hr : Region.ready .any ops listed = [i]) (hi : ops[i]? = some o) (hw : Region.wanted o (yielded ops a.tmps) = true) (hl : listed.setIfInBounds i true = l')
    (h : o.wp P a w (fun a' w' => S w' ∧ wpAnyH P .any ops Q S fuel l' a' w') Q) : wpAnyH P .any ops Q S (fuel + 1) listed a w := by
  subst hl
  refine wpAnyH_all hr (by simp) fun k hk => ?_
  have : k = i := by simpa using hk
  subst this
  unfold wpOp
  simp only [hi]
  rw [if_pos hw]
  exact .inl h
theorem hg_done (hr : Region.ready .any ops listed = []) (h : Q .normal a w) : wpAnyH P .any ops Q S fuel listed a w := wpAnyH_done hr h fuel
theorem wp_valW (hrun : (execOp a.eval o).run P w = .ok (.value v) w') (ha : a.put o.dst v = a') (h : K a' w') : o.wp P a w K Q := by
  subst ha
  unfold Oper.wp
  rw [hrun]
  exact h
theorem wp_callV {f : FuncId} {args : Array Value} {V : Type} {g : V → Value} {R : V → World → Prop} (hc : Calls P f args w fun e w' => ∃ u, e = .returned (g u) ∧ R u w' ∧ Below w.heap.size w w') (hrun : (execOp a.eval o).run P w = .ok (.enter f args) w)
    {fa : V → Act} (ha : ∀ u, a.put o.dst (g u) = fa u) (h : ∀ u w', R u w' → Below w.heap.size w w' → K (fa u) w') : o.wp P a w K Q := by
  unfold Oper.wp
  rw [hrun]
  simp only [Oper.upon]
  exact hc.mono fun e w' ⟨u, he, hr, hb⟩ => by
    subst he
    have := h u w' hr hb
    rw [← ha] at this
    exact this
theorem cell_put {ty : TypeId} {rest : List Oper} {b : Nat} (hg : o.guard = none) (x y : Operand) (ho : o.op = .store ty x y) {off : Nat} (hx : a.eval x = .pointer (some ⟨b, off, none⟩)) {k : IntKind} {v : Int} (hy : a.eval y = .int k v)
    (hc : (w.cell? ⟨b, off, none⟩).isSome = true) (hf : w.frozen? ⟨b, off, none⟩ = false) (hi : (P.info? ty).map (·.size) = some 1)
    (h : wpList P ops Q rest (a.put o.dst undef) (w.setCell ⟨b, off, none⟩ (.int k v))) : wpList P ops Q (o :: rest) a w := by
  refine wpList_plain hg fun K hK => ?_
  have j0 : ∀ j, j < [Value.int k v].length → j = 0 := fun j hj => by simpa using hj
  have hs := run_storeCells_cells (P := P) b off [.int k v] 0 w (fun j hj => by rw [j0 j hj]; exact hc) (fun j hj => by rw [j0 j hj]; exact hf) (fun v hv => by rw [List.mem_singleton.1 hv]; rfl)
  simp only [Nat.add_zero] at hs
  cases hq : P.info? ty with
  | none => simp [hq] at hi
  | some i =>
    have hsz : i.size = 1 := by simpa [hq] using hi
    unfold Oper.wp execOp
    simp only [ho, hx, hy, Instr.storeAt, Instr.sureAddr, Sem.run_bind, Sem.run_pure, Result.andThen_ok]
    simp [storeVar, sizeOf, typeInfo, hq, Value.cells, hsz, hs, World.setCells]
    exact hK _ _ h
theorem lit_built (t e : TypeId) (n : Nat) (parts : Array (Nat × Value)) (cs : Array Value) (z : Value) (hu : P.underlying t = some (.slice e)) (hz : (P.info? e).bind (·.zero) = some z) (hs : (P.info? e).map (·.size) = some 1) (h0 : ¬ n * 1 = 0) (h1 : ¬ n * 1 > 2 ^ 24)
    (hf : Instr.fill (fun i => some (i * 1, 1)) ((Array.range (n * 1)).map (z.cells[· % z.cells.size]!)) parts.toList = some cs) (W : World) : (Instr.buildSlice t n parts).run P W = .ok (.slice (some ⟨W.heap.size, 0, none⟩) n n) (W.alloc (.cells cs e)) := by
  cases hi : P.info? e with
  | none => simp [hi] at hz
  | some i =>
    simp only [hi, Option.bind_some] at hz
    have hs' : i.size = 1 := by simp only [hi, Option.map_some, Option.some.injEq] at hs; exact hs
    refine run_buildSlice W t e n parts cs i z hu hi hz (by rw [hs']; exact h1) (by rw [hs']; exact h0) ?_
    rw [hs']
    exact hf
theorem bs_lay {rest : List Oper} {t e : TypeId} {n : Nat} {parts : Array (Nat × Operand)} {vp : Array (Nat × Value)} {cs : Array Value} (hg : o.guard = none) (ho : o.op = .buildSlice t n parts) (hrun : ∀ W, (Instr.buildSlice t n vp).run P W = .ok (.slice (some ⟨W.heap.size, 0, none⟩) n n) (W.alloc (.cells cs e)))
    (hv : (parts.map fun (i, x) => (i, a.eval x)) = vp) (h : ∀ w' b, w.heap.size ≤ b → Blk w' b e cs → Below w.heap.size w w' → wpList P ops Q rest (a.put o.dst (.slice (some ⟨b, 0, none⟩) n n)) w') : wpList P ops Q (o :: rest) a w := by
  refine wpList_plain hg fun K hK => ?_
  unfold Oper.wp execOp
  simp only [ho, Sem.run_bind]
  rw [hv, hrun w]
  exact hK _ _ (h _ _ (Nat.le_refl _) (Blk.new w e cs) (bel_up (bel_self w) _))
theorem Blk.sl {b : Nat} {t : TypeId} {k : IntKind} {xs : List Int} {cs : Array Value} (h : Blk w b t cs) (hcs : cs = (xs.map (Value.int k)).toArray) : Sl w w.heap.size k (some ⟨b, 0, none⟩) xs := fun _ => by
  refine ⟨b, 0, rfl, h.lt, fun i hi => ?_⟩
  subst hcs
  rw [Nat.zero_add, h.cell, List.getElem?_toArray, List.getElem?_map, List.getD_eq_getElem?_getD, List.getElem?_eq_getElem hi]
  rfl
theorem Blk.sl1 {b o : Nat} {t : TypeId} {k : IntKind} {x : Int} {cs : Array Value} (h : Blk w b t cs) (hcs : cs[o]? = some (.int k x)) : Sl w w.heap.size k (some ⟨b, o, none⟩) [x] := fun _ => by
  refine ⟨b, o, rfl, h.lt, fun i hi => ?_⟩
  obtain rfl : i = 0 := by simpa using hi
  exact (h.cell o).trans hcs
end
end Go.Proofs.Ytfapkpegfgeliaa

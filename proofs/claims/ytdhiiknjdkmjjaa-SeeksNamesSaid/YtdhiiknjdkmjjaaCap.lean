/-
  A captured variable: a block of one cell, kept over what is done elsewhere; an append that tells which row has turned. No conditions.
-/
import Derived.Test.YtdhiiknjdkmjjaaKit2
namespace Go.Proofs.Ytdhiiknjdkmjjaa
open Go.RowKit
set_option linter.unusedVariables false

/-- Block g is a variable of type t that holds v. -/
def CellIs (w : World) (g : Nat) (t : TypeId) (v : Value) : Prop := w.heap[g]? = some (.cells #[v] t (0, 0))

section
variable {w w' : World} {g B base : Nat} {t e : TypeId} {v u : Value} {k : IntKind} {xs : List Int}
theorem CellIs.lt (h : CellIs w g t v) : g < w.heap.size := (Array.getElem?_eq_some_iff.1 h).1
theorem CellIs.next (h : CellIs w g t v) (hb : Below w.heap.size w w') : CellIs w' g t v := (hb.block g h.lt).trans h
theorem CellIs.cell (h : CellIs w g t v) : w.cell? ⟨g, 0, none⟩ = some v := cell_of_row w g 0 #[v] t (0, 0) h
theorem CellIs.free (h : CellIs w g t v) : w.frozen? ⟨g, 0, none⟩ = false := frozen_of_row w g 0 #[v] t h
theorem CellIs.new (w : World) (t : TypeId) (v : Value) : CellIs (w.alloc (.cells #[v] t)) w.heap.size t v := heap_alloc_new w _
theorem CellIs.up (h : CellIs w g t v) (o : Obj) : CellIs (w.alloc o) g t v := (Below.heap_alloc w o g h.lt).trans h
theorem CellIs.set (h : CellIs w g t v) (u : Value) : CellIs (w.setCell ⟨g, 0, none⟩ u) g t u := heap_setCell_same w g 0 #[v] t u h
theorem CellIs.grown (h : CellIs w g t v) {row : Option Nat} (hg : w.grownBy w' row) (hne : some g ≠ row) : CellIs w' g t v := (hg.block g h.lt hne).trans h
theorem Own.ne_cell (h : Own w base e k v xs) (hc : CellIs w g t u) (hne : e ≠ t) : some g ≠ v.ownBlock := by
  rcases h.2 with ⟨rfl, _⟩ | ⟨g', cap, cur, rfl, _, hh, _⟩
  · simp [Value.ownBlock]
  · intro he
    have : g = g' := by simpa [Value.ownBlock] using he
    subst this
    unfold CellIs at hc
    rw [hh] at hc
    injection hc with hc
    injection hc with _ ht
    exact hne ht
theorem Own.far (h : Own w base e k v xs) (hne : some g ≠ v.ownBlock) (u : Value) : Own (w.setCell ⟨g, 0, none⟩ u) base e k v xs := by
  refine ⟨h.1, ?_⟩
  rcases h.2 with h' | ⟨g', cap, cur, hv, hb, hg, r⟩
  · exact .inl h'
  · refine .inr ⟨g', cap, cur, hv, hb, (Below.heap_setCell w ⟨g, 0, none⟩ u g' (fun e' => hne ?_)).trans hg, r⟩
    subst e'; rw [hv]; rfl
theorem Own.block_ge' (h : Own w base e k v xs) : ∀ g, v.ownBlock = some g → base ≤ g := fun g hg => (World.ownsRow.lt h g hg).1
end

section
variable {P : Program}
/-- append of a slice, nil or not, onto a row of the call's own: which row has turned. -/
theorem appNg {ops : Array Oper} {rest : List Oper} {o : Oper} {a : Act} {Q : Exit → Act → World → Prop} {wr : World} {base : Nat} {t e : TypeId} {k : IntKind} {bytes : Nat} (hE : Elem P t e k bytes)
    {v : Value} {xs ys : List Int} {A : Option Addr} {B c n : Nat} (s x : Operand) (ho : o.op = .call { callee := .builtin .append, args := #[s, x], argTypes := #[t, t] }) (hgd : o.guard = none)
    (hs : a.eval s = v) (hx : a.eval x = .slice A n c) (hn : ys.length = n) (hown : Own wr base e k v xs) (hr : Sl wr B k A ys)
    (hlen : (xs.length + n) * bytes ≤ 140737488355328) (h63 : xs.length + n ≤ 140737488355328) (hB : base ≤ wr.heap.size)
    (h : ∀ v' w', Own w' base e k v' (xs ++ ys) → wr.grownBy w' v.ownBlock → wpList P ops Q rest (a.put o.dst v') w') :
    wpList P ops Q (o :: rest) a wr := by
  subst hn
  obtain ⟨i, hi, hz, h1, h2⟩ := hE.info
  rcases A with _ | ad
  · have hn : ys = [] := by
      rcases Nat.eq_zero_or_pos ys.length with h0 | h0
      · exact List.eq_nil_of_length_eq_zero h0
      · obtain ⟨_, _, e', _⟩ := hr h0
        cases e'
    subst hn
    refine wpList_plain hgd fun K hK => ?_
    unfold Oper.wp execOp
    have hrun := run_append_of_nil (P := P) wr base t o.type e i 1 hE.under hi v xs.length _ hown c
    simp only [ho, resolve, invoke, builtin, Sem.run_bind, Sem.run_pure, Result.andThen_ok, List.map_toArray, List.map_cons, List.map_nil, hs, hx, List.length_nil, hrun]
    exact hK _ _ (h v wr (by simpa using hown) (World.grownBy.refl wr _))
  · refine wpList_append_own _ hgd s x t ho base e i (.int k 0) 1 bytes hE.under hi hz h1 h2 rfl (by omega) v xs.length (xs.map (.int k)) hs hown
      ad ys.length c (ys.map (.int k)) hx (by simp) ?_ (ints_oneCell' k ys) (by unfold maxLen; omega) hlen hB ?_
    · intro j u hu
      have hj : j < ys.length := by
        rcases Nat.lt_or_ge j ys.length with hj | hj
        · exact hj
        · rw [List.getElem?_eq_none (by simpa using hj)] at hu
          cases hu
      obtain ⟨b, o', e', _, hc⟩ := hr (by omega)
      injection e' with e'
      subst e'
      rw [List.getElem?_map, List.getElem?_eq_getElem hj] at hu
      have hu' : Value.int k ys[j] = u := by simpa using hu
      have := hc j hj
      rw [List.getD_eq_getElem?_getD, List.getElem?_eq_getElem hj] at this
      rw [← hu']
      by_cases h0 : j = 0
      · subst h0; simpa [Addr.add] using this
      · simpa [Addr.add, h0] using this
    · intro v' w' ho' hg _
      refine h v' w' ?_ hg
      unfold Own
      simpa using ho'
end
end Go.Proofs.Ytdhiiknjdkmjjaa

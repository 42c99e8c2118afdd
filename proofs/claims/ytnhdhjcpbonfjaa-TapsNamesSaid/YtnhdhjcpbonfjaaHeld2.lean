/-
  An append, and a store, in a region that draws its order. No conditions.
-/
import Derived.Test.YtnhdhjcpbonfjaaHeld
import Derived.Test.YtnhdhjcpbonfjaaKit3
namespace Go.Proofs.Ytnhdhjcpbonfjaa
open Go.RowKit
set_option linter.unusedVariables false

section
variable {w w' w0 : World} {b B base : Nat} {T e : TypeId} {sh : Int} {ts ps : List Int} {k : IntKind} {v : Value} {xs : List Int} {A : Option Addr} {row : Option Nat}
theorem FB.grown (h : FB w b T sh ts ps) (hg : w.grownBy w' row) (hne : some b ≠ row) : FB w' b T sh ts ps := ⟨(hg.block b h.lt hne).trans h.1, h.2⟩
theorem SA.grown (h : SA w B k A xs) (hg : w.grownBy w' row) (hr : ∀ g, row = some g → B ≤ g) : SA w' B k A xs :=
  ⟨h.1.keep fun p hp => hg.cell_far p (by have := h.2; omega) (fun e => by have := hr _ e.symm; omega), Nat.le_trans h.2 hg.size⟩
theorem Own.block_ge (h : Own w base e k v xs) : ∀ g, v.ownBlock = some g → base ≤ g := fun g hg => (World.ownsRow.lt h g hg).1
theorem Own.block_lt (h : Own w base e k v xs) : ∀ g, v.ownBlock = some g → g < w.heap.size := fun g hg => (World.ownsRow.lt h g hg).2
theorem Own.ne_of_lt (h : Own w base e k v xs) (hb : b < base) : some b ≠ v.ownBlock := fun he => by have := h.block_ge b he.symm; omega
theorem Own.ne_of_ge (h : Own w base e k v xs) (hb : w.heap.size ≤ b) : some b ≠ v.ownBlock := fun he => by have := h.block_lt b he.symm; omega
theorem Own.only (h : Own w base e k v xs) (hne : some b ≠ v.ownBlock) (ho : Only b w w') : Own w' base e k v xs := by
  refine ⟨h.1, ?_⟩
  rcases h.2 with h' | ⟨g, cap, cur, hv, hb, hg, r⟩
  · exact .inl h'
  · refine .inr ⟨g, cap, cur, hv, hb, (ho.block g (fun e' => hne ?_)).trans hg, r⟩
    rw [hv, ← e']; rfl
theorem Own.next (h : Own w base e k v xs) (hb : Below w.heap.size w w') : Own w' base e k v xs := h.below hb
theorem Own.nil (w : World) (base e : Nat) (k : IntKind) : Own w base e k (.slice none 0 0) [] := World.ownsRow_nil _ _ _ _
end
/-- The worlds in which all that was in w is as it was. -/
def SinceH (w : World) : World → Prop := fun W => Below w.heap.size w W
section
variable {P : Program} {o : Oper} {a : Act} {K : Act → World → Prop} {Q : Exit → Act → World → Prop} {W : World} {base : Nat} {t e : TypeId} {k : IntKind} {bytes : Nat}
theorem wp_callE {f : FuncId} {args : Array Value} {V : Type} {g : V → Value} {R : V → World → Prop} (hc : Calls P f args W fun e w' => ∃ u, e = .returned (g u) ∧ R u w' ∧ Below W.heap.size W w') (hrun : (execOp a.eval o).run P W = .ok (.enter f args) W)
    {fa : V → Act} (ha : ∀ u, a.put o.dst (g u) = fa u) (h : ∀ u w', R u w' → Below W.heap.size W w' → K (fa u) w') : o.wp P a W K Q := by
  unfold Oper.wp
  rw [hrun]
  simp only [Oper.upon]
  exact hc.mono fun e w' ⟨u, he, hr, hb⟩ => by
    subst he
    have := h u w' hr hb
    rw [← ha] at this
    exact this
theorem wp_app1g (hE : Elem P t e k bytes) {v : Value} {xs : List Int} {y : Int} {g : Nat} (s x : Operand) (ho : o.op = .call { callee := .builtin .append, args := #[s, x], argTypes := #[t, t] })
    (hs : a.eval s = v) (hx : a.eval x = .slice (some ⟨g, 0, none⟩) 1 1) (hown : Own W base e k v xs) (hc : W.cell? ⟨g, 0, none⟩ = some (.int k y))
    (hlen : (xs.length + 1) * bytes ≤ 140737488355328) (h63 : xs.length + 1 ≤ 140737488355328) (hB : base ≤ W.heap.size) {fa : Value → Act} (ha : ∀ v', a.put o.dst v' = fa v')
    (h : ∀ v' w', Own w' base e k v' (xs ++ [y]) → W.grownBy w' v.ownBlock → K (fa v') w') : o.wp P a W K Q := by
  obtain ⟨i, hi, hz, h1, h2⟩ := hE.info
  refine wp_append_own _ s x t ho base e i (.int k 0) 1 bytes hE.under hi hz h1 h2 rfl (by omega) v xs.length (xs.map (.int k)) hs hown
    ⟨g, 0, none⟩ 1 1 [.int k y] hx rfl ?_ (ints_oneCell' k [y]) (by unfold maxLen; omega) hlen hB ?_
  · intro j u hj
    match j, hj with
    | 0, hj =>
      have : Value.int k y = u := by simpa using hj
      rw [← this]
      simpa [Addr.add] using hc
    | j + 1, hj => simp at hj
  · intro v' w' ho' hg _
    rw [ha]
    refine h v' w' ?_ hg
    unfold Own
    simpa using ho'
theorem wpl_app1g {ops : Array Oper} {rest : List Oper} {Q' : Exit → Act → World → Prop} (hE : Elem P t e k bytes) {v : Value} {xs : List Int} {y : Int} {g : Nat} (s x : Operand) (hgd : o.guard = none) (ho : o.op = .call { callee := .builtin .append, args := #[s, x], argTypes := #[t, t] })
    (hs : a.eval s = v) (hx : a.eval x = .slice (some ⟨g, 0, none⟩) 1 1) (hown : Own W base e k v xs) (hc : W.cell? ⟨g, 0, none⟩ = some (.int k y))
    (hlen : (xs.length + 1) * bytes ≤ 140737488355328) (h63 : xs.length + 1 ≤ 140737488355328) (hB : base ≤ W.heap.size)
    (h : ∀ v' w', Own w' base e k v' (xs ++ [y]) → W.grownBy w' v.ownBlock → wpList P ops Q' rest (a.put o.dst v') w') : wpList P ops Q' (o :: rest) a W :=
  wpList_plain hgd fun K hK => wp_app1g hE s x ho hs hx hown hc hlen h63 hB (fun _ => rfl) fun v' w' h1 h2 => hK _ _ (h v' w' h1 h2)
theorem wp_bslice1 (hE : Elem P t e k bytes) (x : Operand) (ho : o.op = .buildSlice t 1 #[(0, x)]) {y : Int} (hx : a.eval x = .int k y) {fa : Nat → Act} (ha : ∀ g, a.put o.dst (.slice (some ⟨g, 0, none⟩) 1 1) = fa g)
    (h : ∀ w' g, w'.cell? ⟨g, 0, none⟩ = some (.int k y) → Below W.heap.size W w' → K (fa g) w') : o.wp P a W K Q := by
  obtain ⟨i, hi, hz, h1, h2⟩ := hE.info
  have hrun : (Instr.buildSlice t 1 #[(0, .int k y)]).run P W = .ok (.slice (some ⟨W.heap.size, 0, none⟩) 1 1) (W.alloc (.cells #[.int k y] e)) := by
    simp [Instr.buildSlice, run_underlying hE.under, sizeOf, zeroValue, typeInfo, hi, hz, h1, Instr.fill, Value.cells, newRow]
    rw [show Array.range 1 = #[0] by decide +kernel]
    simp
  unfold Oper.wp execOp
  simp only [ho, Sem.run_bind, List.map_toArray, List.map_cons, List.map_nil, hx, hrun, Result.andThen_ok, Sem.run_pure]
  have hh := h (W.alloc (.cells #[.int k y] e)) W.heap.size (by simp) (bel_up (bel_self W) _)
  rw [← ha] at hh
  exact hh
end
end Go.Proofs.Ytnhdhjcpbonfjaa

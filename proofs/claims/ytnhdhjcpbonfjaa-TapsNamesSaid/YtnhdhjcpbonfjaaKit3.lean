/-
  An append of one integer in a region that draws its order. No conditions.
-/
import Derived.Test.YtnhdhjcpbonfjaaKit2
import Derived.Deep.RegionLaw
namespace Go.Proofs.Ytnhdhjcpbonfjaa
open Go.RowKit
set_option linter.unusedVariables false

theorem step_app1 {P : Program} {ops : Array Oper} {o : Oper} {a : Act} {K : Act → World → Prop} {Q : Exit → Act → World → Prop} {E : Prop} {W : World} {base : Nat} {t e : TypeId} {k : IntKind} {bytes : Nat} (hE : Elem P t e k bytes)
    {v : Value} {xs : List Int} {y : Int} {g : Nat} (s x : Operand) (ho : o.op = .call { callee := .builtin .append, args := #[s, x], argTypes := #[t, t] }) (hgd : o.guard = none)
    (hs : a.eval s = v) (hx : a.eval x = .slice (some ⟨g, 0, none⟩) 1 1) (hown : Own W base e k v xs) (hc : W.cell? ⟨g, 0, none⟩ = some (.int k y))
    (hlen : (xs.length + 1) * bytes ≤ 140737488355328) (h63 : xs.length + 1 ≤ 140737488355328) (hB : base ≤ W.heap.size)
    (h : ∀ v' w', Own w' base e k v' (xs ++ [y]) → Below base W w' → K (a.put o.dst v') w') :
    if Region.wanted o (yielded ops a.tmps) = true then Oper.wp P o a W K Q else E := by
  have hw : Region.wanted o (yielded ops a.tmps) = true := by simp [Region.wanted, hgd]
  rw [if_pos hw]
  obtain ⟨i, hi, hz, h1, h2⟩ := hE.info
  refine wp_append_own _ s x t ho base e i (.int k 0) 1 bytes hE.under hi hz h1 h2 rfl (by omega) v xs.length (xs.map (.int k)) hs hown
    ⟨g, 0, none⟩ 1 1 [.int k y] hx rfl ?_ (ints_oneCell' k [y]) (by unfold maxLen; omega) hlen hB ?_
  · intro j u hj
    match j, hj with
    | 0, hj =>
      have : Value.int k y = u := by simpa using hj
      rw [← this]
      simpa [Addr.add] using hc
    | j + 1, hj => simp at hj
  · intro v' w' ho' hg _
    refine h v' w' ?_ ?_
    · unfold Own
      simpa using ho'
    · exact (Below.refl base W).grown hg hB (fun g hg' => (World.ownsRow.lt hown g hg').1)
end Go.Proofs.Ytnhdhjcpbonfjaa

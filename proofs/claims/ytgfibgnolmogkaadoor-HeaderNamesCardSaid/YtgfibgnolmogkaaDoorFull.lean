/-
  append onto a slice that is full (a constant's bytes): a new row. No conditions.
-/
import Derived.Test.YtgfibgnolmogkaaDoorKit5
import Derived.Test.YtgfibgnolmogkaaDoorStr
import Derived.ArgAppend
namespace Go.Proofs.YtgfibgnolmogkaaDoor
open Go.RowKit
set_option linter.unusedVariables false

theorem Sl.adds {w : World} {B : Nat} {k : IntKind} {A : Option Addr} {xs : List Int} (h : Sl w B k A xs) {a : Addr} (ha : A = some a) (j : Nat) (u : Value) (hu : (xs.map (Value.int k))[j]? = some u) : w.cell? (a.add j) = some u := by
  have hj : j < xs.length := by
    rcases Nat.lt_or_ge j xs.length with hj | hj
    · exact hj
    · rw [List.getElem?_eq_none (by simpa using hj)] at hu
      cases hu
  obtain ⟨b, o', e', _, hc⟩ := h (by omega)
  rw [ha] at e'
  injection e' with e'
  subst e'
  rw [List.getElem?_map, List.getElem?_eq_getElem hj] at hu
  have hu' : Value.int k xs[j] = u := by simpa using hu
  have := hc j hj
  rw [List.getD_eq_getElem?_getD, List.getElem?_eq_getElem hj] at this
  rw [← hu']
  by_cases h0 : j = 0
  · subst h0; simpa [Addr.add] using this
  · simpa [Addr.add, h0] using this

theorem appFull {P : Program} {ops : Array Oper} {rest : List Oper} {o : Oper} {a : Act} {Q : Exit → Act → World → Prop} {wr : World} {t e : TypeId} {k : IntKind} {bytes : Nat} (hE : Elem P t e k bytes)
    {xs ys : List Int} {A A' : Option Addr} {B B' c n m : Nat} (s x : Operand) (ho : o.op = .call { callee := .builtin .append, args := #[s, x], argTypes := #[t, t] }) (hgd : o.guard = none)
    (hs : a.eval s = .slice A n n) (hn : xs.length = n) (hn0 : 0 < n) (hx : a.eval x = .slice A' m c) (hm : ys.length = m) (hm0 : 0 < m) (hS : Sl wr B k A xs) (hS' : Sl wr B' k A' ys)
    (hlen : (n + m) * bytes ≤ 140737488355328) (h63 : n + m ≤ 140737488355328)
    (h : ∀ v' w', Own w' wr.heap.size e k v' (xs ++ ys) → Below wr.heap.size wr w' → wpList P ops Q rest (a.put o.dst v') w') :
    wpList P ops Q (o :: rest) a wr := by
  obtain ⟨i, hi, hz, h1, h2⟩ := hE.info
  obtain ⟨b, off, hA, _, _⟩ := hS (by omega)
  obtain ⟨b', off', hA', _, _⟩ := hS' (by omega)
  subst hA hA'
  refine wpList_append_grows wr hgd s x t ho e i (.int k 0) 1 bytes hE.under hi hz h1 h2 rfl (by omega) (some ⟨b, off, none⟩) n n (xs.map (.int k)) hs (fun h => by cases h) (by simp; omega) (fun p hp j u hu => hS.adds hp j u hu)
    ⟨b', off', none⟩ m c (ys.map (.int k)) hx (by simp; omega) (fun j u hu => hS'.adds rfl j u hu) (ints_oneCell' k ys) (by omega) (by unfold maxLen; omega) hlen ?_
  intro v' w' ho' hg
  refine h v' w' ?_ ⟨hg.os, hg.tape, hg.output, hg.size, fun i hi => hg.block i hi (by simp)⟩
  unfold Own
  rw [List.length_append, hn, hm, List.map_append]
  exact ho'
end Go.Proofs.YtgfibgnolmogkaaDoor

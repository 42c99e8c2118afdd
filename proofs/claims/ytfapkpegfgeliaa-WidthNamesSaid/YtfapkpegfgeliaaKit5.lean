/-
  More small words: a part of a slice up to an index; cells below; nil rows. No conditions.
-/
import Derived.Test.YtfapkpegfgeliaaKit4
namespace Go.Proofs.Ytfapkpegfgeliaa
open Go.RowKit
set_option linter.unusedVariables false

theorem run_upto {P : Program} {t e : TypeId} {k : IntKind} {bytes : Nat} (hE : Elem P t e k bytes) (A : Option Addr) (m c n : Nat) {z : Int} (hz : z = (n : Int)) (hn : n ≤ c) (W : World) :
    (Instr.slice t (.slice A m c) none (some (.int .i64 z)) none).run P W = .ok (.slice A n c) W := by
  obtain ⟨i, hi, _, h1, _⟩ := hE.info
  subst hz
  simp [Instr.slice, run_underlying hE.under, Instr.sliceBounds, Instr.sliceBound, asIntOf, sizeOf, typeInfo, hi, hn, Sem.run_bind]
  cases A <;> simp [Addr.add]
theorem bcell5 {W w1 : World} (hb : Below W.heap.size W w1) (b o : Nat) (h : b < W.heap.size) : w1.cell? ⟨b, o, none⟩ = W.cell? ⟨b, o, none⟩ := hb.cell (p := ⟨b, o, none⟩) h
theorem own_nil5 (w : World) (base e : Nat) (k : IntKind) : Own w base e k (.slice none 0 0) [] := ⟨rfl, .inl ⟨rfl, rfl⟩⟩
theorem Sl.at5 {w : World} {B b : Nat} {k : IntKind} {xs : List Int} (h : Sl w B k (some ⟨b, 0, none⟩) xs) {i : Nat} (hi : i < xs.length) : b < B ∧ w.cell? ⟨b, i, none⟩ = some (.int k (xs.getD i 0)) := by
  obtain ⟨bb, oo, eo, hb, hc⟩ := h (by omega)
  injection eo with eo
  injection eo with eo1 eo2
  subst eo1 eo2
  have := hc i hi
  rw [Nat.zero_add] at this
  exact ⟨hb, this⟩
theorem quiet_left5 {P : Program} {f : FuncId} {args : Array Value} {w : World} {n : Nat} {v : Value}
    (h : Calls P f args (w.drewN n) fun e w' => e = .returned v ∧ w.drewN n = w') : Calls P f args (w.drewN n) fun e w'' => e = .returned v ∧ ∃ m, w'' = w.drewN m :=
  h.mono fun _ _ ⟨he, hm⟩ => ⟨he, n, hm.symm⟩
/-- append of a slice, its length under a name of its own -/
theorem appNh {P : Program} {ops : Array Oper} {rest : List Oper} {o : Oper} {a : Act} {Q : Exit → Act → World → Prop} {wr : World} {base : Nat} {t e : TypeId} {k : IntKind} {bytes : Nat} (hE : Elem P t e k bytes)
    {v : Value} {xs ys : List Int} {A : Option Addr} {B c n : Nat} (s x : Operand) (ho : o.op = .call { callee := .builtin .append, args := #[s, x], argTypes := #[t, t] }) (hgd : o.guard = none)
    (hs : a.eval s = v) (hx : a.eval x = .slice A n c) (hn : ys.length = n) (hown : Own wr base e k v xs) (hr : Sl wr B k A ys)
    (hlen : (xs.length + n) * bytes ≤ 140737488355328) (h63 : xs.length + n ≤ 140737488355328) (hB : base ≤ wr.heap.size)
    (h : ∀ v' w', Own w' base e k v' (xs ++ ys) → Below base wr w' → wpList P ops Q rest (a.put o.dst v') w') :
    wpList P ops Q (o :: rest) a wr := by
  subst hn
  exact appN hE s x ho hgd hs hx hown hr hlen h63 hB h
end Go.Proofs.Ytfapkpegfgeliaa

/-
  Blocks that are known whole (a struct's variable): what the operations on them leave. No conditions.
-/
import Derived.Test.YtfapkpegfgeliaaKit2
import Derived.Deep.MidRow
import Derived.Laws.StructEq
namespace Go.Proofs.Ytfapkpegfgeliaa
open Go.RowKit
set_option linter.unusedVariables false

/-- Block b holds just the cells cs of a variable of type t. -/
def Blk (w : World) (b : Nat) (t : TypeId) (cs : Array Value) : Prop := w.heap[b]? = some (.cells cs t (0, 0))
/-- Only block b has changed. -/
structure Only (b : Nat) (w w' : World) : Prop where
  os : w'.os = w.os
  tape : w'.tape = w.tape
  output : w'.output = w.output
  size : w'.heap.size = w.heap.size
  block : ∀ k, k ≠ b → w'.heap[k]? = w.heap[k]?

section
variable {w w' w0 : World} {b b' B : Nat} {t t' : TypeId} {cs c : Array Value}
theorem Blk.lt (h : Blk w b t cs) : b < w.heap.size := (Array.getElem?_eq_some_iff.1 h).1
theorem Blk.next (h : Blk w b t cs) (hb : Below w.heap.size w w') : Blk w' b t cs := (hb.block b h.lt).trans h
theorem Blk.cell (h : Blk w b t cs) (i : Nat) : w.cell? ⟨b, i, none⟩ = cs[i]? := cell_of_row w b i cs t (0, 0) h
theorem Blk.free (h : Blk w b t cs) (i : Nat) : w.frozen? ⟨b, i, none⟩ = false := frozen_of_row w b i cs t h
theorem Blk.new (w : World) (t : TypeId) (cs : Array Value) : Blk (w.alloc (.cells cs t)) w.heap.size t cs := heap_alloc_new w _
theorem Blk.up (h : Blk w b t cs) (o : Obj) : Blk (w.alloc o) b t cs := (Below.heap_alloc w o b h.lt).trans h
theorem Blk.set (h : Blk w b t cs) (i : Nat) (v : Value) : Blk (w.setCell ⟨b, i, none⟩ v) b t (cs.setIfInBounds i v) := heap_setCell_same w b i cs t v h
theorem Blk.drewN (h : Blk w b t cs) (n : Nat) : Blk (w.drewN n) b t cs := h
theorem Only.refl (b : Nat) (w : World) : Only b w w := ⟨rfl, rfl, rfl, rfl, fun _ _ => rfl⟩
theorem Only.trans {w1 w2 w3 : World} (h : Only b w1 w2) (k : Only b w2 w3) : Only b w1 w3 :=
  ⟨k.os.trans h.os, k.tape.trans h.tape, k.output.trans h.output, k.size.trans h.size, fun i hi => (k.block i hi).trans (h.block i hi)⟩
theorem Only.drewN (h : Only b w w') (n : Nat) : Only b w (w'.drewN n) := ⟨h.os, h.tape, h.output, h.size, h.block⟩
theorem Only.set (w : World) (b i : Nat) (v : Value) : Only b w (w.setCell ⟨b, i, none⟩ v) := by
  have h := (Below.refl b w).setCell (p := ⟨b, i, none⟩) (Nat.le_refl _) v
  exact ⟨h.os, h.tape, h.output, by simp [World.setCell], fun k hk => Below.heap_setCell w ⟨b, i, none⟩ v k hk⟩
theorem Only.sets (b : Nat) : ∀ (vs : List Value) (o : Nat) (w : World), Only b w (w.setCells b o vs)
  | [], _, w => Only.refl b w
  | v :: r, o, w => (Only.set w b o v).trans (Only.sets b r (o + 1) _)
theorem Only.bel (h : Only b w w') (hB : B ≤ b) (hb : Below B w0 w) : Below B w0 w' :=
  ⟨h.os.trans hb.os, h.tape.trans hb.tape, h.output.trans hb.output, by rw [h.size]; exact hb.size, fun k hk => (h.block k (by omega)).trans (hb.block k hk)⟩
theorem Blk.only (h : Blk w b' t cs) (hne : b' ≠ b) (ho : Only b w w') : Blk w' b' t cs := (ho.block b' hne).trans h
theorem Sl.only {k : IntKind} {A : Option Addr} {xs : List Int} (h : Sl w B k A xs) (hB : B ≤ b) (ho : Only b w w') : Sl w' B k A xs :=
  h.keep fun p hp => World.cell?_of_block (w := w) (ho.block p.block (by omega))
end

/-- cells laid over others from an offset on -/
def splA (cs : Array Value) : Nat → List Value → Array Value
  | _, [] => cs
  | o, v :: r => splA (cs.setIfInBounds o v) (o + 1) r
theorem splA_size : ∀ (vs : List Value) (cs : Array Value) (o : Nat), (splA cs o vs).size = cs.size
  | [], _, _ => rfl
  | v :: r, cs, o => by rw [splA, splA_size r]; simp
theorem splA_list : ∀ (vs : List Value) (cs : Array Value) (o : Nat), o + vs.length ≤ cs.size → (splA cs o vs).toList = cs.toList.take o ++ vs ++ cs.toList.drop (o + vs.length)
  | [], cs, o, _ => by simp [splA]
  | v :: r, cs, o, h => by
    simp only [List.length_cons] at h
    rw [splA, splA_list r _ (o + 1) (by simp; omega), Array.toList_setIfInBounds]
    have hl : o < cs.toList.length := by simp; omega
    rw [List.take_succ_eq_append_getElem (by simpa using hl), List.getElem_set_self, List.take_set_of_le (Nat.le_refl _), List.drop_set_of_lt (by omega)]
    simp only [List.length_cons, List.append_assoc, List.cons_append, List.nil_append]
    rw [show o + 1 + r.length = o + (r.length + 1) by omega]
theorem Blk.sets {b : Nat} {t : TypeId} : ∀ (vs : List Value) (o : Nat) (w : World) (cs : Array Value), Blk w b t cs → Blk (w.setCells b o vs) b t (splA cs o vs)
  | [], _, _, _, h => h
  | v :: r, o, w, cs, h => Blk.sets r (o + 1) _ _ (h.set o v)
theorem splA_whole (cs c : Array Value) (h : c.size = cs.size) : splA cs 0 c.toList = c := by
  apply Array.ext'
  rw [splA_list _ _ _ (by simp; omega)]
  have : cs.toList.drop (0 + c.toList.length) = [] := List.drop_of_length_le (by simp; omega)
  rw [this]; simp

section
variable {P : Program} {ops : Array Oper} {rest : List Oper} {o : Oper} {a : Act} {w : World} {Q : Exit → Act → World → Prop}
theorem blk_box (hg : o.guard = none) (t : TypeId) (x : Operand) (ho : o.op = .box t x) (cs : Array Value) (hx : a.eval x = .agg cs)
    (h : ∀ w' b, w.heap.size ≤ b → Blk w' b t cs → Below w.heap.size w w' → wpList P ops Q rest (a.put o.dst (.pointer (some ⟨b, 0, none⟩))) w') : wpList P ops Q (o :: rest) a w := by
  refine wpList_plain hg fun K hK => ?_
  unfold Oper.wp execOp
  simp only [ho, hx, Sem.run_bind, Instr.box, newVar, newRow, run_newObj_alloc, Sem.run_pure, Result.andThen_ok, Value.cells]
  exact hK _ _ (h _ _ (Nat.le_refl _) (Blk.new w t cs) (bel_up (bel_self w) _))

theorem blk_alloc (hg : o.guard = none) (t : TypeId) (ho : o.op = .alloc t) (cs : Array Value) (hz : (P.info? t).bind (·.zero) = some (.agg cs))
    (h : ∀ w' b, w.heap.size ≤ b → Blk w' b t cs → Below w.heap.size w w' → wpList P ops Q rest (a.put o.dst (.pointer (some ⟨b, 0, none⟩))) w') : wpList P ops Q (o :: rest) a w := by
  refine wpList_plain hg fun K hK => ?_
  cases hi : P.info? t with
  | none => simp [hi] at hz
  | some i =>
    simp only [hi, Option.bind_some] at hz
    unfold Oper.wp execOp
    simp only [ho, Sem.run_bind, Instr.alloc, zeroValue, typeInfo, hi, hz, run_program, newVar, newRow, run_newObj_alloc, Sem.run_pure, Result.andThen_ok, Value.cells]
    exact hK _ _ (h _ _ (Nat.le_refl _) (Blk.new w t cs) (bel_up (bel_self w) _))

theorem blk_load (hg : o.guard = none) (ty : TypeId) (x : Operand) (ho : o.op = .load ty x) (b off : Nat) (hx : a.eval x = .pointer (some ⟨b, off, none⟩))
    {t : TypeId} {cs : Array Value} (hb : Blk w b t cs) (c : Array Value) (hc : cs.extract off (off + c.size) = c) (d : TypeDesc) (hu : P.underlying ty = some d) (hd : d.isRow = true) (hi : (P.info? ty).map (·.size) = some c.size)
    (h : wpList P ops Q rest (a.put o.dst (.agg c)) w) : wpList P ops Q (o :: rest) a w := by
  have hr : w.rangeAt b off c.toList := by
    have := World.rangeAt_of_block hb off c.size
    rwa [hc] at this
  exact wpList_load_mid hg ty x ho b off hx c.toList d hr hu hd (by simpa using hi) (by simpa using h)

theorem blk_store (hg : o.guard = none) (ty : TypeId) (x y : Operand) (ho : o.op = .store ty x y) (b off : Nat) (hx : a.eval x = .pointer (some ⟨b, off, none⟩)) (c : Array Value) (hy : a.eval y = .agg c)
    {t : TypeId} {cs : Array Value} (hb : Blk w b t cs) (cs' : Array Value) (hcs : splA cs off c.toList = cs') (hf : off + c.size ≤ cs.size) (hi : (P.info? ty).map (·.size) = some c.size) (h1 : c.all (·.oneCell') = true)
    (h : ∀ w', Blk w' b t cs' → Only b w w' → wpList P ops Q rest (a.put o.dst undef) w') : wpList P ops Q (o :: rest) a w := by
  have ht : w.there b off c.size := fun j hj => ⟨by rw [hb.cell, Array.getElem?_eq_getElem (by omega)]; rfl, hb.free _⟩
  refine wpList_store_mid hg ty x y ho b off c hx hy ht hi h1 (h _ ?_ (Only.sets b _ _ _))
  have := Blk.sets c.toList off w cs hb
  rwa [hcs] at this
end

theorem results_cell_tmp {P : Program} {fn : Func} {r u : Tmp} {t : TypeId} (h : fn.results = #[.cell r t, .tmp u]) (tmps : Array Value) (w : World) {b : Nat} {cs : Array Value} (hr : tmps.getD r undef = .pointer (some ⟨b, 0, none⟩))
    (hb : Blk w b t cs) (d : TypeDesc) (hu : P.underlying t = some d) (hd : d.isRow = true) (hi : (P.info? t).map (·.size) = some cs.size) :
    (results fn tmps).run P w = .ok (.tuple #[.agg cs, tmps.getD u undef]) w := by
  have hl := run_loadVar_mid (P := P) w b 0 t cs.toList d (by have := World.rangeAt_of_block hb 0 cs.size; simpa using this) hu hd (by simpa using hi)
  simp only [Array.toArray_toList] at hl
  have hr' : tmps[r]?.getD undef = .pointer (some ⟨b, 0, none⟩) := by simpa using hr
  simp [results, h, hr', asAddr, hl]
theorem results_cell {P : Program} {fn : Func} {r : Tmp} {t : TypeId} (h : fn.results = #[.cell r t]) (tmps : Array Value) (w : World) {b : Nat} {cs : Array Value} (hr : tmps.getD r undef = .pointer (some ⟨b, 0, none⟩))
    (hb : Blk w b t cs) (d : TypeDesc) (hu : P.underlying t = some d) (hd : d.isRow = true) (hi : (P.info? t).map (·.size) = some cs.size) :
    (results fn tmps).run P w = .ok (.agg cs) w := by
  have hl := run_loadVar_mid (P := P) w b 0 t cs.toList d (by have := World.rangeAt_of_block hb 0 cs.size; simpa using this) hu hd (by simpa using hi)
  simp only [Array.toArray_toList] at hl
  have hr' : tmps[r]?.getD undef = .pointer (some ⟨b, 0, none⟩) := by simpa using hr
  simp [results, h, hr', asAddr, hl]
theorem results_tmp_cell_tmp {P : Program} {fn : Func} {v r u : Tmp} {t : TypeId} (h : fn.results = #[.tmp v, .cell r t, .tmp u]) (tmps : Array Value) (w : World) {b : Nat} {cs : Array Value} (hr : tmps.getD r undef = .pointer (some ⟨b, 0, none⟩))
    (hb : Blk w b t cs) (d : TypeDesc) (hu : P.underlying t = some d) (hd : d.isRow = true) (hi : (P.info? t).map (·.size) = some cs.size) :
    (results fn tmps).run P w = .ok (.tuple #[tmps.getD v undef, .agg cs, tmps.getD u undef]) w := by
  have hl := run_loadVar_mid (P := P) w b 0 t cs.toList d (by have := World.rangeAt_of_block hb 0 cs.size; simpa using this) hu hd (by simpa using hi)
  simp only [Array.toArray_toList] at hl
  have hr' : tmps[r]?.getD undef = .pointer (some ⟨b, 0, none⟩) := by simpa using hr
  simp [results, h, hr', asAddr, hl]
end Go.Proofs.Ytfapkpegfgeliaa

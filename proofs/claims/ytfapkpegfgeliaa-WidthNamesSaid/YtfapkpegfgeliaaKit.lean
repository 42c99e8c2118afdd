/-
  Small words of our own: a slice that reads as a list of integers, and what keeps it. No conditions.
-/
import Derived.Test.YtfapkpegfgeliaaRows
import Derived.WalkKit
import Derived.WalkSpells
import Derived.WalkLawsBesides
import Derived.Lib.Hide
import Derived.Deep.Draws
import Derived.Deep.AppendLies
import Derived.Maps.AppendAt
import Derived.Deep.QuietTactic
import Derived.BigQuiet
namespace Go.Proofs.Ytfapkpegfgeliaa
open Go.RowKit
set_option linter.unusedVariables false

/-- A slice with the address A holds the integers xs of kind k, below block B. -/
def Sl (w : World) (B : Nat) (k : IntKind) (A : Option Addr) (xs : List Int) : Prop :=
  0 < xs.length → ∃ b o, A = some ⟨b, o, none⟩ ∧ b < B ∧ ∀ i, i < xs.length → w.cell? ⟨b, o + i, none⟩ = some (.int k (xs.getD i 0))

def I32 (xs : List Int) : Prop := ∀ x ∈ xs, -2147483648 ≤ x ∧ x ≤ 2147483647
def U32 (xs : List Int) : Prop := ∀ x ∈ xs, 0 ≤ x ∧ x ≤ 4294967295
def U8 (xs : List Int) : Prop := ∀ x ∈ xs, 0 ≤ x ∧ x ≤ 255
def I64 (xs : List Int) : Prop := ∀ x ∈ xs, -9223372036854775808 ≤ x ∧ x ≤ 9223372036854775807

theorem mem_getD {xs : List Int} {i : Nat} (h : i < xs.length) : xs.getD i 0 ∈ xs := by
  rw [List.getD_eq_getElem?_getD, List.getElem?_eq_getElem h]
  exact List.getElem_mem h

theorem take_snoc (xs : List Int) (k : Nat) (h : k < xs.length) : xs.take (k + 1) = xs.take k ++ [xs.getD k 0] := by
  rw [List.take_succ_eq_append_getElem h, List.getD_eq_getElem?_getD, List.getElem?_eq_getElem h]
  rfl

section
variable {w w' : World} {B B' : Nat} {k : IntKind} {A : Option Addr} {xs : List Int}
theorem Sl.nil_ : Sl w B k A [] := fun h => absurd h (by simp)
theorem Sl.keep (h : Sl w B k A xs) (hk : ∀ p : Addr, p.block < B → w'.cell? p = w.cell? p) : Sl w' B k A xs := fun hn => by
  obtain ⟨b, o, e, hb, hc⟩ := h hn
  exact ⟨b, o, e, hb, fun i hi => (hk ⟨b, o + i, none⟩ hb).trans (hc i hi)⟩
theorem Sl.more (h : Sl w B k A xs) (hB : B ≤ B') : Sl w B' k A xs := fun hn => by
  obtain ⟨b, o, e, hb, hc⟩ := h hn
  exact ⟨b, o, e, by omega, hc⟩
theorem Sl.below (h : Sl w B k A xs) (hb : Below B w w') : Sl w' B k A xs := h.keep fun _ hp => hb.cell hp
theorem Sl.alloc (h : Sl w B k A xs) (hB : B ≤ w.heap.size) (o : Obj) : Sl (w.alloc o) B k A xs := h.keep fun p hp => World.cell?_alloc_lt w o p (by omega)
theorem Sl.drew (h : Sl w B k A xs) : Sl w.drew B k A xs := h
theorem Sl.drewN (h : Sl w B k A xs) (n : Nat) : Sl (w.drewN n) B k A xs := h
end

/-- A row of the call's own: the integers xs of kind k, element type e. -/
def Own (w : World) (base : Nat) (e : TypeId) (k : IntKind) (v : Value) (xs : List Int) : Prop :=
  w.ownsRow base e 1 v xs.length (xs.map (Value.int k))

theorem Own.sl {w : World} {base : Nat} {e : TypeId} {k : IntKind} {v : Value} {xs : List Int} (h : Own w base e k v xs) :
    ∃ A c, v = .slice A xs.length c ∧ xs.length ≤ c ∧ c ≤ maxLen ∧ Sl w w.heap.size k A xs := by
  rcases h.2 with ⟨rfl, hn⟩ | ⟨g, cap, cur, rfl, hb, hg, hc, hm, hsz, hcur⟩
  · exact ⟨none, 0, by rw [hn], by omega, by unfold maxLen; omega, fun h0 => by omega⟩
  · refine ⟨_, cap, rfl, hc, hm, fun _ => ⟨g, 0, rfl, (Array.getElem?_eq_some_iff.1 hg).1, fun i hi => ?_⟩⟩
    have h1 : w.cell? ⟨g, 0 + i, none⟩ = cur[i]? := by rw [Nat.zero_add]; exact cell_of_row w g i cur e (0, 0) hg
    rw [h1]
    have h2 : (cur.toList.take (xs.length * 1))[i]? = (xs.map (Value.int k))[i]? := by rw [hcur]
    rw [List.getElem?_take_of_lt (by omega), Array.getElem?_toList] at h2
    rw [h2, List.getElem?_map, List.getD_eq_getElem?_getD, List.getElem?_eq_getElem hi]
    rfl

theorem Own.sln {w : World} {base : Nat} {e : TypeId} {k : IntKind} {v : Value} {xs : List Int} {n : Nat} (h : Own w base e k v xs) (hn : xs.length = n) :
    ∃ A c, v = .slice A n c ∧ n ≤ c ∧ c ≤ 9223372036854775807 ∧ Sl w w.heap.size k A xs := by
  subst hn
  obtain ⟨A, c, h1, h2, h3, h4⟩ := h.sl
  exact ⟨A, c, h1, h2, by simpa only [maxLen] using h3, h4⟩

/-- A slice type t of elements e: integers of kind k, so many bytes each. -/
structure Elem (P : Program) (t e : TypeId) (k : IntKind) (bytes : Nat) : Prop where
  under : P.underlying t = some (.slice e)
  info : ∃ i : TypeInfo, P.info? e = some i ∧ i.zero = some (.int k 0) ∧ i.size = 1 ∧ i.bytes = bytes

theorem Elem.mk' {P : Program} {t e : TypeId} {k : IntKind} {bytes : Nat} (h : P.underlying t = some (.slice e))
    (hi : (P.info? e).map (fun i => (i.zero, i.size, i.bytes)) = some (some (.int k 0), 1, bytes)) : Elem P t e k bytes := by
  obtain ⟨i, h1, h2, h3, h4⟩ := info_parts hi
  exact ⟨h, i, h1, h2, h3, h4⟩

theorem ints_oneCell' (k : IntKind) (ys : List Int) : ∀ u ∈ ys.map (Value.int k), u.oneCell' = true := by
  intro u hu
  obtain ⟨y, _, rfl⟩ := List.mem_map.1 hu
  rfl

section
variable {P : Program}
/-- append of one integer onto a row of the call's own: what is left is the longer row, and that nothing below its base has changed. -/
theorem app1 {ops : Array Oper} {rest : List Oper} {o : Oper} {a : Act} {Q : Exit → Act → World → Prop} {wr : World} {base : Nat} {t e : TypeId} {k : IntKind} {bytes : Nat} (hE : Elem P t e k bytes)
    {v : Value} {xs : List Int} {y : Int} (s x : Operand) (ho : o.op = .call { callee := .builtin .append, args := #[s, x], argTypes := #[t, t] }) (hgd : o.guard = none)
    (hs : a.eval s = v) (hx : a.eval x = .slice (some ⟨wr.heap.size, 0, none⟩) 1 1) (hown : Own wr base e k v xs)
    (hlen : (xs.length + 1) * bytes ≤ 140737488355328) (h63 : xs.length + 1 ≤ 140737488355328) (hB : base ≤ wr.heap.size)
    (h : ∀ v' w', Own w' base e k v' (xs ++ [y]) → Below base wr w' → wpList P ops Q rest (a.put o.dst v') w') :
    wpList P ops Q (o :: rest) a (wr.alloc (.cells #[.int k y] e)) := by
  obtain ⟨i, hi, hz, h1, h2⟩ := hE.info
  refine wpList_append_own _ hgd s x t ho base e i (.int k 0) 1 bytes hE.under hi hz h1 h2 rfl (by omega) v xs.length (xs.map (.int k)) hs (World.ownsRow.alloc hown _)
    ⟨wr.heap.size, 0, none⟩ 1 1 [.int k y] hx rfl (cell_one_new _ _ _) (ints_oneCell' k [y]) (by unfold maxLen; omega) hlen (by simp; omega) ?_
  intro v' w' ho' hg _
  refine h v' w' ?_ ?_
  · unfold Own
    simpa using ho'
  · exact ((Below.refl base wr).alloc hB _).grown hg (by simp; omega) (fun g hg' => (World.ownsRow.lt hown g hg').1)

theorem run_append_of_nil (w : World) (base : Nat) (t ty e : TypeId) (i : TypeInfo) (size : Nat) (ht : P.underlying t = some (.slice e)) (hi : P.info? e = some i)
    (v : Value) (n : Nat) (xs : List Value) (hown : w.ownsRow base e size v n xs) (c : Nat) : (Builtin.append_ #[t, t] ty #[v, .slice none 0 c]).run P w = .ok v w := by
  rcases hown.2 with ⟨rfl, rfl⟩ | ⟨g, cap, cur, rfl, _, _, hnc, _⟩
  · simp [Builtin.append_, run_underlying ht, sizeOf, typeInfo, hi, Builtin.lenOf, Builtin.firstCells]
  · simp [Builtin.append_, run_underlying ht, sizeOf, typeInfo, hi, Builtin.lenOf, Builtin.firstCells, hnc, storeCells]

/-- append of a slice, nil or not, onto a row of the call's own. -/
theorem appN {ops : Array Oper} {rest : List Oper} {o : Oper} {a : Act} {Q : Exit → Act → World → Prop} {wr : World} {base : Nat} {t e : TypeId} {k : IntKind} {bytes : Nat} (hE : Elem P t e k bytes)
    {v : Value} {xs ys : List Int} {A : Option Addr} {B c : Nat} (s x : Operand) (ho : o.op = .call { callee := .builtin .append, args := #[s, x], argTypes := #[t, t] }) (hgd : o.guard = none)
    (hs : a.eval s = v) (hx : a.eval x = .slice A ys.length c) (hown : Own wr base e k v xs) (hr : Sl wr B k A ys)
    (hlen : (xs.length + ys.length) * bytes ≤ 140737488355328) (h63 : xs.length + ys.length ≤ 140737488355328) (hB : base ≤ wr.heap.size)
    (h : ∀ v' w', Own w' base e k v' (xs ++ ys) → Below base wr w' → wpList P ops Q rest (a.put o.dst v') w') :
    wpList P ops Q (o :: rest) a wr := by
  obtain ⟨i, hi, hz, h1, h2⟩ := hE.info
  have hrow : ∀ g, v.ownBlock = some g → base ≤ g := fun g hg' => (World.ownsRow.lt hown g hg').1
  rcases A with _ | ad
  · have hn : ys = [] := by
      rcases Nat.eq_zero_or_pos ys.length with h0 | h0
      · exact List.eq_nil_of_length_eq_zero h0
      · obtain ⟨_, _, e', _⟩ := hr h0
        cases e'
    subst hn
    refine wpList_plain hgd fun K hK => ?_
    unfold Oper.wp execOp
    have hrun := run_append_of_nil (P := P) wr base t o.type e i 1 hE.under hi v xs.length _ hown c
    simp only [ho, resolve, invoke, builtin, Sem.run_bind, Sem.run_pure, Result.andThen_ok, List.map_toArray, List.map_cons, List.map_nil, hs, hx, List.length_nil, hrun]
    exact hK _ _ (h v wr (by simpa using hown) (Below.refl _ _))
  · refine wpList_append_own _ hgd s x t ho base e i (.int k 0) 1 bytes hE.under hi hz h1 h2 rfl (by omega) v xs.length (xs.map (.int k)) hs hown
      ad ys.length c (ys.map (.int k)) hx (by simp) ?_ (ints_oneCell' k ys) (by unfold maxLen; omega) hlen hB ?_
    · intro j u hu
      have hj : j < ys.length := by
        rcases Nat.lt_or_ge j ys.length with hj | hj
        · exact hj
        · rw [List.getElem?_eq_none (by simpa using hj)] at hu
          cases hu
      obtain ⟨b, o', e', _, hc⟩ := hr (by omega)
      injection e' with e'
      subst e'
      rw [List.getElem?_map, List.getElem?_eq_getElem hj] at hu
      have hu' : Value.int k ys[j] = u := by simpa using hu
      have := hc j hj
      rw [List.getD_eq_getElem?_getD, List.getElem?_eq_getElem hj] at this
      rw [← hu']
      by_cases h0 : j = 0
      · subst h0; simpa [Addr.add] using this
      · simpa [Addr.add, h0] using this
    · intro v' w' ho' hg _
      refine h v' w' ?_ ?_
      · unfold Own
        simpa using ho'
      · exact (Below.refl base wr).grown hg hB hrow
end

theorem map_take_snoc (f : Int → Int) (xs : List Int) (k : Nat) (h : k < xs.length) : (xs.take (k + 1)).map f = (xs.take k).map f ++ [f (xs.getD k 0)] := by
  rw [take_snoc xs k h, List.map_append]; rfl
theorem below_drewN {B : Nat} {a w : World} (h : Below B a w) (n : Nat) : Below B a (w.drewN n) := ⟨h.os, h.tape, h.output, h.size, h.block⟩

/-- A block that was just laid, of integers written out. -/
theorem Sl.lit (w : World) (k : IntKind) (e : TypeId) (xs : List Int) {cs : Array Value} (hcs : cs = (xs.map (Value.int k)).toArray) :
    Sl (w.alloc (.cells cs e)) (w.heap.size + 1) k (some ⟨w.heap.size, 0, none⟩) xs := fun _ => by
  refine ⟨w.heap.size, 0, rfl, by omega, fun i hi => ?_⟩
  subst hcs
  have h1 : (w.alloc (.cells (xs.map (Value.int k)).toArray e)).heap[w.heap.size]? = some (.cells (xs.map (Value.int k)).toArray e (0, 0)) := heap_alloc_new w _
  rw [Nat.zero_add, cell_of_row _ _ _ _ _ _ h1]
  rw [List.getElem?_toArray, List.getElem?_map, List.getD_eq_getElem?_getD, List.getElem?_eq_getElem hi]
  rfl

/-- The cells of a new row of n zeros. -/
def zerosA (k : IntKind) (n : Nat) : Array Value := ((List.replicate n (0 : Int)).map (Value.int k)).toArray

theorem zerosA_size (k : IntKind) (n : Nat) : (zerosA k n).size = n := by simp [zerosA]

theorem madeCells_zeros (k : IntKind) (n : Nat) : madeCells (Value.int k 0).cells n = zerosA k n := by
  apply Array.ext
  · simp [madeCells, zerosA]
  · intro i h1 h2
    simp [madeCells, zerosA, Value.cells, Nat.mod_one]

/-- make of a row of integers: so many zeros, in a new block. -/
theorem run_make_ints {P : Program} {t e : TypeId} {k : IntKind} {bytes : Nat} (hE : Elem P t e k bytes) {z : Int} (n : Nat) (hz : z = (n : Int)) (hb : bytes * n ≤ 281474976710656) (h63 : n ≤ 9223372036854775807) (w : World) :
    (Instr.makeSlice t (.int .i64 z) (.int .i64 z)).run P w = .ok (.slice (some ⟨w.heap.size, 0, none⟩) n n) (w.alloc (.cells (zerosA k n) e)) := by
  obtain ⟨i, hi, hz0, h1, h2⟩ := hE.info
  subst hz
  have hb' : (i.bytes : Int) * (n : Int) ≤ 281474976710656 := by
    rw [h2]
    have h : ((bytes * n : Nat) : Int) ≤ 281474976710656 := by omega
    rwa [Int.natCast_mul] at h
  have hr := run_make (P := P) w t e i (.int k 0) hE.under hi hz0 .i64 .i64 (n : Int) (n : Int) (by omega) (by omega) hb' (by omega)
  rw [Int.toNat_natCast, h1, Nat.mul_one, madeCells_zeros] at hr
  exact hr

theorem Sl.zeros (w : World) (k : IntKind) (e : TypeId) (n : Nat) :
    Sl (w.alloc (.cells (zerosA k n) e)) (w.heap.size + 1) k (some ⟨w.heap.size, 0, none⟩) (List.replicate n 0) := Sl.lit w k e _ rfl

theorem size_alloc (w : World) (o : Obj) : (w.alloc o).heap.size = w.heap.size + 1 := by simp
theorem Sl.lit' (w : World) (k : IntKind) (e : TypeId) (xs : List Int) {cs : Array Value} (hcs : cs = (xs.map (Value.int k)).toArray) :
    Sl (w.alloc (.cells cs e)) (w.alloc (.cells cs e)).heap.size k (some ⟨w.heap.size, 0, none⟩) xs := by rw [size_alloc]; exact Sl.lit w k e xs hcs
theorem Sl.zeros' (w : World) (k : IntKind) (e : TypeId) (n : Nat) :
    Sl (w.alloc (.cells (zerosA k n) e)) (w.alloc (.cells (zerosA k n) e)).heap.size k (some ⟨w.heap.size, 0, none⟩) (List.replicate n 0) := Sl.lit' w k e _ rfl
theorem Sl.up {w : World} {k : IntKind} {A : Option Addr} {xs : List Int} (h : Sl w w.heap.size k A xs) (o : Obj) : Sl (w.alloc o) (w.alloc o).heap.size k A xs := (h.alloc (Nat.le_refl _) o).more (by simp)
theorem Sl.next {w w' : World} {k : IntKind} {A : Option Addr} {xs : List Int} (h : Sl w w.heap.size k A xs) (hb : Below w.heap.size w w') : Sl w' w'.heap.size k A xs := (h.below hb).more hb.size
theorem bel_up {w w' : World} (h : Below w.heap.size w w') (o : Obj) : Below w.heap.size w (w'.alloc o) := h.alloc h.size o
theorem bel_next {w w' w'' : World} (h : Below w.heap.size w w') (h' : Below w'.heap.size w' w'') : Below w.heap.size w w'' := h.trans (h'.mono h.size)
theorem bel_self (w : World) : Below w.heap.size w w := Below.refl _ _

/-- A row of the call's own, laid with its integers written out. -/
theorem Own.lit (w : World) (base : Nat) (k : IntKind) (e : TypeId) (xs : List Int) {cs : Array Value} {n : Nat} (hn : n = xs.length) (hcs : cs = (xs.map (Value.int k)).toArray) (hB : base ≤ w.heap.size) (hm : n ≤ maxLen) :
    Own (w.alloc (.cells cs e)) base e k (.slice (some ⟨w.heap.size, 0, none⟩) n n) xs := by
  subst hn hcs
  exact ⟨by simp, .inr ⟨w.heap.size, xs.length, _, rfl, hB, heap_alloc_new w _, Nat.le_refl _, hm, by simp, by simp [← List.map_take]⟩⟩

theorem Own.below {w w' : World} {base e : Nat} {k : IntKind} {v : Value} {xs : List Int} (h : Own w base e k v xs) (hb : Below w.heap.size w w') : Own w' base e k v xs :=
  World.ownsRow.kept (row := Option.none) h ⟨hb.os, hb.tape, hb.output, hb.size, fun i hi _ => hb.block i hi⟩ (by cases hv : v.ownBlock <;> simp)

theorem Own.alloc {w : World} {base e : Nat} {k : IntKind} {v : Value} {xs : List Int} (h : Own w base e k v xs) (o : Obj) : Own (w.alloc o) base e k v xs := World.ownsRow.alloc h o

theorem ret_int {k : IntKind} {a b : Int} (h : a = b) : Ending.returned (.int k a) = .returned (.int k b) := by rw [h]
theorem ret_bool {a b : Bool} (h : a = b) : Ending.returned (.bool a) = .returned (.bool b) := by rw [h]

end Go.Proofs.Ytfapkpegfgeliaa

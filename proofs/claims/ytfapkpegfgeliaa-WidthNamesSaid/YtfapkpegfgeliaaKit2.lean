/-
  More words of our own: stores into a row of the call's own; parts of slices. No conditions.
-/
import Derived.Test.YtfapkpegfgeliaaKit
namespace Go.Proofs.Ytfapkpegfgeliaa
open Go.RowKit
set_option linter.unusedVariables false

theorem Own.set {w : World} {base e : Nat} {k : IntKind} {g n c : Nat} {xs : List Int} (h : Own w base e k (.slice (some ⟨g, 0, none⟩) n c) xs) (i : Nat) (y : Int) :
    Own (w.setCell ⟨g, i, none⟩ (.int k y)) base e k (.slice (some ⟨g, 0, none⟩) n c) (xs.set i y) := by
  have hn : n = xs.length := by
    rcases h.2 with ⟨h', _⟩ | ⟨g', cap', cur, h', _⟩
    · simp at h'
    · simp only [Value.slice.injEq] at h'
      exact h'.2.1
  subst hn
  have := (World.ownsRow.stored h i (.int k y)).1
  unfold Own
  rw [List.map_set, List.length_set]
  exact this
theorem Own.cell {w : World} {base e : Nat} {k : IntKind} {g n c : Nat} {xs : List Int} (h : Own w base e k (.slice (some ⟨g, 0, none⟩) n c) xs) (i : Nat) (hi : i < xs.length) :
    w.cell? ⟨g, i, none⟩ = some (.int k (xs.getD i 0)) := by
  have hn : n = xs.length := by
    rcases h.2 with ⟨h', _⟩ | ⟨g', cap', cur, h', _⟩
    · simp at h'
    · simp only [Value.slice.injEq] at h'
      exact h'.2.1
  subst hn
  have := World.ownsRow.cellAt h i (by omega)
  rw [this, List.getElem?_map, List.getD_eq_getElem?_getD, List.getElem?_eq_getElem hi]
  rfl
theorem Own.frozen {w : World} {base e : Nat} {k : IntKind} {g n c : Nat} {xs : List Int} (h : Own w base e k (.slice (some ⟨g, 0, none⟩) n c) xs) (i : Nat) :
    w.frozen? ⟨g, i, none⟩ = false := by
  rcases h.2 with ⟨h', _⟩ | ⟨g', cap', cur, h', _, hg, _⟩
  · simp at h'
  · simp only [Value.slice.injEq, Option.some.injEq, Addr.mk.injEq, and_true] at h'
    obtain ⟨rfl, _, _⟩ := h'
    exact frozen_of_row w g i cur e hg
theorem Own.base_le {w : World} {base e : Nat} {k : IntKind} {g n c : Nat} {xs : List Int} (h : Own w base e k (.slice (some ⟨g, 0, none⟩) n c) xs) : base ≤ g :=
  (World.ownsRow.lt h g rfl).1
theorem Own.addr {w : World} {base e : Nat} {k : IntKind} {A : Option Addr} {n c : Nat} {xs : List Int} (h : Own w base e k (.slice A n c) xs) (h0 : 0 < xs.length) :
    ∃ g, A = some ⟨g, 0, none⟩ ∧ base ≤ g ∧ g < w.heap.size := by
  rcases h.2 with ⟨_, h'⟩ | ⟨g', cap', cur, h', hb, hg, _⟩
  · omega
  · simp only [Value.slice.injEq] at h'
    exact ⟨g', h'.1, hb, (Array.getElem?_eq_some_iff.1 hg).1⟩
theorem Own.rebase {w : World} {base base' e : Nat} {k : IntKind} {v : Value} {xs : List Int} (h : Own w base e k v xs) (hb : base' ≤ base) : Own w base' e k v xs := by
  refine ⟨h.1, ?_⟩
  rcases h.2 with h' | ⟨g', cap', cur, h', hb', r⟩
  · exact .inl h'
  · exact .inr ⟨g', cap', cur, h', by omega, r⟩

theorem Sl.take {w : World} {B : Nat} {k : IntKind} {A : Option Addr} {xs : List Int} (h : Sl w B k A xs) (n : Nat) : Sl w B k A (xs.take n) := fun hn => by
  rw [List.length_take] at hn
  obtain ⟨b, o, e, hb, hc⟩ := h (by omega)
  refine ⟨b, o, e, hb, fun i hi => ?_⟩
  rw [List.length_take] at hi
  rw [hc i (by omega), List.getD_eq_getElem?_getD, List.getD_eq_getElem?_getD, List.getElem?_take_of_lt (by omega)]
theorem Sl.drop {w : World} {B : Nat} {k : IntKind} {A : Option Addr} {xs : List Int} {cap : Nat} (h : Sl w B k A xs) (n : Nat) (hn : n ≤ xs.length) (hc : xs.length ≤ cap) :
    Sl w B k (if cap = n then A else A.map (·.add n)) (xs.drop n) := fun h0 => by
  rw [List.length_drop] at h0
  obtain ⟨b, o, e, hb, hcell⟩ := h (by omega)
  rw [if_neg (by omega)]
  subst e
  refine ⟨b, o + n, ?_, hb, fun i hi => ?_⟩
  · by_cases hn0 : n = 0
    · subst hn0; simp [Addr.add]
    · simp [Addr.add, hn0]
  · rw [List.length_drop] at hi
    rw [Nat.add_assoc, hcell (n + i) (by omega), List.getD_eq_getElem?_getD, List.getD_eq_getElem?_getD, List.getElem?_drop]
theorem Own.zeros (w : World) (base : Nat) (k : IntKind) (e : TypeId) (n : Nat) (hB : base ≤ w.heap.size) (hm : n ≤ 9223372036854775807) :
    Own (w.alloc (.cells (zerosA k n) e)) base e k (.slice (some ⟨w.heap.size, 0, none⟩) n n) (List.replicate n 0) :=
  Own.lit w base k e _ (List.length_replicate).symm rfl hB (by simpa only [maxLen] using hm)
theorem set_replicate (k m : Nat) (x : Int) (h : k < m) : (List.replicate k x ++ List.replicate (m - k) 0).set k x = List.replicate (k + 1) x ++ List.replicate (m - (k + 1)) 0 := by
  rw [List.set_append_right _ _ (by simp), List.length_replicate, Nat.sub_self, show m - k = (m - (k + 1)) + 1 by omega, List.replicate_succ, List.set_cons_zero, List.replicate_succ', List.append_assoc]
  rfl
end Go.Proofs.Ytfapkpegfgeliaa

/-
  How a slice of integers that came in reads, for the rows' last steps. No conditions.
-/
import Derived.Test.YtfapkpegfgeliaaKit
import Derived.ProofKit
import Derived.OpenShut
import Derived.ShutString
import Derived.ChangeOld
namespace Go.Proofs.Ytfapkpegfgeliaa
open Go.ChangeShapes Go.WideShapes Go.ChangeAt Go.RowKit

theorem own : ownKnob Try.prog.godebug = none := by kernel_rfl
theorem laidOut : laidOutB Try.prog = true := by kernel_rfl

theorem slice_arg {H : Type} {enc : TypeId × Value → H} {P : Program} {W : World} {t e : TypeId} {k : IntKind} {a0 : Option Addr} {len0 cap0 : Nat} {d : DataW H} {p : List MemPlace}
    (ht : P.underlying t = some (.slice e)) (he : P.underlying e = some (.int k)) (hc : P.cellsOf e = 1)
    (h : DataW.Trod enc P W 0 (fun _ => true) true t (.slice a0 len0 cap0) d p) :
    ∃ xs : List Int, xs.length = len0 ∧ len0 ≤ cap0 ∧ cap0 ≤ 9223372036854775807 ∧ (∀ x ∈ xs, (Lit.int k x).wf = true) ∧ Sl W W.heap.size k a0 xs := by
  obtain ⟨fuel, hf⟩ := h
  rcases open_ints ht he hc hf with ⟨hcs, _⟩ | ⟨x, l, c, zs, hcs, _, hl, hm, hz, _, hcell, hwz⟩
  · simp [Value.cells] at hcs
    obtain ⟨rfl, rfl, rfl⟩ := hcs
    exact ⟨[], rfl, Nat.le_refl _, by omega, by simp, Sl.nil_⟩
  · simp [Value.cells] at hcs
    obtain ⟨rfl, rfl, rfl⟩ := hcs
    simp at hz
    have hlen : (zs.take len0).length = len0 := by rw [List.length_take]; omega
    refine ⟨zs.take len0, hlen, hl, by simpa only [maxLen] using hm, fun y hy => hwz y (List.mem_of_mem_take hy), fun hn => ?_⟩
    rw [hlen] at hn
    have h0 := hcell 0 (by omega)
    obtain ⟨b, off, spot⟩ := x
    have hspot : spot = none := by simpa [Addr.add] using World.cell?_spot h0
    subst hspot
    refine ⟨b, off, rfl, World.block_lt_of_cell? W _ (by simpa [Addr.add] using h0), fun i hi => ?_⟩
    rw [hlen] at hi
    have := hcell i (by omega)
    rw [List.getD_eq_getElem?_getD, List.getElem?_take_of_lt hi, ← List.getD_eq_getElem?_getD]
    rw [← this]
    by_cases hi0 : i = 0
    · subst hi0; simp [Addr.add]
    · simp [Addr.add, hi0]

theorem i32_of {xs : List Int} (h : ∀ x ∈ xs, (Lit.int .i32 x).wf = true) : I32 xs := fun x hx => bounds_i32 (h x hx)
theorem u32_of {xs : List Int} (h : ∀ x ∈ xs, (Lit.int .u32 x).wf = true) : U32 xs := fun x hx => bounds_u32 (h x hx)
theorem u8_of {xs : List Int} (h : ∀ x ∈ xs, (Lit.int .u8 x).wf = true) : U8 xs := fun x hx => bounds_u8 (h x hx)
theorem i64_of {xs : List Int} (h : ∀ x ∈ xs, (Lit.int .i64 x).wf = true) : I64 xs := fun x hx => bounds_i64 (h x hx)
end Go.Proofs.Ytfapkpegfgeliaa

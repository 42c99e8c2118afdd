/-
  Parts of a slice behind an index. No conditions.
-/
import Derived.Test.YtfapkpegfgeliaaKit2
namespace Go.Proofs.Ytfapkpegfgeliaa
open Go.RowKit
set_option linter.unusedVariables false

theorem run_from {P : Program} {t e : TypeId} {k : IntKind} {bytes : Nat} (hE : Elem P t e k bytes) (A : Option Addr) (m c n : Nat) {z : Int} (hz : z = (n : Int)) (hn : n ≤ m) (W : World) :
    (Instr.slice t (.slice A m c) (some (.int .i64 z)) none none).run P W = .ok (.slice (if c = n then A else A.map (·.add n)) (m - n) (c - n)) W := by
  obtain ⟨i, hi, _, h1, _⟩ := hE.info
  subst hz
  simp [Instr.slice, run_underlying hE.under, Instr.sliceBounds, Instr.sliceBound, asIntOf, sizeOf, typeInfo, hi, h1, hn, Sem.run_bind]

/-- the part of a slice behind an index: some address, and what it holds -/
theorem from_ex {P : Program} {t e : TypeId} {k : IntKind} {bytes : Nat} (hE : Elem P t e k bytes) (A : Option Addr) (c n : Nat) (xs : List Int) (hn : n ≤ xs.length) (hc : xs.length ≤ c) :
    ∃ A', (∀ W, (Instr.slice t (.slice A xs.length c) (some (.int .i64 (n : Int))) none none).run P W = .ok (.slice A' (xs.length - n) (c - n)) W) ∧
      ∀ W B, Sl W B k A xs → Sl W B k A' (xs.drop n) :=
  ⟨_, run_from hE A _ c n rfl hn, fun _ _ h => h.drop n hn hc⟩
end Go.Proofs.Ytfapkpegfgeliaa

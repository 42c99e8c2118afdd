/-
  When two headers are equal. No conditions.
-/
import Derived.Test.YtgfibgnolmogkaaDoorHdRead2
import Derived.Laws.StructEq
namespace Go.Proofs.YtgfibgnolmogkaaDoor
open Go.RowKit
set_option linter.unusedVariables false

set_option maxRecDepth 100000 in
theorem hd_eq (x0 x1 x2 x3 x4 y0 y1 y2 y3 y4 : Int) (W : World) :
    (Op.equalIn 10000 23 (.agg #[.int .i64 x0, .int .i64 x1, .int .i64 x2, .int .i64 x3, .int .i64 x4]) (.agg #[.int .i64 y0, .int .i64 y1, .int .i64 y2, .int .i64 y3, .int .i64 y4])).run Tryd.prog W = .ok ((x0 == y0) && (x1 == y1) && (x2 == y2) && (x3 == y3) && (x4 == y4)) W := by
  rw [run_equalIn_struct W 9999 23 _ _ (by kernel_rfl) (by kernel_rfl)]
  have h := Tryd.underlying23
  have h2 : Tryd.prog.underlying 23 = some (.struct (Tryd.prog.fieldsOf 23)) := by kernel_rfl
  rw [h] at h2
  rw [← TypeDesc.struct.inj (Option.some.inj h2)]
  simp [Op.eqFields, go_sem]
  clear h h2
  by_cases h0 : x0 = y0 <;> by_cases h1 : x1 = y1 <;> by_cases h2 : x2 = y2 <;> by_cases h3 : x3 = y3 <;> by_cases h4 : x4 = y4 <;> simp_all
end Go.Proofs.YtgfibgnolmogkaaDoor

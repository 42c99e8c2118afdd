/-
  Channels' variables in drawn regions that only read; when two channels are the same. No conditions.
-/
import Derived.Test.YtgnmpkembcdkcaaQuietB
import Derived.Test.YtgnmpkembcdkcaaChn
namespace Go.Proofs.Ytgnmpkembcdkcaa
open Go.RowKit
set_option linter.unusedVariables false

section
variable {P : Program} {w : World} {ops : Array Oper} {Q : Act → Prop} {a : Act} {o : Oper} {rest : List Oper}
variable {b : Nat} {C T A E I : TypeId} {bt la sh : Int} {ts ps : List Int}
theorem qb_loadC (hC : ChnT P C T A E I) (hw : Region.wanted o (yielded ops a.tmps) = true) (x : Operand) (ho : o.op = .load C x) (hx : a.eval x = .pointer (some ⟨b, 0, none⟩)) (hb : CB w b C bt la sh ts ps)
    {a' : Act} (ha : a.put o.dst (.agg (cA bt la sh ts ps)) = a') (h : wpQuiet P ops (Since w) Q rest a') : wpQuiet P ops (Since w) Q (o :: rest) a := by
  obtain ⟨d, hu, hd⟩ := hC.row
  refine qb_val hw (fun W hW => ?_) ha h
  have hB : Blk W b C (cA bt la sh ts ps) := hb.1.next hW
  have hr : W.rangeAt b 0 (cA bt la sh ts ps).toList := by
    have := World.rangeAt_of_block hB 0 (cA bt la sh ts ps).size
    simpa using this
  have := run_loadAt_mid (P := P) W b 0 C (cA bt la sh ts ps).toList d hr hu hd (by simpa using chn_sz hC hb.2)
  simp only [execOp, ho, hx, Sem.run_bind, this, Result.andThen_ok, Sem.run_pure, Array.toArray_toList]
theorem chn_eqs (hC : ChnT P C T A E I) (hG : P.eqGuardType P.depth C = false) (hF : F16 ts ps) (x y : Operand) (W : World) :
    (do eqGuard .eql C x y (.agg (cA bt la sh ts ps)) (.agg (cA bt la sh ts ps)); binOp .eql C (.agg (cA bt la sh ts ps)) (.agg (cA bt la sh ts ps))).run P W = .ok (.bool true) W := by
  rw [Sem.run_bind, run_eqGuard_agg W .eql _ x y _ _ hG]
  simp only [Result.andThen_ok]
  rw [run_eql_struct, chn_eq hC W hF hF]
  simp
end
theorem eqgC : Try.prog.eqGuardType Try.prog.depth 26 = false := by kernel_rfl
end Go.Proofs.Ytgnmpkembcdkcaa

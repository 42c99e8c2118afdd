/-
  Plain: the results of a channel that has no sample before are what the filter leaves of what the shift leaves. No conditions.
-/
import Derived.Test.YtgnmpkembcdkcaaChPlain
namespace Go.Proofs.Ytgnmpkembcdkcaa
open Go.RowKit
set_option linter.unusedVariables false

theorem gC_ok {bt : Int} (h : shE bt = 0) (d : Int) : gC bt d = gF (shS bt) d := if_pos h
theorem both_run {bt sh : Int} (h : shE bt = 0) : ∀ (l : List Int) (d : Int) (st : St), runL (cO bt sh) (cN bt sh) ((d, st) : CS) l = runL (oF sh) (nF sh) st (fwd (shS bt) d l)
  | [], _, _ => rfl
  | x :: l, d, st => by
    have ih := both_run (sh := sh) h l x (nF sh st (wrap32 (x - gF (shS bt) d)))
    show cO bt sh (d, st) x :: runL (cO bt sh) (cN bt sh) (cN bt sh (d, st) x) l = oF sh st (wrap32 (x - gF (shS bt) d)) :: runL (oF sh) (nF sh) (nF sh st (wrap32 (x - gF (shS bt) d))) (fwd (shS bt) x l)
    rw [← ih]
    unfold cO cN
    simp only [gC_ok h]
theorem both_fin {bt sh : Int} (h : shE bt = 0) : ∀ (l : List Int) (d : Int) (st : St), finL (cN bt sh) ((d, st) : CS) l = (lastI d l, finL (nF sh) st (fwd (shS bt) d l))
  | [], _, _ => rfl
  | x :: l, d, st => by
    have ih := both_fin (sh := sh) h l x (nF sh st (wrap32 (x - gF (shS bt) d)))
    rw [lastI_cons]
    show finL (cN bt sh) (cN bt sh (d, st) x) l = (lastI x l, finL (nF sh) (nF sh st (wrap32 (x - gF (shS bt) d))) (fwd (shS bt) x l))
    rw [← ih]
    unfold cN
    simp only [gC_ok h]
end Go.Proofs.Ytgnmpkembcdkcaa

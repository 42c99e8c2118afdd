/-
  Steps of a channel, in plain integers and lists. No conditions.
-/
import Derived.Test.YtgnmpkembcdkcaaLmsWalks
import Derived.Test.YtgnmpkembcdkcaaChFirst
import Derived.Test.YtgnmpkembcdkcaaTapsNew
import Derived.Test.YtgnmpkembcdkcaaChn
namespace Go.Proofs.Ytgnmpkembcdkcaa
open Go.RowKit
set_option linter.unusedVariables false

/-- the error of a channel -/
def cnC (bt sh : Int) : Int := if nwE bt = 0 ∧ nwS bt = sh then 0 else 8
theorem cnC_ok {bt sh : Int} (h : cnC bt sh = 0) : nwE bt = 0 ∧ nwS bt = sh ∧ ckF sh = 0 ∧ shE bt = 0 ∧ (bt = 8 ∨ bt = 16 ∨ bt = 24) := by
  unfold cnC at h
  split at h
  · rename_i hh
    obtain ⟨h1, h2⟩ := hh
    refine ⟨h1, h2, ?_, ?_, nwE_ok h1⟩
    · subst h2; unfold nwS; split <;> decide
    · rcases nwE_ok h1 with rfl | rfl | rfl <;> decide
  · omega
theorem cnC_bad {bt sh : Int} (h : cnC bt sh ≠ 0) : cnC bt sh = 8 := by
  unfold cnC at h ⊢
  split at h
  · exact absurd rfl h
  · rename_i hh; rw [if_neg hh]

/-- the state of a channel: the sample before, and the filter's -/
abbrev CS := Int × St
def gC (bt la : Int) : Int := guR bt la
def cO (bt sh : Int) (c : CS) (x : Int) : Int := oF sh c.2 (wrap32 (x - gC bt c.1))
def cN (bt sh : Int) (c : CS) (x : Int) : CS := (x, nF sh c.2 (wrap32 (x - gC bt c.1)))
def cP (bt sh : Int) (c : CS) (y : Int) : Int := wrap32 (oB sh c.2 y + gC bt c.1)
def cM (bt sh : Int) (c : CS) (y : Int) : CS := (cP bt sh c y, nBk sh c.2 y)
def VC (c : CS) : Prop := G32 c.1 ∧ VS c.2
theorem g32_wrap (n : Int) : G32 (wrap32 n) := wrap32_bd n
theorem cN_v (bt sh : Int) (c : CS) (x : Int) (h : VC c) (hx : G32 x) : VC (cN bt sh c x) := ⟨hx, nF_v sh c.2 _ h.2 (g32_wrap _)⟩
theorem cM_v (bt sh : Int) (c : CS) (y : Int) (h : VC c) : VC (cM bt sh c y) := ⟨g32_wrap _, nB_v sh c.2 y h.2⟩
theorem cO_bd (bt sh : Int) (c : CS) (x : Int) : G32 (cO bt sh c x) := oF_bd _ _ _
theorem cP_bd (bt sh : Int) (c : CS) (x : Int) : G32 (cP bt sh c x) := g32_wrap _
theorem cP_cO (bt sh : Int) (c : CS) (x : Int) (hx : G32 x) : cP bt sh c (cO bt sh c x) = x := by
  unfold cP cO
  rw [oB_oF sh c.2 _ (g32_wrap _), wrap32_add_l, show x - gC bt c.1 + gC bt c.1 = x by omega, IntWalk.wrap32_in _ hx]
theorem cM_cO (bt sh : Int) (c : CS) (x : Int) (hx : G32 x) : cM bt sh c (cO bt sh c x) = cN bt sh c x := by
  unfold cM
  rw [cP_cO bt sh c x hx]
  unfold cO cN
  rw [nB_oF sh c.2 _ (g32_wrap _)]
theorem cO_cP (bt sh : Int) (c : CS) (y : Int) (hy : G32 y) : cO bt sh c (cP bt sh c y) = y := by
  unfold cP cO
  rw [wrap32_sub_l, show oB sh c.2 y + gC bt c.1 - gC bt c.1 = oB sh c.2 y by omega, IntWalk.wrap32_in _ (oB_bd sh c.2 y), oF_oB sh c.2 y hy]
theorem cN_cP (bt sh : Int) (c : CS) (y : Int) (hy : G32 y) : cN bt sh c (cP bt sh c y) = cM bt sh c y := by
  unfold cN cM
  rw [show wrap32 (cP bt sh c y - gC bt c.1) = oB sh c.2 y by
    unfold cP
    rw [wrap32_sub_l, show oB sh c.2 y + gC bt c.1 - gC bt c.1 = oB sh c.2 y by omega, IntWalk.wrap32_in _ (oB_bd sh c.2 y)], nF_oB sh c.2 y hy]
theorem guR_bd {bt la : Int} (h : G32 la) : G32 (guR bt la) := by
  unfold guR gF G32 at *
  split
  · split <;> omega
  · omega
end Go.Proofs.Ytgnmpkembcdkcaa

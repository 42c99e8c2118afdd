/-
  The walk of TapsNews. Conditions: numbers within their types.
-/
import Derived.Test.YtnhdhjcpbonfjaaRef14New
namespace Go.Proofs.Ytnhdhjcpbonfjaa
open Go.RowKit
set_option linter.unusedVariables false

theorem eq_flt (sh sh' : Int) (ts ps ts' ps' : List Int) (hF : F16 ts ps) (hF' : F16 ts' ps') (W : World) :
    (Op.equalIn 10000 24 (.agg (fA sh ts ps)) (.agg (fA sh' ts' ps'))).run Try.prog W = .ok ((sh == sh') && (ts == ts') && (ps == ps')) W :=
  flt.eq 9997 sh sh' ts ps ts' ps' W hF.1 hF.2 hF'.1 hF'.2

def nwTs (b : Int) (ts : List Int) : List Int := if nwE b = 0 then ts else z16
def nwSh (b : Int) : Int := if nwE b = 0 then nwS b else 0
theorem nwF_eq (b : Int) (ts : List Int) : nwF b ts = fA (nwSh b) (nwTs b ts) z16 := by
  unfold nwF nwSh nwTs; split <;> rfl
theorem nwTs_len (b : Int) {ts : List Int} (h : ts.length = 16) : (nwTs b ts).length = 16 := by
  unfold nwTs; split
  · exact h
  · rfl

set_option maxRecDepth 100000 in
set_option maxHeartbeats 1000000 in
theorem tapsNews_walk (b : Int) (ts : List Int) (w : World) (hb0 : -9223372036854775808 ≤ b) (hb1 : b ≤ 9223372036854775807) (hF : ts.length = 16) (ht : I32 ts) :
    Calls Try.prog 3 #[.int .i64 b, .agg (aA ts)] w fun e w' => e = .returned (.bool true) ∧ Below w.heap.size w w' := by
  have BB := Lib.hid (bel_self w)
  have C1 := Lib.hid (fun W => tnew_any b ts W hF)
  have C2 := Lib.hid (fun W => renew_any b ts W hF)
  rw [nwF_eq] at C1 C2
  have HG := Lib.hid (f16 (nwTs_len b hF) z16_len)
  have EQ := eq_flt (nwSh b) (nwSh b) (nwTs b ts) z16 (nwTs b ts) z16 HG.out HG.out
  simp only [beq_self_eq_true, Bool.and_self] at EQ
  have q1 : (nwE b == nwE b) = true := by simp
  generalize nwE b = e1 at *
  generalize nwSh b = s1 at *
  generalize nwTs b ts = t1 at *
  clear ht
  go_enter Try.func3, Try.ntmps3
  go_wp2_with (first
    | ((with_reducible refine arr_box (o := ⟨some 3, _, _, _, _, _⟩) flt rfl _ rfl rfl hF ?_); intro w1 bt hbt hBt bel1; have ot := Nat.le_trans BB.out.size hbt; have BB := Lib.hid (bel_next BB.out bel1); have Xt := Lib.hid hBt; clear bel1 hBt hbt)
    | (with_reducible refine arr_load (o := ⟨some 11, _, _, _, _, _⟩) flt rfl _ rfl rfl Xt.out ?_))
  refine (C1.out _).mono ?_
  rintro e w2 ⟨rfl, bel2⟩
  have Xt := Lib.hid (Xt.out.next bel2)
  have BB := Lib.hid (bel_next BB.out bel2)
  clear bel2
  go_wp2_with (first
    | ((with_reducible refine flt_alloc (o := ⟨some 5, _, _, _, _, _⟩) flt rfl rfl ?_); intro w3 ba hba hBa bel3; have q_t_a : bt < ba := Nat.lt_of_lt_of_le Xt.out.lt hba; have oa := Nat.le_trans BB.out.size hba; have Xt := Lib.hid (Xt.out.next bel3); have BB := Lib.hid (bel_next BB.out bel3); have Xa := Lib.hid hBa; clear bel3 hBa hba)
    | ((with_reducible refine flt_store flt rfl (.tmp 5) (.tmp 13) rfl rfl rfl Xa.out HG.out ?_); intro w4 hB4 onl4; have Xt := Lib.hid (Xt.out.only (by omega) onl4); have BB := Lib.hid (onl4.bel oa BB.out); have Xa := Lib.hid hB4; clear onl4 hB4)
    | (with_reducible refine arr_load (o := ⟨some 17, _, _, _, _, _⟩) flt rfl _ rfl rfl Xt.out ?_))
  refine (C2.out _).mono ?_
  rintro e w5 ⟨rfl, bel5⟩
  have Xt := Lib.hid (Xt.out.next bel5)
  have Xa := Lib.hid (Xa.out.next bel5)
  have BB := Lib.hid (bel_next BB.out bel5)
  clear bel5
  go_wp2_with (first
    | ((with_reducible refine flt_alloc (o := ⟨some 7, _, _, _, _, _⟩) flt rfl rfl ?_); intro w6 bb hbb hBb bel6; have q_t_b : bt < bb := Nat.lt_of_lt_of_le Xt.out.lt hbb; have q_a_b : ba < bb := Nat.lt_of_lt_of_le Xa.out.lt hbb; have ob := Nat.le_trans BB.out.size hbb; have Xt := Lib.hid (Xt.out.next bel6); have Xa := Lib.hid (Xa.out.next bel6); have BB := Lib.hid (bel_next BB.out bel6); have Xb := Lib.hid hBb; clear bel6 hBb hbb)
    | ((with_reducible refine flt_store flt rfl (.tmp 7) (.tmp 19) rfl rfl rfl Xb.out HG.out ?_); intro w7 hB7 onl7; have Xt := Lib.hid (Xt.out.only (by omega) onl7); have Xa := Lib.hid (Xa.out.only (by omega) onl7); have BB := Lib.hid (onl7.bel ob BB.out); have Xb := Lib.hid hB7; clear onl7 hB7)
    | (with_reducible refine flt_load (o := ⟨some 21, _, _, _, _, _⟩) flt rfl _ rfl rfl Xa.out ?_)
    | (with_reducible refine flt_load (o := ⟨some 22, _, _, _, _, _⟩) flt rfl _ rfl rfl Xb.out ?_))
  go_ret
  exact ⟨rfl, BB.out⟩
end Go.Proofs.Ytnhdhjcpbonfjaa

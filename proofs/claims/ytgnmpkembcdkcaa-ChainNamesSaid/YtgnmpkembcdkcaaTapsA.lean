/-
  What Check and Guess of package taps compute. Conditions: numbers within their types.
-/
import Derived.Test.YtgnmpkembcdkcaaTapsPlain
import Derived.Test.YtgnmpkembcdkcaaFlt2
import Derived.Test.YtgnmpkembcdkcaaKit3
namespace Go.Proofs.Ytgnmpkembcdkcaa
open Go.RowKit
set_option linter.unusedVariables false

theorem flt : FltT Try.prog 24 22 21 3 where
  flds := ⟨_, _, _, Try.underlying24, by decide, by decide, by decide, rfl, rfl, rfl, rfl, rfl, rfl⟩
  held := by kernel_rfl
  arr := Try.underlying22
  elt := Try.underlying21
  int := Try.underlying3
  size := by kernel_rfl
  asize := by kernel_rfl
  esize := by kernel_rfl
  zero := by kernel_rfl
  azero := by kernel_rfl
theorem fltI : (Try.prog.info? 3).map (·.size) = some 1 := by kernel_rfl

set_option maxHeartbeats 400000 in
theorem tcheck_any (sh : Int) (ts ps : List Int) (w : World) (hF : F16 ts ps) :
    Calls Try.prog 46 #[.agg (fA sh ts ps)] w fun e w' => e = .returned (.int .i64 (ckF sh)) ∧ Below w.heap.size w w' := by
  have BB := Lib.hid (bel_self w)
  by_cases h9 : sh = 9
  · subst h9
    go_enter Try.func46, Try.ntmps46
    go_wp2_with ((with_reducible refine blk_box rfl 24 _ rfl _ rfl ?_); intro w1 b hb hB bel; have c0 := (hB.cell 0).trans (fA_0 _ _ _); have BB := Lib.hid bel; clear bel hB)
    go_ret
    exact ⟨rfl, BB.out⟩
  · have q9 : (sh != 9) = true := by simp [h9]
    by_cases h10 : sh = 10
    · subst h10
      go_enter Try.func46, Try.ntmps46
      go_wp2_with ((with_reducible refine blk_box rfl 24 _ rfl _ rfl ?_); intro w1 b hb hB bel; have c0 := (hB.cell 0).trans (fA_0 _ _ _); have BB := Lib.hid bel; clear bel hB)
      go_ret
      exact ⟨rfl, BB.out⟩
    · have q10 : (sh != 10) = true := by simp [h10]
      have E := Lib.hid (show ckF sh = 8 from if_neg (by omega))
      clear h9 h10
      go_enter Try.func46, Try.ntmps46
      go_wp2_with ((with_reducible refine blk_box rfl 24 _ rfl _ rfl ?_); intro w1 b hb hB bel; have c0 := (hB.cell 0).trans (fA_0 _ _ _); have BB := Lib.hid bel; clear bel hB)
      go_ret
      exact ⟨ret_int E.out.symm, BB.out⟩

set_option maxHeartbeats 1000000 in
theorem tguess_bad (sh : Int) (ts ps : List Int) (w : World) (hF : F16 ts ps) (h : ckF sh ≠ 0) :
    Calls Try.prog 40 #[.agg (fA sh ts ps)] w fun e w' => e = .returned (.tuple #[.int .i32 0, .int .i64 (ckF sh)]) ∧ Below w.heap.size w w' := by
  have BB := Lib.hid (bel_self w)
  have CK := Lib.hid (fun W => tcheck_any sh ts ps W hF)
  have hq : (ckF sh != 0) = true := by simp [h]
  generalize ckF sh = ce at *
  clear h
  go_enter Try.func40, Try.ntmps40
  go_wp2_with (first
    | ((with_reducible refine flt_box (o := ⟨some 1, _, _, _, _, _⟩) flt rfl _ rfl rfl hF ?_); intro w1 bf hbf hBf bel1; have of := Nat.le_trans BB.out.size hbf; have BB := Lib.hid (bel_next BB.out bel1); have Xf := Lib.hid hBf; clear bel1 hBf hbf)
    | (with_reducible refine flt_load (o := ⟨some 8, _, _, _, _, _⟩) flt rfl _ rfl rfl Xf.out ?_))
  refine (CK.out _).mono ?_
  rintro e w2 ⟨rfl, bel2⟩
  have Xf := Lib.hid (Xf.out.next bel2)
  have BB := Lib.hid (bel_next BB.out bel2)
  clear bel2
  go_wp2_with fail
  go_ret2
  exact ⟨rfl, BB.out⟩
set_option maxHeartbeats 1000000 in
theorem tguess_9 (ts ps : List Int) (w : World) (hF : F16 ts ps) (ht : I32 ts) (hp : I32 ps) :
    Calls Try.prog 40 #[.agg (fA 9 ts ps)] w fun e w' => e = .returned (.tuple #[.int .i32 (gsV 9 ts ps), .int .i64 0]) ∧ Below w.heap.size w w' := by
  have BB := Lib.hid (bel_self w)
  have CK := Lib.hid (fun W => tcheck_any 9 ts ps W hF)
  rw [show ckF 9 = 0 from rfl] at CK
  have HT := Lib.hid ht
  have HP := Lib.hid hp
  have hl := Lib.hid hF.1
  clear ht hp
  go_enter Try.func40, Try.ntmps40
  go_wp2_with (first
    | ((with_reducible refine flt_box (o := ⟨some 1, _, _, _, _, _⟩) flt rfl _ rfl rfl hF ?_); intro w1 bf hbf hBf bel1; have of := Nat.le_trans BB.out.size hbf; have BB := Lib.hid (bel_next BB.out bel1); have Xf := Lib.hid hBf; clear bel1 hBf hbf)
    | (with_reducible refine flt_load (o := ⟨some 8, _, _, _, _, _⟩) flt rfl _ rfl rfl Xf.out ?_))
  refine (CK.out _).mono ?_
  rintro e w2 ⟨rfl, bel2⟩
  have Xf := Lib.hid (Xf.out.next bel2)
  have BB := Lib.hid (bel_next BB.out bel2)
  clear bel2
  have c0 := Xf.out.c0
  go_wp2_with (first
    | (with_reducible refine flt_loadT (o := ⟨some 18, _, _, _, _, _⟩) flt rfl _ rfl rfl Xf.out ?_))
  go_loop [5, 19] (fun s i => ∃ k : Nat, k ≤ 16 ∧ i = .int .i64 k ∧ s = .int .i32 (wrap32 (hlf 9 + dotTo ts ps k))) (fun _ i => 16 - (intOf i).toNat)
  case atStart => exact ⟨0, by omega, rfl, by simp [dotTo, hlf, wrap32]⟩
  case round =>
    obtain ⟨k, hk, rfl, rfl⟩ := hrel
    by_cases hlt : k < 16
    · have cp := Xf.out.cp hlt
      have b1 := getD_i32 HT.out k
      have b2 := getD_i32 HP.out k
      have HD := Lib.hid (show dotTo ts ps (k + 1) = dotTo ts ps k + ts.getD k 0 * ps.getD k 0 from rfl)
      generalize hT : ts.getD k 0 = t at *
      generalize ps.getD k 0 = p at *
      have HV := Lib.hid hT
      generalize dotTo ts ps k = dk at *
      have hkz : (k : Int) < 16 := by omega
      clear hT
      go_wp2_with (first
        | (with_reducible refine arr_idx (o := ⟨some 22, _, _, _, _, _⟩) flt rfl _ _ rfl rfl rfl hl.out hlt HV.out ?_))
      go_round
      case rel => exact ⟨k + 1, by omega, by go_num, by rw [HD.out, wrap32_add_r, wrap32_add_l, Int.add_assoc]⟩
      case measure => simp [intOf]; omega
    · obtain rfl : k = 16 := by omega
      have E := Lib.hid (show gsV 9 ts ps = wrap32 (hlf 9 + dotTo ts ps 16) / (2 * hlf 9) from rfl)
      generalize wrap32 (hlf 9 + dotTo ts ps 16) = z at *
      go_wp2_with fail
      go_ret2
      exact ⟨by rw [E.out]; rfl, BB.out⟩
set_option maxHeartbeats 1000000 in
theorem tguess_10 (ts ps : List Int) (w : World) (hF : F16 ts ps) (ht : I32 ts) (hp : I32 ps) :
    Calls Try.prog 40 #[.agg (fA 10 ts ps)] w fun e w' => e = .returned (.tuple #[.int .i32 (gsV 10 ts ps), .int .i64 0]) ∧ Below w.heap.size w w' := by
  have BB := Lib.hid (bel_self w)
  have CK := Lib.hid (fun W => tcheck_any 10 ts ps W hF)
  rw [show ckF 10 = 0 from rfl] at CK
  have HT := Lib.hid ht
  have HP := Lib.hid hp
  have hl := Lib.hid hF.1
  clear ht hp
  go_enter Try.func40, Try.ntmps40
  go_wp2_with (first
    | ((with_reducible refine flt_box (o := ⟨some 1, _, _, _, _, _⟩) flt rfl _ rfl rfl hF ?_); intro w1 bf hbf hBf bel1; have of := Nat.le_trans BB.out.size hbf; have BB := Lib.hid (bel_next BB.out bel1); have Xf := Lib.hid hBf; clear bel1 hBf hbf)
    | (with_reducible refine flt_load (o := ⟨some 8, _, _, _, _, _⟩) flt rfl _ rfl rfl Xf.out ?_))
  refine (CK.out _).mono ?_
  rintro e w2 ⟨rfl, bel2⟩
  have Xf := Lib.hid (Xf.out.next bel2)
  have BB := Lib.hid (bel_next BB.out bel2)
  clear bel2
  have c0 := Xf.out.c0
  go_wp2_with (first
    | (with_reducible refine flt_loadT (o := ⟨some 18, _, _, _, _, _⟩) flt rfl _ rfl rfl Xf.out ?_))
  go_loop [5, 19] (fun s i => ∃ k : Nat, k ≤ 16 ∧ i = .int .i64 k ∧ s = .int .i32 (wrap32 (hlf 10 + dotTo ts ps k))) (fun _ i => 16 - (intOf i).toNat)
  case atStart => exact ⟨0, by omega, rfl, by simp [dotTo, hlf, wrap32]⟩
  case round =>
    obtain ⟨k, hk, rfl, rfl⟩ := hrel
    by_cases hlt : k < 16
    · have cp := Xf.out.cp hlt
      have b1 := getD_i32 HT.out k
      have b2 := getD_i32 HP.out k
      have HD := Lib.hid (show dotTo ts ps (k + 1) = dotTo ts ps k + ts.getD k 0 * ps.getD k 0 from rfl)
      generalize hT : ts.getD k 0 = t at *
      generalize ps.getD k 0 = p at *
      have HV := Lib.hid hT
      generalize dotTo ts ps k = dk at *
      have hkz : (k : Int) < 16 := by omega
      clear hT
      go_wp2_with (first
        | (with_reducible refine arr_idx (o := ⟨some 22, _, _, _, _, _⟩) flt rfl _ _ rfl rfl rfl hl.out hlt HV.out ?_))
      go_round
      case rel => exact ⟨k + 1, by omega, by go_num, by rw [HD.out, wrap32_add_r, wrap32_add_l, Int.add_assoc]⟩
      case measure => simp [intOf]; omega
    · obtain rfl : k = 16 := by omega
      have E := Lib.hid (show gsV 10 ts ps = wrap32 (hlf 10 + dotTo ts ps 16) / (2 * hlf 10) from rfl)
      generalize wrap32 (hlf 10 + dotTo ts ps 16) = z at *
      go_wp2_with fail
      go_ret2
      exact ⟨by rw [E.out]; rfl, BB.out⟩
def gsR (sh : Int) (ts ps : List Int) : Int := if ckF sh = 0 then gsV sh ts ps else 0
theorem tguess_any (sh : Int) (ts ps : List Int) (w : World) (hF : F16 ts ps) (ht : I32 ts) (hp : I32 ps) :
    Calls Try.prog 40 #[.agg (fA sh ts ps)] w fun e w' => e = .returned (.tuple #[.int .i32 (gsR sh ts ps), .int .i64 (ckF sh)]) ∧ Below w.heap.size w w' := by
  unfold gsR
  by_cases h : ckF sh = 0
  · rw [if_pos h, h]
    rcases ckF_cases h with rfl | rfl
    · exact tguess_9 ts ps w hF ht hp
    · exact tguess_10 ts ps w hF ht hp
  · rw [if_neg h]
    exact tguess_bad sh ts ps w hF h
end Go.Proofs.Ytgnmpkembcdkcaa

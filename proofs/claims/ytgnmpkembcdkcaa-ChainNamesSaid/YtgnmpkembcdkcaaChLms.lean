/-
  What each, All and Undo of package lms compute. Conditions: numbers within their types.
-/
import Derived.Test.YtgnmpkembcdkcaaLmsWalks
import Derived.Test.YtgnmpkembcdkcaaChFirst
import Derived.Test.YtgnmpkembcdkcaaHeld2
import Derived.Deep.DeepCutAuto
namespace Go.Proofs.Ytgnmpkembcdkcaa
open Go.RowKit
set_option linter.unusedVariables false

set_option maxRecDepth 100000 in
set_option maxHeartbeats 2000000 in
theorem eachForward_ok (sh : Int) (s : St) (A : Option Addr) (n c : Nat) (xs : List Int) (w : World) (hlen : xs.length = n) (hv : VS s) (h : ckF sh = 0) (hn : n ≤ 4000) (hx : I32 xs) (hs : Sl w w.heap.size .i32 A xs) :
    Calls Try.prog 37 #[.agg (fA sh s.1 s.2), .slice A n c, .func (.func 30) #[] #[]] w fun e w' =>
      ∃ v, e = .returned (.tuple #[v, .agg (fA sh (finL (nF sh) s xs).1 (finL (nF sh) s xs).2), .int .i64 0]) ∧ Own w' w.heap.size 21 .i32 v (runL (oF sh) (nF sh) s xs) ∧ Below w.heap.size w w' := by
  subst hlen
  have BB := Lib.hid (bel_self w)
  have SX := Lib.hid (SA.of hs)
  have hF := hv.1
  have CK := Lib.hid (fun W => tcheck_any sh s.1 s.2 W hF)
  rw [h] at CK
  have CST := Lib.hid (fun q x W hq hx => lforward_ok sh q x W hq h hx)
  have HV := Lib.hid (fun k => show VS (finL (nF sh) s (xs.take k)) from finF_v sh s _ hv (fun x hx' => hx x (List.mem_of_mem_take hx')))
  have HX := Lib.hid hx
  have d1 : decide ((4000 : Int) < (xs.length : Int)) = false := by simp; omega
  clear h hs hx
  go_enter Try.func37, Try.ntmps37
  go_wp2_with (first
    | ((with_reducible refine flt_box (o := ⟨some 3, _, _, _, _, _⟩) flt rfl _ rfl rfl hF ?_); intro w1 bf hbf hBf bel1; have q_SX_f := Nat.le_trans SX.out.2 hbf; have of := Nat.le_trans BB.out.size hbf; have SX := Lib.hid (SX.out.next bel1); have BB := Lib.hid (bel_next BB.out bel1); have Xf := Lib.hid hBf; clear bel1 hBf hbf)
    | ((with_reducible refine flt_alloc (o := ⟨some 7, _, _, _, _, _⟩) flt rfl rfl ?_); intro w2 br hbr hBr bel2; have q_f_r : bf < br := Nat.lt_of_lt_of_le Xf.out.lt hbr; have q_SX_r := Nat.le_trans SX.out.2 hbr; have or := Nat.le_trans BB.out.size hbr; have SX := Lib.hid (SX.out.next bel2); have Xf := Lib.hid (Xf.out.next bel2); have BB := Lib.hid (bel_next BB.out bel2); have Xr := Lib.hid hBr; clear bel2 hBr hbr)
    | (with_reducible refine flt_load (o := ⟨some 16, _, _, _, _, _⟩) flt rfl _ rfl rfl Xf.out ?_))
  refine (CK.out _).mono ?_
  rintro e w3 ⟨rfl, bel3⟩
  have SX := Lib.hid (SX.out.next bel3)
  have Xf := Lib.hid (Xf.out.next bel3)
  have Xr := Lib.hid (Xr.out.next bel3)
  have BB := Lib.hid (bel_next BB.out bel3)
  clear bel3
  go_wp2_with fail
  have hbase : br < w3.heap.size := Xr.out.lt
  have hbs : w3.heap.size ≤ w3.heap.size := Nat.le_refl _
  have hw3 := BB.out.size
  go_loopw [10, 28] (fun v i wr => ∃ k : Nat, k ≤ xs.length ∧ i = .int .i64 k ∧ FB wr bf 24 sh (finL (nF sh) s (xs.take k)).1 (finL (nF sh) s (xs.take k)).2 ∧ FB wr br 24 0 z16 z16 ∧ Own wr w3.heap.size 21 .i32 v (runL (oF sh) (nF sh) s (xs.take k)) ∧ SA wr w.heap.size .i32 A xs ∧ Below w.heap.size w wr ∧ w3.heap.size ≤ wr.heap.size) (fun _ i _ => xs.length - (intOf i).toNat)
  case atStart => exact ⟨0, by omega, rfl, Xf.out, Xr.out, Own.nil _ _ _ _, SX.out, BB.out, Nat.le_refl _⟩
  case round =>
    obtain ⟨k, hk, rfl, hf, hr, hown, hsx, hb, hsz⟩ := hrel
    by_cases hlt : k < xs.length
    · obtain ⟨bb, o, rfl, hbb, hc⟩ := hsx.1 (by omega)
      have hcell := hc k hlt
      have b1 := HX.out _ (mem_getD hlt)
      have HR := Lib.hid ((congrArg (runL (oF sh) (nF sh) s) (take_snoc xs k hlt)).trans (runL_snoc s (xs.take k) (xs.getD k 0)))
      have HFI := Lib.hid ((congrArg (finL (nF sh) s) (take_snoc xs k hlt)).trans (finL_snoc s (xs.take k) (xs.getD k 0)))
      have HLN := Lib.hid (show (runL (oF sh) (nF sh) s (xs.take k)).length ≤ 4000 by rw [runL_len, List.length_take]; omega)
      have hvk := HV.out k
      have CS := Lib.hid (fun W => CST.out (finL (nF sh) s (xs.take k)) (xs.getD k 0) W hvk b1)
      have hvn := HV.out (k + 1)
      rw [HFI.out] at hvn
      have HVN := Lib.hid hvn.1
      generalize xs.getD k 0 = y at *
      have SX := Lib.hid hsx
      have Xf := Lib.hid hf
      have Xr := Lib.hid hr
      have Xo := Lib.hid hown
      have BB := Lib.hid hb
      have hkz : (k : Int) < (xs.length : Int) := by omega
      generalize runL (oF sh) (nF sh) s (xs.take k) = L at *
      generalize finL (nF sh) s (xs.take k) = q at *
      generalize hq1 : ((nF sh) q y).1 = n1 at *
      generalize hq2 : ((nF sh) q y).2 = n2 at *
      have HQ1 := Lib.hid hq1
      have HQ2 := Lib.hid hq2
      generalize (oF sh) q y = oy at *
      clear hc hsx hf hr hown hb hvn hq1 hq2 hvk
      obtain ⟨w4, rfl⟩ : ∃ w4, w4 = wr := ⟨_, rfl⟩
      have Z0 := Lib.hid (show Sz w4 w3.heap.size from hsz)
      go_wp2_with (first
        | (with_reducible refine flt_load (o := ⟨some 34, _, _, _, _, _⟩) flt rfl _ rfl rfl Xf.out ?_))
      refine (CS.out _).mono ?_
      rintro e w5 ⟨rfl, bel5⟩
      have Xf := Lib.hid (Xf.out.next bel5)
      have Xr := Lib.hid (Xr.out.next bel5)
      have SX := Lib.hid (SX.out.next bel5)
      have Xo := Lib.hid (Xo.out.next bel5)
      have Z0 := Lib.hid (Z0.out.next bel5)
      have BB := Lib.hid (bel_next BB.out bel5)
      clear bel5
      go_upto_region 11 with (first
        | ((with_reducible refine flt_alloc (o := ⟨some 14, _, _, _, _, _⟩) flt rfl rfl ?_); intro w6 bn hbn hBn bel6; have q_f_n : bf < bn := Nat.lt_of_lt_of_le Xf.out.lt hbn; have q_r_n : br < bn := Nat.lt_of_lt_of_le Xr.out.lt hbn; have q_SX_n := Nat.le_trans SX.out.2 hbn; have nq_Xo_n := Own.ne_of_ge Xo.out hbn; have on := Nat.le_trans BB.out.size hbn; have Xf := Lib.hid (Xf.out.next bel6); have Xr := Lib.hid (Xr.out.next bel6); have SX := Lib.hid (SX.out.next bel6); have Xo := Lib.hid (Xo.out.next bel6); have Z0 := Lib.hid (Z0.out.next bel6); have BB := Lib.hid (bel_next BB.out bel6); have Xn := Lib.hid hBn; clear bel6 hBn hbn)
        | ((with_reducible refine flt_store flt rfl (.tmp 14) (.tmp 38) rfl rfl rfl Xn.out HVN.out ?_); intro w7 hB7 onl7; have Xf := Lib.hid (Xf.out.only (by omega) onl7); have Xr := Lib.hid (Xr.out.only (by omega) onl7); have SX := Lib.hid (SX.out.only (by omega) onl7); have Xo := Lib.hid (Xo.out.only (nq_Xo_n) onl7); have Z0 := Lib.hid (Z0.out.only (by omega) onl7); have BB := Lib.hid (onl7.bel on BB.out); have Xn := Lib.hid hB7; clear onl7 hB7))
      have hne := nq_Xo_n
      have hbf3 : bf < w3.heap.size := by omega
      obtain ⟨wd, hwd⟩ : ∃ wd : World, wd = { w7 with drawn := w7.drawn + 1 } := ⟨_, rfl⟩
      have S0 : FB wd bn 24 sh n1 n2 := by rw [hwd]; exact Xn.out
      have Xf : Hid (FB wd bf 24 sh q.1 q.2) := by rw [hwd]; exact Xf
      have Xr : Hid (FB wd br 24 0 z16 z16) := by rw [hwd]; exact Xr
      have SX : Hid (SA wd w.heap.size .i32 (some ⟨bb, o, none⟩) xs) := by rw [hwd]; exact SX
      have Xo : Hid (Own wd w3.heap.size 21 .i32 u10 L) := by rw [hwd]; exact Xo
      have BB : Hid (Below w.heap.size w wd) := by rw [hwd]; exact BB.out.drew
      have hsz7 : w3.heap.size ≤ wd.heap.size := by rw [hwd]; exact Z0.out
      refine h_begin (S := fun W => FB W bn 24 sh n1 n2) (by kernel_rfl) rfl ?_
      rw [show ({ w7 with drawn := w7.drawn + 1 } : World) = wd from hwd.symm]
      clear hwd
      refine h_take 0 rfl (by kernel_rfl) (by kernel_rfl) (by kernel_rfl) (fun _ _ _ h => h) (y_pure rfl (fun W hW => by go_simp <;> rfl)) S0 rfl (by go_simp <;> rfl) ?_
      refine h_take 1 rfl (by kernel_rfl) (by kernel_rfl) (by kernel_rfl) (fun _ _ _ h => h) (y_pure rfl (fun W hW => by go_simp <;> rfl)) S0 rfl (by go_simp <;> rfl) ?_
      refine h_take 4 rfl (by kernel_rfl) (by kernel_rfl) (by kernel_rfl) (fun _ _ _ h => h) (y_load flt rfl _ rfl rfl (fun W hW => hW)) S0 rfl (by go_simp <;> rfl) ?_
      refine h_one 2 (by kernel_rfl) rfl rfl rfl ?_
      refine wp_bslice1 elI32 _ rfl rfl (fun g => by go_simp <;> rfl) ?_
      intro w8 g8 hg8 bel8
      have S1 := S0.next bel8
      have Xf := Lib.hid (Xf.out.next bel8)
      have Xr := Lib.hid (Xr.out.next bel8)
      have SX := Lib.hid (SX.out.next bel8)
      have Xo := Lib.hid (Xo.out.next bel8)
      have BB := Lib.hid (bel_next BB.out bel8)
      have hsz8 := Nat.le_trans hsz7 bel8.size
      clear bel8
      refine ⟨S1, ?_⟩
      refine h_one 3 (by kernel_rfl) rfl rfl rfl ?_
      refine wp_app1g elI32 _ _ rfl rfl rfl Xo.out hg8 (by have := HLN.out; omega) (by have := HLN.out; omega) hsz8 (fun v => by go_simp <;> rfl) ?_
      intro v9 w9 own9 gr9
      have S2 := S1.grown gr9 hne
      have Xf := Lib.hid (Xf.out.grown gr9 (Xo.out.ne_of_lt hbf3))
      have Xr := Lib.hid (Xr.out.grown gr9 (Xo.out.ne_of_lt hbase))
      have SX := Lib.hid (SX.out.grown gr9 (fun g hg => Nat.le_trans hw3 (Xo.out.block_ge g hg)))
      have BB := Lib.hid (BB.out.grown gr9 BB.out.size (fun g hg => Nat.le_trans hw3 (Xo.out.block_ge g hg)))
      have hsz9 := Nat.le_trans hsz8 gr9.size
      have Xo := Lib.hid own9
      clear own9 gr9
      refine ⟨S2, ?_⟩
      refine h_take 5 rfl (by kernel_rfl) (by kernel_rfl) (by kernel_rfl) (fun _ _ _ h => h) (y_pure rfl (fun W hW => by go_simp <;> rfl)) S2 rfl (by go_simp <;> rfl) ?_
      refine h_one 6 (by kernel_rfl) rfl rfl rfl ?_
      refine wp_flt_store flt _ _ rfl rfl rfl Xf.out HVN.out (by go_simp <;> rfl) ?_
      intro w10 hB10 onl10
      refine ⟨S2.only (by omega) onl10, ?_⟩
      have Xr := Lib.hid (Xr.out.only (by omega) onl10)
      have SX := Lib.hid (SX.out.only (by omega) onl10)
      have Xo := Lib.hid (Xo.out.only (Xo.out.ne_of_lt hbf3) onl10)
      have BB := Lib.hid (onl10.bel of BB.out)
      have hsz10 : w3.heap.size ≤ w10.heap.size := by rw [onl10.size]; exact hsz9
      clear onl10 S2 S1 S0
      refine h_done (by kernel_rfl) ?_
      go_wp2_with fail
      have XO := Xo.out
      rw [← HR.out] at XO
      rw [← HQ1.out, ← HQ2.out, ← HFI.out] at hB10
      go_roundw
      case rel => exact ⟨k + 1, by omega, by go_num, hB10, Xr.out, XO, SX.out, BB.out, hsz10⟩
      case measure => simp [intOf]; omega
    · obtain rfl : k = xs.length := by omega
      rw [List.take_of_length_le (Nat.le_refl _)] at hf hown
      have Xf := Lib.hid hf
      have Xr := Lib.hid hr
      have Xo := Lib.hid hown
      have BB := Lib.hid hb
      have hvn := HV.out xs.length
      rw [List.take_of_length_le (Nat.le_refl _)] at hvn
      have HVN := Lib.hid hvn.1
      have hbf3 : bf < w3.heap.size := by omega
      generalize hL : runL (oF sh) (nF sh) s xs = L at *
      generalize hN1 : (finL (nF sh) s xs).1 = n1 at *
      generalize hN2 : (finL (nF sh) s xs).2 = n2 at *
      have HL := Lib.hid hL
      have HN1 := Lib.hid hN1
      have HN2 := Lib.hid hN2
      clear hf hr hown hb hsx hvn hL hN1 hN2
      go_upto_region 13 with fail
      obtain ⟨wd, hwd⟩ : ∃ wd : World, wd = { wr with drawn := wr.drawn + 1 } := ⟨_, rfl⟩
      have S0 : FB wd bf 24 sh n1 n2 := by rw [hwd]; exact Xf.out
      have Xr : Hid (FB wd br 24 0 z16 z16) := by rw [hwd]; exact Xr
      have Xo : Hid (Own wd w3.heap.size 21 .i32 u10 L) := by rw [hwd]; exact Xo
      have BB : Hid (Below w.heap.size w wd) := by rw [hwd]; exact BB.out.drew
      refine h_begin (S := fun W => FB W bf 24 sh n1 n2) (by kernel_rfl) rfl ?_
      rw [show ({ wr with drawn := wr.drawn + 1 } : World) = wd from hwd.symm]
      clear hwd
      refine h_take 0 rfl (by kernel_rfl) (by kernel_rfl) (by kernel_rfl) (fun _ _ _ h => h) (y_pure rfl (fun W hW => by go_simp <;> rfl)) S0 rfl (by go_simp <;> rfl) ?_
      refine h_take 1 rfl (by kernel_rfl) (by kernel_rfl) (by kernel_rfl) (fun _ _ _ h => h) (y_load flt rfl _ rfl rfl (fun W hW => hW)) S0 rfl (by go_simp <;> rfl) ?_
      refine h_take 2 rfl (by kernel_rfl) (by kernel_rfl) (by kernel_rfl) (fun _ _ _ h => h) (y_pure rfl (fun W hW => by go_simp <;> rfl)) S0 rfl (by go_simp <;> rfl) ?_
      refine h_one 3 (by kernel_rfl) rfl rfl rfl ?_
      refine wp_flt_store flt _ _ rfl rfl rfl Xr.out HVN.out (by go_simp <;> rfl) ?_
      intro w10 hB10 onl10
      have S1 := S0.only (by omega) onl10
      have Xo := Lib.hid (Xo.out.only (Xo.out.ne_of_lt hbase) onl10)
      have BB := Lib.hid (onl10.bel or BB.out)
      clear onl10
      refine ⟨S1, ?_⟩
      refine h_take 4 rfl (by kernel_rfl) (by kernel_rfl) (by kernel_rfl) (fun _ _ _ h => h) (y_pure rfl (fun W hW => by go_simp <;> rfl)) S1 rfl (by go_simp <;> rfl) ?_
      refine h_done (by kernel_rfl) ?_
      go_wp2_with fail
      exact bodyPost_ret (flt_res2 flt rfl _ _ rfl hB10) rfl ⟨u10, by rw [HN1.out, HN2.out]; rfl, by rw [HL.out]; exact Xo.out.rebase hw3, BB.out⟩
set_option maxHeartbeats 1000000 in
theorem eachForward_bad (sh : Int) (s : St) (A : Option Addr) (n c : Nat) (w : World) (hv : VS s) (h : ckF sh ≠ 0) :
    Calls Try.prog 37 #[.agg (fA sh s.1 s.2), .slice A n c, .func (.func 30) #[] #[]] w fun e w' =>
      e = .returned (.tuple #[.slice none 0 0, .agg (fA 0 z16 z16), .int .i64 (ckF sh)]) ∧ Below w.heap.size w w' := by
  have BB := Lib.hid (bel_self w)
  have hF := hv.1
  have CK := Lib.hid (fun W => tcheck_any sh s.1 s.2 W hF)
  have hq : (ckF sh != 0) = true := by simp [h]
  generalize ckF sh = ce at *
  clear h hv
  go_enter Try.func37, Try.ntmps37
  go_wp2_with (first
    | ((with_reducible refine flt_box (o := ⟨some 3, _, _, _, _, _⟩) flt rfl _ rfl rfl hF ?_); intro w1 bf hbf hBf bel1; have of := Nat.le_trans BB.out.size hbf; have BB := Lib.hid (bel_next BB.out bel1); have Xf := Lib.hid hBf; clear bel1 hBf hbf)
    | ((with_reducible refine flt_alloc (o := ⟨some 7, _, _, _, _, _⟩) flt rfl rfl ?_); intro w2 br hbr hBr bel2; have q_f_r : bf < br := Nat.lt_of_lt_of_le Xf.out.lt hbr; have or := Nat.le_trans BB.out.size hbr; have Xf := Lib.hid (Xf.out.next bel2); have BB := Lib.hid (bel_next BB.out bel2); have Xr := Lib.hid hBr; clear bel2 hBr hbr)
    | (with_reducible refine flt_load (o := ⟨some 16, _, _, _, _, _⟩) flt rfl _ rfl rfl Xf.out ?_))
  refine (CK.out _).mono ?_
  rintro e w3 ⟨rfl, bel3⟩
  have Xf := Lib.hid (Xf.out.next bel3)
  have Xr := Lib.hid (Xr.out.next bel3)
  have BB := Lib.hid (bel_next BB.out bel3)
  clear bel3
  go_wp2_with (first
    | (with_reducible refine flt_bld0 (o := ⟨some 20, _, _, _, _, _⟩) flt fltI rfl rfl ?_)
    | ((with_reducible refine flt_store flt rfl (.tmp 7) (.tmp 20) rfl rfl rfl Xr.out f16z ?_); intro w4 hB4 onl4; have Xf := Lib.hid (Xf.out.only (by omega) onl4); have BB := Lib.hid (onl4.bel or BB.out); have Xr := Lib.hid hB4; clear onl4 hB4))
  exact bodyPost_ret (flt_res2 flt rfl _ _ rfl Xr.out) rfl ⟨rfl, BB.out⟩
set_option maxHeartbeats 1000000 in
theorem eachForward_many (sh : Int) (s : St) (A : Option Addr) (n c : Nat) (w : World) (hv : VS s) (h : ckF sh = 0) (hn : 4000 < n) (hm : n ≤ 9223372036854775807) :
    Calls Try.prog 37 #[.agg (fA sh s.1 s.2), .slice A n c, .func (.func 30) #[] #[]] w fun e w' =>
      e = .returned (.tuple #[.slice none 0 0, .agg (fA 0 z16 z16), .int .i64 4]) ∧ Below w.heap.size w w' := by
  have BB := Lib.hid (bel_self w)
  have hF := hv.1
  have CK := Lib.hid (fun W => tcheck_any sh s.1 s.2 W hF)
  rw [h] at CK
  have d1 : decide ((4000 : Int) < (n : Int)) = true := by simp; omega
  clear h hv
  go_enter Try.func37, Try.ntmps37
  go_wp2_with (first
    | ((with_reducible refine flt_box (o := ⟨some 3, _, _, _, _, _⟩) flt rfl _ rfl rfl hF ?_); intro w1 bf hbf hBf bel1; have of := Nat.le_trans BB.out.size hbf; have BB := Lib.hid (bel_next BB.out bel1); have Xf := Lib.hid hBf; clear bel1 hBf hbf)
    | ((with_reducible refine flt_alloc (o := ⟨some 7, _, _, _, _, _⟩) flt rfl rfl ?_); intro w2 br hbr hBr bel2; have q_f_r : bf < br := Nat.lt_of_lt_of_le Xf.out.lt hbr; have or := Nat.le_trans BB.out.size hbr; have Xf := Lib.hid (Xf.out.next bel2); have BB := Lib.hid (bel_next BB.out bel2); have Xr := Lib.hid hBr; clear bel2 hBr hbr)
    | (with_reducible refine flt_load (o := ⟨some 16, _, _, _, _, _⟩) flt rfl _ rfl rfl Xf.out ?_))
  refine (CK.out _).mono ?_
  rintro e w3 ⟨rfl, bel3⟩
  have Xf := Lib.hid (Xf.out.next bel3)
  have Xr := Lib.hid (Xr.out.next bel3)
  have BB := Lib.hid (bel_next BB.out bel3)
  clear bel3
  go_wp2_with (first
    | (with_reducible refine flt_bld0 (o := ⟨some 25, _, _, _, _, _⟩) flt fltI rfl rfl ?_)
    | ((with_reducible refine flt_store flt rfl (.tmp 7) (.tmp 25) rfl rfl rfl Xr.out f16z ?_); intro w4 hB4 onl4; have Xf := Lib.hid (Xf.out.only (by omega) onl4); have BB := Lib.hid (onl4.bel or BB.out); have Xr := Lib.hid hB4; clear onl4 hB4))
  exact bodyPost_ret (flt_res2 flt rfl _ _ rfl Xr.out) rfl ⟨rfl, BB.out⟩
def alE (sh : Int) (n : Nat) : Int := if ckF sh = 0 then (if 4000 < n then 4 else 0) else ckF sh
def alSh (sh : Int) (n : Nat) : Int := if alE sh n = 0 then sh else 0
def alL {S : Type} (o : S → Int → Int) (n : S → Int → S) (sh : Int) (s : S) (xs : List Int) : List Int := if alE sh xs.length = 0 then runL o n s xs else []
def alS (n : St → Int → St) (sh : Int) (s : St) (xs : List Int) : St := if alE sh xs.length = 0 then finL n s xs else (z16, z16)
theorem alE_ok {sh : Int} {n : Nat} (h : ckF sh = 0) (hn : n ≤ 4000) : alE sh n = 0 := by unfold alE; rw [if_pos h, if_neg (by omega)]
theorem alE_zero {sh : Int} {n : Nat} (h : alE sh n = 0) : ckF sh = 0 ∧ n ≤ 4000 := by
  unfold alE at h; split at h
  · split at h
    · omega
    · exact ⟨by assumption, by omega⟩
  · exact absurd h (by assumption)

theorem eachForward_any (sh : Int) (s : St) (A : Option Addr) (n c : Nat) (xs : List Int) (w : World) (hlen : xs.length = n) (hv : VS s) (hm : n ≤ 9223372036854775807) (hx : I32 xs) (hs : Sl w w.heap.size .i32 A xs) :
    Calls Try.prog 37 #[.agg (fA sh s.1 s.2), .slice A n c, .func (.func 30) #[] #[]] w fun e w' =>
      ∃ v, e = .returned (.tuple #[v, .agg (fA (alSh sh n) (alS (nF sh) sh s xs).1 (alS (nF sh) sh s xs).2), .int .i64 (alE sh n)]) ∧ Own w' w.heap.size 21 .i32 v (alL (oF sh) (nF sh) sh s xs) ∧ Below w.heap.size w w' := by
  subst hlen
  by_cases h : alE sh xs.length = 0
  · obtain ⟨h1, h2⟩ := alE_zero h
    rw [h, show alSh sh xs.length = sh from if_pos h, show alS (nF sh) sh s xs = _ from if_pos h, show alL (oF sh) (nF sh) sh s xs = _ from if_pos h]
    exact eachForward_ok sh s A _ c xs w rfl hv h1 h2 hx hs
  · rw [show alSh sh xs.length = 0 from if_neg h, show alS (nF sh) sh s xs = _ from if_neg h, show alL (oF sh) (nF sh) sh s xs = _ from if_neg h]
    by_cases h1 : ckF sh = 0
    · have h2 : 4000 < xs.length := by
        refine Decidable.by_contra fun hc => h (alE_ok h1 (by omega))
      rw [show alE sh xs.length = 4 by unfold alE; rw [if_pos h1, if_pos h2]]
      refine (eachForward_many sh s A _ c w hv h1 h2 hm).mono ?_
      rintro e w' ⟨rfl, bel⟩
      exact ⟨_, rfl, Own.nil _ _ _ _, bel⟩
    · rw [show alE sh xs.length = ckF sh from if_neg h1]
      refine (eachForward_bad sh s A _ c w hv h1).mono ?_
      rintro e w' ⟨rfl, bel⟩
      exact ⟨_, rfl, Own.nil _ _ _ _, bel⟩
theorem alsForward_v (sh : Int) (s : St) (xs : List Int) (hv : VS s) (hx : I32 xs) : VS (alS (nF sh) sh s xs) := by
  unfold alS; split
  · exact finF_v sh s _ hv hx
  · exact ⟨f16z, by unfold I32; decide, by unfold I32; decide⟩
set_option maxHeartbeats 1000000 in
theorem lAll_any (sh : Int) (s : St) (A : Option Addr) (n c : Nat) (xs : List Int) (w : World) (hlen : xs.length = n) (hv : VS s) (hm : n ≤ 9223372036854775807) (hx : I32 xs) (hs : Sl w w.heap.size .i32 A xs) :
    Calls Try.prog 26 #[.agg (fA sh s.1 s.2), .slice A n c] w fun e w' =>
      ∃ v, e = .returned (.tuple #[v, .agg (fA (alSh sh n) (alS (nF sh) sh s xs).1 (alS (nF sh) sh s xs).2), .int .i64 (alE sh n)]) ∧ Own w' w.heap.size 21 .i32 v (alL (oF sh) (nF sh) sh s xs) ∧ Below w.heap.size w w' := by
  have BB := Lib.hid (bel_self w)
  have hF := hv.1
  have SX := Lib.hid (SA.of hs)
  have CE := Lib.hid (fun W (h : Sl W W.heap.size .i32 A xs) => eachForward_any sh s A n c xs W hlen hv hm hx h)
  have HV := Lib.hid (alsForward_v sh s xs hv hx).1
  have Z0 := Lib.hid (show Sz w w.heap.size from Nat.le_refl _)
  generalize alE sh n = ee at *
  generalize alSh sh n = se at *
  generalize alL (oF sh) (nF sh) sh s xs = L at *
  generalize (alS (nF sh) sh s xs).1 = n1 at *
  generalize (alS (nF sh) sh s xs).2 = n2 at *
  clear hs hx hv
  go_enter Try.func26, Try.ntmps26
  go_wp2_with (first
    | ((with_reducible refine flt_box (o := ⟨some 2, _, _, _, _, _⟩) flt rfl _ rfl rfl hF ?_); intro w1 bf hbf hBf bel1; have q_SX_f := Nat.le_trans SX.out.2 hbf; have of := Nat.le_trans BB.out.size hbf; have SX := Lib.hid (SX.out.next bel1); have Z0 := Lib.hid (Z0.out.next bel1); have BB := Lib.hid (bel_next BB.out bel1); have Xf := Lib.hid hBf; clear bel1 hBf hbf)
    | ((with_reducible refine flt_alloc (o := ⟨some 5, _, _, _, _, _⟩) flt rfl rfl ?_); intro w2 br hbr hBr bel2; have q_f_r : bf < br := Nat.lt_of_lt_of_le Xf.out.lt hbr; have q_SX_r := Nat.le_trans SX.out.2 hbr; have or := Nat.le_trans BB.out.size hbr; have SX := Lib.hid (SX.out.next bel2); have Z0 := Lib.hid (Z0.out.next bel2); have Xf := Lib.hid (Xf.out.next bel2); have BB := Lib.hid (bel_next BB.out bel2); have Xr := Lib.hid hBr; clear bel2 hBr hbr)
    | (with_reducible refine flt_load (o := ⟨some 7, _, _, _, _, _⟩) flt rfl _ rfl rfl Xf.out ?_))
  refine (CE.out _ SX.out.sl).mono ?_
  rintro e w3 ⟨v3, rfl, own3, bel3⟩
  have Xo := Lib.hid (own3.rebase Z0.out)
  have hbr : some br ≠ v3.ownBlock := own3.ne_of_lt Xr.out.lt
  have Xf := Lib.hid (Xf.out.next bel3)
  have Xr := Lib.hid (Xr.out.next bel3)
  have BB := Lib.hid (bel_next BB.out bel3)
  clear own3 bel3
  go_wp2_with (first
    | ((with_reducible refine flt_store flt rfl (.tmp 5) (.tmp 11) rfl rfl rfl Xr.out HV.out ?_); intro w4 hB4 onl4; have BB := Lib.hid (onl4.bel or BB.out); have Xr := Lib.hid hB4; have Xo := Lib.hid (Xo.out.only hbr onl4); clear onl4 hB4))
  exact bodyPost_ret (flt_res2 flt rfl _ _ rfl Xr.out) rfl ⟨v3, rfl, Xo.out, BB.out⟩
end Go.Proofs.Ytgnmpkembcdkcaa

/-
  The walk of LmsParts. Conditions: numbers within their types.
-/
import Derived.Test.YtbiikhfhhfmkoaaLaw15A
import Derived.Test.YtbiikhfhhfmkoaaKit4
namespace Go.Proofs.Ytbiikhfhhfmkoaa
open Go.RowKit
set_option linter.unusedVariables false

set_option maxRecDepth 100000 in
set_option maxHeartbeats 1000000 in
theorem parts_bad (sh : Int) (ts ps : List Int) (A : Option Addr) (n c : Nat) (i : Int) (w : World) (hF : F16 ts ps) (hm : n ≤ 9223372036854775807) (h : ckF sh ≠ 0 ∨ 4000 < n ∨ i < 0 ∨ (n : Int) < i) :
    Calls Try.prog 4 #[.agg (fA sh ts ps), .slice A n c, .int .i64 i] w fun e w' => e = .returned (.bool true) ∧ Below w.heap.size w w' := by
  have BB := Lib.hid (bel_self w)
  have CK := Lib.hid (fun W => recheck_any sh ts ps W hF)
  by_cases h0 : ckF sh = 0
  · rw [h0] at CK
    have hh := h.resolve_left (fun hh => hh h0)
    clear h h0
    by_cases h1 : 4000 < n
    · have d1 : decide ((4000 : Int) < (n : Int)) = true := by simp; omega
      go_enter Try.func4, Try.ntmps4
      go_wp2_with (first
        | ((with_reducible refine flt_box (o := ⟨some 3, _, _, _, _, _⟩) flt rfl _ rfl rfl hF ?_); intro w1 bf hbf hBf bel1; have of := Nat.le_trans BB.out.size hbf; have BB := Lib.hid (bel_next BB.out bel1); have Xf := Lib.hid hBf; clear bel1 hBf hbf))
      refine (alive_any _).mono ?_
      rintro e w2 ⟨rfl, bel2⟩
      have Xf := Lib.hid (Xf.out.next bel2)
      have BB := Lib.hid (bel_next BB.out bel2)
      clear bel2
      go_wp2_with (first
        | (with_reducible refine flt_load (o := ⟨some 28, _, _, _, _, _⟩) flt rfl _ rfl rfl Xf.out ?_))
      refine (CK.out _).mono ?_
      rintro e w3 ⟨rfl, bel3⟩
      have Xf := Lib.hid (Xf.out.next bel3)
      have BB := Lib.hid (bel_next BB.out bel3)
      clear bel3
      go_wp2_with fail
      go_ret
      exact ⟨rfl, BB.out⟩
    · have d1 : decide ((4000 : Int) < (n : Int)) = false := by simp; omega
      by_cases h2 : i < 0
      · have d2 : decide (i < 0) = true := by simp; omega
        go_enter Try.func4, Try.ntmps4
        go_wp2_with (first
          | ((with_reducible refine flt_box (o := ⟨some 3, _, _, _, _, _⟩) flt rfl _ rfl rfl hF ?_); intro w1 bf hbf hBf bel1; have of := Nat.le_trans BB.out.size hbf; have BB := Lib.hid (bel_next BB.out bel1); have Xf := Lib.hid hBf; clear bel1 hBf hbf))
        refine (alive_any _).mono ?_
        rintro e w2 ⟨rfl, bel2⟩
        have Xf := Lib.hid (Xf.out.next bel2)
        have BB := Lib.hid (bel_next BB.out bel2)
        clear bel2
        go_wp2_with (first
          | (with_reducible refine flt_load (o := ⟨some 28, _, _, _, _, _⟩) flt rfl _ rfl rfl Xf.out ?_))
        refine (CK.out _).mono ?_
        rintro e w3 ⟨rfl, bel3⟩
        have Xf := Lib.hid (Xf.out.next bel3)
        have BB := Lib.hid (bel_next BB.out bel3)
        clear bel3
        go_wp2_with fail
        go_ret
        exact ⟨rfl, BB.out⟩
      · have d2 : decide (i < 0) = false := by simp; omega
        have d3 : decide ((n : Int) < i) = true := by simp; omega
        go_enter Try.func4, Try.ntmps4
        go_wp2_with (first
          | ((with_reducible refine flt_box (o := ⟨some 3, _, _, _, _, _⟩) flt rfl _ rfl rfl hF ?_); intro w1 bf hbf hBf bel1; have of := Nat.le_trans BB.out.size hbf; have BB := Lib.hid (bel_next BB.out bel1); have Xf := Lib.hid hBf; clear bel1 hBf hbf))
        refine (alive_any _).mono ?_
        rintro e w2 ⟨rfl, bel2⟩
        have Xf := Lib.hid (Xf.out.next bel2)
        have BB := Lib.hid (bel_next BB.out bel2)
        clear bel2
        go_wp2_with (first
          | (with_reducible refine flt_load (o := ⟨some 28, _, _, _, _, _⟩) flt rfl _ rfl rfl Xf.out ?_))
        refine (CK.out _).mono ?_
        rintro e w3 ⟨rfl, bel3⟩
        have Xf := Lib.hid (Xf.out.next bel3)
        have BB := Lib.hid (bel_next BB.out bel3)
        clear bel3
        go_wp2_with fail
        go_ret
        exact ⟨rfl, BB.out⟩
  · have hq : (ckF sh != 0) = true := by simp [h0]
    generalize ckF sh = ce at *
    clear h h0
    go_enter Try.func4, Try.ntmps4
    go_wp2_with (first
      | ((with_reducible refine flt_box (o := ⟨some 3, _, _, _, _, _⟩) flt rfl _ rfl rfl hF ?_); intro w1 bf hbf hBf bel1; have of := Nat.le_trans BB.out.size hbf; have BB := Lib.hid (bel_next BB.out bel1); have Xf := Lib.hid hBf; clear bel1 hBf hbf))
    refine (alive_any _).mono ?_
    rintro e w2 ⟨rfl, bel2⟩
    have Xf := Lib.hid (Xf.out.next bel2)
    have BB := Lib.hid (bel_next BB.out bel2)
    clear bel2
    go_wp2_with (first
      | (with_reducible refine flt_load (o := ⟨some 28, _, _, _, _, _⟩) flt rfl _ rfl rfl Xf.out ?_))
    refine (CK.out _).mono ?_
    rintro e w3 ⟨rfl, bel3⟩
    have Xf := Lib.hid (Xf.out.next bel3)
    have BB := Lib.hid (bel_next BB.out bel3)
    clear bel3
    go_wp2_with fail
    go_ret
    exact ⟨rfl, BB.out⟩

set_option maxRecDepth 100000 in
set_option maxHeartbeats 4000000 in
theorem parts_ok (sh : Int) (s : St) (A : Option Addr) (c n : Nat) (xs : List Int) (w : World) (hv : VS s) (h : ckF sh = 0) (hl : xs.length ≤ 4000) (hn : n ≤ xs.length) (hc : xs.length ≤ c) (hm : c ≤ 9223372036854775807) (hx : I32 xs) (hs : Sl w w.heap.size .i32 A xs) :
    Calls Try.prog 4 #[.agg (fA sh s.1 s.2), .slice A xs.length c, .int .i64 (n : Int)] w fun e w' => e = .returned (.bool true) ∧ Below w.heap.size w w' := by
  have BB := Lib.hid (bel_self w)
  have hF := hv.1
  have SX := Lib.hid (SA.of hs)
  have CK := Lib.hid (fun W => recheck_any sh s.1 s.2 W hF)
  rw [h] at CK
  obtain ⟨A3, rs, hs3⟩ := from_ex (P := Try.prog) elI32 A c n xs hn hc
  have HX1 : I32 (xs.take n) := fun y hy => hx y (List.mem_of_mem_take hy)
  have HX2 : I32 (xs.drop n) := fun y hy => hx y (List.mem_of_mem_drop hy)
  have hvm : VS (finL (nF sh) s (xs.take n)) := finF_v sh s _ hv HX1
  have C1 := Lib.hid (fun W (hh : Sl W W.heap.size .i32 A xs) => lAll_ok sh s A _ c xs W rfl hv h hl hx hh)
  have C2 := Lib.hid (fun W (hh : Sl W W.heap.size .i32 A xs) => lAll_ok sh s A n c (xs.take n) W (by rw [List.length_take]; omega) hv h (by omega) HX1 (hh.take n))
  have C3 := Lib.hid (fun W (hh : Sl W W.heap.size .i32 A xs) => lAll_ok sh (finL (nF sh) s (xs.take n)) A3 (xs.length - n) (c - n) (xs.drop n) W (by rw [List.length_drop]) hvm h (by omega) HX2 (hs3 W _ hh))
  have E1 : finL (nF sh) (finL (nF sh) s (xs.take n)) (xs.drop n) = finL (nF sh) s xs := by rw [← finL_append, List.take_append_drop]
  rw [E1] at C3
  have E2 := Lib.hid (show runL (oF sh) (nF sh) s (xs.take n) ++ runL (oF sh) (nF sh) (finL (nF sh) s (xs.take n)) (xs.drop n) = runL (oF sh) (nF sh) s xs by rw [← runL_append, List.take_append_drop])
  have HE := Lib.hid (finF_v sh s xs hv hx).1
  have HMD := Lib.hid hvm.1
  have HVQ := Lib.hid hvm
  have HLN_a := Lib.hid (show (runL (oF sh) (nF sh) s (xs.take n)).length = n by rw [runL_len, List.length_take]; omega)
  have HLN_b := Lib.hid (show (runL (oF sh) (nF sh) (finL (nF sh) s (xs.take n)) (xs.drop n)).length = xs.length - n by rw [runL_len, List.length_drop])
  have HLN_all := Lib.hid (show (runL (oF sh) (nF sh) s xs).length = xs.length from runL_len s xs)
  have HTL := Lib.hid (fun (hlt : n < xs.length) => show ∃ r, runL (oF sh) (nF sh) (finL (nF sh) s (xs.take n)) (xs.drop n) = oF sh (finL (nF sh) s (xs.take n)) (xs.getD n 0) :: r by
    rw [List.drop_eq_getElem_cons hlt, List.getD_eq_getElem?_getD, List.getElem?_eq_getElem hlt]; exact ⟨_, rfl⟩)
  have HXn := Lib.hid (fun (hlt : n < xs.length) => hx _ (mem_getD hlt))
  have CG := Lib.hid (fun W => tguess_any sh (finL (nF sh) s (xs.take n)).1 (finL (nF sh) s (xs.take n)).2 W hvm.1 hvm.2.1 hvm.2.2)
  rw [gsR_ok h, h] at CG
  have CL := Lib.hid (fun y W => learn_any sh (finL (nF sh) s (xs.take n)).1 (finL (nF sh) s (xs.take n)).2 y W hvm.1 hvm.2.1 hvm.2.2)
  simp only [lrR_ok h, ifP_ok h, ifS_ok h, h] at CL
  have CP := Lib.hid (fun y x W => push_any sh (lrn (finL (nF sh) s (xs.take n)).1 (finL (nF sh) s (xs.take n)).2 y) (finL (nF sh) s (xs.take n)).2 x W (f16 (lrn_len _ _ _) hvm.1.2))
  simp only [puR_ok h, ifP_ok h, ifS_ok h, h] at CP
  have CF := Lib.hid (fun x W hx => lforward_ok sh (finL (nF sh) s (xs.take n)) x W hvm h hx)
  have d1 : decide ((4000 : Int) < (xs.length : Int)) = false := by simp; omega
  have d2 : decide ((n : Int) < 0) = false := by simp
  have d3 : decide (xs.length < n) = false := by simp; omega
  have hnc : n ≤ c := by omega
  have hncz : (n : Int) ≤ (c : Int) := by omega
  have hnz : (n : Int) ≤ (xs.length : Int) := by omega
  generalize hq : finL (nF sh) s (xs.take n) = q at *
  generalize runL (oF sh) (nF sh) s (xs.take n) = LA at *
  generalize runL (oF sh) (nF sh) q (xs.drop n) = LB at *
  generalize runL (oF sh) (nF sh) s xs = LL at *
  generalize (finL (nF sh) s xs).1 = e1 at *
  generalize (finL (nF sh) s xs).2 = e2 at *
  clear h hv hx hs hs3 HX1 HX2 hvm E1 hq
  go_enter Try.func4, Try.ntmps4
  go_wp2_with (first
    | ((with_reducible refine flt_box (o := ⟨some 3, _, _, _, _, _⟩) flt rfl _ rfl rfl hF ?_); intro w1 bf hbf hBf bel1; have q_SX_f := Nat.le_trans SX.out.2 hbf; have of := Nat.le_trans BB.out.size hbf; have SX := Lib.hid (SX.out.next bel1); have BB := Lib.hid (bel_next BB.out bel1); have Xf := Lib.hid hBf; clear bel1 hBf hbf))
  refine (alive_any _).mono ?_
  rintro e w2 ⟨rfl, bel2⟩
  have SX := Lib.hid (SX.out.next bel2)
  have Xf := Lib.hid (Xf.out.next bel2)
  have BB := Lib.hid (bel_next BB.out bel2)
  clear bel2
  go_wp2_with (first
    | (with_reducible refine flt_load (o := ⟨some 28, _, _, _, _, _⟩) flt rfl _ rfl rfl Xf.out ?_))
  refine (CK.out _).mono ?_
  rintro e w3 ⟨rfl, bel3⟩
  have SX := Lib.hid (SX.out.next bel3)
  have Xf := Lib.hid (Xf.out.next bel3)
  have BB := Lib.hid (bel_next BB.out bel3)
  clear bel3
  go_wp2_with (first
    | (with_reducible refine flt_load (o := ⟨some 52, _, _, _, _, _⟩) flt rfl _ rfl rfl Xf.out ?_))
  refine (C1.out _ SX.out.sl).mono ?_
  rintro e w4 ⟨v4, rfl, own4, bel4⟩
  obtain ⟨Aall, call, rfl, hcall, hmall, sl4⟩ := own4.sln (HLN_all.out)
  have Sall := Lib.hid (SA.of sl4)
  have SX := Lib.hid (SX.out.next bel4)
  have Xf := Lib.hid (Xf.out.next bel4)
  have BB := Lib.hid (bel_next BB.out bel4)
  clear own4 bel4 sl4
  go_upto_region 5 with (first
    | ((with_reducible refine flt_alloc (o := ⟨some 9, _, _, _, _, _⟩) flt rfl rfl ?_); intro w5 be hbe hBe bel5; have q_f_e : bf < be := Nat.lt_of_lt_of_le Xf.out.lt hbe; have q_SX_e := Nat.le_trans SX.out.2 hbe; have q_Sall_e := Nat.le_trans Sall.out.2 hbe; have oe := Nat.le_trans BB.out.size hbe; have SX := Lib.hid (SX.out.next bel5); have Xf := Lib.hid (Xf.out.next bel5); have Sall := Lib.hid (Sall.out.next bel5); have BB := Lib.hid (bel_next BB.out bel5); have Xe := Lib.hid hBe; clear bel5 hBe hbe)
    | ((with_reducible refine flt_store flt rfl (.tmp 9) (.tmp 56) rfl rfl rfl Xe.out HE.out ?_); intro w6 hB6 onl6; have SX := Lib.hid (SX.out.only (by omega) onl6); have Xf := Lib.hid (Xf.out.only (by omega) onl6); have Sall := Lib.hid (Sall.out.only (by omega) onl6); have BB := Lib.hid (onl6.bel oe BB.out); have Xe := Lib.hid hB6; clear onl6 hB6))
  go_cut [12, 11, 13] (fun s12 s11 s13 wx => ∃ ba va, s12 = .pointer (some ⟨ba, 0, none⟩) ∧ s11 = va ∧ s13 = .int .i64 0 ∧ w6.heap.size ≤ ba ∧ FB wx ba 24 sh q.1 q.2 ∧ Own wx w6.heap.size 21 .i32 va (LA) ∧ Below w6.heap.size w6 wx)
  case first =>
    refine h_begin (S := SinceH w6) (by kernel_rfl) rfl ?_
    have S0 : Below w6.heap.size w6 { w6 with drawn := w6.drawn + 1 } := (bel_self w6).drew
    generalize ({ w6 with drawn := w6.drawn + 1 } : World) = wd at *
    refine h_take 0 rfl (by kernel_rfl) (by kernel_rfl) (by kernel_rfl) (fun _ _ _ h => h) (y_load flt rfl _ rfl rfl (fun W hW => Xf.out.next hW)) S0 rfl (by go_simp <;> rfl) ?_
    refine h_take 1 rfl (by kernel_rfl) (by kernel_rfl) (by kernel_rfl) (fun _ _ _ h => h) (y_pure rfl (fun W hW => by go_simp <;> rfl)) S0 rfl (by go_simp <;> rfl) ?_
    refine h_take 2 rfl (by kernel_rfl) (by kernel_rfl) (by kernel_rfl) (fun _ _ _ h => h) (y_pure rfl (fun W hW => by go_simp <;> rfl)) S0 rfl (by go_simp <;> rfl) ?_
    refine h_take 3 rfl (by kernel_rfl) (by kernel_rfl) (by kernel_rfl) (fun _ _ _ h => h) (y_pure rfl (fun W hW => by go_simp <;> rfl)) S0 rfl (by go_simp <;> rfl) ?_
    refine h_two 4 9 (by kernel_rfl) rfl rfl rfl rfl rfl rfl ?_ ?_
    · refine wp_callE (C2.out _ (SX.out.next S0).sl) (by go_simp <;> rfl) (fun u => by go_simp <;> rfl) ?_
      intro va v1 ownc belc
      have S1 : Below w6.heap.size w6 v1 := bel_next S0 belc
      refine ⟨S1, ?_⟩
      refine h_take 5 rfl (by kernel_rfl) (by kernel_rfl) (by kernel_rfl) (fun _ _ _ h => h) (y_pure rfl (fun W hW => by go_simp <;> rfl)) S1 rfl (by go_simp <;> rfl) ?_
      refine h_take 6 rfl (by kernel_rfl) (by kernel_rfl) (by kernel_rfl) (fun _ _ _ h => h) (y_pure rfl (fun W hW => by go_simp <;> rfl)) S1 rfl (by go_simp <;> rfl) ?_
      refine h_take 7 rfl (by kernel_rfl) (by kernel_rfl) (by kernel_rfl) (fun _ _ _ h => h) (y_pure rfl (fun W hW => by go_simp <;> rfl)) S1 rfl (by go_simp <;> rfl) ?_
      refine h_take 8 rfl (by kernel_rfl) (by kernel_rfl) (by kernel_rfl) (fun _ _ _ h => h) (y_pure rfl (fun W hW => by go_simp <;> rfl)) S1 rfl (by go_simp <;> rfl) ?_
      refine h_one 9 (by kernel_rfl) rfl rfl rfl ?_
      refine wp_flt_alloc flt rfl (fun b => by go_simp <;> rfl) ?_
      intro v2 ba hb8 hB8 bela
      have S2 : Below w6.heap.size w6 v2 := bel_next S1 bela
      refine ⟨S2, ?_⟩
      have o8 : w6.heap.size ≤ ba := Nat.le_trans S1.size hb8
      have ne8 := ownc.ne_of_ge hb8
      have ownc := (ownc.next bela).rebase S0.size
      refine h_take 10 rfl (by kernel_rfl) (by kernel_rfl) (by kernel_rfl) (fun _ _ _ h => h) (y_pure rfl (fun W hW => by go_simp <;> rfl)) S2 rfl (by go_simp <;> rfl) ?_
      refine h_one 11 (by kernel_rfl) rfl rfl rfl ?_
      refine wp_flt_store flt _ _ rfl rfl rfl hB8 HMD.out (by go_simp <;> rfl) ?_
      intro v3 hB3 onl3
      have S3 : Below w6.heap.size w6 v3 := onl3.bel o8 S2
      refine ⟨S3, ?_⟩
      have ownc := ownc.only ne8 onl3
      refine h_take 12 rfl (by kernel_rfl) (by kernel_rfl) (by kernel_rfl) (fun _ _ _ h => h) (y_pure rfl (fun W hW => by go_simp <;> rfl)) S3 rfl (by go_simp <;> rfl) ?_
      refine h_done (by kernel_rfl) ?_
      go_wp2_with fail
      go_meet
      exact ⟨ba, va, rfl, rfl, rfl, o8, hB3, ownc, S3⟩
    · refine wp_flt_alloc flt rfl (fun b => by go_simp <;> rfl) ?_
      intro v1 ba hb8 hB8 bela
      have S1 : Below w6.heap.size w6 v1 := bel_next S0 bela
      refine ⟨S1, ?_⟩
      have o8 : w6.heap.size ≤ ba := Nat.le_trans S0.size hb8
      refine h_one 4 (by kernel_rfl) rfl rfl rfl ?_
      have lt8 := hB8.lt
      refine wp_callE (C2.out _ (SX.out.next S1).sl) (by go_simp <;> rfl) (fun u => by go_simp <;> rfl) ?_
      intro va v2 ownc belc
      have S2 : Below w6.heap.size w6 v2 := bel_next S1 belc
      refine ⟨S2, ?_⟩
      have hB8 := hB8.next belc
      have ne8 := ownc.ne_of_lt lt8
      have ownc := ownc.rebase S1.size
      refine h_take 5 rfl (by kernel_rfl) (by kernel_rfl) (by kernel_rfl) (fun _ _ _ h => h) (y_pure rfl (fun W hW => by go_simp <;> rfl)) S2 rfl (by go_simp <;> rfl) ?_
      refine h_take 6 rfl (by kernel_rfl) (by kernel_rfl) (by kernel_rfl) (fun _ _ _ h => h) (y_pure rfl (fun W hW => by go_simp <;> rfl)) S2 rfl (by go_simp <;> rfl) ?_
      refine h_take 7 rfl (by kernel_rfl) (by kernel_rfl) (by kernel_rfl) (fun _ _ _ h => h) (y_pure rfl (fun W hW => by go_simp <;> rfl)) S2 rfl (by go_simp <;> rfl) ?_
      refine h_take 8 rfl (by kernel_rfl) (by kernel_rfl) (by kernel_rfl) (fun _ _ _ h => h) (y_pure rfl (fun W hW => by go_simp <;> rfl)) S2 rfl (by go_simp <;> rfl) ?_
      refine h_take 10 rfl (by kernel_rfl) (by kernel_rfl) (by kernel_rfl) (fun _ _ _ h => h) (y_pure rfl (fun W hW => by go_simp <;> rfl)) S2 rfl (by go_simp <;> rfl) ?_
      refine h_one 11 (by kernel_rfl) rfl rfl rfl ?_
      refine wp_flt_store flt _ _ rfl rfl rfl hB8 HMD.out (by go_simp <;> rfl) ?_
      intro v3 hB3 onl3
      have S3 : Below w6.heap.size w6 v3 := onl3.bel o8 S2
      refine ⟨S3, ?_⟩
      have ownc := ownc.only ne8 onl3
      refine h_take 12 rfl (by kernel_rfl) (by kernel_rfl) (by kernel_rfl) (fun _ _ _ h => h) (y_pure rfl (fun W hW => by go_simp <;> rfl)) S3 rfl (by go_simp <;> rfl) ?_
      refine h_done (by kernel_rfl) ?_
      go_wp2_with fail
      go_meet
      exact ⟨ba, va, rfl, rfl, rfl, o8, hB3, ownc, S3⟩
  case rest =>
    obtain ⟨ba, va, rfl, rfl, rfl, hba, hBa, own7, bel7⟩ := hcut
    obtain ⟨w7, rfl⟩ : ∃ wq, wq = wc := ⟨_, rfl⟩
    obtain ⟨Aa, ca, rfl, _, _, sl7⟩ := own7.sln (HLN_a.out)
    have q_f_a : bf < ba := Nat.lt_of_lt_of_le Xf.out.lt hba
    have q_e_a : be < ba := Nat.lt_of_lt_of_le Xe.out.lt hba
    have q_SX_a := Nat.le_trans SX.out.2 hba
    have q_Sall_a := Nat.le_trans Sall.out.2 hba
    have oa := Nat.le_trans BB.out.size hba
    have SX := Lib.hid (SX.out.next bel7)
    have Xf := Lib.hid (Xf.out.next bel7)
    have Sall := Lib.hid (Sall.out.next bel7)
    have Xe := Lib.hid (Xe.out.next bel7)
    have BB := Lib.hid (bel_next BB.out bel7)
    have Xa := Lib.hid hBa
    have Sa := Lib.hid (SA.of sl7)
    clear bel7 hBa hba own7 sl7
    go_upto_region 6 with fail
    go_cut [15, 14, 16] (fun s15 s14 s16 wx => ∃ bb vb, s15 = .pointer (some ⟨bb, 0, none⟩) ∧ s14 = vb ∧ s16 = .int .i64 0 ∧ w7.heap.size ≤ bb ∧ FB wx bb 24 sh e1 e2 ∧ Own wx w7.heap.size 21 .i32 vb (LB) ∧ Below w7.heap.size w7 wx)
    case first =>
      refine h_begin (S := SinceH w7) (by kernel_rfl) rfl ?_
      have S0 : Below w7.heap.size w7 { w7 with drawn := w7.drawn + 1 } := (bel_self w7).drew
      generalize ({ w7 with drawn := w7.drawn + 1 } : World) = wd at *
      refine h_take 0 rfl (by kernel_rfl) (by kernel_rfl) (by kernel_rfl) (fun _ _ _ h => h) (y_load flt rfl _ rfl rfl (fun W hW => Xa.out.next hW)) S0 rfl (by go_simp <;> rfl) ?_
      refine h_take 1 rfl (by kernel_rfl) (by kernel_rfl) (by kernel_rfl) (fun _ _ _ h => h) (y_pure rfl (fun W hW => by go_simp <;> rfl)) S0 rfl (by go_simp <;> rfl) ?_
      refine h_take 2 rfl (by kernel_rfl) (by kernel_rfl) (by kernel_rfl) (fun _ _ _ h => h) (y_pure rfl (fun W hW => by go_simp <;> rfl)) S0 rfl (by go_simp <;> rfl) ?_
      refine h_take 3 rfl (by kernel_rfl) (by kernel_rfl) (by kernel_rfl) (fun _ _ _ h => h) (y_pure rfl (fun W hW => by go_simp <;> rfl)) S0 rfl (by go_simp <;> rfl) ?_
      refine h_two 4 9 (by kernel_rfl) rfl rfl rfl rfl rfl rfl ?_ ?_
      · refine wp_callE (C3.out _ (SX.out.next S0).sl) (by go_simp <;> rfl) (fun u => by go_simp <;> rfl) ?_
        intro vb v1 ownc belc
        have S1 : Below w7.heap.size w7 v1 := bel_next S0 belc
        refine ⟨S1, ?_⟩
        refine h_take 5 rfl (by kernel_rfl) (by kernel_rfl) (by kernel_rfl) (fun _ _ _ h => h) (y_pure rfl (fun W hW => by go_simp <;> rfl)) S1 rfl (by go_simp <;> rfl) ?_
        refine h_take 6 rfl (by kernel_rfl) (by kernel_rfl) (by kernel_rfl) (fun _ _ _ h => h) (y_pure rfl (fun W hW => by go_simp <;> rfl)) S1 rfl (by go_simp <;> rfl) ?_
        refine h_take 7 rfl (by kernel_rfl) (by kernel_rfl) (by kernel_rfl) (fun _ _ _ h => h) (y_pure rfl (fun W hW => by go_simp <;> rfl)) S1 rfl (by go_simp <;> rfl) ?_
        refine h_take 8 rfl (by kernel_rfl) (by kernel_rfl) (by kernel_rfl) (fun _ _ _ h => h) (y_pure rfl (fun W hW => by go_simp <;> rfl)) S1 rfl (by go_simp <;> rfl) ?_
        refine h_one 9 (by kernel_rfl) rfl rfl rfl ?_
        refine wp_flt_alloc flt rfl (fun b => by go_simp <;> rfl) ?_
        intro v2 bb hb8 hB8 bela
        have S2 : Below w7.heap.size w7 v2 := bel_next S1 bela
        refine ⟨S2, ?_⟩
        have o8 : w7.heap.size ≤ bb := Nat.le_trans S1.size hb8
        have ne8 := ownc.ne_of_ge hb8
        have ownc := (ownc.next bela).rebase S0.size
        refine h_take 10 rfl (by kernel_rfl) (by kernel_rfl) (by kernel_rfl) (fun _ _ _ h => h) (y_pure rfl (fun W hW => by go_simp <;> rfl)) S2 rfl (by go_simp <;> rfl) ?_
        refine h_one 11 (by kernel_rfl) rfl rfl rfl ?_
        refine wp_flt_store flt _ _ rfl rfl rfl hB8 HE.out (by go_simp <;> rfl) ?_
        intro v3 hB3 onl3
        have S3 : Below w7.heap.size w7 v3 := onl3.bel o8 S2
        refine ⟨S3, ?_⟩
        have ownc := ownc.only ne8 onl3
        refine h_take 12 rfl (by kernel_rfl) (by kernel_rfl) (by kernel_rfl) (fun _ _ _ h => h) (y_pure rfl (fun W hW => by go_simp <;> rfl)) S3 rfl (by go_simp <;> rfl) ?_
        refine h_done (by kernel_rfl) ?_
        go_wp2_with fail
        go_meet
        exact ⟨bb, vb, rfl, rfl, rfl, o8, hB3, ownc, S3⟩
      · refine wp_flt_alloc flt rfl (fun b => by go_simp <;> rfl) ?_
        intro v1 bb hb8 hB8 bela
        have S1 : Below w7.heap.size w7 v1 := bel_next S0 bela
        refine ⟨S1, ?_⟩
        have o8 : w7.heap.size ≤ bb := Nat.le_trans S0.size hb8
        refine h_one 4 (by kernel_rfl) rfl rfl rfl ?_
        have lt8 := hB8.lt
        refine wp_callE (C3.out _ (SX.out.next S1).sl) (by go_simp <;> rfl) (fun u => by go_simp <;> rfl) ?_
        intro vb v2 ownc belc
        have S2 : Below w7.heap.size w7 v2 := bel_next S1 belc
        refine ⟨S2, ?_⟩
        have hB8 := hB8.next belc
        have ne8 := ownc.ne_of_lt lt8
        have ownc := ownc.rebase S1.size
        refine h_take 5 rfl (by kernel_rfl) (by kernel_rfl) (by kernel_rfl) (fun _ _ _ h => h) (y_pure rfl (fun W hW => by go_simp <;> rfl)) S2 rfl (by go_simp <;> rfl) ?_
        refine h_take 6 rfl (by kernel_rfl) (by kernel_rfl) (by kernel_rfl) (fun _ _ _ h => h) (y_pure rfl (fun W hW => by go_simp <;> rfl)) S2 rfl (by go_simp <;> rfl) ?_
        refine h_take 7 rfl (by kernel_rfl) (by kernel_rfl) (by kernel_rfl) (fun _ _ _ h => h) (y_pure rfl (fun W hW => by go_simp <;> rfl)) S2 rfl (by go_simp <;> rfl) ?_
        refine h_take 8 rfl (by kernel_rfl) (by kernel_rfl) (by kernel_rfl) (fun _ _ _ h => h) (y_pure rfl (fun W hW => by go_simp <;> rfl)) S2 rfl (by go_simp <;> rfl) ?_
        refine h_take 10 rfl (by kernel_rfl) (by kernel_rfl) (by kernel_rfl) (fun _ _ _ h => h) (y_pure rfl (fun W hW => by go_simp <;> rfl)) S2 rfl (by go_simp <;> rfl) ?_
        refine h_one 11 (by kernel_rfl) rfl rfl rfl ?_
        refine wp_flt_store flt _ _ rfl rfl rfl hB8 HE.out (by go_simp <;> rfl) ?_
        intro v3 hB3 onl3
        have S3 : Below w7.heap.size w7 v3 := onl3.bel o8 S2
        refine ⟨S3, ?_⟩
        have ownc := ownc.only ne8 onl3
        refine h_take 12 rfl (by kernel_rfl) (by kernel_rfl) (by kernel_rfl) (fun _ _ _ h => h) (y_pure rfl (fun W hW => by go_simp <;> rfl)) S3 rfl (by go_simp <;> rfl) ?_
        refine h_done (by kernel_rfl) ?_
        go_wp2_with fail
        go_meet
        exact ⟨bb, vb, rfl, rfl, rfl, o8, hB3, ownc, S3⟩
    case rest =>
      obtain ⟨bb, vb, rfl, rfl, rfl, hbb, hBb, own8, bel8⟩ := hcut
      obtain ⟨w8, rfl⟩ : ∃ wq, wq = wc := ⟨_, rfl⟩
      obtain ⟨Ab, cb, rfl, _, _, sl8⟩ := own8.sln (HLN_b.out)
      have q_f_b : bf < bb := Nat.lt_of_lt_of_le Xf.out.lt hbb
      have q_e_b : be < bb := Nat.lt_of_lt_of_le Xe.out.lt hbb
      have q_a_b : ba < bb := Nat.lt_of_lt_of_le Xa.out.lt hbb
      have q_SX_b := Nat.le_trans SX.out.2 hbb
      have q_Sall_b := Nat.le_trans Sall.out.2 hbb
      have q_Sa_b := Nat.le_trans Sa.out.2 hbb
      have ob := Nat.le_trans BB.out.size hbb
      have SX := Lib.hid (SX.out.next bel8)
      have Xf := Lib.hid (Xf.out.next bel8)
      have Sall := Lib.hid (Sall.out.next bel8)
      have Xe := Lib.hid (Xe.out.next bel8)
      have Sa := Lib.hid (Sa.out.next bel8)
      have Xa := Lib.hid (Xa.out.next bel8)
      have BB := Lib.hid (bel_next BB.out bel8)
      have Xb := Lib.hid hBb
      have Sb := Lib.hid (SA.of sl8)
      clear bel8 hBb hbb own8 sl8
      obtain ⟨w10, rfl⟩ : ∃ wq, wq = w8 := ⟨_, rfl⟩
      have B0 := Lib.hid (bel_up (bel_self w10) (.cells #[] 21))
      have OL := Lib.hid (Own.lit w10 w10.heap.size .i32 21 [] (cs := #[]) (n := 0) rfl rfl (Nat.le_refl _) (by decide))
      have LA4 := HLN_a.out
      have LB4 := HLN_b.out
      have HAB := Lib.hid (show ([] ++ LA : List Int).length ≤ 4000 by simp; omega)
      go_wp2_with (first
        | ((with_reducible refine wpl_guard (d := some 89) ?_ ?_); (next => go_simp); (refine appN (xs := []) (ys := LA) elI32 _ _ rfl rfl rfl (by rw [LA4]; rfl) OL.out ((Sa.out.next B0.out).sl) (by simp; omega) (by simp; omega) B0.out.size ?_); intro v11 w11 own11 bel11; have B11 := Lib.hid (B0.out.trans bel11); have O11 := Lib.hid own11; clear own11 bel11 B0 OL)
        | ((with_reducible refine wpl_guard (d := some 91) ?_ ?_); (next => go_simp); (refine appN (xs := [] ++ LA) (ys := LB) elI32 _ _ rfl rfl rfl (by rw [LB4]; rfl) O11.out ((Sb.out.next B11.out).sl) (by simp; omega) (by simp; omega) B11.out.size ?_); intro v12 w12 own12 bel12; have bel12 := B11.out.trans bel12; have O12 := Lib.hid own12; have SX := Lib.hid (SX.out.next bel12); have Xf := Lib.hid (Xf.out.next bel12); have Xe := Lib.hid (Xe.out.next bel12); have Xa := Lib.hid (Xa.out.next bel12); have Xb := Lib.hid (Xb.out.next bel12); have Sall := Lib.hid (Sall.out.next bel12); have Sb := Lib.hid (Sb.out.next bel12); have BB := Lib.hid (bel_next BB.out bel12); clear own12 bel12 B11 O11))
      have HO12 := O12.out
      rw [List.nil_append, E2.out] at HO12
      obtain ⟨Ac, cc, rfl, _, _, sl12⟩ := HO12.sln HLN_all.out
      have Sc := Lib.hid (SA.of sl12)
      clear sl12 HO12 O12
      by_cases hlt : n < xs.length
      · have qe : ((n : Int) == (xs.length : Int)) = false := by simp; omega
        have hz1 : (((xs.length - n : Nat) : Int) != (xs.length : Int) - (n : Int)) = false := by simp; omega
        have hxn := HXn.out hlt
        obtain ⟨r, hr⟩ := HTL.out hlt
        have HLB := Lib.hid hr
        obtain ⟨bx0, o, rfl, hbx0, hcl⟩ := SX.out.1 (by omega)
        have hcell := hcl n hlt
        have CF1 := Lib.hid (fun W => CF.out (xs.getD n 0) W hxn)
        have HNF := Lib.hid (show F16 (nF sh q (xs.getD n 0)).1 (nF sh q (xs.getD n 0)).2 from (nF_v sh q _ HVQ.out hxn).1)
        have CL1 := Lib.hid (fun W => CL.out (oF sh q (xs.getD n 0)) W)
        have CP1 := Lib.hid (fun W => CP.out (oF sh q (xs.getD n 0)) (xs.getD n 0) W)
        rw [show lrn q.1 q.2 (oF sh q (xs.getD n 0)) = (nF sh q (xs.getD n 0)).1 from rfl] at CL1 CP1
        rw [show psh q.2 (xs.getD n 0) = (nF sh q (xs.getD n 0)).2 from rfl] at CP1
        have HLR := Lib.hid (show F16 (nF sh q (xs.getD n 0)).1 q.2 from f16 HNF.out.1 HMD.out.2)
        have HOY := Lib.hid (show wrap32 (xs.getD n 0 - gsV sh q.1 q.2) = oF sh q (xs.getD n 0) from rfl)
        rw [← HOY.out] at CL1 HLB CF1
        have bg := gsV_bd sh q.1 q.2
        have HC := Lib.hid (fun W (hW : Below w12.heap.size w12 W) => (hW.cell (p := ⟨bx0, o + n, none⟩) (by have := SX.out.2; show bx0 < _; omega)).trans hcell)
        generalize xs.getD n 0 = x at *
        generalize (nF sh q x).1 = f1 at *
        generalize (nF sh q x).2 = f2 at *
        generalize gsV sh q.1 q.2 = g at *
        have hnz2 : (n : Int) < (xs.length : Int) := by omega
        clear hcl CF CL CP HXn HTL hr
        have ZB := Lib.hid (show SinceB w12 w12 from bel_self w12)
        go_wp2_with fail
        refine (same13 Ac Aall _ _ cc call LL _ HLN_all.out HLN_all.out (by have := HLN_all.out; omega) Sc.out.sl Sall.out.sl).mono ?_
        rintro e w13 ⟨rfl, bel13⟩
        have SX := Lib.hid (SX.out.next bel13)
        have Xf := Lib.hid (Xf.out.next bel13)
        have Xe := Lib.hid (Xe.out.next bel13)
        have Xa := Lib.hid (Xa.out.next bel13)
        have Xb := Lib.hid (Xb.out.next bel13)
        have Sall := Lib.hid (Sall.out.next bel13)
        have Sb := Lib.hid (Sb.out.next bel13)
        have ZB := Lib.hid (ZB.out.next bel13)
        have BB := Lib.hid (bel_next BB.out bel13)
        clear bel13
        go_wp2_with (first
          | ((with_reducible refine wpl_guard (d := some 97) ?_ ?_); (next => first | kernel_rfl | go_simp); with_reducible refine flt_load (o := ⟨some 97, _, _, _, _, _⟩) flt rfl _ rfl rfl Xb.out ?_)
          | ((with_reducible refine wpl_guard (d := some 98) ?_ ?_); (next => first | kernel_rfl | go_simp); with_reducible refine flt_load (o := ⟨some 98, _, _, _, _, _⟩) flt rfl _ rfl rfl Xe.out ?_)
          | ((with_reducible refine wpl_guard (d := some 99) ?_ ?_); (next => first | kernel_rfl | go_simp); with_reducible refine wpl_eq (o := ⟨some 99, _, _, _, _, _⟩) (flt_nes flt eqgF _ _ _ HE.out _ _ _) rfl rfl rfl rfl ?_)
          | (with_reducible refine flt_load (o := ⟨some 107, _, _, _, _, _⟩) flt rfl _ rfl rfl Xa.out ?_))
        refine (CG.out _).mono ?_
        rintro e w14 ⟨rfl, bel14⟩
        have SX := Lib.hid (SX.out.next bel14)
        have Xf := Lib.hid (Xf.out.next bel14)
        have Xe := Lib.hid (Xe.out.next bel14)
        have Xa := Lib.hid (Xa.out.next bel14)
        have Xb := Lib.hid (Xb.out.next bel14)
        have Sall := Lib.hid (Sall.out.next bel14)
        have Sb := Lib.hid (Sb.out.next bel14)
        have ZB := Lib.hid (ZB.out.next bel14)
        have BB := Lib.hid (bel_next BB.out bel14)
        clear bel14
        have hcell := HC.out _ ZB.out
        have hcw := Lib.hid hcell
        go_wp2_with (first
          | (with_reducible refine flt_load (o := ⟨some 129, _, _, _, _, _⟩) flt rfl _ rfl rfl Xa.out ?_))
        refine (CL1.out _).mono ?_
        rintro e w15 ⟨rfl, bel15⟩
        have SX := Lib.hid (SX.out.next bel15)
        have Xf := Lib.hid (Xf.out.next bel15)
        have Xe := Lib.hid (Xe.out.next bel15)
        have Xa := Lib.hid (Xa.out.next bel15)
        have Xb := Lib.hid (Xb.out.next bel15)
        have Sall := Lib.hid (Sall.out.next bel15)
        have Sb := Lib.hid (Sb.out.next bel15)
        have ZB := Lib.hid (ZB.out.next bel15)
        have BB := Lib.hid (bel_next BB.out bel15)
        clear bel15
        clear hcell
        go_upto_region 16 with (first
          | ((with_reducible refine flt_alloc (o := ⟨some 20, _, _, _, _, _⟩) flt rfl rfl ?_); intro w16 bl hbl hBl bel16; have q_f_l : bf < bl := Nat.lt_of_lt_of_le Xf.out.lt hbl; have q_e_l : be < bl := Nat.lt_of_lt_of_le Xe.out.lt hbl; have q_a_l : ba < bl := Nat.lt_of_lt_of_le Xa.out.lt hbl; have q_b_l : bb < bl := Nat.lt_of_lt_of_le Xb.out.lt hbl; have q_SX_l := Nat.le_trans SX.out.2 hbl; have q_Sall_l := Nat.le_trans Sall.out.2 hbl; have q_Sb_l := Nat.le_trans Sb.out.2 hbl; have q_ZB_l := Nat.le_trans (Below.size ZB.out) hbl; have ol := Nat.le_trans BB.out.size hbl; have SX := Lib.hid (SX.out.next bel16); have Xf := Lib.hid (Xf.out.next bel16); have Xe := Lib.hid (Xe.out.next bel16); have Xa := Lib.hid (Xa.out.next bel16); have Xb := Lib.hid (Xb.out.next bel16); have Sall := Lib.hid (Sall.out.next bel16); have Sb := Lib.hid (Sb.out.next bel16); have ZB := Lib.hid (ZB.out.next bel16); have BB := Lib.hid (bel_next BB.out bel16); have Xl := Lib.hid hBl; clear bel16 hBl hbl)
          | ((with_reducible refine flt_store flt rfl (.tmp 20) (.tmp 132) rfl rfl rfl Xl.out HLR.out ?_); intro w17 hB17 onl17; have SX := Lib.hid (SX.out.only (by omega) onl17); have Xf := Lib.hid (Xf.out.only (by omega) onl17); have Xe := Lib.hid (Xe.out.only (by omega) onl17); have Xa := Lib.hid (Xa.out.only (by omega) onl17); have Xb := Lib.hid (Xb.out.only (by omega) onl17); have Sall := Lib.hid (Sall.out.only (by omega) onl17); have Sb := Lib.hid (Sb.out.only (by omega) onl17); have ZB := Lib.hid (ZB.out.only (by omega) onl17); have BB := Lib.hid (onl17.bel ol BB.out); have Xl := Lib.hid hB17; clear onl17 hB17))
        go_cut [22, 23] (fun s22 s23 wx => ∃ bp, s22 = .pointer (some ⟨bp, 0, none⟩) ∧ s23 = .int .i64 0 ∧ w17.heap.size ≤ bp ∧ FB wx bp 24 sh f1 f2 ∧ Below w17.heap.size w17 wx)
        case first =>
          refine h_begin (S := SinceH w17) (by kernel_rfl) rfl ?_
          have S0 : Below w17.heap.size w17 { w17 with drawn := w17.drawn + 1 } := (bel_self w17).drew
          generalize ({ w17 with drawn := w17.drawn + 1 } : World) = wd at *
          refine h_take 0 rfl (by kernel_rfl) (by kernel_rfl) (by kernel_rfl) (fun _ _ _ h => h) (y_load flt rfl _ rfl rfl (fun W hW => Xl.out.next hW)) S0 rfl (by go_simp <;> rfl) ?_
          refine h_take 1 rfl (by kernel_rfl) (by kernel_rfl) (by kernel_rfl) (fun _ _ _ h => h) (y_pure rfl (fun W hW => by go_simp <;> rfl)) S0 rfl (by go_simp <;> rfl) ?_
          refine h_take 2 rfl (by kernel_rfl) (by kernel_rfl) (by kernel_rfl) (fun _ _ _ h => h) (y_pure rfl (fun W hW => by go_simp <;> rfl)) S0 rfl (by go_simp <;> rfl) ?_
          refine h_take 3 rfl (by kernel_rfl) (by kernel_rfl) (by kernel_rfl) (fun _ _ _ h => h) (y_pure rfl (fun W hW => by go_simp <;> rfl)) S0 rfl (by go_simp <;> rfl) ?_
          refine h_take 4 rfl (by kernel_rfl) (by kernel_rfl) (by kernel_rfl) (fun _ _ _ h => h) (y_pure rfl (fun W hW => by have := HC.out W (bel_next ZB.out hW); go_simp <;> rfl)) S0 rfl (by go_simp <;> rfl) ?_
          refine h_two 5 9 (by kernel_rfl) rfl rfl rfl rfl rfl rfl ?_ ?_
          · refine wp_call (by go_simp <;> rfl) (CP1.out _) (by go_simp <;> rfl) ?_
            intro v1 belc
            have S1 : Below w17.heap.size w17 v1 := bel_next S0 belc
            refine ⟨S1, ?_⟩
            refine h_take 6 rfl (by kernel_rfl) (by kernel_rfl) (by kernel_rfl) (fun _ _ _ h => h) (y_pure rfl (fun W hW => by go_simp <;> rfl)) S1 rfl (by go_simp <;> rfl) ?_
            refine h_take 7 rfl (by kernel_rfl) (by kernel_rfl) (by kernel_rfl) (fun _ _ _ h => h) (y_pure rfl (fun W hW => by go_simp <;> rfl)) S1 rfl (by go_simp <;> rfl) ?_
            refine h_take 8 rfl (by kernel_rfl) (by kernel_rfl) (by kernel_rfl) (fun _ _ _ h => h) (y_pure rfl (fun W hW => by go_simp <;> rfl)) S1 rfl (by go_simp <;> rfl) ?_
            refine h_one 9 (by kernel_rfl) rfl rfl rfl ?_
            refine wp_flt_alloc flt rfl (fun b => by go_simp <;> rfl) ?_
            intro v2 bp hb8 hB8 bela
            have S2 : Below w17.heap.size w17 v2 := bel_next S1 bela
            refine ⟨S2, ?_⟩
            have o8 : w17.heap.size ≤ bp := Nat.le_trans S1.size hb8
            refine h_one 10 (by kernel_rfl) rfl rfl rfl ?_
            refine wp_flt_store flt _ _ rfl rfl rfl hB8 HNF.out (by go_simp <;> rfl) ?_
            intro v3 hB3 onl3
            have S3 : Below w17.heap.size w17 v3 := onl3.bel o8 S2
            refine ⟨S3, ?_⟩
            refine h_take 11 rfl (by kernel_rfl) (by kernel_rfl) (by kernel_rfl) (fun _ _ _ h => h) (y_pure rfl (fun W hW => by go_simp <;> rfl)) S3 rfl (by go_simp <;> rfl) ?_
            refine h_done (by kernel_rfl) ?_
            go_wp2_with fail
            go_meet
            exact ⟨bp, rfl, rfl, o8, hB3, S3⟩
          · refine wp_flt_alloc flt rfl (fun b => by go_simp <;> rfl) ?_
            intro v1 bp hb8 hB8 bela
            have S1 : Below w17.heap.size w17 v1 := bel_next S0 bela
            refine ⟨S1, ?_⟩
            have o8 : w17.heap.size ≤ bp := Nat.le_trans S0.size hb8
            refine h_one 5 (by kernel_rfl) rfl rfl rfl ?_
            refine wp_call (by go_simp <;> rfl) (CP1.out _) (by go_simp <;> rfl) ?_
            intro v2 belc
            have S2 : Below w17.heap.size w17 v2 := bel_next S1 belc
            refine ⟨S2, ?_⟩
            have hB8 := hB8.next belc
            refine h_take 6 rfl (by kernel_rfl) (by kernel_rfl) (by kernel_rfl) (fun _ _ _ h => h) (y_pure rfl (fun W hW => by go_simp <;> rfl)) S2 rfl (by go_simp <;> rfl) ?_
            refine h_take 7 rfl (by kernel_rfl) (by kernel_rfl) (by kernel_rfl) (fun _ _ _ h => h) (y_pure rfl (fun W hW => by go_simp <;> rfl)) S2 rfl (by go_simp <;> rfl) ?_
            refine h_take 8 rfl (by kernel_rfl) (by kernel_rfl) (by kernel_rfl) (fun _ _ _ h => h) (y_pure rfl (fun W hW => by go_simp <;> rfl)) S2 rfl (by go_simp <;> rfl) ?_
            refine h_one 10 (by kernel_rfl) rfl rfl rfl ?_
            refine wp_flt_store flt _ _ rfl rfl rfl hB8 HNF.out (by go_simp <;> rfl) ?_
            intro v3 hB3 onl3
            have S3 : Below w17.heap.size w17 v3 := onl3.bel o8 S2
            refine ⟨S3, ?_⟩
            refine h_take 11 rfl (by kernel_rfl) (by kernel_rfl) (by kernel_rfl) (fun _ _ _ h => h) (y_pure rfl (fun W hW => by go_simp <;> rfl)) S3 rfl (by go_simp <;> rfl) ?_
            refine h_done (by kernel_rfl) ?_
            go_wp2_with fail
            go_meet
            exact ⟨bp, rfl, rfl, o8, hB3, S3⟩
        case rest =>
          obtain ⟨bp, rfl, rfl, hbp, hBp, bel18⟩ := hcut
          obtain ⟨w18, rfl⟩ : ∃ wq, wq = wc := ⟨_, rfl⟩
          have q_f_p : bf < bp := Nat.lt_of_lt_of_le Xf.out.lt hbp
          have q_e_p : be < bp := Nat.lt_of_lt_of_le Xe.out.lt hbp
          have q_a_p : ba < bp := Nat.lt_of_lt_of_le Xa.out.lt hbp
          have q_b_p : bb < bp := Nat.lt_of_lt_of_le Xb.out.lt hbp
          have q_l_p : bl < bp := Nat.lt_of_lt_of_le Xl.out.lt hbp
          have q_SX_p := Nat.le_trans SX.out.2 hbp
          have q_Sall_p := Nat.le_trans Sall.out.2 hbp
          have q_Sb_p := Nat.le_trans Sb.out.2 hbp
          have q_ZB_p := Nat.le_trans (Below.size ZB.out) hbp
          have op := Nat.le_trans BB.out.size hbp
          have SX := Lib.hid (SX.out.next bel18)
          have Xf := Lib.hid (Xf.out.next bel18)
          have Xe := Lib.hid (Xe.out.next bel18)
          have Xa := Lib.hid (Xa.out.next bel18)
          have Xb := Lib.hid (Xb.out.next bel18)
          have Sall := Lib.hid (Sall.out.next bel18)
          have Sb := Lib.hid (Sb.out.next bel18)
          have ZB := Lib.hid (ZB.out.next bel18)
          have Xl := Lib.hid (Xl.out.next bel18)
          have BB := Lib.hid (bel_next BB.out bel18)
          have Xp := Lib.hid hBp
          clear bel18 hBp hbp
          go_upto_region 17 with fail
          go_cut [25, 24, 26] (fun s25 s24 s26 wx => ∃ bz, s25 = .pointer (some ⟨bz, 0, none⟩) ∧ s24 = .int .i32 (wrap32 (x - g)) ∧ s26 = .int .i64 0 ∧ w18.heap.size ≤ bz ∧ FB wx bz 24 sh f1 f2 ∧ Below w18.heap.size w18 wx)
          case first =>
            refine h_begin (S := SinceH w18) (by kernel_rfl) rfl ?_
            have S0 : Below w18.heap.size w18 { w18 with drawn := w18.drawn + 1 } := (bel_self w18).drew
            generalize ({ w18 with drawn := w18.drawn + 1 } : World) = wd at *
            refine h_take 0 rfl (by kernel_rfl) (by kernel_rfl) (by kernel_rfl) (fun _ _ _ h => h) (y_load flt rfl _ rfl rfl (fun W hW => Xa.out.next hW)) S0 rfl (by go_simp <;> rfl) ?_
            refine h_take 1 rfl (by kernel_rfl) (by kernel_rfl) (by kernel_rfl) (fun _ _ _ h => h) (y_pure rfl (fun W hW => by go_simp <;> rfl)) S0 rfl (by go_simp <;> rfl) ?_
            refine h_take 2 rfl (by kernel_rfl) (by kernel_rfl) (by kernel_rfl) (fun _ _ _ h => h) (y_pure rfl (fun W hW => by go_simp <;> rfl)) S0 rfl (by go_simp <;> rfl) ?_
            refine h_take 3 rfl (by kernel_rfl) (by kernel_rfl) (by kernel_rfl) (fun _ _ _ h => h) (y_pure rfl (fun W hW => by go_simp <;> rfl)) S0 rfl (by go_simp <;> rfl) ?_
            refine h_take 4 rfl (by kernel_rfl) (by kernel_rfl) (by kernel_rfl) (fun _ _ _ h => h) (y_pure rfl (fun W hW => by have := HC.out W (bel_next ZB.out hW); go_simp <;> rfl)) S0 rfl (by go_simp <;> rfl) ?_
            refine h_two 5 10 (by kernel_rfl) rfl rfl rfl rfl rfl rfl ?_ ?_
            · refine wp_call (by go_simp <;> rfl) (CF1.out _) (by go_simp <;> rfl) ?_
              intro v1 belc
              have S1 : Below w18.heap.size w18 v1 := bel_next S0 belc
              refine ⟨S1, ?_⟩
              refine h_take 6 rfl (by kernel_rfl) (by kernel_rfl) (by kernel_rfl) (fun _ _ _ h => h) (y_pure rfl (fun W hW => by go_simp <;> rfl)) S1 rfl (by go_simp <;> rfl) ?_
              refine h_take 7 rfl (by kernel_rfl) (by kernel_rfl) (by kernel_rfl) (fun _ _ _ h => h) (y_pure rfl (fun W hW => by go_simp <;> rfl)) S1 rfl (by go_simp <;> rfl) ?_
              refine h_take 8 rfl (by kernel_rfl) (by kernel_rfl) (by kernel_rfl) (fun _ _ _ h => h) (y_pure rfl (fun W hW => by go_simp <;> rfl)) S1 rfl (by go_simp <;> rfl) ?_
              refine h_take 9 rfl (by kernel_rfl) (by kernel_rfl) (by kernel_rfl) (fun _ _ _ h => h) (y_pure rfl (fun W hW => by go_simp <;> rfl)) S1 rfl (by go_simp <;> rfl) ?_
              refine h_one 10 (by kernel_rfl) rfl rfl rfl ?_
              refine wp_flt_alloc flt rfl (fun b => by go_simp <;> rfl) ?_
              intro v2 bz hb8 hB8 bela
              have S2 : Below w18.heap.size w18 v2 := bel_next S1 bela
              refine ⟨S2, ?_⟩
              have o8 : w18.heap.size ≤ bz := Nat.le_trans S1.size hb8
              refine h_take 11 rfl (by kernel_rfl) (by kernel_rfl) (by kernel_rfl) (fun _ _ _ h => h) (y_pure rfl (fun W hW => by go_simp <;> rfl)) S2 rfl (by go_simp <;> rfl) ?_
              refine h_one 12 (by kernel_rfl) rfl rfl rfl ?_
              refine wp_flt_store flt _ _ rfl rfl rfl hB8 HNF.out (by go_simp <;> rfl) ?_
              intro v3 hB3 onl3
              have S3 : Below w18.heap.size w18 v3 := onl3.bel o8 S2
              refine ⟨S3, ?_⟩
              refine h_take 13 rfl (by kernel_rfl) (by kernel_rfl) (by kernel_rfl) (fun _ _ _ h => h) (y_pure rfl (fun W hW => by go_simp <;> rfl)) S3 rfl (by go_simp <;> rfl) ?_
              refine h_done (by kernel_rfl) ?_
              go_wp2_with fail
              go_meet
              exact ⟨bz, rfl, rfl, rfl, o8, hB3, S3⟩
            · refine wp_flt_alloc flt rfl (fun b => by go_simp <;> rfl) ?_
              intro v1 bz hb8 hB8 bela
              have S1 : Below w18.heap.size w18 v1 := bel_next S0 bela
              refine ⟨S1, ?_⟩
              have o8 : w18.heap.size ≤ bz := Nat.le_trans S0.size hb8
              refine h_one 5 (by kernel_rfl) rfl rfl rfl ?_
              refine wp_call (by go_simp <;> rfl) (CF1.out _) (by go_simp <;> rfl) ?_
              intro v2 belc
              have S2 : Below w18.heap.size w18 v2 := bel_next S1 belc
              refine ⟨S2, ?_⟩
              have hB8 := hB8.next belc
              refine h_take 6 rfl (by kernel_rfl) (by kernel_rfl) (by kernel_rfl) (fun _ _ _ h => h) (y_pure rfl (fun W hW => by go_simp <;> rfl)) S2 rfl (by go_simp <;> rfl) ?_
              refine h_take 7 rfl (by kernel_rfl) (by kernel_rfl) (by kernel_rfl) (fun _ _ _ h => h) (y_pure rfl (fun W hW => by go_simp <;> rfl)) S2 rfl (by go_simp <;> rfl) ?_
              refine h_take 8 rfl (by kernel_rfl) (by kernel_rfl) (by kernel_rfl) (fun _ _ _ h => h) (y_pure rfl (fun W hW => by go_simp <;> rfl)) S2 rfl (by go_simp <;> rfl) ?_
              refine h_take 9 rfl (by kernel_rfl) (by kernel_rfl) (by kernel_rfl) (fun _ _ _ h => h) (y_pure rfl (fun W hW => by go_simp <;> rfl)) S2 rfl (by go_simp <;> rfl) ?_
              refine h_take 11 rfl (by kernel_rfl) (by kernel_rfl) (by kernel_rfl) (fun _ _ _ h => h) (y_pure rfl (fun W hW => by go_simp <;> rfl)) S2 rfl (by go_simp <;> rfl) ?_
              refine h_one 12 (by kernel_rfl) rfl rfl rfl ?_
              refine wp_flt_store flt _ _ rfl rfl rfl hB8 HNF.out (by go_simp <;> rfl) ?_
              intro v3 hB3 onl3
              have S3 : Below w18.heap.size w18 v3 := onl3.bel o8 S2
              refine ⟨S3, ?_⟩
              refine h_take 13 rfl (by kernel_rfl) (by kernel_rfl) (by kernel_rfl) (fun _ _ _ h => h) (y_pure rfl (fun W hW => by go_simp <;> rfl)) S3 rfl (by go_simp <;> rfl) ?_
              refine h_done (by kernel_rfl) ?_
              go_wp2_with fail
              go_meet
              exact ⟨bz, rfl, rfl, rfl, o8, hB3, S3⟩
          case rest =>
            obtain ⟨bz, rfl, rfl, rfl, hbz, hBz, bel19⟩ := hcut
            obtain ⟨w19, rfl⟩ : ∃ wq, wq = wc := ⟨_, rfl⟩
            have q_f_z : bf < bz := Nat.lt_of_lt_of_le Xf.out.lt hbz
            have q_e_z : be < bz := Nat.lt_of_lt_of_le Xe.out.lt hbz
            have q_a_z : ba < bz := Nat.lt_of_lt_of_le Xa.out.lt hbz
            have q_b_z : bb < bz := Nat.lt_of_lt_of_le Xb.out.lt hbz
            have q_l_z : bl < bz := Nat.lt_of_lt_of_le Xl.out.lt hbz
            have q_p_z : bp < bz := Nat.lt_of_lt_of_le Xp.out.lt hbz
            have q_SX_z := Nat.le_trans SX.out.2 hbz
            have q_Sall_z := Nat.le_trans Sall.out.2 hbz
            have q_Sb_z := Nat.le_trans Sb.out.2 hbz
            have q_ZB_z := Nat.le_trans (Below.size ZB.out) hbz
            have oz := Nat.le_trans BB.out.size hbz
            have SX := Lib.hid (SX.out.next bel19)
            have Xf := Lib.hid (Xf.out.next bel19)
            have Xe := Lib.hid (Xe.out.next bel19)
            have Xa := Lib.hid (Xa.out.next bel19)
            have Xb := Lib.hid (Xb.out.next bel19)
            have Sall := Lib.hid (Sall.out.next bel19)
            have Sb := Lib.hid (Sb.out.next bel19)
            have ZB := Lib.hid (ZB.out.next bel19)
            have Xl := Lib.hid (Xl.out.next bel19)
            have Xp := Lib.hid (Xp.out.next bel19)
            have BB := Lib.hid (bel_next BB.out bel19)
            have Xz := Lib.hid hBz
            clear bel19 hBz hbz
            obtain ⟨b2, o2, rfl, hb2, hc2⟩ := Sb.out.1 (by rw [HLB.out]; simp)
            have c0 := hc2 0 (by rw [HLB.out]; simp)
            rw [HLB.out] at c0
            have c0' : w19.cell? ⟨b2, o2, none⟩ = some (.int .i32 (wrap32 (x - g))) := by simpa using c0
            have qy : (wrap32 (x - g) == wrap32 (x - g)) = true := by simp
            have z0 : (0 : Int) < ((xs.length - n : Nat) : Int) := by omega
            clear hc2 c0
            go_wp2_with (first
              | ((with_reducible refine wpl_guard (d := some 179) ?_ ?_); (next => first | kernel_rfl | go_simp); with_reducible refine flt_load (o := ⟨some 179, _, _, _, _, _⟩) flt rfl _ rfl rfl Xz.out ?_)
              | ((with_reducible refine wpl_guard (d := some 180) ?_ ?_); (next => first | kernel_rfl | go_simp); with_reducible refine flt_load (o := ⟨some 180, _, _, _, _, _⟩) flt rfl _ rfl rfl Xp.out ?_)
              | ((with_reducible refine wpl_guard (d := some 181) ?_ ?_); (next => first | kernel_rfl | go_simp); with_reducible refine wpl_eq (o := ⟨some 181, _, _, _, _, _⟩) (flt_eqs flt eqgF _ _ _ HNF.out _ _ _) rfl rfl rfl rfl ?_))
            go_ret
            exact ⟨rfl, BB.out⟩
      · have qe : ((n : Int) == (xs.length : Int)) = true := by simp; omega
        go_wp2_with fail
        refine (same13 Ac Aall _ _ cc call LL _ HLN_all.out HLN_all.out (by have := HLN_all.out; omega) Sc.out.sl Sall.out.sl).mono ?_
        rintro e w13 ⟨rfl, bel13⟩
        have SX := Lib.hid (SX.out.next bel13)
        have Xf := Lib.hid (Xf.out.next bel13)
        have Xe := Lib.hid (Xe.out.next bel13)
        have Xa := Lib.hid (Xa.out.next bel13)
        have Xb := Lib.hid (Xb.out.next bel13)
        have Sall := Lib.hid (Sall.out.next bel13)
        have Sb := Lib.hid (Sb.out.next bel13)
        have BB := Lib.hid (bel_next BB.out bel13)
        clear bel13
        go_wp2_with (first
          | ((with_reducible refine wpl_guard (d := some 97) ?_ ?_); (next => first | kernel_rfl | go_simp); with_reducible refine flt_load (o := ⟨some 97, _, _, _, _, _⟩) flt rfl _ rfl rfl Xb.out ?_)
          | ((with_reducible refine wpl_guard (d := some 98) ?_ ?_); (next => first | kernel_rfl | go_simp); with_reducible refine flt_load (o := ⟨some 98, _, _, _, _, _⟩) flt rfl _ rfl rfl Xe.out ?_)
          | ((with_reducible refine wpl_guard (d := some 99) ?_ ?_); (next => first | kernel_rfl | go_simp); with_reducible refine wpl_eq (o := ⟨some 99, _, _, _, _, _⟩) (flt_nes flt eqgF _ _ _ HE.out _ _ _) rfl rfl rfl rfl ?_))
        go_ret
        exact ⟨rfl, BB.out⟩
theorem lmsParts_walk (sh : Int) (ts ps : List Int) (A : Option Addr) (c : Nat) (xs : List Int) (i : Int) (w : World) (hF : F16 ts ps) (ht : I32 ts) (hp : I32 ps) (hb0 : -9223372036854775808 ≤ sh) (hb1 : sh ≤ 9223372036854775807)
    (hc : xs.length ≤ c) (hm : c ≤ 9223372036854775807) (hx : I32 xs) (hs : Sl w w.heap.size .i32 A xs) (hi0 : -9223372036854775808 ≤ i) (hi1 : i ≤ 9223372036854775807) :
    Calls Try.prog 4 #[.agg (fA sh ts ps), .slice A xs.length c, .int .i64 i] w fun e w' => e = .returned (.bool true) ∧ Below w.heap.size w w' := by
  by_cases h : ckF sh ≠ 0 ∨ 4000 < xs.length ∨ i < 0 ∨ (xs.length : Int) < i
  · exact parts_bad sh ts ps A xs.length c i w hF (by omega) h
  · have h1 : ckF sh = 0 := by
      refine Decidable.by_contra fun h2 => h (.inl h2)
    obtain ⟨m, rfl⟩ := Int.eq_ofNat_of_zero_le (show 0 ≤ i by omega)
    exact parts_ok sh (ts, ps) A c m xs w ⟨hF, ht, hp⟩ h1 (by omega) (by omega) hc hm hx hs
end Go.Proofs.Ytbiikhfhhfmkoaa

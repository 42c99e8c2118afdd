/-
  The walk of ChainBack. Conditions: numbers within their types; the list lies below.
-/
import Derived.Test.YtgnmpkembcdkcaaLaw19B
import Derived.Test.YtgnmpkembcdkcaaKit4
namespace Go.Proofs.Ytgnmpkembcdkcaa
open Go.RowKit
set_option linter.unusedVariables false

theorem runC_i32 (bt sh : Int) : ∀ (s : CS) (l : List Int), I32 (runL (cO bt sh) (cN bt sh) s l)
  | _, [] => fun x hx => by simp [runL] at hx
  | s, x :: l => fun y hy => by
    simp only [runL, List.mem_cons] at hy
    rcases hy with rfl | hy
    · exact cO_bd bt sh s x
    · exact runC_i32 bt sh _ l y hy
theorem runC_undo (bt sh : Int) (s : CS) (l : List Int) (hv : VC s) (hx : I32 l) : runL (cP bt sh) (cM bt sh) s (runL (cO bt sh) (cN bt sh) s l) = l ∧ finL (cM bt sh) s (runL (cO bt sh) (cN bt sh) s l) = finL (cN bt sh) s l :=
  runL_undo (V := VC) (G := G32) (fun s x hs hx => cN_v bt sh s x hs hx) (fun s x _ hx => cP_cO bt sh s x hx) (fun s x _ hx => cM_cO bt sh s x hx) s l hv hx

set_option maxRecDepth 100000 in
set_option maxHeartbeats 1000000 in
theorem kback_bad (bt la sh : Int) (ts ps : List Int) (A : Option Addr) (n c : Nat) (i : Int) (w : World) (hF : F16 ts ps) (hm : n ≤ 9223372036854775807) (h : cnC bt sh ≠ 0 ∨ 4000 < n ∨ i < 0 ∨ (n : Int) < i) :
    Calls Try.prog 7 #[.agg (cA bt la sh ts ps), .slice A n c, .int .i64 i] w fun e w' => e = .returned (.bool true) ∧ Below w.heap.size w w' := by
  have BB := Lib.hid (bel_self w)
  have CK := Lib.hid (fun W => crecheck_any bt la sh ts ps W hF)
  by_cases h0 : cnC bt sh = 0
  · rw [h0] at CK
    have hh := h.resolve_left (fun hh => hh h0)
    clear h h0
    by_cases h1 : 4000 < n
    · have d1 : decide ((4000 : Int) < (n : Int)) = true := by simp; omega
      go_enter Try.func7, Try.ntmps7
      go_wp2_with (first
        | ((with_reducible refine chn_box (o := ⟨some 3, _, _, _, _, _⟩) chn rfl _ rfl rfl hF ?_); intro w1 bf hbf hBf bel1; have of := Nat.le_trans BB.out.size hbf; have BB := Lib.hid (bel_next BB.out bel1); have Xf := Lib.hid hBf; clear bel1 hBf hbf))
      refine (alive_any _).mono ?_
      rintro e w2 ⟨rfl, bel2⟩
      have Xf := Lib.hid (Xf.out.next bel2)
      have BB := Lib.hid (bel_next BB.out bel2)
      clear bel2
      go_wp2_with (first
        | (with_reducible refine chn_load (o := ⟨some 21, _, _, _, _, _⟩) chn rfl _ rfl rfl Xf.out ?_))
      refine (CK.out _).mono ?_
      rintro e w3 ⟨rfl, bel3⟩
      have Xf := Lib.hid (Xf.out.next bel3)
      have BB := Lib.hid (bel_next BB.out bel3)
      clear bel3
      go_wp2_with fail
      go_ret
      exact ⟨rfl, BB.out⟩
    · have d1 : decide ((4000 : Int) < (n : Int)) = false := by simp; omega
      by_cases h2 : i < 0
      · have d2 : decide (i < 0) = true := by simp; omega
        go_enter Try.func7, Try.ntmps7
        go_wp2_with (first
          | ((with_reducible refine chn_box (o := ⟨some 3, _, _, _, _, _⟩) chn rfl _ rfl rfl hF ?_); intro w1 bf hbf hBf bel1; have of := Nat.le_trans BB.out.size hbf; have BB := Lib.hid (bel_next BB.out bel1); have Xf := Lib.hid hBf; clear bel1 hBf hbf))
        refine (alive_any _).mono ?_
        rintro e w2 ⟨rfl, bel2⟩
        have Xf := Lib.hid (Xf.out.next bel2)
        have BB := Lib.hid (bel_next BB.out bel2)
        clear bel2
        go_wp2_with (first
          | (with_reducible refine chn_load (o := ⟨some 21, _, _, _, _, _⟩) chn rfl _ rfl rfl Xf.out ?_))
        refine (CK.out _).mono ?_
        rintro e w3 ⟨rfl, bel3⟩
        have Xf := Lib.hid (Xf.out.next bel3)
        have BB := Lib.hid (bel_next BB.out bel3)
        clear bel3
        go_wp2_with fail
        go_ret
        exact ⟨rfl, BB.out⟩
      · have d2 : decide (i < 0) = false := by simp; omega
        have d3 : decide ((n : Int) < i) = true := by simp; omega
        go_enter Try.func7, Try.ntmps7
        go_wp2_with (first
          | ((with_reducible refine chn_box (o := ⟨some 3, _, _, _, _, _⟩) chn rfl _ rfl rfl hF ?_); intro w1 bf hbf hBf bel1; have of := Nat.le_trans BB.out.size hbf; have BB := Lib.hid (bel_next BB.out bel1); have Xf := Lib.hid hBf; clear bel1 hBf hbf))
        refine (alive_any _).mono ?_
        rintro e w2 ⟨rfl, bel2⟩
        have Xf := Lib.hid (Xf.out.next bel2)
        have BB := Lib.hid (bel_next BB.out bel2)
        clear bel2
        go_wp2_with (first
          | (with_reducible refine chn_load (o := ⟨some 21, _, _, _, _, _⟩) chn rfl _ rfl rfl Xf.out ?_))
        refine (CK.out _).mono ?_
        rintro e w3 ⟨rfl, bel3⟩
        have Xf := Lib.hid (Xf.out.next bel3)
        have BB := Lib.hid (bel_next BB.out bel3)
        clear bel3
        go_wp2_with fail
        go_ret
        exact ⟨rfl, BB.out⟩
  · rw [cnC_bad h0] at CK
    clear h h0
    go_enter Try.func7, Try.ntmps7
    go_wp2_with (first
      | ((with_reducible refine chn_box (o := ⟨some 3, _, _, _, _, _⟩) chn rfl _ rfl rfl hF ?_); intro w1 bf hbf hBf bel1; have of := Nat.le_trans BB.out.size hbf; have BB := Lib.hid (bel_next BB.out bel1); have Xf := Lib.hid hBf; clear bel1 hBf hbf))
    refine (alive_any _).mono ?_
    rintro e w2 ⟨rfl, bel2⟩
    have Xf := Lib.hid (Xf.out.next bel2)
    have BB := Lib.hid (bel_next BB.out bel2)
    clear bel2
    go_wp2_with (first
      | (with_reducible refine chn_load (o := ⟨some 21, _, _, _, _, _⟩) chn rfl _ rfl rfl Xf.out ?_))
    refine (CK.out _).mono ?_
    rintro e w3 ⟨rfl, bel3⟩
    have Xf := Lib.hid (Xf.out.next bel3)
    have BB := Lib.hid (bel_next BB.out bel3)
    clear bel3
    go_wp2_with fail
    go_ret
    exact ⟨rfl, BB.out⟩

set_option maxRecDepth 100000 in
set_option maxHeartbeats 4000000 in
theorem kback_ok (bt sh : Int) (s : CS) (A : Option Addr) (c n : Nat) (xs : List Int) (w : World) (hv : VC s) (h : cnC bt sh = 0) (hb0 : -9223372036854775808 ≤ bt) (hb1 : bt ≤ 9223372036854775807) (hl : xs.length ≤ 4000) (hn : n ≤ xs.length) (hc : xs.length ≤ c) (hm : c ≤ 9223372036854775807) (hx : I32 xs) (hs : Sl w w.heap.size .i32 A xs) :
    Calls Try.prog 7 #[.agg (cA bt s.1 sh s.2.1 s.2.2), .slice A xs.length c, .int .i64 (n : Int)] w fun e w' => e = .returned (.bool true) ∧ Below w.heap.size w w' := by
  have BB := Lib.hid (bel_self w)
  have hF := hv.2.1
  have SX := Lib.hid (SA.of hs)
  have CK := Lib.hid (fun W => crecheck_any bt s.1 sh s.2.1 s.2.2 W hF)
  rw [h] at CK
  obtain ⟨A3, rs, hs3⟩ := from_ex (P := Try.prog) elI32 A c n xs hn hc
  have HX1 : I32 (xs.take n) := fun y hy => hx y (List.mem_of_mem_take hy)
  have HX2 : I32 (xs.drop n) := fun y hy => hx y (List.mem_of_mem_drop hy)
  have hvm : VC (finL (cN bt sh) s (xs.take n)) := finC_v bt sh s _ hv HX1
  have HLN_all := Lib.hid (show (runL (cO bt sh) (cN bt sh) s xs).length = xs.length from runL_len s xs)
  have C1 := Lib.hid (fun W (hh : Sl W W.heap.size .i32 A xs) => cAll_ok bt sh s A _ c xs W rfl hv h hb0 hb1 hl hx hh)
  have C2 := Lib.hid (fun A c W (hh : Sl W W.heap.size .i32 A (runL (cO bt sh) (cN bt sh) s xs)) => cUndo_ok bt sh s A xs.length c (runL (cO bt sh) (cN bt sh) s xs) W HLN_all.out hv h hb0 hb1 hl (runC_i32 bt sh s xs) hh)
  obtain ⟨u1, u2⟩ := runC_undo bt sh s xs hv hx
  rw [u1, u2] at C2
  have C3 := Lib.hid (fun W (hh : Sl W W.heap.size .i32 A xs) => cAll_ok bt sh s A n c (xs.take n) W (by rw [List.length_take]; omega) hv h hb0 hb1 (by omega) HX1 (hh.take n))
  have C4 := Lib.hid (fun W (hh : Sl W W.heap.size .i32 A xs) => cAll_ok bt sh (finL (cN bt sh) s (xs.take n)) A3 (xs.length - n) (c - n) (xs.drop n) W (by rw [List.length_drop]) hvm h hb0 hb1 (by omega) HX2 (hs3 W _ hh))
  have E1 : finL (cN bt sh) (finL (cN bt sh) s (xs.take n)) (xs.drop n) = finL (cN bt sh) s xs := by rw [← finL_append, List.take_append_drop]
  rw [E1] at C4
  have E2 := Lib.hid (show runL (cO bt sh) (cN bt sh) s (xs.take n) ++ runL (cO bt sh) (cN bt sh) (finL (cN bt sh) s (xs.take n)) (xs.drop n) = runL (cO bt sh) (cN bt sh) s xs by rw [← runL_append, List.take_append_drop])
  have HE := Lib.hid (finC_v bt sh s xs hv hx).2.1
  have HMD := Lib.hid hvm.2.1
  have HLN_a := Lib.hid (show (runL (cO bt sh) (cN bt sh) s (xs.take n)).length = n by rw [runL_len, List.length_take]; omega)
  have HLN_b := Lib.hid (show (runL (cO bt sh) (cN bt sh) (finL (cN bt sh) s (xs.take n)) (xs.drop n)).length = xs.length - n by rw [runL_len, List.length_drop])
  have d1 : decide ((4000 : Int) < (xs.length : Int)) = false := by simp; omega
  have d2 : decide ((n : Int) < 0) = false := by simp
  have d3 : decide (xs.length < n) = false := by simp; omega
  have hnc : n ≤ c := by omega
  have hncz : (n : Int) ≤ (c : Int) := by omega
  have hnz : (n : Int) ≤ (xs.length : Int) := by omega
  have qq : ((xs.length : Int) == (xs.length : Int)) = true := by simp
  generalize hq : finL (cN bt sh) s (xs.take n) = q at *
  generalize runL (cO bt sh) (cN bt sh) s (xs.take n) = LA at *
  generalize runL (cO bt sh) (cN bt sh) q (xs.drop n) = LB at *
  generalize runL (cO bt sh) (cN bt sh) s xs = LL at *
  generalize (finL (cN bt sh) s xs).1 = e0 at *
  generalize (finL (cN bt sh) s xs).2.1 = e1 at *
  generalize (finL (cN bt sh) s xs).2.2 = e2 at *
  clear h hv hx hs hs3 HX1 HX2 hvm E1 hq u1 u2
  go_enter Try.func7, Try.ntmps7
  go_wp2_with (first
    | ((with_reducible refine chn_box (o := ⟨some 3, _, _, _, _, _⟩) chn rfl _ rfl rfl hF ?_); intro w1 bf hbf hBf bel1; have q_SX_f := Nat.le_trans SX.out.2 hbf; have of := Nat.le_trans BB.out.size hbf; have SX := Lib.hid (SX.out.next bel1); have BB := Lib.hid (bel_next BB.out bel1); have Xf := Lib.hid hBf; clear bel1 hBf hbf))
  refine (alive_any _).mono ?_
  rintro e w2 ⟨rfl, bel2⟩
  have SX := Lib.hid (SX.out.next bel2)
  have Xf := Lib.hid (Xf.out.next bel2)
  have BB := Lib.hid (bel_next BB.out bel2)
  clear bel2
  go_wp2_with (first
    | (with_reducible refine chn_load (o := ⟨some 21, _, _, _, _, _⟩) chn rfl _ rfl rfl Xf.out ?_))
  refine (CK.out _).mono ?_
  rintro e w3 ⟨rfl, bel3⟩
  have SX := Lib.hid (SX.out.next bel3)
  have Xf := Lib.hid (Xf.out.next bel3)
  have BB := Lib.hid (bel_next BB.out bel3)
  clear bel3
  go_wp2_with (first
    | (with_reducible refine chn_load (o := ⟨some 45, _, _, _, _, _⟩) chn rfl _ rfl rfl Xf.out ?_))
  refine (C1.out _ SX.out.sl).mono ?_
  rintro e w4 ⟨v4, rfl, own4, bel4⟩
  obtain ⟨Aall, call, rfl, hcall, hmall, sl4⟩ := own4.sln (HLN_all.out)
  have Sall := Lib.hid (SA.of sl4)
  have SX := Lib.hid (SX.out.next bel4)
  have Xf := Lib.hid (Xf.out.next bel4)
  have BB := Lib.hid (bel_next BB.out bel4)
  clear own4 bel4 sl4
  go_wp2_with (first
    | ((with_reducible refine chn_alloc (o := ⟨some 9, _, _, _, _, _⟩) chn rfl rfl ?_); intro w5 be hbe hBe bel5; have q_f_e : bf < be := Nat.lt_of_lt_of_le Xf.out.lt hbe; have q_SX_e := Nat.le_trans SX.out.2 hbe; have q_Sall_e := Nat.le_trans Sall.out.2 hbe; have oe := Nat.le_trans BB.out.size hbe; have SX := Lib.hid (SX.out.next bel5); have Xf := Lib.hid (Xf.out.next bel5); have Sall := Lib.hid (Sall.out.next bel5); have BB := Lib.hid (bel_next BB.out bel5); have Xe := Lib.hid hBe; clear bel5 hBe hbe)
    | ((with_reducible refine chn_store chn rfl (.tmp 9) (.tmp 49) rfl rfl rfl Xe.out HE.out ?_); intro w6 hB6 onl6; have SX := Lib.hid (SX.out.only (by omega) onl6); have Xf := Lib.hid (Xf.out.only (by omega) onl6); have Sall := Lib.hid (Sall.out.only (by omega) onl6); have BB := Lib.hid (onl6.bel oe BB.out); have Xe := Lib.hid hB6; clear onl6 hB6)
    | (with_reducible refine chn_load (o := ⟨some 52, _, _, _, _, _⟩) chn rfl _ rfl rfl Xf.out ?_))
  refine (C2.out _ _ _ Sall.out.sl).mono ?_
  rintro e w7 ⟨v7, rfl, own7, bel7⟩
  obtain ⟨Aback, cback, rfl, hcback, hmback, sl7⟩ := own7.sln (rfl)
  have Sback := Lib.hid (SA.of sl7)
  have SX := Lib.hid (SX.out.next bel7)
  have Xf := Lib.hid (Xf.out.next bel7)
  have Sall := Lib.hid (Sall.out.next bel7)
  have Xe := Lib.hid (Xe.out.next bel7)
  have BB := Lib.hid (bel_next BB.out bel7)
  clear own7 bel7 sl7
  go_upto_region 6 with (first
    | ((with_reducible refine chn_alloc (o := ⟨some 12, _, _, _, _, _⟩) chn rfl rfl ?_); intro w8 bk hbk hBk bel8; have q_f_k : bf < bk := Nat.lt_of_lt_of_le Xf.out.lt hbk; have q_e_k : be < bk := Nat.lt_of_lt_of_le Xe.out.lt hbk; have q_SX_k := Nat.le_trans SX.out.2 hbk; have q_Sall_k := Nat.le_trans Sall.out.2 hbk; have q_Sback_k := Nat.le_trans Sback.out.2 hbk; have ok := Nat.le_trans BB.out.size hbk; have SX := Lib.hid (SX.out.next bel8); have Xf := Lib.hid (Xf.out.next bel8); have Sall := Lib.hid (Sall.out.next bel8); have Xe := Lib.hid (Xe.out.next bel8); have Sback := Lib.hid (Sback.out.next bel8); have BB := Lib.hid (bel_next BB.out bel8); have Xk := Lib.hid hBk; clear bel8 hBk hbk)
    | ((with_reducible refine chn_store chn rfl (.tmp 12) (.tmp 56) rfl rfl rfl Xk.out HE.out ?_); intro w9 hB9 onl9; have SX := Lib.hid (SX.out.only (by omega) onl9); have Xf := Lib.hid (Xf.out.only (by omega) onl9); have Sall := Lib.hid (Sall.out.only (by omega) onl9); have Xe := Lib.hid (Xe.out.only (by omega) onl9); have Sback := Lib.hid (Sback.out.only (by omega) onl9); have BB := Lib.hid (onl9.bel ok BB.out); have Xk := Lib.hid hB9; clear onl9 hB9))
  go_cut [15, 14, 16] (fun s15 s14 s16 wx => ∃ ba va, s15 = .pointer (some ⟨ba, 0, none⟩) ∧ s14 = va ∧ s16 = .int .i64 0 ∧ w9.heap.size ≤ ba ∧ CB wx ba 26 bt q.1 sh q.2.1 q.2.2 ∧ Own wx w9.heap.size 21 .i32 va (LA) ∧ Below w9.heap.size w9 wx)
  case first =>
    refine h_begin (S := SinceH w9) (by kernel_rfl) rfl ?_
    have S0 : Below w9.heap.size w9 { w9 with drawn := w9.drawn + 1 } := (bel_self w9).drew
    generalize ({ w9 with drawn := w9.drawn + 1 } : World) = wd at *
    refine h_take 0 rfl (by kernel_rfl) (by kernel_rfl) (by kernel_rfl) (fun _ _ _ h => h) (y_loadC chn rfl _ rfl rfl (fun W hW => Xf.out.next hW)) S0 rfl (by go_simp <;> rfl) ?_
    refine h_take 1 rfl (by kernel_rfl) (by kernel_rfl) (by kernel_rfl) (fun _ _ _ h => h) (y_pure rfl (fun W hW => by go_simp <;> rfl)) S0 rfl (by go_simp <;> rfl) ?_
    refine h_take 2 rfl (by kernel_rfl) (by kernel_rfl) (by kernel_rfl) (fun _ _ _ h => h) (y_pure rfl (fun W hW => by go_simp <;> rfl)) S0 rfl (by go_simp <;> rfl) ?_
    refine h_take 3 rfl (by kernel_rfl) (by kernel_rfl) (by kernel_rfl) (fun _ _ _ h => h) (y_pure rfl (fun W hW => by go_simp <;> rfl)) S0 rfl (by go_simp <;> rfl) ?_
    refine h_two 4 9 (by kernel_rfl) rfl rfl rfl rfl rfl rfl ?_ ?_
    · refine wp_callE (C3.out _ (SX.out.next S0).sl) (by go_simp <;> rfl) (fun u => by go_simp <;> rfl) ?_
      intro va v1 ownc belc
      have S1 : Below w9.heap.size w9 v1 := bel_next S0 belc
      refine ⟨S1, ?_⟩
      refine h_take 5 rfl (by kernel_rfl) (by kernel_rfl) (by kernel_rfl) (fun _ _ _ h => h) (y_pure rfl (fun W hW => by go_simp <;> rfl)) S1 rfl (by go_simp <;> rfl) ?_
      refine h_take 6 rfl (by kernel_rfl) (by kernel_rfl) (by kernel_rfl) (fun _ _ _ h => h) (y_pure rfl (fun W hW => by go_simp <;> rfl)) S1 rfl (by go_simp <;> rfl) ?_
      refine h_take 7 rfl (by kernel_rfl) (by kernel_rfl) (by kernel_rfl) (fun _ _ _ h => h) (y_pure rfl (fun W hW => by go_simp <;> rfl)) S1 rfl (by go_simp <;> rfl) ?_
      refine h_take 8 rfl (by kernel_rfl) (by kernel_rfl) (by kernel_rfl) (fun _ _ _ h => h) (y_pure rfl (fun W hW => by go_simp <;> rfl)) S1 rfl (by go_simp <;> rfl) ?_
      refine h_one 9 (by kernel_rfl) rfl rfl rfl ?_
      refine wp_chn_alloc chn rfl (fun b => by go_simp <;> rfl) ?_
      intro v2 ba hb8 hB8 bela
      have S2 : Below w9.heap.size w9 v2 := bel_next S1 bela
      refine ⟨S2, ?_⟩
      have o8 : w9.heap.size ≤ ba := Nat.le_trans S1.size hb8
      have ne8 := ownc.ne_of_ge hb8
      have ownc := (ownc.next bela).rebase S0.size
      refine h_take 10 rfl (by kernel_rfl) (by kernel_rfl) (by kernel_rfl) (fun _ _ _ h => h) (y_pure rfl (fun W hW => by go_simp <;> rfl)) S2 rfl (by go_simp <;> rfl) ?_
      refine h_one 11 (by kernel_rfl) rfl rfl rfl ?_
      refine wp_chn_store chn _ _ rfl rfl rfl hB8 HMD.out (by go_simp <;> rfl) ?_
      intro v3 hB3 onl3
      have S3 : Below w9.heap.size w9 v3 := onl3.bel o8 S2
      refine ⟨S3, ?_⟩
      have ownc := ownc.only ne8 onl3
      refine h_take 12 rfl (by kernel_rfl) (by kernel_rfl) (by kernel_rfl) (fun _ _ _ h => h) (y_pure rfl (fun W hW => by go_simp <;> rfl)) S3 rfl (by go_simp <;> rfl) ?_
      refine h_done (by kernel_rfl) ?_
      go_wp2_with fail
      go_meet
      exact ⟨ba, va, rfl, rfl, rfl, o8, hB3, ownc, S3⟩
    · refine wp_chn_alloc chn rfl (fun b => by go_simp <;> rfl) ?_
      intro v1 ba hb8 hB8 bela
      have S1 : Below w9.heap.size w9 v1 := bel_next S0 bela
      refine ⟨S1, ?_⟩
      have o8 : w9.heap.size ≤ ba := Nat.le_trans S0.size hb8
      refine h_one 4 (by kernel_rfl) rfl rfl rfl ?_
      have lt8 := hB8.lt
      refine wp_callE (C3.out _ (SX.out.next S1).sl) (by go_simp <;> rfl) (fun u => by go_simp <;> rfl) ?_
      intro va v2 ownc belc
      have S2 : Below w9.heap.size w9 v2 := bel_next S1 belc
      refine ⟨S2, ?_⟩
      have hB8 := hB8.next belc
      have ne8 := ownc.ne_of_lt lt8
      have ownc := ownc.rebase S1.size
      refine h_take 5 rfl (by kernel_rfl) (by kernel_rfl) (by kernel_rfl) (fun _ _ _ h => h) (y_pure rfl (fun W hW => by go_simp <;> rfl)) S2 rfl (by go_simp <;> rfl) ?_
      refine h_take 6 rfl (by kernel_rfl) (by kernel_rfl) (by kernel_rfl) (fun _ _ _ h => h) (y_pure rfl (fun W hW => by go_simp <;> rfl)) S2 rfl (by go_simp <;> rfl) ?_
      refine h_take 7 rfl (by kernel_rfl) (by kernel_rfl) (by kernel_rfl) (fun _ _ _ h => h) (y_pure rfl (fun W hW => by go_simp <;> rfl)) S2 rfl (by go_simp <;> rfl) ?_
      refine h_take 8 rfl (by kernel_rfl) (by kernel_rfl) (by kernel_rfl) (fun _ _ _ h => h) (y_pure rfl (fun W hW => by go_simp <;> rfl)) S2 rfl (by go_simp <;> rfl) ?_
      refine h_take 10 rfl (by kernel_rfl) (by kernel_rfl) (by kernel_rfl) (fun _ _ _ h => h) (y_pure rfl (fun W hW => by go_simp <;> rfl)) S2 rfl (by go_simp <;> rfl) ?_
      refine h_one 11 (by kernel_rfl) rfl rfl rfl ?_
      refine wp_chn_store chn _ _ rfl rfl rfl hB8 HMD.out (by go_simp <;> rfl) ?_
      intro v3 hB3 onl3
      have S3 : Below w9.heap.size w9 v3 := onl3.bel o8 S2
      refine ⟨S3, ?_⟩
      have ownc := ownc.only ne8 onl3
      refine h_take 12 rfl (by kernel_rfl) (by kernel_rfl) (by kernel_rfl) (fun _ _ _ h => h) (y_pure rfl (fun W hW => by go_simp <;> rfl)) S3 rfl (by go_simp <;> rfl) ?_
      refine h_done (by kernel_rfl) ?_
      go_wp2_with fail
      go_meet
      exact ⟨ba, va, rfl, rfl, rfl, o8, hB3, ownc, S3⟩
  case rest =>
    obtain ⟨ba, va, rfl, rfl, rfl, hba, hBa, own10, bel10⟩ := hcut
    obtain ⟨w10, rfl⟩ : ∃ wq, wq = wc := ⟨_, rfl⟩
    obtain ⟨Aa, ca, rfl, _, _, sl10⟩ := own10.sln (HLN_a.out)
    have q_f_a : bf < ba := Nat.lt_of_lt_of_le Xf.out.lt hba
    have q_e_a : be < ba := Nat.lt_of_lt_of_le Xe.out.lt hba
    have q_k_a : bk < ba := Nat.lt_of_lt_of_le Xk.out.lt hba
    have q_SX_a := Nat.le_trans SX.out.2 hba
    have q_Sall_a := Nat.le_trans Sall.out.2 hba
    have q_Sback_a := Nat.le_trans Sback.out.2 hba
    have oa := Nat.le_trans BB.out.size hba
    have SX := Lib.hid (SX.out.next bel10)
    have Xf := Lib.hid (Xf.out.next bel10)
    have Sall := Lib.hid (Sall.out.next bel10)
    have Xe := Lib.hid (Xe.out.next bel10)
    have Sback := Lib.hid (Sback.out.next bel10)
    have Xk := Lib.hid (Xk.out.next bel10)
    have BB := Lib.hid (bel_next BB.out bel10)
    have Xa := Lib.hid hBa
    have Sa := Lib.hid (SA.of sl10)
    clear bel10 hBa hba own10 sl10
    go_upto_region 7 with fail
    go_cut [18, 17, 19] (fun s18 s17 s19 wx => ∃ bb vb, s18 = .pointer (some ⟨bb, 0, none⟩) ∧ s17 = vb ∧ s19 = .int .i64 0 ∧ w10.heap.size ≤ bb ∧ CB wx bb 26 bt e0 sh e1 e2 ∧ Own wx w10.heap.size 21 .i32 vb (LB) ∧ Below w10.heap.size w10 wx)
    case first =>
      refine h_begin (S := SinceH w10) (by kernel_rfl) rfl ?_
      have S0 : Below w10.heap.size w10 { w10 with drawn := w10.drawn + 1 } := (bel_self w10).drew
      generalize ({ w10 with drawn := w10.drawn + 1 } : World) = wd at *
      refine h_take 0 rfl (by kernel_rfl) (by kernel_rfl) (by kernel_rfl) (fun _ _ _ h => h) (y_loadC chn rfl _ rfl rfl (fun W hW => Xa.out.next hW)) S0 rfl (by go_simp <;> rfl) ?_
      refine h_take 1 rfl (by kernel_rfl) (by kernel_rfl) (by kernel_rfl) (fun _ _ _ h => h) (y_pure rfl (fun W hW => by go_simp <;> rfl)) S0 rfl (by go_simp <;> rfl) ?_
      refine h_take 2 rfl (by kernel_rfl) (by kernel_rfl) (by kernel_rfl) (fun _ _ _ h => h) (y_pure rfl (fun W hW => by go_simp <;> rfl)) S0 rfl (by go_simp <;> rfl) ?_
      refine h_take 3 rfl (by kernel_rfl) (by kernel_rfl) (by kernel_rfl) (fun _ _ _ h => h) (y_pure rfl (fun W hW => by go_simp <;> rfl)) S0 rfl (by go_simp <;> rfl) ?_
      refine h_two 4 9 (by kernel_rfl) rfl rfl rfl rfl rfl rfl ?_ ?_
      · refine wp_callE (C4.out _ (SX.out.next S0).sl) (by go_simp <;> rfl) (fun u => by go_simp <;> rfl) ?_
        intro vb v1 ownc belc
        have S1 : Below w10.heap.size w10 v1 := bel_next S0 belc
        refine ⟨S1, ?_⟩
        refine h_take 5 rfl (by kernel_rfl) (by kernel_rfl) (by kernel_rfl) (fun _ _ _ h => h) (y_pure rfl (fun W hW => by go_simp <;> rfl)) S1 rfl (by go_simp <;> rfl) ?_
        refine h_take 6 rfl (by kernel_rfl) (by kernel_rfl) (by kernel_rfl) (fun _ _ _ h => h) (y_pure rfl (fun W hW => by go_simp <;> rfl)) S1 rfl (by go_simp <;> rfl) ?_
        refine h_take 7 rfl (by kernel_rfl) (by kernel_rfl) (by kernel_rfl) (fun _ _ _ h => h) (y_pure rfl (fun W hW => by go_simp <;> rfl)) S1 rfl (by go_simp <;> rfl) ?_
        refine h_take 8 rfl (by kernel_rfl) (by kernel_rfl) (by kernel_rfl) (fun _ _ _ h => h) (y_pure rfl (fun W hW => by go_simp <;> rfl)) S1 rfl (by go_simp <;> rfl) ?_
        refine h_one 9 (by kernel_rfl) rfl rfl rfl ?_
        refine wp_chn_alloc chn rfl (fun b => by go_simp <;> rfl) ?_
        intro v2 bb hb8 hB8 bela
        have S2 : Below w10.heap.size w10 v2 := bel_next S1 bela
        refine ⟨S2, ?_⟩
        have o8 : w10.heap.size ≤ bb := Nat.le_trans S1.size hb8
        have ne8 := ownc.ne_of_ge hb8
        have ownc := (ownc.next bela).rebase S0.size
        refine h_take 10 rfl (by kernel_rfl) (by kernel_rfl) (by kernel_rfl) (fun _ _ _ h => h) (y_pure rfl (fun W hW => by go_simp <;> rfl)) S2 rfl (by go_simp <;> rfl) ?_
        refine h_one 11 (by kernel_rfl) rfl rfl rfl ?_
        refine wp_chn_store chn _ _ rfl rfl rfl hB8 HE.out (by go_simp <;> rfl) ?_
        intro v3 hB3 onl3
        have S3 : Below w10.heap.size w10 v3 := onl3.bel o8 S2
        refine ⟨S3, ?_⟩
        have ownc := ownc.only ne8 onl3
        refine h_take 12 rfl (by kernel_rfl) (by kernel_rfl) (by kernel_rfl) (fun _ _ _ h => h) (y_pure rfl (fun W hW => by go_simp <;> rfl)) S3 rfl (by go_simp <;> rfl) ?_
        refine h_done (by kernel_rfl) ?_
        go_wp2_with fail
        go_meet
        exact ⟨bb, vb, rfl, rfl, rfl, o8, hB3, ownc, S3⟩
      · refine wp_chn_alloc chn rfl (fun b => by go_simp <;> rfl) ?_
        intro v1 bb hb8 hB8 bela
        have S1 : Below w10.heap.size w10 v1 := bel_next S0 bela
        refine ⟨S1, ?_⟩
        have o8 : w10.heap.size ≤ bb := Nat.le_trans S0.size hb8
        refine h_one 4 (by kernel_rfl) rfl rfl rfl ?_
        have lt8 := hB8.lt
        refine wp_callE (C4.out _ (SX.out.next S1).sl) (by go_simp <;> rfl) (fun u => by go_simp <;> rfl) ?_
        intro vb v2 ownc belc
        have S2 : Below w10.heap.size w10 v2 := bel_next S1 belc
        refine ⟨S2, ?_⟩
        have hB8 := hB8.next belc
        have ne8 := ownc.ne_of_lt lt8
        have ownc := ownc.rebase S1.size
        refine h_take 5 rfl (by kernel_rfl) (by kernel_rfl) (by kernel_rfl) (fun _ _ _ h => h) (y_pure rfl (fun W hW => by go_simp <;> rfl)) S2 rfl (by go_simp <;> rfl) ?_
        refine h_take 6 rfl (by kernel_rfl) (by kernel_rfl) (by kernel_rfl) (fun _ _ _ h => h) (y_pure rfl (fun W hW => by go_simp <;> rfl)) S2 rfl (by go_simp <;> rfl) ?_
        refine h_take 7 rfl (by kernel_rfl) (by kernel_rfl) (by kernel_rfl) (fun _ _ _ h => h) (y_pure rfl (fun W hW => by go_simp <;> rfl)) S2 rfl (by go_simp <;> rfl) ?_
        refine h_take 8 rfl (by kernel_rfl) (by kernel_rfl) (by kernel_rfl) (fun _ _ _ h => h) (y_pure rfl (fun W hW => by go_simp <;> rfl)) S2 rfl (by go_simp <;> rfl) ?_
        refine h_take 10 rfl (by kernel_rfl) (by kernel_rfl) (by kernel_rfl) (fun _ _ _ h => h) (y_pure rfl (fun W hW => by go_simp <;> rfl)) S2 rfl (by go_simp <;> rfl) ?_
        refine h_one 11 (by kernel_rfl) rfl rfl rfl ?_
        refine wp_chn_store chn _ _ rfl rfl rfl hB8 HE.out (by go_simp <;> rfl) ?_
        intro v3 hB3 onl3
        have S3 : Below w10.heap.size w10 v3 := onl3.bel o8 S2
        refine ⟨S3, ?_⟩
        have ownc := ownc.only ne8 onl3
        refine h_take 12 rfl (by kernel_rfl) (by kernel_rfl) (by kernel_rfl) (fun _ _ _ h => h) (y_pure rfl (fun W hW => by go_simp <;> rfl)) S3 rfl (by go_simp <;> rfl) ?_
        refine h_done (by kernel_rfl) ?_
        go_wp2_with fail
        go_meet
        exact ⟨bb, vb, rfl, rfl, rfl, o8, hB3, ownc, S3⟩
    case rest =>
      obtain ⟨bb, vb, rfl, rfl, rfl, hbb, hBb, own11, bel11⟩ := hcut
      obtain ⟨w11, rfl⟩ : ∃ wq, wq = wc := ⟨_, rfl⟩
      obtain ⟨Ab, cb, rfl, _, _, sl11⟩ := own11.sln (HLN_b.out)
      have q_f_b : bf < bb := Nat.lt_of_lt_of_le Xf.out.lt hbb
      have q_e_b : be < bb := Nat.lt_of_lt_of_le Xe.out.lt hbb
      have q_k_b : bk < bb := Nat.lt_of_lt_of_le Xk.out.lt hbb
      have q_a_b : ba < bb := Nat.lt_of_lt_of_le Xa.out.lt hbb
      have q_SX_b := Nat.le_trans SX.out.2 hbb
      have q_Sall_b := Nat.le_trans Sall.out.2 hbb
      have q_Sback_b := Nat.le_trans Sback.out.2 hbb
      have q_Sa_b := Nat.le_trans Sa.out.2 hbb
      have ob := Nat.le_trans BB.out.size hbb
      have SX := Lib.hid (SX.out.next bel11)
      have Xf := Lib.hid (Xf.out.next bel11)
      have Sall := Lib.hid (Sall.out.next bel11)
      have Xe := Lib.hid (Xe.out.next bel11)
      have Sback := Lib.hid (Sback.out.next bel11)
      have Xk := Lib.hid (Xk.out.next bel11)
      have Sa := Lib.hid (Sa.out.next bel11)
      have Xa := Lib.hid (Xa.out.next bel11)
      have BB := Lib.hid (bel_next BB.out bel11)
      have Xb := Lib.hid hBb
      have Sb := Lib.hid (SA.of sl11)
      clear bel11 hBb hbb own11 sl11
      go_wp2_with fail
      refine (same13 Aback A _ _ cback c xs _ rfl rfl (by omega) Sback.out.sl SX.out.sl).mono ?_
      rintro e w12 ⟨rfl, bel12⟩
      have SX := Lib.hid (SX.out.next bel12)
      have Xf := Lib.hid (Xf.out.next bel12)
      have Sall := Lib.hid (Sall.out.next bel12)
      have Xe := Lib.hid (Xe.out.next bel12)
      have Sback := Lib.hid (Sback.out.next bel12)
      have Xk := Lib.hid (Xk.out.next bel12)
      have Sa := Lib.hid (Sa.out.next bel12)
      have Xa := Lib.hid (Xa.out.next bel12)
      have Sb := Lib.hid (Sb.out.next bel12)
      have Xb := Lib.hid (Xb.out.next bel12)
      have BB := Lib.hid (bel_next BB.out bel12)
      clear bel12
      obtain ⟨w13, rfl⟩ : ∃ wq, wq = w12 := ⟨_, rfl⟩
      have B0 := Lib.hid (bel_up (bel_self w13) (.cells #[] 21))
      have OL := Lib.hid (Own.lit w13 w13.heap.size .i32 21 [] (cs := #[]) (n := 0) rfl rfl (Nat.le_refl _) (by decide))
      have LA4 := HLN_a.out
      have LB4 := HLN_b.out
      have HAB := Lib.hid (show ([] ++ LA : List Int).length ≤ 4000 by simp; omega)
      go_wp2_with (first
        | ((with_reducible refine wpl_guard (d := some 106) ?_ ?_); (next => first | kernel_rfl | go_simp); with_reducible refine chn_load (o := ⟨some 106, _, _, _, _, _⟩) chn rfl _ rfl rfl Xk.out ?_)
        | ((with_reducible refine wpl_guard (d := some 107) ?_ ?_); (next => first | kernel_rfl | go_simp); with_reducible refine chn_load (o := ⟨some 107, _, _, _, _, _⟩) chn rfl _ rfl rfl Xe.out ?_)
        | ((with_reducible refine wpl_guard (d := some 108) ?_ ?_); (next => first | kernel_rfl | go_simp); with_reducible refine wpl_eq (o := ⟨some 108, _, _, _, _, _⟩) (chn_eqs chn eqgC HE.out _ _ _) rfl rfl rfl rfl ?_)
        | (((with_reducible refine wpl_guard (d := some 113) ?_ ?_); (next => go_simp); (refine appN (xs := []) (ys := LA) elI32 _ _ rfl rfl rfl (by rw [LA4]; rfl) OL.out ((Sa.out.next B0.out).sl) (by simp; omega) (by simp; omega) B0.out.size ?_); intro v14 w14 own14 bel14; have B14 := Lib.hid (B0.out.trans bel14); have O14 := Lib.hid own14; clear own14 bel14 B0 OL))
        | (((with_reducible refine wpl_guard (d := some 115) ?_ ?_); (next => go_simp); (refine appN (xs := [] ++ LA) (ys := LB) elI32 _ _ rfl rfl rfl (by rw [LB4]; rfl) O14.out ((Sb.out.next B14.out).sl) (by simp; omega) (by simp; omega) B14.out.size ?_); intro v15 w15 own15 bel15; have bel15 := B14.out.trans bel15; have O15 := Lib.hid own15; have SX := Lib.hid (SX.out.next bel15); have Xf := Lib.hid (Xf.out.next bel15); have Xe := Lib.hid (Xe.out.next bel15); have Xk := Lib.hid (Xk.out.next bel15); have Xa := Lib.hid (Xa.out.next bel15); have Xb := Lib.hid (Xb.out.next bel15); have Sall := Lib.hid (Sall.out.next bel15); have BB := Lib.hid (bel_next BB.out bel15); clear own15 bel15 B14 O14)))
      have HO15 := O15.out
      rw [List.nil_append, E2.out] at HO15
      obtain ⟨Ac, cc, rfl, _, _, sl15⟩ := HO15.sln HLN_all.out
      have Sc := Lib.hid (SA.of sl15)
      clear sl15 HO15 O15
      go_wp2_with fail
      refine (same13 Ac Aall _ _ cc call LL _ HLN_all.out HLN_all.out (by have := HLN_all.out; omega) Sc.out.sl Sall.out.sl).mono ?_
      rintro e w16 ⟨rfl, bel16⟩
      have SX := Lib.hid (SX.out.next bel16)
      have Xf := Lib.hid (Xf.out.next bel16)
      have Xe := Lib.hid (Xe.out.next bel16)
      have Xk := Lib.hid (Xk.out.next bel16)
      have Xa := Lib.hid (Xa.out.next bel16)
      have Xb := Lib.hid (Xb.out.next bel16)
      have Sall := Lib.hid (Sall.out.next bel16)
      have Sc := Lib.hid (Sc.out.next bel16)
      have BB := Lib.hid (bel_next BB.out bel16)
      clear bel16
      go_wp2_with (first
        | ((with_reducible refine wpl_guard (d := some 120) ?_ ?_); (next => first | kernel_rfl | go_simp); with_reducible refine chn_load (o := ⟨some 120, _, _, _, _, _⟩) chn rfl _ rfl rfl Xb.out ?_)
        | ((with_reducible refine wpl_guard (d := some 121) ?_ ?_); (next => first | kernel_rfl | go_simp); with_reducible refine chn_load (o := ⟨some 121, _, _, _, _, _⟩) chn rfl _ rfl rfl Xe.out ?_)
        | ((with_reducible refine wpl_guard (d := some 122) ?_ ?_); (next => first | kernel_rfl | go_simp); with_reducible refine wpl_eq (o := ⟨some 122, _, _, _, _, _⟩) (chn_eqs chn eqgC HE.out _ _ _) rfl rfl rfl rfl ?_))
      go_ret
      exact ⟨rfl, BB.out⟩
theorem chainBack_walk (bt la sh : Int) (ts ps : List Int) (A : Option Addr) (c : Nat) (xs : List Int) (i : Int) (w : World) (hF : F16 ts ps) (ht : I32 ts) (hp : I32 ps) (hs0 : -9223372036854775808 ≤ sh) (hs1 : sh ≤ 9223372036854775807) (hb0 : -9223372036854775808 ≤ bt) (hb1 : bt ≤ 9223372036854775807)
    (hl0 : -2147483648 ≤ la) (hl1 : la ≤ 2147483647) (hc : xs.length ≤ c) (hm : c ≤ 9223372036854775807) (hx : I32 xs) (hs : Sl w w.heap.size .i32 A xs) (hi0 : -9223372036854775808 ≤ i) (hi1 : i ≤ 9223372036854775807) :
    Calls Try.prog 7 #[.agg (cA bt la sh ts ps), .slice A xs.length c, .int .i64 i] w fun e w' => e = .returned (.bool true) ∧ Below w.heap.size w w' := by
  by_cases h : cnC bt sh ≠ 0 ∨ 4000 < xs.length ∨ i < 0 ∨ (xs.length : Int) < i
  · exact kback_bad bt la sh ts ps A xs.length c i w hF (by omega) h
  · have h1 : cnC bt sh = 0 := by
      refine Decidable.by_contra fun h2 => h (.inl h2)
    obtain ⟨m, rfl⟩ := Int.eq_ofNat_of_zero_le (show 0 ≤ i by omega)
    exact kback_ok bt sh (la, ts, ps) A c m xs w ⟨⟨hl0, hl1⟩, hF, ht, hp⟩ h1 hb0 hb1 (by omega) (by omega) hc hm hx hs
end Go.Proofs.Ytgnmpkembcdkcaa

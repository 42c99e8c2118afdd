/-
  The walk of TapsPast. Conditions: numbers within their types.
-/
import Derived.Test.YtnhdhjcpbonfjaaLaw14C
import Derived.Test.YtnhdhjcpbonfjaaTapsPlain2
import Derived.Test.YtnhdhjcpbonfjaaHeld
import Derived.Deep.DeepCutAuto
namespace Go.Proofs.Ytnhdhjcpbonfjaa
open Go.RowKit
set_option linter.unusedVariables false

set_option maxRecDepth 100000 in
set_option maxHeartbeats 1000000 in
theorem past_bad (sh : Int) (ts ps : List Int) (A : Option Addr) (n c : Nat) (w : World) (hF : F16 ts ps) (hm : n ≤ 9223372036854775807) (h : ckF sh ≠ 0 ∨ 40 < n) :
    Calls Try.prog 8 #[.agg (fA sh ts ps), .slice A n c] w fun e w' => e = .returned (.bool true) ∧ Below w.heap.size w w' := by
  have BB := Lib.hid (bel_self w)
  have CK := Lib.hid (fun W => recheck_any sh ts ps W hF)
  by_cases h0 : ckF sh = 0
  · rw [h0] at CK
    have hn : 40 < n := h.resolve_left (fun hh => hh h0)
    have d1 : decide ((40 : Int) < (n : Int)) = true := by simp; omega
    clear h h0
    go_enter Try.func8, Try.ntmps8
    go_wp2_with (first
      | ((with_reducible refine flt_box (o := ⟨some 2, _, _, _, _, _⟩) flt rfl _ rfl rfl hF ?_); intro w1 bf hbf hBf bel1; have of := Nat.le_trans BB.out.size hbf; have BB := Lib.hid (bel_next BB.out bel1); have Xf := Lib.hid hBf; clear bel1 hBf hbf))
    refine (alive_any _).mono ?_
    rintro e w2 ⟨rfl, bel2⟩
    have Xf := Lib.hid (Xf.out.next bel2)
    have BB := Lib.hid (bel_next BB.out bel2)
    clear bel2
    go_wp2_with (first
      | (with_reducible refine flt_load (o := ⟨some 13, _, _, _, _, _⟩) flt rfl _ rfl rfl Xf.out ?_))
    refine (CK.out _).mono ?_
    rintro e w3 ⟨rfl, bel3⟩
    have Xf := Lib.hid (Xf.out.next bel3)
    have BB := Lib.hid (bel_next BB.out bel3)
    clear bel3
    go_wp2_with fail
    go_ret
    exact ⟨rfl, BB.out⟩
  · have hq : (ckF sh != 0) = true := by simp [h0]
    generalize ckF sh = ce at *
    clear h h0
    go_enter Try.func8, Try.ntmps8
    go_wp2_with (first
      | ((with_reducible refine flt_box (o := ⟨some 2, _, _, _, _, _⟩) flt rfl _ rfl rfl hF ?_); intro w1 bf hbf hBf bel1; have of := Nat.le_trans BB.out.size hbf; have BB := Lib.hid (bel_next BB.out bel1); have Xf := Lib.hid hBf; clear bel1 hBf hbf))
    refine (alive_any _).mono ?_
    rintro e w2 ⟨rfl, bel2⟩
    have Xf := Lib.hid (Xf.out.next bel2)
    have BB := Lib.hid (bel_next BB.out bel2)
    clear bel2
    go_wp2_with (first
      | (with_reducible refine flt_load (o := ⟨some 13, _, _, _, _, _⟩) flt rfl _ rfl rfl Xf.out ?_))
    refine (CK.out _).mono ?_
    rintro e w3 ⟨rfl, bel3⟩
    have Xf := Lib.hid (Xf.out.next bel3)
    have BB := Lib.hid (bel_next BB.out bel3)
    clear bel3
    go_wp2_with fail
    go_ret
    exact ⟨rfl, BB.out⟩

set_option maxRecDepth 100000 in
set_option maxHeartbeats 2000000 in
theorem past_ok (sh : Int) (ts ps : List Int) (A : Option Addr) (c : Nat) (xs : List Int) (w : World) (hF : F16 ts ps) (h : ckF sh = 0) (hn : xs.length ≤ 40) (hx : I32 xs) (hs : Sl w w.heap.size .i32 A xs) :
    Calls Try.prog 8 #[.agg (fA sh ts ps), .slice A xs.length c] w fun e w' => e = .returned (.bool true) ∧ Below w.heap.size w w' := by
  have BB := Lib.hid (bel_self w)
  have CK := Lib.hid (fun W => recheck_any sh ts ps W hF)
  rw [h] at CK
  have CP := Lib.hid (fun q x W hq => push_any sh ts q x W (f16 hF.1 hq))
  have HTL := Lib.hid hF.1
  have HPL := Lib.hid hF.2
  have i1 : ifS sh = sh := if_pos h
  have i2 : ifP sh ts = ts := if_pos h
  have i3 : ∀ q x, puR sh q x = psh q x := fun q x => if_pos h
  rw [i1, i2, h] at CP
  simp only [i3] at CP
  have d1 : decide ((40 : Int) < (xs.length : Int)) = false := by simp; omega
  have q1 : (sh != sh) = false := by simp
  have SX := Lib.hid hs
  have HX := Lib.hid hx
  clear h i1 i2 i3 hs hx
  go_enter Try.func8, Try.ntmps8
  go_wp2_with (first
    | ((with_reducible refine flt_box (o := ⟨some 2, _, _, _, _, _⟩) flt rfl _ rfl rfl hF ?_); intro w1 bf hbf hBf bel1; have of := Nat.le_trans BB.out.size hbf; have BB := Lib.hid (bel_next BB.out bel1); have Xf := Lib.hid hBf; clear bel1 hBf hbf))
  refine (alive_any _).mono ?_
  rintro e w2 ⟨rfl, bel2⟩
  have Xf := Lib.hid (Xf.out.next bel2)
  have BB := Lib.hid (bel_next BB.out bel2)
  clear bel2
  go_wp2_with (first
    | (with_reducible refine flt_load (o := ⟨some 13, _, _, _, _, _⟩) flt rfl _ rfl rfl Xf.out ?_))
  refine (CK.out _).mono ?_
  rintro e w3 ⟨rfl, bel3⟩
  have Xf := Lib.hid (Xf.out.next bel3)
  have BB := Lib.hid (bel_next BB.out bel3)
  clear bel3
  go_wp2_with (first
    | (with_reducible refine flt_load (o := ⟨some 26, _, _, _, _, _⟩) flt rfl _ rfl rfl Xf.out ?_)
    | ((with_reducible refine flt_alloc (o := ⟨some 6, _, _, _, _, _⟩) flt rfl rfl ?_); intro w4 bn hbn hBn bel4; have q_f_n : bf < bn := Nat.lt_of_lt_of_le Xf.out.lt hbn; have on := Nat.le_trans BB.out.size hbn; have Xf := Lib.hid (Xf.out.next bel4); have BB := Lib.hid (bel_next BB.out bel4); have Xn := Lib.hid hBn; clear bel4 hBn hbn)
    | ((with_reducible refine flt_store flt rfl (.tmp 6) (.tmp 26) rfl rfl rfl Xn.out hF ?_); intro w5 hB5 onl5; have Xf := Lib.hid (Xf.out.only (by omega) onl5); have BB := Lib.hid (onl5.bel on BB.out); have Xn := Lib.hid hB5; clear onl5 hB5))
  go_loopw [7] (fun i wr => ∃ k : Nat, k ≤ xs.length ∧ i = .int .i64 k ∧ FB wr bf 24 sh ts ps ∧ FB wr bn 24 sh ts (pshL ps (xs.take k)) ∧ Below w.heap.size w wr) (fun i _ => xs.length - (intOf i).toNat)
  case atStart => exact ⟨0, by omega, rfl, Xf.out, Xn.out, BB.out⟩
  case round =>
    obtain ⟨k, hk, rfl, hf, hnw, hb⟩ := hrel
    by_cases hlt : k < xs.length
    · obtain ⟨bb, o, rfl, hbb, hc⟩ := SX.out (by omega)
      have hcell := hc k hlt
      have HPS := Lib.hid ((congrArg (pshL ps) (take_snoc xs k hlt)).trans (pshL_snoc ps (xs.take k) (xs.getD k 0)))
      have b1 := HX.out _ (mem_getD hlt)
      have HQ := Lib.hid (pshL_len HPL.out (xs.take k))
      have HC := Lib.hid (fun W (hW : Below w.heap.size w W) => (hW.cell (p := ⟨bb, o + k, none⟩) hbb).trans hcell)
      have HG := Lib.hid (fun x => f16 HTL.out (psh_len HQ.out x))
      have hkz : (k : Int) < (xs.length : Int) := by omega
      generalize xs.getD k 0 = y at *
      generalize pshL ps (xs.take k) = q at *
      have CQ := Lib.hid (fun W => CP.out q y W HQ.out)
      clear hc hcell SX
      have Xf := Lib.hid hf
      have Xn := Lib.hid hnw
      have BB := Lib.hid hb
      clear hf hnw hb
      go_upto_region 8 with fail
      go_cut [8, 9] (fun s8 s9 wx => ∃ b8, s8 = .pointer (some ⟨b8, 0, none⟩) ∧ s9 = .int .i64 0 ∧ bn < b8 ∧ FB wx b8 24 sh ts (psh q y) ∧ FB wx bn 24 sh ts q ∧ FB wx bf 24 sh ts ps ∧ Below w.heap.size w wx)
      case first =>
        refine h_begin (S := fun W => FB W bn 24 sh ts q ∧ FB W bf 24 sh ts ps ∧ Below w.heap.size w W) (by kernel_rfl) rfl ?_
        have S0 : FB { wr with drawn := wr.drawn + 1 } bn 24 sh ts q ∧ FB { wr with drawn := wr.drawn + 1 } bf 24 sh ts ps ∧ Below w.heap.size w { wr with drawn := wr.drawn + 1 } := ⟨Xn.out, Xf.out, BB.out.drew⟩
        generalize ({ wr with drawn := wr.drawn + 1 } : World) = wd at *
        refine h_take 0 rfl (by kernel_rfl) (by kernel_rfl) (by kernel_rfl) (fun _ _ _ h => h) (y_load flt rfl _ rfl rfl (fun W hW => hW.1)) S0 rfl (by go_simp <;> rfl) ?_
        refine h_take 1 rfl (by kernel_rfl) (by kernel_rfl) (by kernel_rfl) (fun _ _ _ h => h) (y_pure rfl (fun W hW => by go_simp <;> rfl)) S0 rfl (by go_simp <;> rfl) ?_
        refine h_take 2 rfl (by kernel_rfl) (by kernel_rfl) (by kernel_rfl) (fun _ _ _ h => h) (y_pure rfl (fun W hW => by go_simp <;> rfl)) S0 rfl (by go_simp <;> rfl) ?_
        refine h_take 3 rfl (by kernel_rfl) (by kernel_rfl) (by kernel_rfl) (fun _ _ _ h => h) (y_pure rfl (fun W hW => by go_simp <;> rfl)) S0 rfl (by go_simp <;> rfl) ?_
        refine h_take 4 rfl (by kernel_rfl) (by kernel_rfl) (by kernel_rfl) (fun _ _ _ h => h) (y_pure rfl (fun W hW => by have := HC.out W hW.2.2; go_simp <;> rfl)) S0 rfl (by go_simp <;> rfl) ?_
        refine h_two 5 9 (by kernel_rfl) rfl rfl rfl rfl rfl rfl ?_ ?_
        · refine wp_call (by go_simp <;> rfl) (CQ.out _) (by go_simp <;> rfl) ?_
          intro w1 bel1
          have S1 : (FB w1 bn 24 sh ts q ∧ FB w1 bf 24 sh ts ps ∧ Below w.heap.size w w1) := ⟨S0.1.next bel1, S0.2.1.next bel1, bel_next S0.2.2 bel1⟩
          refine ⟨S1, ?_⟩
          refine h_take 6 rfl (by kernel_rfl) (by kernel_rfl) (by kernel_rfl) (fun _ _ _ h => h) (y_pure rfl (fun W hW => by go_simp <;> rfl)) S1 rfl (by go_simp <;> rfl) ?_
          refine h_take 7 rfl (by kernel_rfl) (by kernel_rfl) (by kernel_rfl) (fun _ _ _ h => h) (y_pure rfl (fun W hW => by go_simp <;> rfl)) S1 rfl (by go_simp <;> rfl) ?_
          refine h_take 8 rfl (by kernel_rfl) (by kernel_rfl) (by kernel_rfl) (fun _ _ _ h => h) (y_pure rfl (fun W hW => by go_simp <;> rfl)) S1 rfl (by go_simp <;> rfl) ?_
          refine h_one 9 (by kernel_rfl) rfl rfl rfl ?_
          refine wp_flt_alloc flt rfl (fun b => by go_simp <;> rfl) ?_
          intro w2 b8 hb8 hB8 bel2
          have S2 : (FB w2 bn 24 sh ts q ∧ FB w2 bf 24 sh ts ps ∧ Below w.heap.size w w2) := ⟨S1.1.next bel2, S1.2.1.next bel2, bel_next S1.2.2 bel2⟩
          refine ⟨S2, ?_⟩
          have o8 : bn < b8 := Nat.lt_of_lt_of_le S1.1.lt hb8
          refine h_one 10 (by kernel_rfl) rfl rfl rfl ?_
          refine wp_flt_store flt _ _ rfl rfl rfl hB8 (HG.out y) (by go_simp <;> rfl) ?_
          intro w3 hB3 onl3
          have S3 : (FB w3 bn 24 sh ts q ∧ FB w3 bf 24 sh ts ps ∧ Below w.heap.size w w3) := ⟨S2.1.only (by omega) onl3, S2.2.1.only (by omega) onl3, onl3.bel (by omega) S2.2.2⟩
          refine ⟨S3, ?_⟩
          refine h_take 11 rfl (by kernel_rfl) (by kernel_rfl) (by kernel_rfl) (fun _ _ _ h => h) (y_pure rfl (fun W hW => by go_simp <;> rfl)) S3 rfl (by go_simp <;> rfl) ?_
          refine h_done (by kernel_rfl) ?_
          go_wp2_with fail
          go_meet
          exact ⟨b8, rfl, rfl, o8, hB3, S3.1, S3.2.1, S3.2.2⟩
        · refine wp_flt_alloc flt rfl (fun b => by go_simp <;> rfl) ?_
          intro w1 b8 hb8 hB8 bel1
          have S1 : (FB w1 bn 24 sh ts q ∧ FB w1 bf 24 sh ts ps ∧ Below w.heap.size w w1) := ⟨S0.1.next bel1, S0.2.1.next bel1, bel_next S0.2.2 bel1⟩
          refine ⟨S1, ?_⟩
          have o8 : bn < b8 := Nat.lt_of_lt_of_le S0.1.lt hb8
          refine h_one 5 (by kernel_rfl) rfl rfl rfl ?_
          refine wp_call (by go_simp <;> rfl) (CQ.out _) (by go_simp <;> rfl) ?_
          intro w2 bel2
          have S2 : (FB w2 bn 24 sh ts q ∧ FB w2 bf 24 sh ts ps ∧ Below w.heap.size w w2) := ⟨S1.1.next bel2, S1.2.1.next bel2, bel_next S1.2.2 bel2⟩
          refine ⟨S2, ?_⟩
          have hB8 := hB8.next bel2
          refine h_take 6 rfl (by kernel_rfl) (by kernel_rfl) (by kernel_rfl) (fun _ _ _ h => h) (y_pure rfl (fun W hW => by go_simp <;> rfl)) S2 rfl (by go_simp <;> rfl) ?_
          refine h_take 7 rfl (by kernel_rfl) (by kernel_rfl) (by kernel_rfl) (fun _ _ _ h => h) (y_pure rfl (fun W hW => by go_simp <;> rfl)) S2 rfl (by go_simp <;> rfl) ?_
          refine h_take 8 rfl (by kernel_rfl) (by kernel_rfl) (by kernel_rfl) (fun _ _ _ h => h) (y_pure rfl (fun W hW => by go_simp <;> rfl)) S2 rfl (by go_simp <;> rfl) ?_
          refine h_one 10 (by kernel_rfl) rfl rfl rfl ?_
          refine wp_flt_store flt _ _ rfl rfl rfl hB8 (HG.out y) (by go_simp <;> rfl) ?_
          intro w3 hB3 onl3
          have S3 : (FB w3 bn 24 sh ts q ∧ FB w3 bf 24 sh ts ps ∧ Below w.heap.size w w3) := ⟨S2.1.only (by omega) onl3, S2.2.1.only (by omega) onl3, onl3.bel (by omega) S2.2.2⟩
          refine ⟨S3, ?_⟩
          refine h_take 11 rfl (by kernel_rfl) (by kernel_rfl) (by kernel_rfl) (fun _ _ _ h => h) (y_pure rfl (fun W hW => by go_simp <;> rfl)) S3 rfl (by go_simp <;> rfl) ?_
          refine h_done (by kernel_rfl) ?_
          go_wp2_with fail
          go_meet
          exact ⟨b8, rfl, rfl, o8, hB3, S3.1, S3.2.1, S3.2.2⟩
      case rest =>
        obtain ⟨b8, rfl, rfl, o8, h8, h9, h10, h11⟩ := hcut
        have X8 := Lib.hid h8
        have Xn := Lib.hid h9
        have Xf := Lib.hid h10
        have BB := Lib.hid h11
        have c8 := X8.out.c0
        have cf := Xf.out.c0
        have q_n_8 := o8
        have HGy := Lib.hid (HG.out y)
        clear h8 h9 h10 h11 HG
        obtain ⟨wq, rfl⟩ : ∃ wq, wq = wc := ⟨_, rfl⟩
        go_wp2_with (first
          | ((with_reducible refine wpl_guard (d := some 46) ?_ ?_); (next => go_simp); with_reducible refine flt_loadT (o := ⟨some 46, _, _, _, _, _⟩) flt rfl _ rfl rfl X8.out ?_)
          | ((with_reducible refine wpl_guard (d := some 48) ?_ ?_); (next => go_simp); with_reducible refine flt_loadT (o := ⟨some 48, _, _, _, _, _⟩) flt rfl _ rfl rfl Xf.out ?_)
          | ((with_reducible refine wpl_guard (d := some 49) ?_ ?_); (next => go_simp); with_reducible refine wpl_eq (o := ⟨some 49, _, _, _, _, _⟩) (arr_nes flt eqgA _ HTL.out _ _ _) rfl rfl rfl rfl ?_)
          | (with_reducible refine flt_load (o := ⟨some 58, _, _, _, _, _⟩) flt rfl _ rfl rfl X8.out ?_)
          | ((with_reducible refine flt_store flt rfl (.tmp 6) (.tmp 58) rfl rfl rfl Xn.out HGy.out ?_); intro w21 hB21 onl21; have X8 := Lib.hid (X8.out.only (by omega) onl21); have Xf := Lib.hid (Xf.out.only (by omega) onl21); have BB := Lib.hid (onl21.bel on BB.out); have Xn := Lib.hid hB21; clear onl21 hB21))
        have XN := Xn.out
        rw [← HPS.out] at XN
        go_roundw
        case rel => exact ⟨k + 1, by omega, by go_num, Xf.out, XN, BB.out⟩
        case measure => simp [intOf]; omega
    · obtain rfl : k = xs.length := by omega
      have HV := Lib.hid (fun i hi => pshL_getD (ps := ps) xs xs.length (Nat.le_refl _) i hi)
      rw [List.take_of_length_le (Nat.le_refl _)] at hnw HV
      have Xf := Lib.hid hf
      have Xn := Lib.hid hnw
      have BB := Lib.hid hb
      generalize pshL ps xs = q at *
      clear hf hnw hb
      obtain ⟨wq, rfl⟩ : ∃ wq, wq = wr := ⟨_, rfl⟩
      go_wp2_with fail
      go_loop [10] (fun i => ∃ k : Nat, k ≤ 16 ∧ i = .int .i64 k) (fun i => 16 - (intOf i).toNat)
      case atStart => exact ⟨0, by omega, rfl⟩
      case round =>
        obtain ⟨k, hk, rfl⟩ := hrel
        by_cases hlt : k < 16
        · have cq := Xn.out.cp hlt
          rw [HV.out k hlt] at cq
          have hkz : (k : Int) < 16 := by omega
          by_cases hkl : k < xs.length
          · rw [if_pos hkl] at cq
            obtain ⟨bb, o, rfl, hbb, hc⟩ := SX.out (by omega)
            have hcell := (BB.out.cell (p := ⟨bb, o + (xs.length - 1 - k), none⟩) hbb).trans (hc (xs.length - 1 - k) (by omega))
            have hq : ((xs.getD (xs.length - 1 - k) 0) != (xs.getD (xs.length - 1 - k) 0)) = false := by simp
            have e1 : (xs.length : Int) - 1 - (k : Int) = ((xs.length - 1 - k : Nat) : Int) := by omega
            have z1 : xs.length - 1 - k < xs.length := by omega
            have d2 : decide (k < xs.length) = true := by simp; omega
            generalize xs.getD (xs.length - 1 - k) 0 = y at *
            generalize xs.length - 1 - k = j at *
            clear hc
            go_wp2_with fail
            go_round
            case rel => exact ⟨k + 1, by omega, by go_num⟩
            case measure => simp [intOf]; omega
          · rw [if_neg hkl] at cq
            have cp := Xf.out.cp (show k - xs.length < 16 by omega)
            have hq : ((ps.getD (k - xs.length) 0) != (ps.getD (k - xs.length) 0)) = false := by simp
            have e1 : (k : Int) - (xs.length : Int) = ((k - xs.length : Nat) : Int) := by omega
            have z1 : k - xs.length < 16 := by omega
            have d2 : decide (k < xs.length) = false := by simp; omega
            generalize ps.getD (k - xs.length) 0 = y at *
            generalize k - xs.length = j at *
            go_wp2_with fail
            go_round
            case rel => exact ⟨k + 1, by omega, by go_num⟩
            case measure => simp [intOf]; omega
        · go_wp2_with fail
          go_ret
          exact ⟨rfl, BB.out⟩
theorem tapsPast_walk (sh : Int) (ts ps : List Int) (A : Option Addr) (c : Nat) (xs : List Int) (w : World) (hF : F16 ts ps) (ht : I32 ts) (hp : I32 ps) (hb0 : -9223372036854775808 ≤ sh) (hb1 : sh ≤ 9223372036854775807)
    (hc : xs.length ≤ c) (hm : c ≤ 9223372036854775807) (hx : I32 xs) (hs : Sl w w.heap.size .i32 A xs) :
    Calls Try.prog 8 #[.agg (fA sh ts ps), .slice A xs.length c] w fun e w' => e = .returned (.bool true) ∧ Below w.heap.size w w' := by
  by_cases h : ckF sh ≠ 0 ∨ 40 < xs.length
  · exact past_bad sh ts ps A xs.length c w hF (by omega) h
  · have h1 : ckF sh = 0 := by
      refine Decidable.by_contra fun h2 => h (.inl h2)
    exact past_ok sh ts ps A c xs w hF h1 (by omega) hx hs
end Go.Proofs.Ytnhdhjcpbonfjaa

/-
  What All and Undo of the reference of layer 19 compute. Conditions: numbers within their types; the list lies below.
-/
import Derived.Test.YtgnmpkembcdkcaaChRef2
import Derived.Test.YtgnmpkembcdkcaaChAll
namespace Go.Proofs.Ytgnmpkembcdkcaa
open Go.RowKit
set_option linter.unusedVariables false

set_option maxHeartbeats 1000000 in
theorem crefAll_bad (bt la sh : Int) (ts ps : List Int) (A : Option Addr) (n c : Nat) (w : World) (hF : F16 ts ps) (hm : n ≤ 9223372036854775807) (h : clE bt sh n ≠ 0) :
    Calls Try.prog 21 #[.agg (cA bt la sh ts ps), .slice A n c] w fun e w' =>
      e = .returned (.tuple #[.slice none 0 0, .agg (cA 0 0 0 z16 z16), .int .i64 (clE bt sh n)]) ∧ Below w.heap.size w w' := by
  have BB := Lib.hid (bel_self w)
  have CK := Lib.hid (fun W => crecheck_any bt la sh ts ps W hF)
  by_cases h0 : cnC bt sh = 0
  · rw [h0] at CK
    have hn : 4000 < n := by
      refine Decidable.by_contra fun hh => h ?_
      unfold clE; rw [if_neg (by omega), if_neg hh]
    have E := Lib.hid (show clE bt sh n = 4 by unfold clE; rw [if_neg (by omega), if_pos hn])
    have d1 : decide ((4000 : Int) < (n : Int)) = true := by simp; omega
    rw [E.out]
    clear h h0 E
    go_enter Try.func21, Try.ntmps21
    go_wp2_with (first
      | ((with_reducible refine chn_box (o := ⟨some 2, _, _, _, _, _⟩) chn rfl _ rfl rfl hF ?_); intro w1 bf hbf hBf bel1; have of := Nat.le_trans BB.out.size hbf; have BB := Lib.hid (bel_next BB.out bel1); have Xf := Lib.hid hBf; clear bel1 hBf hbf)
      | ((with_reducible refine chn_alloc (o := ⟨some 5, _, _, _, _, _⟩) chn rfl rfl ?_); intro w2 br hbr hBr bel2; have q_f_r : bf < br := Nat.lt_of_lt_of_le Xf.out.lt hbr; have or := Nat.le_trans BB.out.size hbr; have Xf := Lib.hid (Xf.out.next bel2); have BB := Lib.hid (bel_next BB.out bel2); have Xr := Lib.hid hBr; clear bel2 hBr hbr)
      | (with_reducible refine chn_load (o := ⟨some 11, _, _, _, _, _⟩) chn rfl _ rfl rfl Xf.out ?_))
    refine (CK.out _).mono ?_
    rintro e w3 ⟨rfl, bel3⟩
    have Xf := Lib.hid (Xf.out.next bel3)
    have Xr := Lib.hid (Xr.out.next bel3)
    have BB := Lib.hid (bel_next BB.out bel3)
    clear bel3
    go_wp2_with (first
      | (with_reducible refine chn_bld0 (o := ⟨some 20, _, _, _, _, _⟩) chn rfl rfl ?_)
      | ((with_reducible refine chn_store chn rfl (.tmp 5) (.tmp 20) rfl rfl rfl Xr.out f16z ?_); intro w4 hB4 onl4; have Xf := Lib.hid (Xf.out.only (by omega) onl4); have BB := Lib.hid (onl4.bel or BB.out); have Xr := Lib.hid hB4; clear onl4 hB4))
    exact bodyPost_ret (chn_res2 chn rfl _ _ rfl Xr.out) rfl ⟨rfl, BB.out⟩
  · have E := Lib.hid (show clE bt sh n = 8 by unfold clE; rw [if_pos h0])
    rw [cnC_bad h0] at CK
    rw [E.out]
    clear h h0 E
    go_enter Try.func21, Try.ntmps21
    go_wp2_with (first
      | ((with_reducible refine chn_box (o := ⟨some 2, _, _, _, _, _⟩) chn rfl _ rfl rfl hF ?_); intro w1 bf hbf hBf bel1; have of := Nat.le_trans BB.out.size hbf; have BB := Lib.hid (bel_next BB.out bel1); have Xf := Lib.hid hBf; clear bel1 hBf hbf)
      | ((with_reducible refine chn_alloc (o := ⟨some 5, _, _, _, _, _⟩) chn rfl rfl ?_); intro w2 br hbr hBr bel2; have q_f_r : bf < br := Nat.lt_of_lt_of_le Xf.out.lt hbr; have or := Nat.le_trans BB.out.size hbr; have Xf := Lib.hid (Xf.out.next bel2); have BB := Lib.hid (bel_next BB.out bel2); have Xr := Lib.hid hBr; clear bel2 hBr hbr)
      | (with_reducible refine chn_load (o := ⟨some 11, _, _, _, _, _⟩) chn rfl _ rfl rfl Xf.out ?_))
    refine (CK.out _).mono ?_
    rintro e w3 ⟨rfl, bel3⟩
    have Xf := Lib.hid (Xf.out.next bel3)
    have Xr := Lib.hid (Xr.out.next bel3)
    have BB := Lib.hid (bel_next BB.out bel3)
    clear bel3
    go_wp2_with (first
      | (with_reducible refine chn_bld0 (o := ⟨some 14, _, _, _, _, _⟩) chn rfl rfl ?_)
      | (with_reducible refine chn_load (o := ⟨some 15, _, _, _, _, _⟩) chn rfl _ rfl rfl Xf.out ?_))
    refine (CK.out _).mono ?_
    rintro e w4 ⟨rfl, bel4⟩
    have Xf := Lib.hid (Xf.out.next bel4)
    have Xr := Lib.hid (Xr.out.next bel4)
    have BB := Lib.hid (bel_next BB.out bel4)
    clear bel4
    go_wp2_with (first
      | ((with_reducible refine chn_store chn rfl (.tmp 5) (.tmp 14) rfl rfl rfl Xr.out f16z ?_); intro w5 hB5 onl5; have Xf := Lib.hid (Xf.out.only (by omega) onl5); have BB := Lib.hid (onl5.bel or BB.out); have Xr := Lib.hid hB5; clear onl5 hB5))
    exact bodyPost_ret (chn_res2 chn rfl _ _ rfl Xr.out) rfl ⟨rfl, BB.out⟩
set_option maxRecDepth 100000 in
set_option maxHeartbeats 2000000 in
theorem crefAll_ok (bt sh : Int) (s : CS) (A : Option Addr) (n c : Nat) (xs : List Int) (w : World) (hlen : xs.length = n) (hv : VC s) (h : cnC bt sh = 0) (hn : n ≤ 4000) (hx : I32 xs) (hs : Sl w w.heap.size .i32 A xs) :
    Calls Try.prog 21 #[.agg (cA bt s.1 sh s.2.1 s.2.2), .slice A n c] w fun e w' =>
      ∃ v, e = .returned (.tuple #[v, .agg (cA bt (finL (cN bt sh) s xs).1 sh (finL (cN bt sh) s xs).2.1 (finL (cN bt sh) s xs).2.2), .int .i64 0]) ∧ Own w' w.heap.size 21 .i32 v (runL (cO bt sh) (cN bt sh) s xs) ∧ Below w.heap.size w w' := by
  subst hlen
  have BB := Lib.hid (bel_self w)
  have SX := Lib.hid (SA.of hs)
  have hF := hv.2.1
  have CK := Lib.hid (fun W => crecheck_any bt s.1 sh s.2.1 s.2.2 W hF)
  rw [h] at CK
  have CST := Lib.hid (fun (c : CS) x W (hq : VC c) (hx : G32 x) => show Calls Try.prog _ #[.agg (cA bt c.1 sh c.2.1 c.2.2), .int .i32 x] W fun e w' => e = .returned (.tuple #[.int .i32 ((cO bt sh) c x), .agg (cA bt ((cN bt sh) c x).1 sh ((cN bt sh) c x).2.1 ((cN bt sh) c x).2.2)]) ∧ Below W.heap.size W w' from creStep_ok bt sh c x W hq h hx)
  have HV := Lib.hid (fun k => show VC (finL (cN bt sh) s (xs.take k)) from finC_v bt sh s _ hv (fun x hx' => hx x (List.mem_of_mem_take hx')))
  have HX := Lib.hid hx
  have d1 : decide ((4000 : Int) < (xs.length : Int)) = false := by simp; omega
  clear h hs hx
  go_enter Try.func21, Try.ntmps21
  go_wp2_with (first
    | ((with_reducible refine chn_box (o := ⟨some 2, _, _, _, _, _⟩) chn rfl _ rfl rfl hF ?_); intro w1 bf hbf hBf bel1; have q_SX_f := Nat.le_trans SX.out.2 hbf; have of := Nat.le_trans BB.out.size hbf; have SX := Lib.hid (SX.out.next bel1); have BB := Lib.hid (bel_next BB.out bel1); have Xf := Lib.hid hBf; clear bel1 hBf hbf)
    | ((with_reducible refine chn_alloc (o := ⟨some 5, _, _, _, _, _⟩) chn rfl rfl ?_); intro w2 br hbr hBr bel2; have q_f_r : bf < br := Nat.lt_of_lt_of_le Xf.out.lt hbr; have q_SX_r := Nat.le_trans SX.out.2 hbr; have or := Nat.le_trans BB.out.size hbr; have SX := Lib.hid (SX.out.next bel2); have Xf := Lib.hid (Xf.out.next bel2); have BB := Lib.hid (bel_next BB.out bel2); have Xr := Lib.hid hBr; clear bel2 hBr hbr)
    | (with_reducible refine chn_load (o := ⟨some 11, _, _, _, _, _⟩) chn rfl _ rfl rfl Xf.out ?_))
  refine (CK.out _).mono ?_
  rintro e w3 ⟨rfl, bel3⟩
  have SX := Lib.hid (SX.out.next bel3)
  have Xf := Lib.hid (Xf.out.next bel3)
  have Xr := Lib.hid (Xr.out.next bel3)
  have BB := Lib.hid (bel_next BB.out bel3)
  clear bel3
  go_wp2_with fail
  have hbase : br < w3.heap.size := Xr.out.lt
  have hbf3 : bf < w3.heap.size := Xf.out.lt
  have hw3 := BB.out.size
  go_loopw [7, 8] (fun v i wr => ∃ k : Nat, k ≤ xs.length ∧ i = .int .i64 k ∧ CB wr bf 26 bt (finL (cN bt sh) s (xs.take k)).1 sh (finL (cN bt sh) s (xs.take k)).2.1 (finL (cN bt sh) s (xs.take k)).2.2 ∧ CB wr br 26 0 0 0 z16 z16 ∧ Own wr w3.heap.size 21 .i32 v (runL (cO bt sh) (cN bt sh) s (xs.take k)) ∧ SA wr w.heap.size .i32 A xs ∧ Below w.heap.size w wr ∧ w3.heap.size ≤ wr.heap.size) (fun _ i _ => xs.length - (intOf i).toNat)
  case atStart => exact ⟨0, by omega, rfl, Xf.out, Xr.out, Own.nil _ _ _ _, SX.out, BB.out, Nat.le_refl _⟩
  case round =>
    obtain ⟨k, hk, rfl, hf, hr, hown, hsx, hb, hsz⟩ := hrel
    by_cases hlt : k < xs.length
    · obtain ⟨bb, o, rfl, hbb, hc⟩ := hsx.1 (by omega)
      have hcell := hc k hlt
      have b1 := HX.out _ (mem_getD hlt)
      have HR := Lib.hid ((congrArg (runL (cO bt sh) (cN bt sh) s) (take_snoc xs k hlt)).trans (runL_snoc s (xs.take k) (xs.getD k 0)))
      have HFI := Lib.hid ((congrArg (finL (cN bt sh) s) (take_snoc xs k hlt)).trans (finL_snoc s (xs.take k) (xs.getD k 0)))
      have HLN := Lib.hid (show (runL (cO bt sh) (cN bt sh) s (xs.take k)).length ≤ 4000 by rw [runL_len, List.length_take]; omega)
      have hvk := HV.out k
      have CS := Lib.hid (fun W => CST.out (finL (cN bt sh) s (xs.take k)) (xs.getD k 0) W hvk b1)
      have hvn := HV.out (k + 1)
      rw [HFI.out] at hvn
      have HVN := Lib.hid hvn.2.1
      generalize xs.getD k 0 = y at *
      have SX := Lib.hid hsx
      have Xf := Lib.hid hf
      have Xr := Lib.hid hr
      have Xo := Lib.hid hown
      have BB := Lib.hid hb
      have hkz : (k : Int) < (xs.length : Int) := by omega
      generalize runL (cO bt sh) (cN bt sh) s (xs.take k) = L at *
      generalize finL (cN bt sh) s (xs.take k) = q at *
      generalize hq0 : ((cN bt sh) q y).1 = n0 at *
      generalize hq1 : ((cN bt sh) q y).2.1 = n1 at *
      generalize hq2 : ((cN bt sh) q y).2.2 = n2 at *
      have HQ0 := Lib.hid hq0
      have HQ1 := Lib.hid hq1
      have HQ2 := Lib.hid hq2
      generalize (cO bt sh) q y = oy at *
      obtain ⟨w4, rfl⟩ : ∃ w4, w4 = wr := ⟨_, rfl⟩
      have HC := Lib.hid (fun W (hW : Below w4.heap.size w4 W) => (hW.cell (p := ⟨bb, o + k, none⟩) (by have := hb.size; show bb < _; omega)).trans hcell)
      have Z0 := Lib.hid (show Sz w4 w3.heap.size from hsz)
      clear hc hsx hf hr hown hb hvn hq0 hq1 hq2 hvk hcell
      go_upto_region 9 with fail
      go_cut [10, 9] (fun s10 s9 wx => ∃ bn, s10 = .pointer (some ⟨bn, 0, none⟩) ∧ s9 = .int .i32 oy ∧ w4.heap.size ≤ bn ∧ CB wx bn 26 bt n0 sh n1 n2 ∧ Below w4.heap.size w4 wx)
      case first =>
        refine h_begin (S := SinceH w4) (by kernel_rfl) rfl ?_
        have S0 : Below w4.heap.size w4 { w4 with drawn := w4.drawn + 1 } := (bel_self w4).drew
        generalize ({ w4 with drawn := w4.drawn + 1 } : World) = wd at *
        refine h_take 0 rfl (by kernel_rfl) (by kernel_rfl) (by kernel_rfl) (fun _ _ _ h => h) (y_loadC chn rfl _ rfl rfl (fun W hW => Xf.out.next hW)) S0 rfl (by go_simp <;> rfl) ?_
        refine h_take 1 rfl (by kernel_rfl) (by kernel_rfl) (by kernel_rfl) (fun _ _ _ h => h) (y_pure rfl (fun W hW => by go_simp <;> rfl)) S0 rfl (by go_simp <;> rfl) ?_
        refine h_take 2 rfl (by kernel_rfl) (by kernel_rfl) (by kernel_rfl) (fun _ _ _ h => h) (y_pure rfl (fun W hW => by go_simp <;> rfl)) S0 rfl (by go_simp <;> rfl) ?_
        refine h_take 3 rfl (by kernel_rfl) (by kernel_rfl) (by kernel_rfl) (fun _ _ _ h => h) (y_pure rfl (fun W hW => by go_simp <;> rfl)) S0 rfl (by go_simp <;> rfl) ?_
        refine h_take 4 rfl (by kernel_rfl) (by kernel_rfl) (by kernel_rfl) (fun _ _ _ h => h) (y_pure rfl (fun W hW => by have := HC.out W hW; go_simp <;> rfl)) S0 rfl (by go_simp <;> rfl) ?_
        refine h_two 5 9 (by kernel_rfl) rfl rfl rfl rfl rfl rfl ?_ ?_
        · refine wp_call (by go_simp <;> rfl) (CS.out _) (by go_simp <;> rfl) ?_
          intro v1 belc
          have S1 : Below w4.heap.size w4 v1 := bel_next S0 belc
          refine ⟨S1, ?_⟩
          refine h_take 6 rfl (by kernel_rfl) (by kernel_rfl) (by kernel_rfl) (fun _ _ _ h => h) (y_pure rfl (fun W hW => by go_simp <;> rfl)) S1 rfl (by go_simp <;> rfl) ?_
          refine h_take 7 rfl (by kernel_rfl) (by kernel_rfl) (by kernel_rfl) (fun _ _ _ h => h) (y_pure rfl (fun W hW => by go_simp <;> rfl)) S1 rfl (by go_simp <;> rfl) ?_
          refine h_take 8 rfl (by kernel_rfl) (by kernel_rfl) (by kernel_rfl) (fun _ _ _ h => h) (y_pure rfl (fun W hW => by go_simp <;> rfl)) S1 rfl (by go_simp <;> rfl) ?_
          refine h_one 9 (by kernel_rfl) rfl rfl rfl ?_
          refine wp_chn_alloc chn rfl (fun b => by go_simp <;> rfl) ?_
          intro v2 bn hb8 hB8 bela
          have S2 : Below w4.heap.size w4 v2 := bel_next S1 bela
          refine ⟨S2, ?_⟩
          have o8 : w4.heap.size ≤ bn := Nat.le_trans S1.size hb8
          refine h_take 10 rfl (by kernel_rfl) (by kernel_rfl) (by kernel_rfl) (fun _ _ _ h => h) (y_pure rfl (fun W hW => by go_simp <;> rfl)) S2 rfl (by go_simp <;> rfl) ?_
          refine h_one 11 (by kernel_rfl) rfl rfl rfl ?_
          refine wp_chn_store chn _ _ rfl rfl rfl hB8 HVN.out (by go_simp <;> rfl) ?_
          intro v3 hB3 onl3
          have S3 : Below w4.heap.size w4 v3 := onl3.bel o8 S2
          refine ⟨S3, ?_⟩
          refine h_done (by kernel_rfl) ?_
          go_wp2_with fail
          go_meet
          exact ⟨bn, rfl, rfl, o8, hB3, S3⟩
        · refine wp_chn_alloc chn rfl (fun b => by go_simp <;> rfl) ?_
          intro v1 bn hb8 hB8 bela
          have S1 : Below w4.heap.size w4 v1 := bel_next S0 bela
          refine ⟨S1, ?_⟩
          have o8 : w4.heap.size ≤ bn := Nat.le_trans S0.size hb8
          refine h_one 5 (by kernel_rfl) rfl rfl rfl ?_
          refine wp_call (by go_simp <;> rfl) (CS.out _) (by go_simp <;> rfl) ?_
          intro v2 belc
          have S2 : Below w4.heap.size w4 v2 := bel_next S1 belc
          refine ⟨S2, ?_⟩
          have hB8 := hB8.next belc
          refine h_take 6 rfl (by kernel_rfl) (by kernel_rfl) (by kernel_rfl) (fun _ _ _ h => h) (y_pure rfl (fun W hW => by go_simp <;> rfl)) S2 rfl (by go_simp <;> rfl) ?_
          refine h_take 7 rfl (by kernel_rfl) (by kernel_rfl) (by kernel_rfl) (fun _ _ _ h => h) (y_pure rfl (fun W hW => by go_simp <;> rfl)) S2 rfl (by go_simp <;> rfl) ?_
          refine h_take 8 rfl (by kernel_rfl) (by kernel_rfl) (by kernel_rfl) (fun _ _ _ h => h) (y_pure rfl (fun W hW => by go_simp <;> rfl)) S2 rfl (by go_simp <;> rfl) ?_
          refine h_take 10 rfl (by kernel_rfl) (by kernel_rfl) (by kernel_rfl) (fun _ _ _ h => h) (y_pure rfl (fun W hW => by go_simp <;> rfl)) S2 rfl (by go_simp <;> rfl) ?_
          refine h_one 11 (by kernel_rfl) rfl rfl rfl ?_
          refine wp_chn_store chn _ _ rfl rfl rfl hB8 HVN.out (by go_simp <;> rfl) ?_
          intro v3 hB3 onl3
          have S3 : Below w4.heap.size w4 v3 := onl3.bel o8 S2
          refine ⟨S3, ?_⟩
          refine h_done (by kernel_rfl) ?_
          go_wp2_with fail
          go_meet
          exact ⟨bn, rfl, rfl, o8, hB3, S3⟩
      case rest =>
        obtain ⟨bn, rfl, rfl, hbn, hBn, bel5⟩ := hcut
        obtain ⟨w5, rfl⟩ : ∃ wq, wq = wc := ⟨_, rfl⟩
        have q_f_n : bf < bn := Nat.lt_of_lt_of_le Xf.out.lt hbn
        have q_r_n : br < bn := Nat.lt_of_lt_of_le Xr.out.lt hbn
        have q_SX_n := Nat.le_trans SX.out.2 hbn
        have nq_Xo_n := Own.ne_of_ge Xo.out hbn
        have on := Nat.le_trans BB.out.size hbn
        have Xf := Lib.hid (Xf.out.next bel5)
        have Xr := Lib.hid (Xr.out.next bel5)
        have SX := Lib.hid (SX.out.next bel5)
        have Xo := Lib.hid (Xo.out.next bel5)
        have Z0 := Lib.hid (Z0.out.next bel5)
        have BB := Lib.hid (bel_next BB.out bel5)
        have Xn := Lib.hid hBn
        clear bel5 hBn hbn
        have belA := bel_up (bel_self w5) (.cells #[.int .i32 oy] 21)
        have Xf := Lib.hid (Xf.out.next belA)
        have Xr := Lib.hid (Xr.out.next belA)
        have SX := Lib.hid (SX.out.next belA)
        have Xn := Lib.hid (Xn.out.next belA)
        have Z0 := Lib.hid (Z0.out.next belA)
        have Xo := Lib.hid (Xo.out.next belA)
        have BB := Lib.hid (bel_next BB.out belA)
        have hcA : (w5.alloc (.cells #[.int .i32 oy] 21)).cell? ⟨w5.heap.size, 0, none⟩ = some (.int .i32 oy) := by simp
        have HCA := Lib.hid hcA
        clear belA hcA
        go_upto_region 11 with (at_builtin; refine wpl_app1g elI32 _ _ rfl rfl rfl rfl Xo.out HCA.out (by have := HLN.out; omega) (by have := HLN.out; omega) Z0.out ?_; intro v6 w6 own6 gr6; have Xf := Lib.hid (Xf.out.grown gr6 (Xo.out.ne_of_lt hbf3)); have Xr := Lib.hid (Xr.out.grown gr6 (Xo.out.ne_of_lt hbase)); have Xn := Lib.hid (Xn.out.grown gr6 nq_Xo_n); have SX := Lib.hid (SX.out.grown gr6 (fun g hg => Nat.le_trans hw3 (Xo.out.block_ge g hg))); have BB := Lib.hid (BB.out.grown gr6 BB.out.size (fun g hg => Nat.le_trans hw3 (Xo.out.block_ge g hg))); have Z0 := Lib.hid (Z0.out.grown gr6); have Xo := Lib.hid own6; clear own6 gr6 HCA)
        go_wp2_with (first
          | (with_reducible refine chn_load (o := ⟨some 40, _, _, _, _, _⟩) chn rfl _ rfl rfl Xn.out ?_)
          | ((with_reducible refine chn_store chn rfl (.tmp 2) (.tmp 40) rfl rfl rfl Xf.out HVN.out ?_); intro w7 hB7 onl7; have Xr := Lib.hid (Xr.out.only (by omega) onl7); have SX := Lib.hid (SX.out.only (by omega) onl7); have Xn := Lib.hid (Xn.out.only (by omega) onl7); have Xo := Lib.hid (Xo.out.only (Own.ne_of_lt Xo.out (by omega)) onl7); have Z0 := Lib.hid (Z0.out.only (by omega) onl7); have BB := Lib.hid (onl7.bel of BB.out); have Xf := Lib.hid hB7; clear onl7 hB7))
        have XO := Xo.out
        rw [← HR.out] at XO
        have XF := Xf.out
        rw [← HQ0.out, ← HQ1.out, ← HQ2.out, ← HFI.out] at XF
        go_roundw
        case rel => exact ⟨k + 1, by omega, by go_num, XF, Xr.out, XO, SX.out, BB.out, Z0.out⟩
        case measure => simp [intOf]; omega
    · obtain rfl : k = xs.length := by omega
      rw [List.take_of_length_le (Nat.le_refl _)] at hf hown
      have Xf := Lib.hid hf
      have Xr := Lib.hid hr
      have Xo := Lib.hid hown
      have BB := Lib.hid hb
      have hvn := HV.out xs.length
      rw [List.take_of_length_le (Nat.le_refl _)] at hvn
      have HVN := Lib.hid hvn.2.1
      generalize hL : runL (cO bt sh) (cN bt sh) s xs = L at *
      generalize hN0 : (finL (cN bt sh) s xs).1 = n0 at *
      generalize hN1 : (finL (cN bt sh) s xs).2.1 = n1 at *
      generalize hN2 : (finL (cN bt sh) s xs).2.2 = n2 at *
      have HL := Lib.hid hL
      have HN0 := Lib.hid hN0
      have HN1 := Lib.hid hN1
      have HN2 := Lib.hid hN2
      clear hf hr hown hb hsx hvn hL hN0 hN1 hN2
      go_upto_region 12 with fail
      obtain ⟨wd, hwd⟩ : ∃ wd : World, wd = { wr with drawn := wr.drawn + 1 } := ⟨_, rfl⟩
      have S0 : CB wd bf 26 bt n0 sh n1 n2 := by rw [hwd]; exact Xf.out
      have Xr : Hid (CB wd br 26 0 0 0 z16 z16) := by rw [hwd]; exact Xr
      have Xo : Hid (Own wd w3.heap.size 21 .i32 u7 L) := by rw [hwd]; exact Xo
      have BB : Hid (Below w.heap.size w wd) := by rw [hwd]; exact BB.out.drew
      refine h_begin (S := fun W => CB W bf 26 bt n0 sh n1 n2) (by kernel_rfl) rfl ?_
      rw [show ({ wr with drawn := wr.drawn + 1 } : World) = wd from hwd.symm]
      clear hwd
      refine h_take 0 rfl (by kernel_rfl) (by kernel_rfl) (by kernel_rfl) (fun _ _ _ h => h) (y_pure rfl (fun W hW => by go_simp <;> rfl)) S0 rfl (by go_simp <;> rfl) ?_
      refine h_take 1 rfl (by kernel_rfl) (by kernel_rfl) (by kernel_rfl) (fun _ _ _ h => h) (y_loadC chn rfl _ rfl rfl (fun W hW => hW)) S0 rfl (by go_simp <;> rfl) ?_
      refine h_take 2 rfl (by kernel_rfl) (by kernel_rfl) (by kernel_rfl) (fun _ _ _ h => h) (y_pure rfl (fun W hW => by go_simp <;> rfl)) S0 rfl (by go_simp <;> rfl) ?_
      refine h_one 3 (by kernel_rfl) rfl rfl rfl ?_
      refine wp_chn_store chn _ _ rfl rfl rfl Xr.out HVN.out (by go_simp <;> rfl) ?_
      intro w10 hB10 onl10
      have S1 := S0.only (by omega) onl10
      have Xo := Lib.hid (Xo.out.only (Xo.out.ne_of_lt hbase) onl10)
      have BB := Lib.hid (onl10.bel or BB.out)
      clear onl10
      refine ⟨S1, ?_⟩
      refine h_take 4 rfl (by kernel_rfl) (by kernel_rfl) (by kernel_rfl) (fun _ _ _ h => h) (y_pure rfl (fun W hW => by go_simp <;> rfl)) S1 rfl (by go_simp <;> rfl) ?_
      refine h_done (by kernel_rfl) ?_
      go_wp2_with fail
      exact bodyPost_ret (chn_res2 chn rfl _ _ rfl hB10) rfl ⟨u7, by rw [HN0.out, HN1.out, HN2.out]; rfl, by rw [HL.out]; exact Xo.out.rebase hw3, BB.out⟩
set_option maxHeartbeats 1000000 in
theorem crefUndo_bad (bt la sh : Int) (ts ps : List Int) (A : Option Addr) (n c : Nat) (w : World) (hF : F16 ts ps) (hm : n ≤ 9223372036854775807) (h : clE bt sh n ≠ 0) :
    Calls Try.prog 23 #[.agg (cA bt la sh ts ps), .slice A n c] w fun e w' =>
      e = .returned (.tuple #[.slice none 0 0, .agg (cA 0 0 0 z16 z16), .int .i64 (clE bt sh n)]) ∧ Below w.heap.size w w' := by
  have BB := Lib.hid (bel_self w)
  have CK := Lib.hid (fun W => crecheck_any bt la sh ts ps W hF)
  by_cases h0 : cnC bt sh = 0
  · rw [h0] at CK
    have hn : 4000 < n := by
      refine Decidable.by_contra fun hh => h ?_
      unfold clE; rw [if_neg (by omega), if_neg hh]
    have E := Lib.hid (show clE bt sh n = 4 by unfold clE; rw [if_neg (by omega), if_pos hn])
    have d1 : decide ((4000 : Int) < (n : Int)) = true := by simp; omega
    rw [E.out]
    clear h h0 E
    go_enter Try.func23, Try.ntmps23
    go_wp2_with (first
      | ((with_reducible refine chn_box (o := ⟨some 2, _, _, _, _, _⟩) chn rfl _ rfl rfl hF ?_); intro w1 bf hbf hBf bel1; have of := Nat.le_trans BB.out.size hbf; have BB := Lib.hid (bel_next BB.out bel1); have Xf := Lib.hid hBf; clear bel1 hBf hbf)
      | ((with_reducible refine chn_alloc (o := ⟨some 5, _, _, _, _, _⟩) chn rfl rfl ?_); intro w2 br hbr hBr bel2; have q_f_r : bf < br := Nat.lt_of_lt_of_le Xf.out.lt hbr; have or := Nat.le_trans BB.out.size hbr; have Xf := Lib.hid (Xf.out.next bel2); have BB := Lib.hid (bel_next BB.out bel2); have Xr := Lib.hid hBr; clear bel2 hBr hbr)
      | (with_reducible refine chn_load (o := ⟨some 11, _, _, _, _, _⟩) chn rfl _ rfl rfl Xf.out ?_))
    refine (CK.out _).mono ?_
    rintro e w3 ⟨rfl, bel3⟩
    have Xf := Lib.hid (Xf.out.next bel3)
    have Xr := Lib.hid (Xr.out.next bel3)
    have BB := Lib.hid (bel_next BB.out bel3)
    clear bel3
    go_wp2_with (first
      | (with_reducible refine chn_bld0 (o := ⟨some 20, _, _, _, _, _⟩) chn rfl rfl ?_)
      | ((with_reducible refine chn_store chn rfl (.tmp 5) (.tmp 20) rfl rfl rfl Xr.out f16z ?_); intro w4 hB4 onl4; have Xf := Lib.hid (Xf.out.only (by omega) onl4); have BB := Lib.hid (onl4.bel or BB.out); have Xr := Lib.hid hB4; clear onl4 hB4))
    exact bodyPost_ret (chn_res2 chn rfl _ _ rfl Xr.out) rfl ⟨rfl, BB.out⟩
  · have E := Lib.hid (show clE bt sh n = 8 by unfold clE; rw [if_pos h0])
    rw [cnC_bad h0] at CK
    rw [E.out]
    clear h h0 E
    go_enter Try.func23, Try.ntmps23
    go_wp2_with (first
      | ((with_reducible refine chn_box (o := ⟨some 2, _, _, _, _, _⟩) chn rfl _ rfl rfl hF ?_); intro w1 bf hbf hBf bel1; have of := Nat.le_trans BB.out.size hbf; have BB := Lib.hid (bel_next BB.out bel1); have Xf := Lib.hid hBf; clear bel1 hBf hbf)
      | ((with_reducible refine chn_alloc (o := ⟨some 5, _, _, _, _, _⟩) chn rfl rfl ?_); intro w2 br hbr hBr bel2; have q_f_r : bf < br := Nat.lt_of_lt_of_le Xf.out.lt hbr; have or := Nat.le_trans BB.out.size hbr; have Xf := Lib.hid (Xf.out.next bel2); have BB := Lib.hid (bel_next BB.out bel2); have Xr := Lib.hid hBr; clear bel2 hBr hbr)
      | (with_reducible refine chn_load (o := ⟨some 11, _, _, _, _, _⟩) chn rfl _ rfl rfl Xf.out ?_))
    refine (CK.out _).mono ?_
    rintro e w3 ⟨rfl, bel3⟩
    have Xf := Lib.hid (Xf.out.next bel3)
    have Xr := Lib.hid (Xr.out.next bel3)
    have BB := Lib.hid (bel_next BB.out bel3)
    clear bel3
    go_wp2_with (first
      | (with_reducible refine chn_bld0 (o := ⟨some 14, _, _, _, _, _⟩) chn rfl rfl ?_)
      | (with_reducible refine chn_load (o := ⟨some 15, _, _, _, _, _⟩) chn rfl _ rfl rfl Xf.out ?_))
    refine (CK.out _).mono ?_
    rintro e w4 ⟨rfl, bel4⟩
    have Xf := Lib.hid (Xf.out.next bel4)
    have Xr := Lib.hid (Xr.out.next bel4)
    have BB := Lib.hid (bel_next BB.out bel4)
    clear bel4
    go_wp2_with (first
      | ((with_reducible refine chn_store chn rfl (.tmp 5) (.tmp 14) rfl rfl rfl Xr.out f16z ?_); intro w5 hB5 onl5; have Xf := Lib.hid (Xf.out.only (by omega) onl5); have BB := Lib.hid (onl5.bel or BB.out); have Xr := Lib.hid hB5; clear onl5 hB5))
    exact bodyPost_ret (chn_res2 chn rfl _ _ rfl Xr.out) rfl ⟨rfl, BB.out⟩
set_option maxRecDepth 100000 in
set_option maxHeartbeats 2000000 in
theorem crefUndo_ok (bt sh : Int) (s : CS) (A : Option Addr) (n c : Nat) (xs : List Int) (w : World) (hlen : xs.length = n) (hv : VC s) (h : cnC bt sh = 0) (hn : n ≤ 4000) (hx : I32 xs) (hs : Sl w w.heap.size .i32 A xs) :
    Calls Try.prog 23 #[.agg (cA bt s.1 sh s.2.1 s.2.2), .slice A n c] w fun e w' =>
      ∃ v, e = .returned (.tuple #[v, .agg (cA bt (finL (cM bt sh) s xs).1 sh (finL (cM bt sh) s xs).2.1 (finL (cM bt sh) s xs).2.2), .int .i64 0]) ∧ Own w' w.heap.size 21 .i32 v (runL (cP bt sh) (cM bt sh) s xs) ∧ Below w.heap.size w w' := by
  subst hlen
  have BB := Lib.hid (bel_self w)
  have SX := Lib.hid (SA.of hs)
  have hF := hv.2.1
  have CK := Lib.hid (fun W => crecheck_any bt s.1 sh s.2.1 s.2.2 W hF)
  rw [h] at CK
  have CST := Lib.hid (fun (c : CS) x W (hq : VC c) (hx : G32 x) => show Calls Try.prog _ #[.agg (cA bt c.1 sh c.2.1 c.2.2), .int .i32 x] W fun e w' => e = .returned (.tuple #[.int .i32 ((cP bt sh) c x), .agg (cA bt ((cM bt sh) c x).1 sh ((cM bt sh) c x).2.1 ((cM bt sh) c x).2.2)]) ∧ Below W.heap.size W w' from creStepped_ok bt sh c x W hq h hx)
  have HV := Lib.hid (fun k => show VC (finL (cM bt sh) s (xs.take k)) from finM_v bt sh s _ hv)
  have HX := Lib.hid hx
  have d1 : decide ((4000 : Int) < (xs.length : Int)) = false := by simp; omega
  clear h hs hx
  go_enter Try.func23, Try.ntmps23
  go_wp2_with (first
    | ((with_reducible refine chn_box (o := ⟨some 2, _, _, _, _, _⟩) chn rfl _ rfl rfl hF ?_); intro w1 bf hbf hBf bel1; have q_SX_f := Nat.le_trans SX.out.2 hbf; have of := Nat.le_trans BB.out.size hbf; have SX := Lib.hid (SX.out.next bel1); have BB := Lib.hid (bel_next BB.out bel1); have Xf := Lib.hid hBf; clear bel1 hBf hbf)
    | ((with_reducible refine chn_alloc (o := ⟨some 5, _, _, _, _, _⟩) chn rfl rfl ?_); intro w2 br hbr hBr bel2; have q_f_r : bf < br := Nat.lt_of_lt_of_le Xf.out.lt hbr; have q_SX_r := Nat.le_trans SX.out.2 hbr; have or := Nat.le_trans BB.out.size hbr; have SX := Lib.hid (SX.out.next bel2); have Xf := Lib.hid (Xf.out.next bel2); have BB := Lib.hid (bel_next BB.out bel2); have Xr := Lib.hid hBr; clear bel2 hBr hbr)
    | (with_reducible refine chn_load (o := ⟨some 11, _, _, _, _, _⟩) chn rfl _ rfl rfl Xf.out ?_))
  refine (CK.out _).mono ?_
  rintro e w3 ⟨rfl, bel3⟩
  have SX := Lib.hid (SX.out.next bel3)
  have Xf := Lib.hid (Xf.out.next bel3)
  have Xr := Lib.hid (Xr.out.next bel3)
  have BB := Lib.hid (bel_next BB.out bel3)
  clear bel3
  go_wp2_with fail
  have hbase : br < w3.heap.size := Xr.out.lt
  have hbf3 : bf < w3.heap.size := Xf.out.lt
  have hw3 := BB.out.size
  go_loopw [7, 8] (fun v i wr => ∃ k : Nat, k ≤ xs.length ∧ i = .int .i64 k ∧ CB wr bf 26 bt (finL (cM bt sh) s (xs.take k)).1 sh (finL (cM bt sh) s (xs.take k)).2.1 (finL (cM bt sh) s (xs.take k)).2.2 ∧ CB wr br 26 0 0 0 z16 z16 ∧ Own wr w3.heap.size 21 .i32 v (runL (cP bt sh) (cM bt sh) s (xs.take k)) ∧ SA wr w.heap.size .i32 A xs ∧ Below w.heap.size w wr ∧ w3.heap.size ≤ wr.heap.size) (fun _ i _ => xs.length - (intOf i).toNat)
  case atStart => exact ⟨0, by omega, rfl, Xf.out, Xr.out, Own.nil _ _ _ _, SX.out, BB.out, Nat.le_refl _⟩
  case round =>
    obtain ⟨k, hk, rfl, hf, hr, hown, hsx, hb, hsz⟩ := hrel
    by_cases hlt : k < xs.length
    · obtain ⟨bb, o, rfl, hbb, hc⟩ := hsx.1 (by omega)
      have hcell := hc k hlt
      have b1 := HX.out _ (mem_getD hlt)
      have HR := Lib.hid ((congrArg (runL (cP bt sh) (cM bt sh) s) (take_snoc xs k hlt)).trans (runL_snoc s (xs.take k) (xs.getD k 0)))
      have HFI := Lib.hid ((congrArg (finL (cM bt sh) s) (take_snoc xs k hlt)).trans (finL_snoc s (xs.take k) (xs.getD k 0)))
      have HLN := Lib.hid (show (runL (cP bt sh) (cM bt sh) s (xs.take k)).length ≤ 4000 by rw [runL_len, List.length_take]; omega)
      have hvk := HV.out k
      have CS := Lib.hid (fun W => CST.out (finL (cM bt sh) s (xs.take k)) (xs.getD k 0) W hvk b1)
      have hvn := HV.out (k + 1)
      rw [HFI.out] at hvn
      have HVN := Lib.hid hvn.2.1
      generalize xs.getD k 0 = y at *
      have SX := Lib.hid hsx
      have Xf := Lib.hid hf
      have Xr := Lib.hid hr
      have Xo := Lib.hid hown
      have BB := Lib.hid hb
      have hkz : (k : Int) < (xs.length : Int) := by omega
      generalize runL (cP bt sh) (cM bt sh) s (xs.take k) = L at *
      generalize finL (cM bt sh) s (xs.take k) = q at *
      generalize hq0 : ((cM bt sh) q y).1 = n0 at *
      generalize hq1 : ((cM bt sh) q y).2.1 = n1 at *
      generalize hq2 : ((cM bt sh) q y).2.2 = n2 at *
      have HQ0 := Lib.hid hq0
      have HQ1 := Lib.hid hq1
      have HQ2 := Lib.hid hq2
      generalize (cP bt sh) q y = oy at *
      obtain ⟨w4, rfl⟩ : ∃ w4, w4 = wr := ⟨_, rfl⟩
      have HC := Lib.hid (fun W (hW : Below w4.heap.size w4 W) => (hW.cell (p := ⟨bb, o + k, none⟩) (by have := hb.size; show bb < _; omega)).trans hcell)
      have Z0 := Lib.hid (show Sz w4 w3.heap.size from hsz)
      clear hc hsx hf hr hown hb hvn hq0 hq1 hq2 hvk hcell
      go_upto_region 9 with fail
      go_cut [10, 9] (fun s10 s9 wx => ∃ bn, s10 = .pointer (some ⟨bn, 0, none⟩) ∧ s9 = .int .i32 oy ∧ w4.heap.size ≤ bn ∧ CB wx bn 26 bt n0 sh n1 n2 ∧ Below w4.heap.size w4 wx)
      case first =>
        refine h_begin (S := SinceH w4) (by kernel_rfl) rfl ?_
        have S0 : Below w4.heap.size w4 { w4 with drawn := w4.drawn + 1 } := (bel_self w4).drew
        generalize ({ w4 with drawn := w4.drawn + 1 } : World) = wd at *
        refine h_take 0 rfl (by kernel_rfl) (by kernel_rfl) (by kernel_rfl) (fun _ _ _ h => h) (y_loadC chn rfl _ rfl rfl (fun W hW => Xf.out.next hW)) S0 rfl (by go_simp <;> rfl) ?_
        refine h_take 1 rfl (by kernel_rfl) (by kernel_rfl) (by kernel_rfl) (fun _ _ _ h => h) (y_pure rfl (fun W hW => by go_simp <;> rfl)) S0 rfl (by go_simp <;> rfl) ?_
        refine h_take 2 rfl (by kernel_rfl) (by kernel_rfl) (by kernel_rfl) (fun _ _ _ h => h) (y_pure rfl (fun W hW => by go_simp <;> rfl)) S0 rfl (by go_simp <;> rfl) ?_
        refine h_take 3 rfl (by kernel_rfl) (by kernel_rfl) (by kernel_rfl) (fun _ _ _ h => h) (y_pure rfl (fun W hW => by go_simp <;> rfl)) S0 rfl (by go_simp <;> rfl) ?_
        refine h_take 4 rfl (by kernel_rfl) (by kernel_rfl) (by kernel_rfl) (fun _ _ _ h => h) (y_pure rfl (fun W hW => by have := HC.out W hW; go_simp <;> rfl)) S0 rfl (by go_simp <;> rfl) ?_
        refine h_two 5 9 (by kernel_rfl) rfl rfl rfl rfl rfl rfl ?_ ?_
        · refine wp_call (by go_simp <;> rfl) (CS.out _) (by go_simp <;> rfl) ?_
          intro v1 belc
          have S1 : Below w4.heap.size w4 v1 := bel_next S0 belc
          refine ⟨S1, ?_⟩
          refine h_take 6 rfl (by kernel_rfl) (by kernel_rfl) (by kernel_rfl) (fun _ _ _ h => h) (y_pure rfl (fun W hW => by go_simp <;> rfl)) S1 rfl (by go_simp <;> rfl) ?_
          refine h_take 7 rfl (by kernel_rfl) (by kernel_rfl) (by kernel_rfl) (fun _ _ _ h => h) (y_pure rfl (fun W hW => by go_simp <;> rfl)) S1 rfl (by go_simp <;> rfl) ?_
          refine h_take 8 rfl (by kernel_rfl) (by kernel_rfl) (by kernel_rfl) (fun _ _ _ h => h) (y_pure rfl (fun W hW => by go_simp <;> rfl)) S1 rfl (by go_simp <;> rfl) ?_
          refine h_one 9 (by kernel_rfl) rfl rfl rfl ?_
          refine wp_chn_alloc chn rfl (fun b => by go_simp <;> rfl) ?_
          intro v2 bn hb8 hB8 bela
          have S2 : Below w4.heap.size w4 v2 := bel_next S1 bela
          refine ⟨S2, ?_⟩
          have o8 : w4.heap.size ≤ bn := Nat.le_trans S1.size hb8
          refine h_take 10 rfl (by kernel_rfl) (by kernel_rfl) (by kernel_rfl) (fun _ _ _ h => h) (y_pure rfl (fun W hW => by go_simp <;> rfl)) S2 rfl (by go_simp <;> rfl) ?_
          refine h_one 11 (by kernel_rfl) rfl rfl rfl ?_
          refine wp_chn_store chn _ _ rfl rfl rfl hB8 HVN.out (by go_simp <;> rfl) ?_
          intro v3 hB3 onl3
          have S3 : Below w4.heap.size w4 v3 := onl3.bel o8 S2
          refine ⟨S3, ?_⟩
          refine h_done (by kernel_rfl) ?_
          go_wp2_with fail
          go_meet
          exact ⟨bn, rfl, rfl, o8, hB3, S3⟩
        · refine wp_chn_alloc chn rfl (fun b => by go_simp <;> rfl) ?_
          intro v1 bn hb8 hB8 bela
          have S1 : Below w4.heap.size w4 v1 := bel_next S0 bela
          refine ⟨S1, ?_⟩
          have o8 : w4.heap.size ≤ bn := Nat.le_trans S0.size hb8
          refine h_one 5 (by kernel_rfl) rfl rfl rfl ?_
          refine wp_call (by go_simp <;> rfl) (CS.out _) (by go_simp <;> rfl) ?_
          intro v2 belc
          have S2 : Below w4.heap.size w4 v2 := bel_next S1 belc
          refine ⟨S2, ?_⟩
          have hB8 := hB8.next belc
          refine h_take 6 rfl (by kernel_rfl) (by kernel_rfl) (by kernel_rfl) (fun _ _ _ h => h) (y_pure rfl (fun W hW => by go_simp <;> rfl)) S2 rfl (by go_simp <;> rfl) ?_
          refine h_take 7 rfl (by kernel_rfl) (by kernel_rfl) (by kernel_rfl) (fun _ _ _ h => h) (y_pure rfl (fun W hW => by go_simp <;> rfl)) S2 rfl (by go_simp <;> rfl) ?_
          refine h_take 8 rfl (by kernel_rfl) (by kernel_rfl) (by kernel_rfl) (fun _ _ _ h => h) (y_pure rfl (fun W hW => by go_simp <;> rfl)) S2 rfl (by go_simp <;> rfl) ?_
          refine h_take 10 rfl (by kernel_rfl) (by kernel_rfl) (by kernel_rfl) (fun _ _ _ h => h) (y_pure rfl (fun W hW => by go_simp <;> rfl)) S2 rfl (by go_simp <;> rfl) ?_
          refine h_one 11 (by kernel_rfl) rfl rfl rfl ?_
          refine wp_chn_store chn _ _ rfl rfl rfl hB8 HVN.out (by go_simp <;> rfl) ?_
          intro v3 hB3 onl3
          have S3 : Below w4.heap.size w4 v3 := onl3.bel o8 S2
          refine ⟨S3, ?_⟩
          refine h_done (by kernel_rfl) ?_
          go_wp2_with fail
          go_meet
          exact ⟨bn, rfl, rfl, o8, hB3, S3⟩
      case rest =>
        obtain ⟨bn, rfl, rfl, hbn, hBn, bel5⟩ := hcut
        obtain ⟨w5, rfl⟩ : ∃ wq, wq = wc := ⟨_, rfl⟩
        have q_f_n : bf < bn := Nat.lt_of_lt_of_le Xf.out.lt hbn
        have q_r_n : br < bn := Nat.lt_of_lt_of_le Xr.out.lt hbn
        have q_SX_n := Nat.le_trans SX.out.2 hbn
        have nq_Xo_n := Own.ne_of_ge Xo.out hbn
        have on := Nat.le_trans BB.out.size hbn
        have Xf := Lib.hid (Xf.out.next bel5)
        have Xr := Lib.hid (Xr.out.next bel5)
        have SX := Lib.hid (SX.out.next bel5)
        have Xo := Lib.hid (Xo.out.next bel5)
        have Z0 := Lib.hid (Z0.out.next bel5)
        have BB := Lib.hid (bel_next BB.out bel5)
        have Xn := Lib.hid hBn
        clear bel5 hBn hbn
        have belA := bel_up (bel_self w5) (.cells #[.int .i32 oy] 21)
        have Xf := Lib.hid (Xf.out.next belA)
        have Xr := Lib.hid (Xr.out.next belA)
        have SX := Lib.hid (SX.out.next belA)
        have Xn := Lib.hid (Xn.out.next belA)
        have Z0 := Lib.hid (Z0.out.next belA)
        have Xo := Lib.hid (Xo.out.next belA)
        have BB := Lib.hid (bel_next BB.out belA)
        have hcA : (w5.alloc (.cells #[.int .i32 oy] 21)).cell? ⟨w5.heap.size, 0, none⟩ = some (.int .i32 oy) := by simp
        have HCA := Lib.hid hcA
        clear belA hcA
        go_upto_region 11 with (at_builtin; refine wpl_app1g elI32 _ _ rfl rfl rfl rfl Xo.out HCA.out (by have := HLN.out; omega) (by have := HLN.out; omega) Z0.out ?_; intro v6 w6 own6 gr6; have Xf := Lib.hid (Xf.out.grown gr6 (Xo.out.ne_of_lt hbf3)); have Xr := Lib.hid (Xr.out.grown gr6 (Xo.out.ne_of_lt hbase)); have Xn := Lib.hid (Xn.out.grown gr6 nq_Xo_n); have SX := Lib.hid (SX.out.grown gr6 (fun g hg => Nat.le_trans hw3 (Xo.out.block_ge g hg))); have BB := Lib.hid (BB.out.grown gr6 BB.out.size (fun g hg => Nat.le_trans hw3 (Xo.out.block_ge g hg))); have Z0 := Lib.hid (Z0.out.grown gr6); have Xo := Lib.hid own6; clear own6 gr6 HCA)
        go_wp2_with (first
          | (with_reducible refine chn_load (o := ⟨some 40, _, _, _, _, _⟩) chn rfl _ rfl rfl Xn.out ?_)
          | ((with_reducible refine chn_store chn rfl (.tmp 2) (.tmp 40) rfl rfl rfl Xf.out HVN.out ?_); intro w7 hB7 onl7; have Xr := Lib.hid (Xr.out.only (by omega) onl7); have SX := Lib.hid (SX.out.only (by omega) onl7); have Xn := Lib.hid (Xn.out.only (by omega) onl7); have Xo := Lib.hid (Xo.out.only (Own.ne_of_lt Xo.out (by omega)) onl7); have Z0 := Lib.hid (Z0.out.only (by omega) onl7); have BB := Lib.hid (onl7.bel of BB.out); have Xf := Lib.hid hB7; clear onl7 hB7))
        have XO := Xo.out
        rw [← HR.out] at XO
        have XF := Xf.out
        rw [← HQ0.out, ← HQ1.out, ← HQ2.out, ← HFI.out] at XF
        go_roundw
        case rel => exact ⟨k + 1, by omega, by go_num, XF, Xr.out, XO, SX.out, BB.out, Z0.out⟩
        case measure => simp [intOf]; omega
    · obtain rfl : k = xs.length := by omega
      rw [List.take_of_length_le (Nat.le_refl _)] at hf hown
      have Xf := Lib.hid hf
      have Xr := Lib.hid hr
      have Xo := Lib.hid hown
      have BB := Lib.hid hb
      have hvn := HV.out xs.length
      rw [List.take_of_length_le (Nat.le_refl _)] at hvn
      have HVN := Lib.hid hvn.2.1
      generalize hL : runL (cP bt sh) (cM bt sh) s xs = L at *
      generalize hN0 : (finL (cM bt sh) s xs).1 = n0 at *
      generalize hN1 : (finL (cM bt sh) s xs).2.1 = n1 at *
      generalize hN2 : (finL (cM bt sh) s xs).2.2 = n2 at *
      have HL := Lib.hid hL
      have HN0 := Lib.hid hN0
      have HN1 := Lib.hid hN1
      have HN2 := Lib.hid hN2
      clear hf hr hown hb hsx hvn hL hN0 hN1 hN2
      go_upto_region 12 with fail
      obtain ⟨wd, hwd⟩ : ∃ wd : World, wd = { wr with drawn := wr.drawn + 1 } := ⟨_, rfl⟩
      have S0 : CB wd bf 26 bt n0 sh n1 n2 := by rw [hwd]; exact Xf.out
      have Xr : Hid (CB wd br 26 0 0 0 z16 z16) := by rw [hwd]; exact Xr
      have Xo : Hid (Own wd w3.heap.size 21 .i32 u7 L) := by rw [hwd]; exact Xo
      have BB : Hid (Below w.heap.size w wd) := by rw [hwd]; exact BB.out.drew
      refine h_begin (S := fun W => CB W bf 26 bt n0 sh n1 n2) (by kernel_rfl) rfl ?_
      rw [show ({ wr with drawn := wr.drawn + 1 } : World) = wd from hwd.symm]
      clear hwd
      refine h_take 0 rfl (by kernel_rfl) (by kernel_rfl) (by kernel_rfl) (fun _ _ _ h => h) (y_pure rfl (fun W hW => by go_simp <;> rfl)) S0 rfl (by go_simp <;> rfl) ?_
      refine h_take 1 rfl (by kernel_rfl) (by kernel_rfl) (by kernel_rfl) (fun _ _ _ h => h) (y_loadC chn rfl _ rfl rfl (fun W hW => hW)) S0 rfl (by go_simp <;> rfl) ?_
      refine h_take 2 rfl (by kernel_rfl) (by kernel_rfl) (by kernel_rfl) (fun _ _ _ h => h) (y_pure rfl (fun W hW => by go_simp <;> rfl)) S0 rfl (by go_simp <;> rfl) ?_
      refine h_one 3 (by kernel_rfl) rfl rfl rfl ?_
      refine wp_chn_store chn _ _ rfl rfl rfl Xr.out HVN.out (by go_simp <;> rfl) ?_
      intro w10 hB10 onl10
      have S1 := S0.only (by omega) onl10
      have Xo := Lib.hid (Xo.out.only (Xo.out.ne_of_lt hbase) onl10)
      have BB := Lib.hid (onl10.bel or BB.out)
      clear onl10
      refine ⟨S1, ?_⟩
      refine h_take 4 rfl (by kernel_rfl) (by kernel_rfl) (by kernel_rfl) (fun _ _ _ h => h) (y_pure rfl (fun W hW => by go_simp <;> rfl)) S1 rfl (by go_simp <;> rfl) ?_
      refine h_done (by kernel_rfl) ?_
      go_wp2_with fail
      exact bodyPost_ret (chn_res2 chn rfl _ _ rfl hB10) rfl ⟨u7, by rw [HN0.out, HN1.out, HN2.out]; rfl, by rw [HL.out]; exact Xo.out.rebase hw3, BB.out⟩
end Go.Proofs.Ytgnmpkembcdkcaa

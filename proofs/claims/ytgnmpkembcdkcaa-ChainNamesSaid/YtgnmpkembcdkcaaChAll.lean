/-
  What All and Undo of package chain compute. Conditions: numbers within their types; the list lies below.
-/
import Derived.Test.YtgnmpkembcdkcaaChWalks
import Derived.Test.YtgnmpkembcdkcaaChFirst
namespace Go.Proofs.Ytgnmpkembcdkcaa
open Go.RowKit
set_option linter.unusedVariables false

theorem CB.ofB {w w' : World} {b B : Nat} {C : TypeId} {bt la sh : Int} {ts ps : List Int} (h : CB w b C bt la sh ts ps) (hb : Below B w w') (hg : b < B) : CB w' b C bt la sh ts ps := ⟨(hb.block b hg).trans h.1, h.2⟩
theorem SA.ofB {w w' : World} {B B' : Nat} {k : IntKind} {A : Option Addr} {xs : List Int} (h : SA w B k A xs) (hb : Below B' w w') (hg : B ≤ B') : SA w' B k A xs := ⟨h.1.below (hb.mono hg), Nat.le_trans h.2 hb.size⟩

/-- the error of a channel and a list -/
def clE (bt sh : Int) (n : Nat) : Int := if cnC bt sh ≠ 0 then 8 else if 4000 < n then 4 else 0
set_option maxHeartbeats 1000000 in
theorem ccheckl_any (bt la sh : Int) (ts ps : List Int) (A : Option Addr) (n c : Nat) (w : World) (hF : F16 ts ps) (hm : n ≤ 9223372036854775807) :
    Calls Try.prog 34 #[.agg (cA bt la sh ts ps), .slice A n c] w fun e w' => e = .returned (.int .i64 (clE bt sh n)) ∧ Below w.heap.size w w' := by
  have BB := Lib.hid (bel_self w)
  have CK := Lib.hid (fun W => ccheck_any bt la sh ts ps W hF)
  by_cases h : cnC bt sh = 0
  · rw [h] at CK
    by_cases h2 : 4000 < n
    · have E := Lib.hid (show clE bt sh n = 4 by unfold clE; rw [if_neg (by omega), if_pos h2])
      have d1 : (4000 : Int) < (n : Int) := by omega
      clear h
      go_enter Try.func34, Try.ntmps34
      go_wp2_with (first
        | ((with_reducible refine chn_box (o := ⟨some 2, _, _, _, _, _⟩) chn rfl _ rfl rfl hF ?_); intro w1 bc hbc hBc bel1; have oc := Nat.le_trans BB.out.size hbc; have BB := Lib.hid (bel_next BB.out bel1); have Xc := Lib.hid hBc; clear bel1 hBc hbc)
        | (with_reducible refine chn_load (o := ⟨some 6, _, _, _, _, _⟩) chn rfl _ rfl rfl Xc.out ?_))
      refine (CK.out _).mono ?_
      rintro e w2 ⟨rfl, bel2⟩
      have Xc := Lib.hid (Xc.out.next bel2)
      have BB := Lib.hid (bel_next BB.out bel2)
      clear bel2
      go_wp2_with fail
      go_ret
      exact ⟨by rw [E.out]; rfl, BB.out⟩
    · have E := Lib.hid (show clE bt sh n = 0 by unfold clE; rw [if_neg (by omega), if_neg h2])
      have d1 : ¬ (4000 : Int) < (n : Int) := by omega
      clear h
      go_enter Try.func34, Try.ntmps34
      go_wp2_with (first
        | ((with_reducible refine chn_box (o := ⟨some 2, _, _, _, _, _⟩) chn rfl _ rfl rfl hF ?_); intro w1 bc hbc hBc bel1; have oc := Nat.le_trans BB.out.size hbc; have BB := Lib.hid (bel_next BB.out bel1); have Xc := Lib.hid hBc; clear bel1 hBc hbc)
        | (with_reducible refine chn_load (o := ⟨some 6, _, _, _, _, _⟩) chn rfl _ rfl rfl Xc.out ?_))
      refine (CK.out _).mono ?_
      rintro e w2 ⟨rfl, bel2⟩
      have Xc := Lib.hid (Xc.out.next bel2)
      have BB := Lib.hid (bel_next BB.out bel2)
      clear bel2
      go_wp2_with fail
      go_ret
      exact ⟨by rw [E.out]; rfl, BB.out⟩
  · rw [cnC_bad h] at CK
    have E := Lib.hid (show clE bt sh n = 8 by unfold clE; rw [if_pos h])
    clear h
    go_enter Try.func34, Try.ntmps34
    go_wp2_with (first
      | ((with_reducible refine chn_box (o := ⟨some 2, _, _, _, _, _⟩) chn rfl _ rfl rfl hF ?_); intro w1 bc hbc hBc bel1; have oc := Nat.le_trans BB.out.size hbc; have BB := Lib.hid (bel_next BB.out bel1); have Xc := Lib.hid hBc; clear bel1 hBc hbc)
      | (with_reducible refine chn_load (o := ⟨some 6, _, _, _, _, _⟩) chn rfl _ rfl rfl Xc.out ?_))
    refine (CK.out _).mono ?_
    rintro e w2 ⟨rfl, bel2⟩
    have Xc := Lib.hid (Xc.out.next bel2)
    have BB := Lib.hid (bel_next BB.out bel2)
    clear bel2
    go_wp2_with fail
    go_ret
    exact ⟨by rw [E.out]; rfl, BB.out⟩

theorem finC_v (bt sh : Int) (c : CS) (l : List Int) (h : VC c) (hl : I32 l) : VC (finL (cN bt sh) c l) := finL_keep (fun s x hs hx => cN_v bt sh s x hs hx) c l h hl
theorem finM_v (bt sh : Int) (c : CS) (l : List Int) (h : VC c) : VC (finL (cM bt sh) c l) := finL_keep (G := fun _ => True) (fun s x hs _ => cM_v bt sh s x hs) c l h (fun _ _ => trivial)

set_option maxHeartbeats 1000000 in
theorem cAll_bad (bt la sh : Int) (ts ps : List Int) (A : Option Addr) (n c : Nat) (w : World) (hF : F16 ts ps) (hm : n ≤ 9223372036854775807) (h : clE bt sh n ≠ 0) :
    Calls Try.prog 20 #[.agg (cA bt la sh ts ps), .slice A n c] w fun e w' => e = .returned (.tuple #[.slice none 0 0, .agg (cA 0 0 0 z16 z16), .int .i64 (clE bt sh n)]) ∧ Below w.heap.size w w' := by
  have BB := Lib.hid (bel_self w)
  have CK := Lib.hid (fun W => ccheckl_any bt la sh ts ps A n c W hF hm)
  have hq : (clE bt sh n != 0) = true := by simp [h]
  generalize clE bt sh n = ce at *
  clear h
  go_enter Try.func20, Try.ntmps20
  go_wp2_with (first
    | ((with_reducible refine chn_box (o := ⟨some 2, _, _, _, _, _⟩) chn rfl _ rfl rfl hF ?_); intro w1 bc hbc hBc bel1; have oc := Nat.le_trans BB.out.size hbc; have BB := Lib.hid (bel_next BB.out bel1); have Xc := Lib.hid hBc; clear bel1 hBc hbc)
    | ((with_reducible refine chn_alloc (o := ⟨some 5, _, _, _, _, _⟩) chn rfl rfl ?_); intro w2 br hbr hBr bel2; have q_c_r : bc < br := Nat.lt_of_lt_of_le Xc.out.lt hbr; have or := Nat.le_trans BB.out.size hbr; have Xc := Lib.hid (Xc.out.next bel2); have BB := Lib.hid (bel_next BB.out bel2); have Xr := Lib.hid hBr; clear bel2 hBr hbr)
    | (with_reducible refine chn_load (o := ⟨some 12, _, _, _, _, _⟩) chn rfl _ rfl rfl Xc.out ?_))
  refine (CK.out _).mono ?_
  rintro e w3 ⟨rfl, bel3⟩
  have Xc := Lib.hid (Xc.out.next bel3)
  have Xr := Lib.hid (Xr.out.next bel3)
  have BB := Lib.hid (bel_next BB.out bel3)
  clear bel3
  go_wp2_with (first
    | (with_reducible refine chn_bld0 (o := ⟨some 17, _, _, _, _, _⟩) chn rfl rfl ?_)
    | ((with_reducible refine chn_store chn rfl (.tmp 5) (.tmp 17) rfl rfl rfl Xr.out f16z ?_); intro w4 hB4 onl4; have Xc := Lib.hid (Xc.out.only (by omega) onl4); have BB := Lib.hid (onl4.bel or BB.out); have Xr := Lib.hid hB4; clear onl4 hB4))
  exact bodyPost_ret (chn_res2 chn rfl _ _ rfl Xr.out) rfl ⟨rfl, BB.out⟩
set_option maxRecDepth 100000 in
set_option maxHeartbeats 2000000 in
theorem cAll_ok (bt sh : Int) (s : CS) (A : Option Addr) (n c : Nat) (xs : List Int) (w : World) (hlen : xs.length = n) (hv : VC s) (h : cnC bt sh = 0) (hb0 : -9223372036854775808 ≤ bt) (hb1 : bt ≤ 9223372036854775807) (hn : n ≤ 4000) (hx : I32 xs) (hs : Sl w w.heap.size .i32 A xs) :
    Calls Try.prog 20 #[.agg (cA bt s.1 sh s.2.1 s.2.2), .slice A n c] w fun e w' =>
      ∃ v, e = .returned (.tuple #[v, .agg (cA bt (finL (cN bt sh) s xs).1 sh (finL (cN bt sh) s xs).2.1 (finL (cN bt sh) s xs).2.2), .int .i64 0]) ∧ Own w' w.heap.size 21 .i32 v (runL (cO bt sh) (cN bt sh) s xs) ∧ Below w.heap.size w w' := by
  subst hlen
  have BB := Lib.hid (bel_self w)
  have SX := Lib.hid (SA.of hs)
  have hF := hv.2.1
  have CK := Lib.hid (fun W => ccheckl_any bt s.1 sh s.2.1 s.2.2 A xs.length c W hF (by omega))
  rw [show clE bt sh xs.length = 0 by unfold clE; rw [if_neg (by omega), if_neg (by omega)]] at CK
  have CST := Lib.hid (fun (q : CS) x W (hq : VC q) (hx : G32 x) => show Calls Try.prog _ #[.agg (cA bt q.1 sh q.2.1 q.2.2), .int .i32 x] W fun e w' => e = .returned (.tuple #[.int .i32 ((cO bt sh) q x), .agg (cA bt ((cN bt sh) q x).1 sh ((cN bt sh) q x).2.1 ((cN bt sh) q x).2.2), .int .i64 0]) ∧ Below W.heap.size W w' from cforward_ok bt sh q x W hq h hb0 hb1 hx)
  have HV := Lib.hid (fun k => show VC (finL (cN bt sh) s (xs.take k)) from finC_v bt sh s _ hv (fun x hx' => hx x (List.mem_of_mem_take hx')))
  have HX := Lib.hid hx
  clear h hs hx
  go_enter Try.func20, Try.ntmps20
  go_wp2_with (first
    | ((with_reducible refine chn_box (o := ⟨some 2, _, _, _, _, _⟩) chn rfl _ rfl rfl hF ?_); intro w1 bc hbc hBc bel1; have q_SX_c := Nat.le_trans SX.out.2 hbc; have oc := Nat.le_trans BB.out.size hbc; have SX := Lib.hid (SX.out.next bel1); have BB := Lib.hid (bel_next BB.out bel1); have Xc := Lib.hid hBc; clear bel1 hBc hbc)
    | ((with_reducible refine chn_alloc (o := ⟨some 5, _, _, _, _, _⟩) chn rfl rfl ?_); intro w2 br hbr hBr bel2; have q_c_r : bc < br := Nat.lt_of_lt_of_le Xc.out.lt hbr; have q_SX_r := Nat.le_trans SX.out.2 hbr; have or := Nat.le_trans BB.out.size hbr; have SX := Lib.hid (SX.out.next bel2); have Xc := Lib.hid (Xc.out.next bel2); have BB := Lib.hid (bel_next BB.out bel2); have Xr := Lib.hid hBr; clear bel2 hBr hbr)
    | (with_reducible refine chn_load (o := ⟨some 12, _, _, _, _, _⟩) chn rfl _ rfl rfl Xc.out ?_))
  refine (CK.out _).mono ?_
  rintro e w3 ⟨rfl, bel3⟩
  have SX := Lib.hid (SX.out.next bel3)
  have Xc := Lib.hid (Xc.out.next bel3)
  have Xr := Lib.hid (Xr.out.next bel3)
  have BB := Lib.hid (bel_next BB.out bel3)
  clear bel3
  go_wp2_with fail
  have hbase : br < w3.heap.size := Xr.out.lt
  have hbc3 : bc < w3.heap.size := Xc.out.lt
  have hw3 := BB.out.size
  go_loopw [8, 21] (fun v i wr => ∃ k : Nat, k ≤ xs.length ∧ i = .int .i64 k ∧ CB wr bc 26 bt (finL (cN bt sh) s (xs.take k)).1 sh (finL (cN bt sh) s (xs.take k)).2.1 (finL (cN bt sh) s (xs.take k)).2.2 ∧ CB wr br 26 0 0 0 z16 z16 ∧ Own wr w3.heap.size 21 .i32 v (runL (cO bt sh) (cN bt sh) s (xs.take k)) ∧ SA wr w.heap.size .i32 A xs ∧ Below w.heap.size w wr ∧ w3.heap.size ≤ wr.heap.size) (fun _ i _ => xs.length - (intOf i).toNat)
  case atStart => exact ⟨0, by omega, rfl, Xc.out, Xr.out, Own.nil _ _ _ _, SX.out, BB.out, Nat.le_refl _⟩
  case round =>
    obtain ⟨k, hk, rfl, hf, hr, hown, hsx, hb, hsz⟩ := hrel
    by_cases hlt : k < xs.length
    · obtain ⟨bb, o, rfl, hbb, hc⟩ := hsx.1 (by omega)
      have hcell := hc k hlt
      have b1 := HX.out _ (mem_getD hlt)
      have HR := Lib.hid ((congrArg (runL (cO bt sh) (cN bt sh) s) (take_snoc xs k hlt)).trans (runL_snoc s (xs.take k) (xs.getD k 0)))
      have HFI := Lib.hid ((congrArg (finL (cN bt sh) s) (take_snoc xs k hlt)).trans (finL_snoc s (xs.take k) (xs.getD k 0)))
      have HLN := Lib.hid (show (runL (cO bt sh) (cN bt sh) s (xs.take k)).length ≤ 4000 by rw [runL_len, List.length_take]; omega)
      have hvk := HV.out k
      have CS := Lib.hid (fun W => CST.out (finL (cN bt sh) s (xs.take k)) (xs.getD k 0) W hvk b1)
      have hvn := HV.out (k + 1)
      rw [HFI.out] at hvn
      have HVN := Lib.hid hvn.2.1
      generalize xs.getD k 0 = y at *
      have SX := Lib.hid hsx
      have Xc := Lib.hid hf
      have Xr := Lib.hid hr
      have Xo := Lib.hid hown
      have BB := Lib.hid hb
      have hkz : (k : Int) < (xs.length : Int) := by omega
      generalize runL (cO bt sh) (cN bt sh) s (xs.take k) = L at *
      generalize finL (cN bt sh) s (xs.take k) = q at *
      generalize hq0 : ((cN bt sh) q y).1 = n0 at *
      generalize hq1 : ((cN bt sh) q y).2.1 = n1 at *
      generalize hq2 : ((cN bt sh) q y).2.2 = n2 at *
      have HQ0 := Lib.hid hq0
      have HQ1 := Lib.hid hq1
      have HQ2 := Lib.hid hq2
      generalize (cO bt sh) q y = oy at *
      clear hc hsx hf hr hown hb hvn hq0 hq1 hq2 hvk
      obtain ⟨w4, rfl⟩ : ∃ w4, w4 = wr := ⟨_, rfl⟩
      have Z0 := Lib.hid (show Sz w4 w3.heap.size from hsz)
      go_wp2_with (first
        | (with_reducible refine chn_load (o := ⟨some 26, _, _, _, _, _⟩) chn rfl _ rfl rfl Xc.out ?_))
      refine (CS.out _).mono ?_
      rintro e w5 ⟨rfl, bel5⟩
      have Xc := Lib.hid (Xc.out.next bel5)
      have Xr := Lib.hid (Xr.out.next bel5)
      have SX := Lib.hid (SX.out.next bel5)
      have Xo := Lib.hid (Xo.out.next bel5)
      have Z0 := Lib.hid (Z0.out.next bel5)
      have BB := Lib.hid (bel_next BB.out bel5)
      clear bel5
      go_wp2_with (first
        | ((with_reducible refine chn_store chn rfl (.tmp 2) (.tmp 30) rfl rfl rfl Xc.out HVN.out ?_); intro w6 hB6 onl6; have Xr := Lib.hid (Xr.out.only (by omega) onl6); have SX := Lib.hid (SX.out.only (by omega) onl6); have Xo := Lib.hid (Xo.out.only (Own.ne_of_lt Xo.out (by omega)) onl6); have Z0 := Lib.hid (Z0.out.only (by omega) onl6); have BB := Lib.hid (onl6.bel oc BB.out); have Xc := Lib.hid hB6; clear onl6 hB6)
        | ((at_builtin; refine app1 elI32 _ _ rfl rfl rfl rfl Xo.out (by have := HLN.out; omega) (by have := HLN.out; omega) Z0.out ?_; intro v9 w9 own9 bel9)))
      have Xc := Lib.hid (Xc.out.ofB bel9 hbc3)
      have Xr := Lib.hid (Xr.out.ofB bel9 hbase)
      have SX := Lib.hid (SX.out.ofB bel9 hw3)
      have BB := Lib.hid (BB.out.trans (bel9.mono hw3))
      have hsz9 := Nat.le_trans Z0.out bel9.size
      rw [← HR.out] at own9
      have hB := Xc.out
      rw [← HQ0.out, ← HQ1.out, ← HQ2.out, ← HFI.out] at hB
      go_roundw
      case rel => exact ⟨k + 1, by omega, by go_num, hB, Xr.out, own9, SX.out, BB.out, hsz9⟩
      case measure => simp [intOf]; omega
    · obtain rfl : k = xs.length := by omega
      rw [List.take_of_length_le (Nat.le_refl _)] at hf hown
      have Xc := Lib.hid hf
      have Xr := Lib.hid hr
      have Xo := Lib.hid hown
      have BB := Lib.hid hb
      have hvn := HV.out xs.length
      rw [List.take_of_length_le (Nat.le_refl _)] at hvn
      have HVN := Lib.hid hvn.2.1
      generalize hL : runL (cO bt sh) (cN bt sh) s xs = L at *
      generalize hN0 : (finL (cN bt sh) s xs).1 = n0 at *
      generalize hN1 : (finL (cN bt sh) s xs).2.1 = n1 at *
      generalize hN2 : (finL (cN bt sh) s xs).2.2 = n2 at *
      have HL := Lib.hid hL
      have HN0 := Lib.hid hN0
      have HN1 := Lib.hid hN1
      have HN2 := Lib.hid hN2
      clear hf hr hown hb hsx hvn hL hN0 hN1 hN2
      go_upto_region 12 with fail
      obtain ⟨wd, hwd⟩ : ∃ wd : World, wd = { wr with drawn := wr.drawn + 1 } := ⟨_, rfl⟩
      have S0 : CB wd bc 26 bt n0 sh n1 n2 := by rw [hwd]; exact Xc.out
      have Xr : Hid (CB wd br 26 0 0 0 z16 z16) := by rw [hwd]; exact Xr
      have Xo : Hid (Own wd w3.heap.size 21 .i32 u8 L) := by rw [hwd]; exact Xo
      have BB : Hid (Below w.heap.size w wd) := by rw [hwd]; exact BB.out.drew
      refine h_begin (S := fun W => CB W bc 26 bt n0 sh n1 n2) (by kernel_rfl) rfl ?_
      rw [show ({ wr with drawn := wr.drawn + 1 } : World) = wd from hwd.symm]
      clear hwd
      refine h_take 0 rfl (by kernel_rfl) (by kernel_rfl) (by kernel_rfl) (fun _ _ _ h => h) (y_pure rfl (fun W hW => by go_simp <;> rfl)) S0 rfl (by go_simp <;> rfl) ?_
      refine h_take 1 rfl (by kernel_rfl) (by kernel_rfl) (by kernel_rfl) (fun _ _ _ h => h) (y_loadC chn rfl _ rfl rfl (fun W hW => hW)) S0 rfl (by go_simp <;> rfl) ?_
      refine h_take 2 rfl (by kernel_rfl) (by kernel_rfl) (by kernel_rfl) (fun _ _ _ h => h) (y_pure rfl (fun W hW => by go_simp <;> rfl)) S0 rfl (by go_simp <;> rfl) ?_
      refine h_one 3 (by kernel_rfl) rfl rfl rfl ?_
      refine wp_chn_store chn _ _ rfl rfl rfl Xr.out HVN.out (by go_simp <;> rfl) ?_
      intro w10 hB10 onl10
      have S1 := S0.only (by omega) onl10
      have Xo := Lib.hid (Xo.out.only (Xo.out.ne_of_lt hbase) onl10)
      have BB := Lib.hid (onl10.bel or BB.out)
      clear onl10
      refine ⟨S1, ?_⟩
      refine h_take 4 rfl (by kernel_rfl) (by kernel_rfl) (by kernel_rfl) (fun _ _ _ h => h) (y_pure rfl (fun W hW => by go_simp <;> rfl)) S1 rfl (by go_simp <;> rfl) ?_
      refine h_done (by kernel_rfl) ?_
      go_wp2_with fail
      exact bodyPost_ret (chn_res2 chn rfl _ _ rfl hB10) rfl ⟨u8, by rw [HN0.out, HN1.out, HN2.out]; rfl, by rw [HL.out]; exact Xo.out.rebase hw3, BB.out⟩
set_option maxHeartbeats 1000000 in
theorem cUndo_bad (bt la sh : Int) (ts ps : List Int) (A : Option Addr) (n c : Nat) (w : World) (hF : F16 ts ps) (hm : n ≤ 9223372036854775807) (h : clE bt sh n ≠ 0) :
    Calls Try.prog 22 #[.agg (cA bt la sh ts ps), .slice A n c] w fun e w' => e = .returned (.tuple #[.slice none 0 0, .agg (cA 0 0 0 z16 z16), .int .i64 (clE bt sh n)]) ∧ Below w.heap.size w w' := by
  have BB := Lib.hid (bel_self w)
  have CK := Lib.hid (fun W => ccheckl_any bt la sh ts ps A n c W hF hm)
  have hq : (clE bt sh n != 0) = true := by simp [h]
  generalize clE bt sh n = ce at *
  clear h
  go_enter Try.func22, Try.ntmps22
  go_wp2_with (first
    | ((with_reducible refine chn_box (o := ⟨some 2, _, _, _, _, _⟩) chn rfl _ rfl rfl hF ?_); intro w1 bc hbc hBc bel1; have oc := Nat.le_trans BB.out.size hbc; have BB := Lib.hid (bel_next BB.out bel1); have Xc := Lib.hid hBc; clear bel1 hBc hbc)
    | ((with_reducible refine chn_alloc (o := ⟨some 5, _, _, _, _, _⟩) chn rfl rfl ?_); intro w2 br hbr hBr bel2; have q_c_r : bc < br := Nat.lt_of_lt_of_le Xc.out.lt hbr; have or := Nat.le_trans BB.out.size hbr; have Xc := Lib.hid (Xc.out.next bel2); have BB := Lib.hid (bel_next BB.out bel2); have Xr := Lib.hid hBr; clear bel2 hBr hbr)
    | (with_reducible refine chn_load (o := ⟨some 12, _, _, _, _, _⟩) chn rfl _ rfl rfl Xc.out ?_))
  refine (CK.out _).mono ?_
  rintro e w3 ⟨rfl, bel3⟩
  have Xc := Lib.hid (Xc.out.next bel3)
  have Xr := Lib.hid (Xr.out.next bel3)
  have BB := Lib.hid (bel_next BB.out bel3)
  clear bel3
  go_wp2_with (first
    | (with_reducible refine chn_bld0 (o := ⟨some 17, _, _, _, _, _⟩) chn rfl rfl ?_)
    | ((with_reducible refine chn_store chn rfl (.tmp 5) (.tmp 17) rfl rfl rfl Xr.out f16z ?_); intro w4 hB4 onl4; have Xc := Lib.hid (Xc.out.only (by omega) onl4); have BB := Lib.hid (onl4.bel or BB.out); have Xr := Lib.hid hB4; clear onl4 hB4))
  exact bodyPost_ret (chn_res2 chn rfl _ _ rfl Xr.out) rfl ⟨rfl, BB.out⟩
set_option maxRecDepth 100000 in
set_option maxHeartbeats 2000000 in
theorem cUndo_ok (bt sh : Int) (s : CS) (A : Option Addr) (n c : Nat) (xs : List Int) (w : World) (hlen : xs.length = n) (hv : VC s) (h : cnC bt sh = 0) (hb0 : -9223372036854775808 ≤ bt) (hb1 : bt ≤ 9223372036854775807) (hn : n ≤ 4000) (hx : I32 xs) (hs : Sl w w.heap.size .i32 A xs) :
    Calls Try.prog 22 #[.agg (cA bt s.1 sh s.2.1 s.2.2), .slice A n c] w fun e w' =>
      ∃ v, e = .returned (.tuple #[v, .agg (cA bt (finL (cM bt sh) s xs).1 sh (finL (cM bt sh) s xs).2.1 (finL (cM bt sh) s xs).2.2), .int .i64 0]) ∧ Own w' w.heap.size 21 .i32 v (runL (cP bt sh) (cM bt sh) s xs) ∧ Below w.heap.size w w' := by
  subst hlen
  have BB := Lib.hid (bel_self w)
  have SX := Lib.hid (SA.of hs)
  have hF := hv.2.1
  have CK := Lib.hid (fun W => ccheckl_any bt s.1 sh s.2.1 s.2.2 A xs.length c W hF (by omega))
  rw [show clE bt sh xs.length = 0 by unfold clE; rw [if_neg (by omega), if_neg (by omega)]] at CK
  have CST := Lib.hid (fun (q : CS) x W (hq : VC q) (hx : G32 x) => show Calls Try.prog _ #[.agg (cA bt q.1 sh q.2.1 q.2.2), .int .i32 x] W fun e w' => e = .returned (.tuple #[.int .i32 ((cP bt sh) q x), .agg (cA bt ((cM bt sh) q x).1 sh ((cM bt sh) q x).2.1 ((cM bt sh) q x).2.2), .int .i64 0]) ∧ Below W.heap.size W w' from cback_ok bt sh q x W hq h hb0 hb1 hx)
  have HV := Lib.hid (fun k => show VC (finL (cM bt sh) s (xs.take k)) from finM_v bt sh s _ hv)
  have HX := Lib.hid hx
  clear h hs hx
  go_enter Try.func22, Try.ntmps22
  go_wp2_with (first
    | ((with_reducible refine chn_box (o := ⟨some 2, _, _, _, _, _⟩) chn rfl _ rfl rfl hF ?_); intro w1 bc hbc hBc bel1; have q_SX_c := Nat.le_trans SX.out.2 hbc; have oc := Nat.le_trans BB.out.size hbc; have SX := Lib.hid (SX.out.next bel1); have BB := Lib.hid (bel_next BB.out bel1); have Xc := Lib.hid hBc; clear bel1 hBc hbc)
    | ((with_reducible refine chn_alloc (o := ⟨some 5, _, _, _, _, _⟩) chn rfl rfl ?_); intro w2 br hbr hBr bel2; have q_c_r : bc < br := Nat.lt_of_lt_of_le Xc.out.lt hbr; have q_SX_r := Nat.le_trans SX.out.2 hbr; have or := Nat.le_trans BB.out.size hbr; have SX := Lib.hid (SX.out.next bel2); have Xc := Lib.hid (Xc.out.next bel2); have BB := Lib.hid (bel_next BB.out bel2); have Xr := Lib.hid hBr; clear bel2 hBr hbr)
    | (with_reducible refine chn_load (o := ⟨some 12, _, _, _, _, _⟩) chn rfl _ rfl rfl Xc.out ?_))
  refine (CK.out _).mono ?_
  rintro e w3 ⟨rfl, bel3⟩
  have SX := Lib.hid (SX.out.next bel3)
  have Xc := Lib.hid (Xc.out.next bel3)
  have Xr := Lib.hid (Xr.out.next bel3)
  have BB := Lib.hid (bel_next BB.out bel3)
  clear bel3
  go_wp2_with fail
  have hbase : br < w3.heap.size := Xr.out.lt
  have hbc3 : bc < w3.heap.size := Xc.out.lt
  have hw3 := BB.out.size
  go_loopw [8, 21] (fun v i wr => ∃ k : Nat, k ≤ xs.length ∧ i = .int .i64 k ∧ CB wr bc 26 bt (finL (cM bt sh) s (xs.take k)).1 sh (finL (cM bt sh) s (xs.take k)).2.1 (finL (cM bt sh) s (xs.take k)).2.2 ∧ CB wr br 26 0 0 0 z16 z16 ∧ Own wr w3.heap.size 21 .i32 v (runL (cP bt sh) (cM bt sh) s (xs.take k)) ∧ SA wr w.heap.size .i32 A xs ∧ Below w.heap.size w wr ∧ w3.heap.size ≤ wr.heap.size) (fun _ i _ => xs.length - (intOf i).toNat)
  case atStart => exact ⟨0, by omega, rfl, Xc.out, Xr.out, Own.nil _ _ _ _, SX.out, BB.out, Nat.le_refl _⟩
  case round =>
    obtain ⟨k, hk, rfl, hf, hr, hown, hsx, hb, hsz⟩ := hrel
    by_cases hlt : k < xs.length
    · obtain ⟨bb, o, rfl, hbb, hc⟩ := hsx.1 (by omega)
      have hcell := hc k hlt
      have b1 := HX.out _ (mem_getD hlt)
      have HR := Lib.hid ((congrArg (runL (cP bt sh) (cM bt sh) s) (take_snoc xs k hlt)).trans (runL_snoc s (xs.take k) (xs.getD k 0)))
      have HFI := Lib.hid ((congrArg (finL (cM bt sh) s) (take_snoc xs k hlt)).trans (finL_snoc s (xs.take k) (xs.getD k 0)))
      have HLN := Lib.hid (show (runL (cP bt sh) (cM bt sh) s (xs.take k)).length ≤ 4000 by rw [runL_len, List.length_take]; omega)
      have hvk := HV.out k
      have CS := Lib.hid (fun W => CST.out (finL (cM bt sh) s (xs.take k)) (xs.getD k 0) W hvk b1)
      have hvn := HV.out (k + 1)
      rw [HFI.out] at hvn
      have HVN := Lib.hid hvn.2.1
      generalize xs.getD k 0 = y at *
      have SX := Lib.hid hsx
      have Xc := Lib.hid hf
      have Xr := Lib.hid hr
      have Xo := Lib.hid hown
      have BB := Lib.hid hb
      have hkz : (k : Int) < (xs.length : Int) := by omega
      generalize runL (cP bt sh) (cM bt sh) s (xs.take k) = L at *
      generalize finL (cM bt sh) s (xs.take k) = q at *
      generalize hq0 : ((cM bt sh) q y).1 = n0 at *
      generalize hq1 : ((cM bt sh) q y).2.1 = n1 at *
      generalize hq2 : ((cM bt sh) q y).2.2 = n2 at *
      have HQ0 := Lib.hid hq0
      have HQ1 := Lib.hid hq1
      have HQ2 := Lib.hid hq2
      generalize (cP bt sh) q y = oy at *
      clear hc hsx hf hr hown hb hvn hq0 hq1 hq2 hvk
      obtain ⟨w4, rfl⟩ : ∃ w4, w4 = wr := ⟨_, rfl⟩
      have Z0 := Lib.hid (show Sz w4 w3.heap.size from hsz)
      go_wp2_with (first
        | (with_reducible refine chn_load (o := ⟨some 26, _, _, _, _, _⟩) chn rfl _ rfl rfl Xc.out ?_))
      refine (CS.out _).mono ?_
      rintro e w5 ⟨rfl, bel5⟩
      have Xc := Lib.hid (Xc.out.next bel5)
      have Xr := Lib.hid (Xr.out.next bel5)
      have SX := Lib.hid (SX.out.next bel5)
      have Xo := Lib.hid (Xo.out.next bel5)
      have Z0 := Lib.hid (Z0.out.next bel5)
      have BB := Lib.hid (bel_next BB.out bel5)
      clear bel5
      go_wp2_with (first
        | ((with_reducible refine chn_store chn rfl (.tmp 2) (.tmp 30) rfl rfl rfl Xc.out HVN.out ?_); intro w6 hB6 onl6; have Xr := Lib.hid (Xr.out.only (by omega) onl6); have SX := Lib.hid (SX.out.only (by omega) onl6); have Xo := Lib.hid (Xo.out.only (Own.ne_of_lt Xo.out (by omega)) onl6); have Z0 := Lib.hid (Z0.out.only (by omega) onl6); have BB := Lib.hid (onl6.bel oc BB.out); have Xc := Lib.hid hB6; clear onl6 hB6)
        | ((at_builtin; refine app1 elI32 _ _ rfl rfl rfl rfl Xo.out (by have := HLN.out; omega) (by have := HLN.out; omega) Z0.out ?_; intro v9 w9 own9 bel9)))
      have Xc := Lib.hid (Xc.out.ofB bel9 hbc3)
      have Xr := Lib.hid (Xr.out.ofB bel9 hbase)
      have SX := Lib.hid (SX.out.ofB bel9 hw3)
      have BB := Lib.hid (BB.out.trans (bel9.mono hw3))
      have hsz9 := Nat.le_trans Z0.out bel9.size
      rw [← HR.out] at own9
      have hB := Xc.out
      rw [← HQ0.out, ← HQ1.out, ← HQ2.out, ← HFI.out] at hB
      go_roundw
      case rel => exact ⟨k + 1, by omega, by go_num, hB, Xr.out, own9, SX.out, BB.out, hsz9⟩
      case measure => simp [intOf]; omega
    · obtain rfl : k = xs.length := by omega
      rw [List.take_of_length_le (Nat.le_refl _)] at hf hown
      have Xc := Lib.hid hf
      have Xr := Lib.hid hr
      have Xo := Lib.hid hown
      have BB := Lib.hid hb
      have hvn := HV.out xs.length
      rw [List.take_of_length_le (Nat.le_refl _)] at hvn
      have HVN := Lib.hid hvn.2.1
      generalize hL : runL (cP bt sh) (cM bt sh) s xs = L at *
      generalize hN0 : (finL (cM bt sh) s xs).1 = n0 at *
      generalize hN1 : (finL (cM bt sh) s xs).2.1 = n1 at *
      generalize hN2 : (finL (cM bt sh) s xs).2.2 = n2 at *
      have HL := Lib.hid hL
      have HN0 := Lib.hid hN0
      have HN1 := Lib.hid hN1
      have HN2 := Lib.hid hN2
      clear hf hr hown hb hsx hvn hL hN0 hN1 hN2
      go_upto_region 12 with fail
      obtain ⟨wd, hwd⟩ : ∃ wd : World, wd = { wr with drawn := wr.drawn + 1 } := ⟨_, rfl⟩
      have S0 : CB wd bc 26 bt n0 sh n1 n2 := by rw [hwd]; exact Xc.out
      have Xr : Hid (CB wd br 26 0 0 0 z16 z16) := by rw [hwd]; exact Xr
      have Xo : Hid (Own wd w3.heap.size 21 .i32 u8 L) := by rw [hwd]; exact Xo
      have BB : Hid (Below w.heap.size w wd) := by rw [hwd]; exact BB.out.drew
      refine h_begin (S := fun W => CB W bc 26 bt n0 sh n1 n2) (by kernel_rfl) rfl ?_
      rw [show ({ wr with drawn := wr.drawn + 1 } : World) = wd from hwd.symm]
      clear hwd
      refine h_take 0 rfl (by kernel_rfl) (by kernel_rfl) (by kernel_rfl) (fun _ _ _ h => h) (y_pure rfl (fun W hW => by go_simp <;> rfl)) S0 rfl (by go_simp <;> rfl) ?_
      refine h_take 1 rfl (by kernel_rfl) (by kernel_rfl) (by kernel_rfl) (fun _ _ _ h => h) (y_loadC chn rfl _ rfl rfl (fun W hW => hW)) S0 rfl (by go_simp <;> rfl) ?_
      refine h_take 2 rfl (by kernel_rfl) (by kernel_rfl) (by kernel_rfl) (fun _ _ _ h => h) (y_pure rfl (fun W hW => by go_simp <;> rfl)) S0 rfl (by go_simp <;> rfl) ?_
      refine h_one 3 (by kernel_rfl) rfl rfl rfl ?_
      refine wp_chn_store chn _ _ rfl rfl rfl Xr.out HVN.out (by go_simp <;> rfl) ?_
      intro w10 hB10 onl10
      have S1 := S0.only (by omega) onl10
      have Xo := Lib.hid (Xo.out.only (Xo.out.ne_of_lt hbase) onl10)
      have BB := Lib.hid (onl10.bel or BB.out)
      clear onl10
      refine ⟨S1, ?_⟩
      refine h_take 4 rfl (by kernel_rfl) (by kernel_rfl) (by kernel_rfl) (fun _ _ _ h => h) (y_pure rfl (fun W hW => by go_simp <;> rfl)) S1 rfl (by go_simp <;> rfl) ?_
      refine h_done (by kernel_rfl) ?_
      go_wp2_with fail
      exact bodyPost_ret (chn_res2 chn rfl _ _ rfl hB10) rfl ⟨u8, by rw [HN0.out, HN1.out, HN2.out]; rfl, by rw [HL.out]; exact Xo.out.rebase hw3, BB.out⟩
end Go.Proofs.Ytgnmpkembcdkcaa

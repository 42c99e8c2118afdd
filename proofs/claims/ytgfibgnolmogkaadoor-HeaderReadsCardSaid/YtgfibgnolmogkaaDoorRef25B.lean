/-
  What Check, Frames, Bytes and Write of the reference of layer 25 compute. Conditions: numbers within their types.
-/
import Derived.Test.YtgfibgnolmogkaaDoorRef25M
import Derived.Test.YtgfibgnolmogkaaDoorRef25S
import Derived.Test.YtgfibgnolmogkaaDoorRef03A
namespace Go.Proofs.YtgfibgnolmogkaaDoor
open Go.RowKit
set_option linter.unusedVariables false

set_option maxRecDepth 100000 in
set_option maxHeartbeats 1000000 in
theorem re25Check (f c b r n : Int) (w : World) (hn1 : n ≤ 9223372036854775807) :
    Calls Tryd.prog 23 #[.agg #[.int .i64 f, .int .i64 c, .int .i64 b, .int .i64 r, .int .i64 n]] w fun e w' => e = .returned (.int .i64 (hdE f c b r n)) ∧ Below w.heap.size w w' := by
  have SH := Lib.hid (fun W => re25shaped f c b r n W)
  have FT := Lib.hid (fun W (h : hdS f c b r n = true) => re25many f c b r n W (hdS_ok h).2.2.1 (hdS_ok h).2.2.2.1 (hdS_ok h).2.2.2.2.1 (hdS_ok h).2.2.2.2.2.1 (hdS_ok h).2.2.2.2.2.2 hn1)
  go_enter Tryd.func23, Tryd.ntmps23
  go_wp2_with fail
  refine (SH.out _).mono ?_
  rintro e w1 ⟨rfl, bel1⟩
  have BB := Lib.hid (bel_next (bel_up (bel_self w) _) bel1)
  obtain ⟨c0, c1, c2, c3, c4⟩ := cells5 bel1
  rcases hdE_cases f c b r n with ⟨h1, h2, h3⟩ | ⟨h1, h2, h3⟩ | ⟨h1, h2⟩
  · have F := Lib.hid (fun W => FT.out W h2)
    rw [h3] at F
    have E := Lib.hid h1
    simp only [h2]
    clear bel1 h1 h3 SH FT h2
    go_wp2_with fail
    refine (F.out _).mono ?_
    rintro e w2 ⟨rfl, bel2⟩
    have BB := Lib.hid (bel_next BB.out bel2)
    clear bel2
    go_wp2_with fail
    go_ret
    exact ⟨by rw [E.out]; rfl, BB.out⟩
  · have F := Lib.hid (fun W => FT.out W h2)
    rw [h3] at F
    have E := Lib.hid h1
    simp only [h2]
    clear bel1 h1 h3 SH FT h2
    go_wp2_with fail
    refine (F.out _).mono ?_
    rintro e w2 ⟨rfl, bel2⟩
    have BB := Lib.hid (bel_next BB.out bel2)
    clear bel2
    go_wp2_with fail
    go_ret
    exact ⟨by rw [E.out]; rfl, BB.out⟩
  · have E := Lib.hid h1
    simp only [h2]
    clear bel1 h1 SH FT h2
    go_wp2_with fail
    go_ret
    exact ⟨by rw [E.out]; rfl, BB.out⟩

set_option maxRecDepth 100000 in
set_option maxHeartbeats 1000000 in
theorem re25Frames (f c b r n : Int) (w : World) (hn1 : n ≤ 9223372036854775807) :
    Calls Tryd.prog 22 #[.agg #[.int .i64 f, .int .i64 c, .int .i64 b, .int .i64 r, .int .i64 n]] w fun e w' =>
      ∃ v, e = .returned (.tuple #[v, .int .i64 (hdE f c b r n)]) ∧ Own w' w.heap.size 3 .i64 v (hdL f c b r n) ∧ Below w.heap.size w w' := by
  have CK := Lib.hid (fun W => re25Check f c b r n W hn1)
  by_cases h0 : hdE f c b r n = 0
  · obtain ⟨_, _, _, _, h5, h6, h7, h8, h9⟩ := hdE_ok h0
    have AL := Lib.hid (fun W => re25Split r n W (by omega) (by omega) (by omega) (by omega))
    have R := Lib.hid (show hdL f c b r n = alL (lgV r) n by unfold hdL; rw [if_pos h0])
    rw [h0] at CK ⊢
    clear h0 h9
    go_enter Tryd.func22, Tryd.ntmps22
    go_wp2_with fail
    refine (CK.out _).mono ?_
    rintro e w1 ⟨rfl, bel1⟩
    obtain ⟨c0, c1, c2, c3, c4⟩ := cells5 bel1
    have BB := Lib.hid (bel_next (bel_up (bel_self w) _) bel1)
    clear bel1
    go_wp2_with fail
    refine (AL.out _).mono ?_
    rintro e w2 ⟨v, rfl, own2, bel2⟩
    have O := Lib.hid (own2.rebase (base' := w.heap.size) BB.out.size)
    have BB := Lib.hid (bel_next BB.out bel2)
    clear own2 bel2 c0 c1 c2 c3 c4
    go_wp2_with fail
    go_ret2
    exact ⟨_, rfl, by rw [R.out]; exact O.out, BB.out⟩
  · have R := Lib.hid (hdL_bad h0)
    have e1 : (hdE f c b r n != 0) = true := by simp; exact h0
    generalize hdE f c b r n = E at *
    clear h0
    go_enter Tryd.func22, Tryd.ntmps22
    go_wp2_with fail
    refine (CK.out _).mono ?_
    rintro e w1 ⟨rfl, bel1⟩
    have BB := Lib.hid (bel_next (bel_up (bel_self w) _) bel1)
    clear bel1
    go_wp2_with fail
    go_ret2
    exact ⟨_, rfl, by rw [R.out]; exact own_nil5 _ _ _ _, BB.out⟩

/-- Block g holds a header's five numbers. -/
def HdC (w : World) (g : Nat) (f c b r n : Int) : Prop := g < w.heap.size ∧ w.cell? ⟨g, 0, none⟩ = some (.int .i64 f) ∧ w.cell? ⟨g, 1, none⟩ = some (.int .i64 c) ∧ w.cell? ⟨g, 2, none⟩ = some (.int .i64 b) ∧ w.cell? ⟨g, 3, none⟩ = some (.int .i64 r) ∧ w.cell? ⟨g, 4, none⟩ = some (.int .i64 n)
theorem HdC.ofBelow {w w' : World} {g B : Nat} {f c b r n : Int} (h : HdC w g f c b r n) (hb : Below B w w') (hB : g < B) : HdC w' g f c b r n := by
  obtain ⟨h0, h1, h2, h3, h4, h5⟩ := h
  have k := fun i => hb.cell (p := ⟨g, i, none⟩) hB
  exact ⟨Nat.lt_of_lt_of_le h0 hb.size, (k 0).trans h1, (k 1).trans h2, (k 2).trans h3, (k 3).trans h4, (k 4).trans h5⟩
theorem HdC.next {w w' : World} {g : Nat} {f c b r n : Int} (h : HdC w g f c b r n) (hb : Below w.heap.size w w') : HdC w' g f c b r n := h.ofBelow hb h.1

set_option maxRecDepth 100000 in
set_option maxHeartbeats 2000000 in
theorem re25Bytes (f c b r n : Int) (w : World) (g1 : 0 ≤ f ∧ f ≤ 65535) (g2 : 0 ≤ c ∧ c ≤ 65535) (g3 : 0 ≤ b ∧ b ≤ 65535) (g4 : 0 ≤ r ∧ r ≤ 4294967295) (g5 : 0 ≤ n ∧ n ≤ 4294967295) :
    Calls Tryd.prog 41 #[.agg #[.int .i64 f, .int .i64 c, .int .i64 b, .int .i64 r, .int .i64 n]] w fun e w' =>
      ∃ v, e = .returned v ∧ Own w' w.heap.size 5 .u8 v (hdW f c b r n) ∧ Below w.heap.size w w' := by
  have cv2 := Lib.run_convert_bytes_const (P := Tryd.prog) (w.alloc (.cells #[.int .i64 f, .int .i64 c, .int .i64 b, .int .i64 r, .int .i64 n] 23)) 24 5 #[.int .u8 84, .int .u8 84, .int .u8 65, .int .u8 49] 4 4 Tryd.underlying24 Tryd.underlying5
  rw [show (#[Value.int .u8 84, .int .u8 84, .int .u8 65, .int .u8 49] : Array Value).size = 4 from rfl] at cv2
  have BB := Lib.hid (bel_up (bel_up (bel_self w) (.cells #[.int .i64 f, .int .i64 c, .int .i64 b, .int .i64 r, .int .i64 n] 23)) (.cells #[.int .u8 84, .int .u8 84, .int .u8 65, .int .u8 49] 5 (4, 5)))
  have SL := Lib.hid (Sl.marked (w.alloc (.cells #[.int .i64 f, .int .i64 c, .int .i64 b, .int .i64 r, .int .i64 n] 23)) .u8 5 [84, 84, 65, 49] (cs := #[.int .u8 84, .int .u8 84, .int .u8 65, .int .u8 49]) (fr := (4, 5)) rfl)
  have CS := Lib.hid (show HdC ((w.alloc (.cells #[.int .i64 f, .int .i64 c, .int .i64 b, .int .i64 r, .int .i64 n] 23)).alloc (.cells #[.int .u8 84, .int .u8 84, .int .u8 65, .int .u8 49] 5 (4, 5))) w.heap.size f c b r n from
    ⟨by simp; omega, cells5 (W := w) (T := 23) (f := f) (c := c) (b := b) (r := r) (n := n) (bel_up (bel_self _) (.cells #[.int .u8 84, .int .u8 84, .int .u8 65, .int .u8 49] 5 (4, 5)))⟩)
  rw [size_alloc w (.cells #[.int .i64 f, .int .i64 c, .int .i64 b, .int .i64 r, .int .i64 n] 23)] at SL cv2
  go_enter Tryd.func41, Tryd.ntmps41
  go_wp2_with fail
  clear cv2
  generalize (w.alloc (.cells #[.int .i64 f, .int .i64 c, .int .i64 b, .int .i64 r, .int .i64 n] 23)).alloc (.cells #[.int .u8 84, .int .u8 84, .int .u8 65, .int .u8 49] 5 (4, 5)) = wb at *
  refine (reWritten2 f _ (by omega) (by omega)).mono ?_
  rintro e wa0 ⟨va, rfl, own, bel⟩
  obtain ⟨A10, c10, rfl, _, _, sl⟩ := own.sln (n := 2) rfl
  have S0 := Lib.hid sl
  have CS := Lib.hid (CS.out.next bel)
  have BB := Lib.hid (bel_next BB.out bel)
  have SL := Lib.hid (SL.out.next bel)
  clear own bel sl
  go_wp2_with ((at_builtin; refine appFull (xs := [84, 84, 65, 49]) (ys := le2 f) (n := 4) (m := 2) leElU8 _ _ rfl rfl rfl rfl (by decide) rfl rfl (by decide) SL.out S0.out (by decide) (by decide) ?_; intro v1 wq1 ho hb; have O1 := Lib.hid (ho.rebase (base' := w.heap.size + 1) CS.out.1); have CS := Lib.hid (CS.out.next hb); have BB := Lib.hid (bel_next BB.out hb); obtain ⟨k9, k0, k1, k2, k3, k4⟩ := CS.out; clear ho hb k9))
  clear SL
  refine (reWritten2 c _ (by omega) (by omega)).mono ?_
  rintro e wa1 ⟨va, rfl, own, bel⟩
  obtain ⟨A11, c11, rfl, _, _, sl⟩ := own.sln (n := 2) rfl
  have S1 := Lib.hid sl
  have CS := Lib.hid (CS.out.next bel)
  have BB := Lib.hid (bel_next BB.out bel)
  have Oa := Lib.hid (O1.out.nx bel)
  clear own bel sl k0 k1 k2 k3 k4
  go_wp2_with ((at_builtin; refine appNh (xs := [84, 84, 65, 49] ++ le2 f) (ys := le2 c) leElU8 _ _ rfl rfl rfl rfl rfl Oa.out S1.out (Nat.le_of_ble_eq_true rfl) (Nat.le_of_ble_eq_true rfl) CS.out.1 ?_; intro v2 wq2 ho hb; have O2 := Lib.hid ho; have CS := Lib.hid (CS.out.ofBelow hb (Nat.lt_succ_self _)); have BB := Lib.hid (BB.out.trans (hb.mono (Nat.le_succ _))); obtain ⟨k9, k0, k1, k2, k3, k4⟩ := CS.out; clear ho hb k9))
  refine (reWritten2 b _ (by omega) (by omega)).mono ?_
  rintro e wa2 ⟨va, rfl, own, bel⟩
  obtain ⟨A12, c12, rfl, _, _, sl⟩ := own.sln (n := 2) rfl
  have S2 := Lib.hid sl
  have CS := Lib.hid (CS.out.next bel)
  have BB := Lib.hid (bel_next BB.out bel)
  have Oa := Lib.hid (O2.out.nx bel)
  clear own bel sl k0 k1 k2 k3 k4
  go_wp2_with ((at_builtin; refine appNh (xs := [84, 84, 65, 49] ++ le2 f ++ le2 c) (ys := le2 b) leElU8 _ _ rfl rfl rfl rfl rfl Oa.out S2.out (Nat.le_of_ble_eq_true rfl) (Nat.le_of_ble_eq_true rfl) CS.out.1 ?_; intro v3 wq3 ho hb; have O3 := Lib.hid ho; have CS := Lib.hid (CS.out.ofBelow hb (Nat.lt_succ_self _)); have BB := Lib.hid (BB.out.trans (hb.mono (Nat.le_succ _))); obtain ⟨k9, k0, k1, k2, k3, k4⟩ := CS.out; clear ho hb k9))
  refine (reWritten4 r _ (by omega) (by omega)).mono ?_
  rintro e wa3 ⟨va, rfl, own, bel⟩
  obtain ⟨A13, c13, rfl, _, _, sl⟩ := own.sln (n := 4) rfl
  have S3 := Lib.hid sl
  have CS := Lib.hid (CS.out.next bel)
  have BB := Lib.hid (bel_next BB.out bel)
  have Oa := Lib.hid (O3.out.nx bel)
  clear own bel sl k0 k1 k2 k3 k4
  go_wp2_with ((at_builtin; refine appNh (xs := [84, 84, 65, 49] ++ le2 f ++ le2 c ++ le2 b) (ys := le4 r) leElU8 _ _ rfl rfl rfl rfl rfl Oa.out S3.out (Nat.le_of_ble_eq_true rfl) (Nat.le_of_ble_eq_true rfl) CS.out.1 ?_; intro v4 wq4 ho hb; have O4 := Lib.hid ho; have CS := Lib.hid (CS.out.ofBelow hb (Nat.lt_succ_self _)); have BB := Lib.hid (BB.out.trans (hb.mono (Nat.le_succ _))); obtain ⟨k9, k0, k1, k2, k3, k4⟩ := CS.out; clear ho hb k9))
  refine (reWritten4 n _ (by omega) (by omega)).mono ?_
  rintro e wa4 ⟨va, rfl, own, bel⟩
  obtain ⟨A14, c14, rfl, _, _, sl⟩ := own.sln (n := 4) rfl
  have S4 := Lib.hid sl
  have CS := Lib.hid (CS.out.next bel)
  have BB := Lib.hid (bel_next BB.out bel)
  have Oa := Lib.hid (O4.out.nx bel)
  clear own bel sl k0 k1 k2 k3 k4
  go_wp2_with ((at_builtin; refine appNh (xs := [84, 84, 65, 49] ++ le2 f ++ le2 c ++ le2 b ++ le4 r) (ys := le4 n) leElU8 _ _ rfl rfl rfl rfl rfl Oa.out S4.out (Nat.le_of_ble_eq_true rfl) (Nat.le_of_ble_eq_true rfl) CS.out.1 ?_; intro v5 wq5 ho hb; have O5 := Lib.hid ho; have CS := Lib.hid (CS.out.ofBelow hb (Nat.lt_succ_self _)); have BB := Lib.hid (BB.out.trans (hb.mono (Nat.le_succ _))); obtain ⟨k9, k0, k1, k2, k3, k4⟩ := CS.out; clear ho hb k9))
  obtain ⟨Av, cv5, rfl, _, _, slv⟩ := O5.out.sln (n := 18) rfl
  have SV := Lib.hid slv
  have HBB := Lib.hid (show [84, 84, 65, 49] ++ le2 f ++ le2 c ++ le2 b ++ le4 r ++ le4 n = hdB f c b r n from rfl)
  rw [HBB.out] at O5 SV
  have UB := Lib.hid (hdB_u8 f c b r n)
  have LB := Lib.hid (hdB_len f c b r n)
  have WW := Lib.hid (show hdW f c b r n = hdB f c b r n ++ le4 ((sumL (hdB f c b r n) : Nat) : Int) from rfl)
  have z := sumL_lt (hdB f c b r n)
  have SM := Lib.hid (fun W hW => Of_any Av 18 cv5 (hdB f c b r n) W LB.out (by decide) UB.out hW)
  clear slv HBB k0 k1 k2 k3 k4
  generalize sumL (hdB f c b r n) = t at *
  generalize hdB f c b r n = bs at *
  go_wp2_with fail
  refine (SM.out _ SV.out).mono ?_
  rintro e w8 ⟨rfl, rfl⟩
  clear SM SV
  go_wp2_with fail
  refine (reWritten4 (t : Int) _ (by omega) (by omega)).mono ?_
  rintro e w9 ⟨va, rfl, own, bel⟩
  obtain ⟨A9, c9, rfl, _, _, sl⟩ := own.sln (n := 4) rfl
  have S9 := Lib.hid sl
  have O9 := Lib.hid (O5.out.nx bel)
  have CS := Lib.hid (CS.out.next bel)
  have BB := Lib.hid (bel_next BB.out bel)
  clear own bel sl O5
  go_wp2_with ((at_builtin; refine appNh (v := .slice Av 18 cv5) (xs := bs) (ys := le4 t) (n := 4) leElU8 _ _ rfl rfl rfl rfl rfl O9.out S9.out (by rw [LB.out]; decide) (by rw [LB.out]; decide) CS.out.1 ?_; intro v10 w10 ho hb; have O10 := Lib.hid (ho.rebase (base' := w.heap.size) (Nat.le_succ _)); have BB := Lib.hid (BB.out.trans (hb.mono (Nat.le_succ _))); clear ho hb))
  go_ret
  exact ⟨_, rfl, by rw [WW.out]; exact O10.out, BB.out⟩

set_option maxRecDepth 100000 in
set_option maxHeartbeats 1000000 in
theorem re25Write (f c b r n : Int) (w : World) (hn1 : n ≤ 9223372036854775807) :
    Calls Tryd.prog 21 #[.agg #[.int .i64 f, .int .i64 c, .int .i64 b, .int .i64 r, .int .i64 n]] w fun e w' =>
      ∃ v, e = .returned (.tuple #[v, .int .i64 (hdE f c b r n)]) ∧ Own w' w.heap.size 5 .u8 v (hdWR f c b r n) ∧ Below w.heap.size w w' := by
  have CK := Lib.hid (fun W => re25Check f c b r n W hn1)
  by_cases h0 : hdE f c b r n = 0
  · obtain ⟨h1, h2, h3, h4, h5, h6, h7, h8, h9⟩ := hdE_ok h0
    have AL := Lib.hid (fun W => re25Bytes f c b r n W (by omega) (by omega) (by omega) (by omega) (by omega))
    have R := Lib.hid (hdWR_ok h0)
    rw [h0] at CK ⊢
    clear h0 h9
    go_enter Tryd.func21, Tryd.ntmps21
    go_wp2_with fail
    refine (CK.out _).mono ?_
    rintro e w1 ⟨rfl, bel1⟩
    obtain ⟨c0, c1, c2, c3, c4⟩ := cells5 bel1
    have BB := Lib.hid (bel_next (bel_up (bel_self w) _) bel1)
    clear bel1
    go_wp2_with fail
    refine (AL.out _).mono ?_
    rintro e w2 ⟨v, rfl, own2, bel2⟩
    have O := Lib.hid (own2.rebase (base' := w.heap.size) BB.out.size)
    have BB := Lib.hid (bel_next BB.out bel2)
    clear own2 bel2 c0 c1 c2 c3 c4
    go_wp2_with fail
    go_ret2
    exact ⟨_, rfl, by rw [R.out]; exact O.out, BB.out⟩
  · have R := Lib.hid (hdWR_bad h0)
    have e1 : (hdE f c b r n != 0) = true := by simp; exact h0
    generalize hdE f c b r n = E at *
    clear h0
    go_enter Tryd.func21, Tryd.ntmps21
    go_wp2_with fail
    refine (CK.out _).mono ?_
    rintro e w1 ⟨rfl, bel1⟩
    have BB := Lib.hid (bel_next (bel_up (bel_self w) _) bel1)
    clear bel1
    go_wp2_with fail
    go_ret2
    exact ⟨_, rfl, by rw [R.out]; exact own_nil5 _ _ _ _, BB.out⟩
end Go.Proofs.YtgfibgnolmogkaaDoor

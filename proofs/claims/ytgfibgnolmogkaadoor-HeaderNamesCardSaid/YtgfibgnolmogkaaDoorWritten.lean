/-
  What written of the law's package computes. Conditions: numbers that fit their bytes.
-/
import Derived.Test.YtgfibgnolmogkaaDoorLaw25F
namespace Go.Proofs.YtgfibgnolmogkaaDoor
open Go.RowKit
set_option linter.unusedVariables false

theorem BlkH.ofB {w w' : World} {g B : Nat} {T : TypeId} {cs : Array Value} (h : BlkH w g T cs) (hb : Below B w w') (hg : g < B) : BlkH w' g T cs := (hb.block g hg).trans h

set_option maxRecDepth 100000 in
set_option maxHeartbeats 4000000 in
theorem hdWritten (f c b r n : Int) (w : World) (g1 : 0 ≤ f ∧ f ≤ 65535) (g2 : 0 ≤ c ∧ c ≤ 65535) (g3 : 0 ≤ b ∧ b ≤ 65535) (g4 : 0 ≤ r ∧ r ≤ 4294967295) (g5 : 0 ≤ n ∧ n ≤ 4294967295) :
    Calls Tryd.prog 12 #[.int .u64 f, .int .u64 c, .int .u64 b, .int .u64 r, .int .u64 n] w fun e w' =>
      ∃ v, e = .returned v ∧ Own w' w.heap.size 5 .u8 v (hdW f c b r n) ∧ Below w.heap.size w w' := by
  have cv : ∀ W : World, (convert 24 24 (.slice (some ⟨W.heap.size, 0, none⟩) 4 4)).run Tryd.prog (W.alloc (.cells #[.int .u8 84, .int .u8 84, .int .u8 65, .int .u8 49] 5)) = .ok (.slice (some ⟨W.heap.size, 0, none⟩) 4 4) (W.alloc (.cells #[.int .u8 84, .int .u8 84, .int .u8 65, .int .u8 49] 5 (4, 5))) := fun W => Lib.run_convert_bytes_const (P := Tryd.prog) W 24 5 #[.int .u8 84, .int .u8 84, .int .u8 65, .int .u8 49] 4 4 Tryd.underlying24 Tryd.underlying5
  have SL := Lib.hid ((Sl.marked w .u8 5 [84, 84, 65, 49] (cs := #[.int .u8 84, .int .u8 84, .int .u8 65, .int .u8 49]) (fr := (4, 5)) rfl).up (.cells #[.int .u64 f, .int .u64 c, .int .u64 b, .int .u64 r, .int .u64 n] 65))
  have BB := Lib.hid (bel_up (bel_up (bel_self w) (.cells #[.int .u8 84, .int .u8 84, .int .u8 65, .int .u8 49] 5 (4, 5))) (.cells #[.int .u64 f, .int .u64 c, .int .u64 b, .int .u64 r, .int .u64 n] 65))
  have BK := BlkH.new (w.alloc (.cells #[.int .u8 84, .int .u8 84, .int .u8 65, .int .u8 49] 5 (4, 5))) 65 #[.int .u64 f, .int .u64 c, .int .u64 b, .int .u64 r, .int .u64 n]
  rw [size_alloc w] at BK
  have BK := Lib.hid BK
  go_enter Tryd.func12, Tryd.ntmps12
  go_wp2_with fail
  generalize (w.alloc (.cells #[.int .u8 84, .int .u8 84, .int .u8 65, .int .u8 49] 5 (4, 5))).alloc (.cells #[.int .u64 f, .int .u64 c, .int .u64 b, .int .u64 r, .int .u64 n] 65) = wb at *
  refine wp_loop_rounds 6 ?_
  have d0 := BK.out.cell 0
  rw [rounds_succ]
  go_wp2_with fail
  refine (leBytes2 f _ (by omega) (by omega)).mono ?_
  rintro e wa0 ⟨va, rfl, own, bel⟩
  obtain ⟨A10, c10, rfl, _, _, sl⟩ := own.sln (n := 2) rfl
  have S0 := Lib.hid sl
  have BK := Lib.hid (BK.out.next bel)
  have SL := Lib.hid (SL.out.next bel)
  have BB := Lib.hid (bel_next BB.out bel)
  have hg := BK.out.lt
  have hgB := BB.out.size
  clear own bel sl d0
  go_wp2_with ((at_builtin; refine appFull (xs := [84, 84, 65, 49]) (ys := le2 f) (n := 4) (m := 2) leElU8 _ _ rfl rfl rfl rfl (by decide) rfl rfl (by decide) SL.out S0.out (by decide) (by decide) ?_; intro v1 wq1 ho hb; have O1 := Lib.hid ho; have BK := Lib.hid (BK.out.next hb); have BB := Lib.hid (bel_next BB.out hb); have Bq := Lib.hid hb.size; clear ho hb))
  clear SL S0
  have d1 := BK.out.cell 1
  rw [rounds_succ]
  go_wp2_with fail
  refine (leBytes2 c _ (by omega) (by omega)).mono ?_
  rintro e wa1 ⟨va, rfl, own, bel⟩
  obtain ⟨A11, c11, rfl, _, _, sl⟩ := own.sln (n := 2) rfl
  have S1 := Lib.hid sl
  have BK := Lib.hid (BK.out.next bel)
  have O := Lib.hid (O1.out.nx bel)
  have Bq := Lib.hid (Nat.le_trans Bq.out bel.size)
  have BB := Lib.hid (bel_next BB.out bel)
  clear own bel sl d1 O1
  go_wp2_with ((at_builtin; refine appNh (xs := [84, 84, 65, 49] ++ le2 f) (ys := le2 c) leElU8 _ _ rfl rfl rfl rfl rfl O.out S1.out (Nat.le_of_ble_eq_true rfl) (Nat.le_of_ble_eq_true rfl) Bq.out ?_; intro v2 wq2 ho hb; have O2 := Lib.hid ho; have BK := Lib.hid (BK.out.ofB hb hg); have BB := Lib.hid (BB.out.trans (hb.mono hgB)); have Bq := Lib.hid (Nat.le_trans Bq.out hb.size); clear ho hb))
  clear O S1
  have d2 := BK.out.cell 2
  rw [rounds_succ]
  go_wp2_with fail
  refine (leBytes2 b _ (by omega) (by omega)).mono ?_
  rintro e wa2 ⟨va, rfl, own, bel⟩
  obtain ⟨A12, c12, rfl, _, _, sl⟩ := own.sln (n := 2) rfl
  have S2 := Lib.hid sl
  have BK := Lib.hid (BK.out.next bel)
  have O := Lib.hid (O2.out.nx bel)
  have Bq := Lib.hid (Nat.le_trans Bq.out bel.size)
  have BB := Lib.hid (bel_next BB.out bel)
  clear own bel sl d2 O2
  go_wp2_with ((at_builtin; refine appNh (xs := [84, 84, 65, 49] ++ le2 f ++ le2 c) (ys := le2 b) leElU8 _ _ rfl rfl rfl rfl rfl O.out S2.out (Nat.le_of_ble_eq_true rfl) (Nat.le_of_ble_eq_true rfl) Bq.out ?_; intro v3 wq3 ho hb; have O3 := Lib.hid ho; have BK := Lib.hid (BK.out.ofB hb hg); have BB := Lib.hid (BB.out.trans (hb.mono hgB)); have Bq := Lib.hid (Nat.le_trans Bq.out hb.size); clear ho hb))
  clear O S2
  have d3 := BK.out.cell 3
  rw [rounds_succ]
  go_wp2_with fail
  refine (leBytes4 r _ (by omega) (by omega)).mono ?_
  rintro e wa3 ⟨va, rfl, own, bel⟩
  obtain ⟨A13, c13, rfl, _, _, sl⟩ := own.sln (n := 4) rfl
  have S3 := Lib.hid sl
  have BK := Lib.hid (BK.out.next bel)
  have O := Lib.hid (O3.out.nx bel)
  have Bq := Lib.hid (Nat.le_trans Bq.out bel.size)
  have BB := Lib.hid (bel_next BB.out bel)
  clear own bel sl d3 O3
  go_wp2_with ((at_builtin; refine appNh (xs := [84, 84, 65, 49] ++ le2 f ++ le2 c ++ le2 b) (ys := le4 r) leElU8 _ _ rfl rfl rfl rfl rfl O.out S3.out (Nat.le_of_ble_eq_true rfl) (Nat.le_of_ble_eq_true rfl) Bq.out ?_; intro v4 wq4 ho hb; have O4 := Lib.hid ho; have BK := Lib.hid (BK.out.ofB hb hg); have BB := Lib.hid (BB.out.trans (hb.mono hgB)); have Bq := Lib.hid (Nat.le_trans Bq.out hb.size); clear ho hb))
  clear O S3
  have d4 := BK.out.cell 4
  rw [rounds_succ]
  go_wp2_with fail
  refine (leBytes4 n _ (by omega) (by omega)).mono ?_
  rintro e wa4 ⟨va, rfl, own, bel⟩
  obtain ⟨A14, c14, rfl, _, _, sl⟩ := own.sln (n := 4) rfl
  have S4 := Lib.hid sl
  have BK := Lib.hid (BK.out.next bel)
  have O := Lib.hid (O4.out.nx bel)
  have Bq := Lib.hid (Nat.le_trans Bq.out bel.size)
  have BB := Lib.hid (bel_next BB.out bel)
  clear own bel sl d4 O4
  go_wp2_with ((at_builtin; refine appNh (xs := [84, 84, 65, 49] ++ le2 f ++ le2 c ++ le2 b ++ le4 r) (ys := le4 n) leElU8 _ _ rfl rfl rfl rfl rfl O.out S4.out (Nat.le_of_ble_eq_true rfl) (Nat.le_of_ble_eq_true rfl) Bq.out ?_; intro v5 wq5 ho hb; have O5 := Lib.hid ho; have BK := Lib.hid (BK.out.ofB hb hg); have BB := Lib.hid (BB.out.trans (hb.mono hgB)); have Bq := Lib.hid (Nat.le_trans Bq.out hb.size); clear ho hb))
  clear O S4
  rw [rounds_succ]
  obtain ⟨Av, cv5, rfl, _, _, slv⟩ := O5.out.sln (n := 18) rfl
  have SV := Lib.hid slv
  have HBB := Lib.hid (show [84, 84, 65, 49] ++ le2 f ++ le2 c ++ le2 b ++ le4 r ++ le4 n = hdB f c b r n from rfl)
  rw [HBB.out] at O5 SV
  have UB := Lib.hid (hdB_u8 f c b r n)
  have LB := Lib.hid (hdB_len f c b r n)
  have WW := Lib.hid (show hdW f c b r n = hdB f c b r n ++ le4 ((sumL (hdB f c b r n) : Nat) : Int) from rfl)
  have z := sumL_lt (hdB f c b r n)
  have SM := Lib.hid (fun W hW => sum_ok Av 18 cv5 (hdB f c b r n) W LB.out (by decide) UB.out hW)
  clear slv HBB BK
  generalize sumL (hdB f c b r n) = t at *
  generalize hdB f c b r n = bs at *
  go_wp2_with fail
  refine (SM.out _ SV.out).mono ?_
  rintro e w8 ⟨rfl, bel⟩
  have O8 := Lib.hid (O5.out.nx bel)
  have Bq := Lib.hid (Nat.le_trans Bq.out bel.size)
  have BB := Lib.hid (bel_next BB.out bel)
  clear bel SM SV O5
  go_wp2_with fail
  refine (leBytes4 (t : Int) _ (by omega) (by omega)).mono ?_
  rintro e w9 ⟨va, rfl, own, bel⟩
  obtain ⟨A9, c9, rfl, _, _, sl⟩ := own.sln (n := 4) rfl
  have S9 := Lib.hid sl
  have O9 := Lib.hid (O8.out.nx bel)
  have Bq := Lib.hid (Nat.le_trans Bq.out bel.size)
  have BB := Lib.hid (bel_next BB.out bel)
  clear own bel sl O8
  go_wp2_with ((at_builtin; refine appNh (v := .slice Av 18 cv5) (xs := bs) (ys := le4 t) (n := 4) leElU8 _ _ rfl rfl rfl rfl rfl O9.out S9.out (by rw [LB.out]; decide) (by rw [LB.out]; decide) Bq.out ?_; intro v10 w10 ho hb; have O10 := Lib.hid (ho.rebase (base' := w.heap.size) hgB); have BB := Lib.hid (BB.out.trans (hb.mono hgB)); clear ho hb))
  go_ret
  exact ⟨_, rfl, by rw [WW.out]; exact O10.out, BB.out⟩
end Go.Proofs.YtgfibgnolmogkaaDoor

/-
  What Write of package header computes. Conditions: numbers within their types; the package variable widths as the text lays it.
-/
import Derived.Test.YtgfibgnolmogkaaDoorHdWalks
import Derived.Test.YtgfibgnolmogkaaDoorFull
namespace Go.Proofs.YtgfibgnolmogkaaDoor
open Go.RowKit
set_option linter.unusedVariables false

/-- The package variable widths reads as the text lays it. -/
def WdAt (w : World) : Prop := 0 < w.heap.size ∧ w.cell? ⟨0, 0, none⟩ = some (.int .i64 2) ∧ w.cell? ⟨0, 1, none⟩ = some (.int .i64 2) ∧ w.cell? ⟨0, 2, none⟩ = some (.int .i64 2) ∧ w.cell? ⟨0, 3, none⟩ = some (.int .i64 4) ∧ w.cell? ⟨0, 4, none⟩ = some (.int .i64 4)
theorem WdAt.next {w w' : World} (h : WdAt w) (hb : Below w.heap.size w w') : WdAt w' := by
  obtain ⟨h0, h1, h2, h3, h4, h5⟩ := h
  have k := fun i => hb.cell (p := ⟨0, i, none⟩) h0
  exact ⟨Nat.lt_of_lt_of_le h0 hb.size, (k 0).trans h1, (k 1).trans h2, (k 2).trans h3, (k 3).trans h4, (k 4).trans h5⟩
theorem WdAt.up {w : World} (h : WdAt w) (o : Obj) : WdAt (w.alloc o) := h.next (bel_up (bel_self w) o)

/-- .. behind what has changed nothing below a base above the variable -/
theorem WdAt.ofBelow {w w' : World} {B : Nat} (h : WdAt w) (hb : Below B w w') (hB : 0 < B) : WdAt w' := by
  obtain ⟨h0, h1, h2, h3, h4, h5⟩ := h
  have k := fun i => hb.cell (p := ⟨0, i, none⟩) hB
  exact ⟨Nat.lt_of_lt_of_le h0 hb.size, (k 0).trans h1, (k 1).trans h2, (k 2).trans h3, (k 3).trans h4, (k 4).trans h5⟩
theorem Own.nx {w w' : World} {base e : Nat} {k : IntKind} {v : Value} {xs : List Int} (h : Own w base e k v xs) (hb : Below w.heap.size w w') : Own w' base e k v xs := h.below hb

set_option maxRecDepth 100000 in
set_option maxHeartbeats 2000000 in
theorem hdWrite_ok (f c b r n : Int) (w : World) (h0 : hdE f c b r n = 0) (hW : WdAt w) :
    Calls Tryd.prog 9 #[.agg #[.int .i64 f, .int .i64 c, .int .i64 b, .int .i64 r, .int .i64 n]] w fun e w' =>
      ∃ v, e = .returned (.tuple #[v, .int .i64 0]) ∧ Own w' w.heap.size 5 .u8 v (hdW f c b r n) ∧ Below w.heap.size w w' := by
  obtain ⟨h1, h2, h3, h4, h5, h6, h7, h8, h9⟩ := hdE_ok h0
  have hpos : 0 < w.heap.size := hW.1
  have CK := Lib.hid (fun W => hdCheck f c b r n W (by omega))
  rw [h0] at CK
  have g1 : 0 ≤ f ∧ f ≤ 2 := by omega
  have g3 : 0 ≤ b ∧ b ≤ 24 := by omega
  clear h0 h9 h1 h2
  have i0 : ∀ w, (Instr.index 60 (.agg #[.int .i64 f, .int .i64 c, .int .i64 b, .int .i64 r, .int .i64 n]) (.int .i64 0)).run Tryd.prog w = .ok (.int .i64 f) w := fun _ => by kernel_rfl
  have i1 : ∀ w, (Instr.index 60 (.agg #[.int .i64 f, .int .i64 c, .int .i64 b, .int .i64 r, .int .i64 n]) (.int .i64 1)).run Tryd.prog w = .ok (.int .i64 c) w := fun _ => by kernel_rfl
  have i2 : ∀ w, (Instr.index 60 (.agg #[.int .i64 f, .int .i64 c, .int .i64 b, .int .i64 r, .int .i64 n]) (.int .i64 2)).run Tryd.prog w = .ok (.int .i64 b) w := fun _ => by kernel_rfl
  have i3 : ∀ w, (Instr.index 60 (.agg #[.int .i64 f, .int .i64 c, .int .i64 b, .int .i64 r, .int .i64 n]) (.int .i64 3)).run Tryd.prog w = .ok (.int .i64 r) w := fun _ => by kernel_rfl
  have i4 : ∀ w, (Instr.index 60 (.agg #[.int .i64 f, .int .i64 c, .int .i64 b, .int .i64 r, .int .i64 n]) (.int .i64 4)).run Tryd.prog w = .ok (.int .i64 n) w := fun _ => by kernel_rfl
  have cv : ∀ W : World, (convert 24 24 (.slice (some ⟨W.heap.size, 0, none⟩) 4 4)).run Tryd.prog (W.alloc (.cells #[.int .u8 84, .int .u8 84, .int .u8 65, .int .u8 49] 5)) = .ok (.slice (some ⟨W.heap.size, 0, none⟩) 4 4) (W.alloc (.cells #[.int .u8 84, .int .u8 84, .int .u8 65, .int .u8 49] 5 (4, 5))) := fun W => Lib.run_convert_bytes_const (P := Tryd.prog) W 24 5 _ 4 4 Tryd.underlying24 Tryd.underlying5
  go_enter Tryd.func9, Tryd.ntmps9
  go_wp2_with fail
  refine (CK.out _).mono ?_
  rintro e w1 ⟨rfl, bel1⟩
  obtain ⟨c0, c1, c2, c3, c4⟩ := cells5 bel1
  have BB := Lib.hid (bel_up (bel_next (bel_up (bel_self w) _) bel1) (.cells #[.int .u8 84, .int .u8 84, .int .u8 65, .int .u8 49] 5 (4, 5)))
  have SL := Lib.hid (Sl.marked w1 .u8 5 [84, 84, 65, 49] (cs := #[.int .u8 84, .int .u8 84, .int .u8 65, .int .u8 49]) (fr := (4, 5)) rfl)
  have HWD := Lib.hid (((hW.up _).next bel1).up (.cells #[.int .u8 84, .int .u8 84, .int .u8 65, .int .u8 49] 5 (4, 5)))
  have hz : w.heap.size < w1.heap.size := by have := bel1.size; simp at this; omega
  clear bel1 hW CK
  go_wp2_with fail
  generalize w1.alloc (.cells #[.int .u8 84, .int .u8 84, .int .u8 65, .int .u8 49] 5 (4, 5)) = wb at *
  clear c0 c1 c2 c3 c4
  refine wp_loop_rounds 6 ?_
  have wd := HWD.out
  obtain ⟨_, d0, d1, d2, d3, d4⟩ := wd
  rw [rounds_succ]
  go_wp2_with fail
  refine (leBytes2 f _ (by omega) (by omega)).mono ?_
  rintro e wa0 ⟨va, rfl, own, bel⟩
  obtain ⟨A10, c10, rfl, _, _, sl⟩ := own.sln (n := 2) rfl
  have S0 := Lib.hid sl
  have SL := Lib.hid (SL.out.next bel)
  have HWD := Lib.hid (HWD.out.next bel)
  have BB := Lib.hid (bel_next BB.out bel)
  clear own bel sl d0 d1 d2 d3 d4
  go_wp2_with ((at_builtin; refine appFull (xs := [84, 84, 65, 49]) (ys := le2 f) (n := 4) (m := 2) leElU8 _ _ rfl rfl rfl rfl (by decide) rfl rfl (by decide) SL.out S0.out (by decide) (by decide) ?_; intro v1 wq1 ho hb; have O1 := Lib.hid (ho.rebase (base' := w.heap.size) BB.out.size); have HWD := Lib.hid (HWD.out.next hb); have BB := Lib.hid (bel_next BB.out hb); clear ho hb))
  clear SL
  have wd := HWD.out
  obtain ⟨_, d0, d1, d2, d3, d4⟩ := wd
  rw [rounds_succ]
  go_wp2_with fail
  refine (leBytes2 c _ (by omega) (by omega)).mono ?_
  rintro e wa1 ⟨va, rfl, own, bel⟩
  obtain ⟨A11, c11, rfl, _, _, sl⟩ := own.sln (n := 2) rfl
  have S1 := Lib.hid sl
  have Oa := Lib.hid (O1.out.nx bel)
  have HWD := Lib.hid (HWD.out.next bel)
  have BB := Lib.hid (bel_next BB.out bel)
  clear own bel sl d0 d1 d2 d3 d4
  go_wp2_with ((at_builtin; refine appNh (xs := [84, 84, 65, 49] ++ le2 f) (ys := le2 c) leElU8 _ _ rfl rfl rfl rfl rfl Oa.out S1.out (Nat.le_of_ble_eq_true rfl) (Nat.le_of_ble_eq_true rfl) BB.out.size ?_; intro v2 wq2 ho hb; have O2 := Lib.hid ho; have HWDq := Lib.hid hb; have BB := Lib.hid (BB.out.trans hb); clear ho hb))
  have HWD := Lib.hid (WdAt.ofBelow HWD.out HWDq.out (hpos))
  clear HWDq
  have wd := HWD.out
  obtain ⟨_, d0, d1, d2, d3, d4⟩ := wd
  rw [rounds_succ]
  go_wp2_with fail
  refine (leBytes2 b _ (by omega) (by omega)).mono ?_
  rintro e wa2 ⟨va, rfl, own, bel⟩
  obtain ⟨A12, c12, rfl, _, _, sl⟩ := own.sln (n := 2) rfl
  have S2 := Lib.hid sl
  have Oa := Lib.hid (O2.out.nx bel)
  have HWD := Lib.hid (HWD.out.next bel)
  have BB := Lib.hid (bel_next BB.out bel)
  clear own bel sl d0 d1 d2 d3 d4
  go_wp2_with ((at_builtin; refine appNh (xs := [84, 84, 65, 49] ++ le2 f ++ le2 c) (ys := le2 b) leElU8 _ _ rfl rfl rfl rfl rfl Oa.out S2.out (Nat.le_of_ble_eq_true rfl) (Nat.le_of_ble_eq_true rfl) BB.out.size ?_; intro v3 wq3 ho hb; have O3 := Lib.hid ho; have HWDq := Lib.hid hb; have BB := Lib.hid (BB.out.trans hb); clear ho hb))
  have HWD := Lib.hid (WdAt.ofBelow HWD.out HWDq.out (hpos))
  clear HWDq
  have wd := HWD.out
  obtain ⟨_, d0, d1, d2, d3, d4⟩ := wd
  rw [rounds_succ]
  go_wp2_with fail
  refine (leBytes4 r _ (by omega) (by omega)).mono ?_
  rintro e wa3 ⟨va, rfl, own, bel⟩
  obtain ⟨A13, c13, rfl, _, _, sl⟩ := own.sln (n := 4) rfl
  have S3 := Lib.hid sl
  have Oa := Lib.hid (O3.out.nx bel)
  have HWD := Lib.hid (HWD.out.next bel)
  have BB := Lib.hid (bel_next BB.out bel)
  clear own bel sl d0 d1 d2 d3 d4
  go_wp2_with ((at_builtin; refine appNh (xs := [84, 84, 65, 49] ++ le2 f ++ le2 c ++ le2 b) (ys := le4 r) leElU8 _ _ rfl rfl rfl rfl rfl Oa.out S3.out (Nat.le_of_ble_eq_true rfl) (Nat.le_of_ble_eq_true rfl) BB.out.size ?_; intro v4 wq4 ho hb; have O4 := Lib.hid ho; have HWDq := Lib.hid hb; have BB := Lib.hid (BB.out.trans hb); clear ho hb))
  have HWD := Lib.hid (WdAt.ofBelow HWD.out HWDq.out (hpos))
  clear HWDq
  have wd := HWD.out
  obtain ⟨_, d0, d1, d2, d3, d4⟩ := wd
  rw [rounds_succ]
  go_wp2_with fail
  refine (leBytes4 n _ (by omega) (by omega)).mono ?_
  rintro e wa4 ⟨va, rfl, own, bel⟩
  obtain ⟨A14, c14, rfl, _, _, sl⟩ := own.sln (n := 4) rfl
  have S4 := Lib.hid sl
  have Oa := Lib.hid (O4.out.nx bel)
  have HWD := Lib.hid (HWD.out.next bel)
  have BB := Lib.hid (bel_next BB.out bel)
  clear own bel sl d0 d1 d2 d3 d4
  go_wp2_with ((at_builtin; refine appNh (xs := [84, 84, 65, 49] ++ le2 f ++ le2 c ++ le2 b ++ le4 r) (ys := le4 n) leElU8 _ _ rfl rfl rfl rfl rfl Oa.out S4.out (Nat.le_of_ble_eq_true rfl) (Nat.le_of_ble_eq_true rfl) BB.out.size ?_; intro v5 wq5 ho hb; have O5 := Lib.hid ho; have HWDq := Lib.hid hb; have BB := Lib.hid (BB.out.trans hb); clear ho hb))
  have HWD := Lib.hid (WdAt.ofBelow HWD.out HWDq.out (hpos))
  clear HWDq
  rw [rounds_succ]
  obtain ⟨Av, cv5, rfl, _, _, slv⟩ := O5.out.sln (n := 18) rfl
  have SV := Lib.hid slv
  have HBB := Lib.hid (show [84, 84, 65, 49] ++ le2 f ++ le2 c ++ le2 b ++ le4 r ++ le4 n = hdB f c b r n from rfl)
  rw [HBB.out] at O5 SV
  have UB := Lib.hid (hdB_u8 f c b r n)
  have LB := Lib.hid (hdB_len f c b r n)
  have WW := Lib.hid (show hdW f c b r n = hdB f c b r n ++ le4 ((sumL (hdB f c b r n) : Nat) : Int) from rfl)
  have z := sumL_lt (hdB f c b r n)
  have SM := Lib.hid (fun W hW => sum_ok Av 18 cv5 (hdB f c b r n) W LB.out (by decide) UB.out hW)
  clear slv HBB HWD i0 i1 i2 i3 i4
  generalize sumL (hdB f c b r n) = t at *
  generalize hdB f c b r n = bs at *
  go_wp2_with fail
  refine (SM.out _ SV.out).mono ?_
  rintro e w8 ⟨rfl, bel⟩
  have O8 := Lib.hid (O5.out.nx bel)
  have BB := Lib.hid (bel_next BB.out bel)
  clear bel SM SV O5
  go_wp2_with fail
  refine (leBytes4 (t : Int) _ (by omega) (by omega)).mono ?_
  rintro e w9 ⟨va, rfl, own, bel⟩
  obtain ⟨A9, c9, rfl, _, _, sl⟩ := own.sln (n := 4) rfl
  have S9 := Lib.hid sl
  have O9 := Lib.hid (O8.out.nx bel)
  have BB := Lib.hid (bel_next BB.out bel)
  clear own bel sl O8
  go_wp2_with ((at_builtin; refine appNh (v := .slice Av 18 cv5) (xs := bs) (ys := le4 t) (n := 4) leElU8 _ _ rfl rfl rfl rfl rfl O9.out S9.out (by rw [LB.out]; decide) (by rw [LB.out]; decide) BB.out.size ?_; intro v10 w10 ho hb; have O10 := Lib.hid ho; have BB := Lib.hid (BB.out.trans hb); clear ho hb))
  go_ret2
  exact ⟨_, rfl, by rw [WW.out]; exact O10.out, BB.out⟩

set_option maxRecDepth 100000 in
set_option maxHeartbeats 1000000 in
theorem hdWrite_bad (f c b r n : Int) (w : World) (h0 : hdE f c b r n ≠ 0) (hn1 : n ≤ 9223372036854775807) :
    Calls Tryd.prog 9 #[.agg #[.int .i64 f, .int .i64 c, .int .i64 b, .int .i64 r, .int .i64 n]] w fun e w' =>
      e = .returned (.tuple #[.slice none 0 0, .int .i64 (hdE f c b r n)]) ∧ Below w.heap.size w w' := by
  have CK := Lib.hid (fun W => hdCheck f c b r n W hn1)
  have e1 : (hdE f c b r n != 0) = true := by simp; exact h0
  generalize hdE f c b r n = E at *
  clear h0
  go_enter Tryd.func9, Tryd.ntmps9
  go_wp2_with fail
  refine (CK.out _).mono ?_
  rintro e w1 ⟨rfl, bel1⟩
  have BB := Lib.hid (bel_next (bel_up (bel_self w) _) bel1)
  clear bel1
  go_wp2_with fail
  go_ret2
  exact ⟨rfl, BB.out⟩

theorem hdWrite (f c b r n : Int) (w : World) (hn1 : n ≤ 9223372036854775807) (hW : WdAt w) :
    Calls Tryd.prog 9 #[.agg #[.int .i64 f, .int .i64 c, .int .i64 b, .int .i64 r, .int .i64 n]] w fun e w' =>
      ∃ v, e = .returned (.tuple #[v, .int .i64 (hdE f c b r n)]) ∧ Own w' w.heap.size 5 .u8 v (hdWR f c b r n) ∧ Below w.heap.size w w' := by
  by_cases h : hdE f c b r n = 0
  · rw [hdWR_ok h, h]; exact hdWrite_ok f c b r n w h hW
  · rw [hdWR_bad h]; exact (hdWrite_bad f c b r n w h hn1).mono fun e w' ⟨h1, h2⟩ => ⟨_, h1, own_nil5 _ _ _ _, h2⟩
end Go.Proofs.YtgfibgnolmogkaaDoor

/-
  The walk of SeeksNames. No conditions.
-/
import Derived.Test.YtdhiiknjdkmjjaaSkNames
import Derived.Test.YtdhiiknjdkmjjaaLaw26C
namespace Go.Proofs.Ytdhiiknjdkmjjaa
open Go.RowKit
set_option linter.unusedVariables false

theorem Sl.litAt (w : World) (k : IntKind) (e : TypeId) (xs : List Int) {cs : Array Value} (hcs : cs = (xs.map (Value.int k)).toArray) {g : Nat} (hg : w.heap.size = g) :
    Sl (w.alloc (.cells cs e)) (w.alloc (.cells cs e)).heap.size k (some ⟨g, 0, none⟩) xs := by
  subst hg; exact Sl.lit' w k e xs hcs

/-- a table that is not valid, behind an address -/
def BadAt (W : World) (p : Addr) : Prop := ∃ A n c L, W.cell? p = some (.slice A n c) ∧ L.length = n ∧ n ≤ 1001 ∧ skE L = 8 ∧ I64 L ∧ Sl W W.heap.size .i64 A L
theorem BadAt.next {W W' : World} {p : Addr} (h : BadAt W p) (hp : p.block < W.heap.size) (hb : Below W.heap.size W W') : BadAt W' p := by
  obtain ⟨A, n, c, L, h1, h2, h3, h4, h5, h6⟩ := h
  exact ⟨A, n, c, L, (hb.cell hp).trans h1, h2, h3, h4, h5, h6.next hb⟩

theorem bads_world (w : World) (T S : TypeId) (g : Nat) (hg : Sl w w.heap.size .i64 (some ⟨g, 0, none⟩) (many 1001)) :
    ∀ W, (((((((w.alloc (.cells #[.int .i64 4] T)).alloc (.cells #[.int .i64 (-5)] T)).alloc (.cells #[.int .i64 100001] T)).alloc (.cells #[.int .i64 50000, .int .i64 50001] T)).alloc (.cells #[.int .i64 5, .int .i64 0] T)).alloc (.cells #[.int .i64 9223372036854775807, .int .i64 5] T)).alloc
      (.cells #[.slice none 0 0, .slice (some ⟨w.heap.size, 0, none⟩) 1 1, .slice (some ⟨w.heap.size + 1, 0, none⟩) 1 1, .slice (some ⟨w.heap.size + 1 + 1, 0, none⟩) 1 1, .slice (some ⟨w.heap.size + 1 + 1 + 1, 0, none⟩) 2 2, .slice (some ⟨w.heap.size + 1 + 1 + 1 + 1, 0, none⟩) 2 2, .slice (some ⟨g, 0, none⟩) 1001 1001, .slice (some ⟨w.heap.size + 1 + 1 + 1 + 1 + 1, 0, none⟩) 2 2] S)) = W →
    W.heap.size = w.heap.size + 7 ∧ Below w.heap.size w W ∧ ∀ k, k < 8 → BadAt W ⟨w.heap.size + 1 + 1 + 1 + 1 + 1 + 1, k, none⟩ := by
  rintro W rfl
  generalize hc : (#[.slice none 0 0, .slice (some ⟨w.heap.size, 0, none⟩) 1 1, .slice (some ⟨w.heap.size + 1, 0, none⟩) 1 1, .slice (some ⟨w.heap.size + 1 + 1, 0, none⟩) 1 1, .slice (some ⟨w.heap.size + 1 + 1 + 1, 0, none⟩) 2 2, .slice (some ⟨w.heap.size + 1 + 1 + 1 + 1, 0, none⟩) 2 2, .slice (some ⟨g, 0, none⟩) 1001 1001, .slice (some ⟨w.heap.size + 1 + 1 + 1 + 1 + 1, 0, none⟩) 2 2] : Array Value) = cs
  have s0 := Sl.litAt w .i64 T [4] (cs := #[.int .i64 4]) rfl (g := w.heap.size) rfl
  have s1 := Sl.litAt (w.alloc (.cells #[.int .i64 4] T)) .i64 T [-5] (cs := #[.int .i64 (-5)]) rfl (g := w.heap.size + 1) (by simp)
  have s2 := Sl.litAt ((w.alloc (.cells #[.int .i64 4] T)).alloc (.cells #[.int .i64 (-5)] T)) .i64 T [100001] (cs := #[.int .i64 100001]) rfl (g := w.heap.size + 1 + 1) (by simp)
  have s3 := Sl.litAt (((w.alloc (.cells #[.int .i64 4] T)).alloc (.cells #[.int .i64 (-5)] T)).alloc (.cells #[.int .i64 100001] T)) .i64 T [50000, 50001] (cs := #[.int .i64 50000, .int .i64 50001]) rfl (g := w.heap.size + 1 + 1 + 1) (by simp)
  have s4 := Sl.litAt ((((w.alloc (.cells #[.int .i64 4] T)).alloc (.cells #[.int .i64 (-5)] T)).alloc (.cells #[.int .i64 100001] T)).alloc (.cells #[.int .i64 50000, .int .i64 50001] T)) .i64 T [5, 0] (cs := #[.int .i64 5, .int .i64 0]) rfl (g := w.heap.size + 1 + 1 + 1 + 1) (by simp)
  have s5 := Sl.litAt (((((w.alloc (.cells #[.int .i64 4] T)).alloc (.cells #[.int .i64 (-5)] T)).alloc (.cells #[.int .i64 100001] T)).alloc (.cells #[.int .i64 50000, .int .i64 50001] T)).alloc (.cells #[.int .i64 5, .int .i64 0] T)) .i64 T [9223372036854775807, 5] (cs := #[.int .i64 9223372036854775807, .int .i64 5]) rfl (g := w.heap.size + 1 + 1 + 1 + 1 + 1) (by simp)
  have t0 := ((((((s0.up (.cells #[.int .i64 (-5)] T)).up (.cells #[.int .i64 100001] T)).up (.cells #[.int .i64 50000, .int .i64 50001] T)).up (.cells #[.int .i64 5, .int .i64 0] T)).up (.cells #[.int .i64 9223372036854775807, .int .i64 5] T)).up (.cells cs S))
  have t1 := (((((s1.up (.cells #[.int .i64 100001] T)).up (.cells #[.int .i64 50000, .int .i64 50001] T)).up (.cells #[.int .i64 5, .int .i64 0] T)).up (.cells #[.int .i64 9223372036854775807, .int .i64 5] T)).up (.cells cs S))
  have t2 := ((((s2.up (.cells #[.int .i64 50000, .int .i64 50001] T)).up (.cells #[.int .i64 5, .int .i64 0] T)).up (.cells #[.int .i64 9223372036854775807, .int .i64 5] T)).up (.cells cs S))
  have t3 := (((s3.up (.cells #[.int .i64 5, .int .i64 0] T)).up (.cells #[.int .i64 9223372036854775807, .int .i64 5] T)).up (.cells cs S))
  have t4 := ((s4.up (.cells #[.int .i64 9223372036854775807, .int .i64 5] T)).up (.cells cs S))
  have t5 := (s5.up (.cells cs S))
  have t6 := (((((((hg.up (.cells #[.int .i64 4] T)).up (.cells #[.int .i64 (-5)] T)).up (.cells #[.int .i64 100001] T)).up (.cells #[.int .i64 50000, .int .i64 50001] T)).up (.cells #[.int .i64 5, .int .i64 0] T)).up (.cells #[.int .i64 9223372036854775807, .int .i64 5] T)).up (.cells cs S))
  have bl := bel_up (bel_up (bel_up (bel_up (bel_up (bel_up (bel_up (bel_self w) (.cells #[.int .i64 4] T)) (.cells #[.int .i64 (-5)] T)) (.cells #[.int .i64 100001] T)) (.cells #[.int .i64 50000, .int .i64 50001] T)) (.cells #[.int .i64 5, .int .i64 0] T)) (.cells #[.int .i64 9223372036854775807, .int .i64 5] T)) (.cells cs S)
  clear s0 s1 s2 s3 s4 s5
  generalize hW0 : ((((((w.alloc (.cells #[.int .i64 4] T)).alloc (.cells #[.int .i64 (-5)] T)).alloc (.cells #[.int .i64 100001] T)).alloc (.cells #[.int .i64 50000, .int .i64 50001] T)).alloc (.cells #[.int .i64 5, .int .i64 0] T)).alloc (.cells #[.int .i64 9223372036854775807, .int .i64 5] T)) = W0 at *
  have hz : W0.heap.size = w.heap.size + 1 + 1 + 1 + 1 + 1 + 1 := by rw [← hW0]; simp
  have hrow : (W0.alloc (.cells cs S)).heap[w.heap.size + 1 + 1 + 1 + 1 + 1 + 1]? = some (.cells cs S (0, 0)) := by rw [← hz]; exact heap_alloc_new W0 _
  have hcell : ∀ k, (W0.alloc (.cells cs S)).cell? ⟨w.heap.size + 1 + 1 + 1 + 1 + 1 + 1, k, none⟩ = cs[k]? := fun k => cell_of_row _ _ k cs S (0, 0) hrow
  refine ⟨by rw [size_alloc, hz], bl, fun k hk => ?_⟩
  have i1 : ∀ x ∈ [(4 : Int)], -9223372036854775808 ≤ x ∧ x ≤ 9223372036854775807 := by decide
  subst hc
  match k, hk with
  | 0, _ => exact ⟨none, 0, 0, [], hcell 0, rfl, by decide, by decide +kernel, by unfold I64; simp, Sl.nil_⟩
  | 1, _ => exact ⟨_, 1, 1, [4], hcell 1, rfl, by decide, by decide +kernel, by unfold I64; decide, t0⟩
  | 2, _ => exact ⟨_, 1, 1, [-5], hcell 2, rfl, by decide, by decide +kernel, by unfold I64; decide, t1⟩
  | 3, _ => exact ⟨_, 1, 1, [100001], hcell 3, rfl, by decide, by decide +kernel, by unfold I64; decide, t2⟩
  | 4, _ => exact ⟨_, 2, 2, [50000, 50001], hcell 4, rfl, by decide, by decide +kernel, by unfold I64; decide, t3⟩
  | 5, _ => exact ⟨_, 2, 2, [5, 0], hcell 5, rfl, by decide, by decide +kernel, by unfold I64; decide, t4⟩
  | 6, _ => exact ⟨_, 1001, 1001, many 1001, hcell 6, many_len _, by decide, many_bad, many_i64 _, t6⟩
  | 7, _ => exact ⟨_, 2, 2, [9223372036854775807, 5], hcell 7, rfl, by decide, by decide +kernel, by unfold I64; decide, t5⟩
  | k + 8, h => omega
theorem fd_bad {l : List Int} (h : skE l = 8) (a : Int) : fdE l a = 8 ∧ fdV l a = 0 := by
  have e1 : fdE l a = 8 := by unfold fdE; rw [if_neg (by omega)]
  exact ⟨e1, by unfold fdV; rw [e1, if_neg (by decide)]⟩

set_option maxRecDepth 100000 in
set_option maxHeartbeats 4000000 in
theorem seeksNames_walk (w : World) : Calls Try.prog 6 #[] w fun e w' => e = .returned (.bool true) ∧ Below w.heap.size w w' := by
  have mk1 : ∀ W, (Instr.makeSlice 24 (.int .i64 1001) (.int .i64 1001)).run Try.prog W = .ok (.slice (some ⟨W.heap.size, 0, none⟩) 1001 1001) (W.alloc (.cells (zerosA .i64 1001) 3)) := run_make_ints skElI 1001 rfl (by decide) (by decide)
  have HB1 := Lib.hid (bel_up (bel_self w) (.cells (zerosA .i64 1001) 3))
  have HO1 := Lib.hid (Own.zeros w w.heap.size .i64 3 1001 (Nat.le_refl _) (by decide))
  go_enter Try.func6, Try.ntmps6
  go_wp2_with fail
  go_loopw [2] (fun i wr => ∃ k : Nat, k ≤ 1001 ∧ i = .int .i64 k ∧ Own wr w.heap.size 3 .i64 (.slice (some ⟨w.heap.size, 0, none⟩) 1001 1001) (List.replicate k 100 ++ List.replicate (1001 - k) 0) ∧ Below w.heap.size w wr) (fun i _ => 1001 - (intOf i).toNat)
  case atStart => exact ⟨0, by omega, rfl, HO1.out, HB1.out⟩
  case round =>
    obtain ⟨k, hk, rfl, hown, hbel⟩ := hrel
    have HO := Lib.hid hown
    have HB := Lib.hid hbel
    clear hown hbel HO1 HB1 mk1
    by_cases hlt : k < 1001
    · have hlt' : (k : Int) < 1001 := by omega
      have cell := HO.out.cell k (by simp; omega)
      have free := HO.out.frozen k
      have O2 := Lib.hid (HO.out.set k 100)
      rw [set_replicate k 1001 100 hlt] at O2
      have B2 := Lib.hid (HB.out.setCell (p := ⟨w.heap.size, k, none⟩) (Nat.le_refl _) (.int .i64 100))
      generalize (List.replicate k (100 : Int) ++ List.replicate (1001 - k) 0).getD k 0 = y at *
      clear HO HB
      go_wp2_with fail
      go_roundw
      case rel => exact ⟨k + 1, by omega, by go_num, O2.out, B2.out⟩
      case measure => simp [intOf]; omega
    · obtain rfl : k = 1001 := by omega
      rw [Nat.sub_self, List.replicate_zero, List.append_nil] at HO
      obtain ⟨w0, rfl⟩ : ∃ wo : World, wo = wr := ⟨_, rfl⟩
      obtain ⟨Am, cm, hv, _, _, sl⟩ := HO.out.sln (n := 1001) List.length_replicate
      injection hv with hA hn hc
      subst hA hc
      have SM := Lib.hid (show Sl w0 w0.heap.size .i64 (some ⟨w.heap.size, 0, none⟩) (many 1001) from sl)
      have BB := HB
      clear sl HO HB
      go_wp2_with fail
      generalize hW : (((((((w0.alloc (.cells #[.int .i64 4] 3)).alloc (.cells #[.int .i64 (-5)] 3)).alloc (.cells #[.int .i64 100001] 3)).alloc (.cells #[.int .i64 50000, .int .i64 50001] 3)).alloc (.cells #[.int .i64 5, .int .i64 0] 3)).alloc (.cells #[.int .i64 9223372036854775807, .int .i64 5] 3)).alloc
      (.cells #[.slice none 0 0, .slice (some ⟨w0.heap.size, 0, none⟩) 1 1, .slice (some ⟨w0.heap.size + 1, 0, none⟩) 1 1, .slice (some ⟨w0.heap.size + 1 + 1, 0, none⟩) 1 1, .slice (some ⟨w0.heap.size + 1 + 1 + 1, 0, none⟩) 2 2, .slice (some ⟨w0.heap.size + 1 + 1 + 1 + 1, 0, none⟩) 2 2, .slice (some ⟨w.heap.size, 0, none⟩) 1001 1001, .slice (some ⟨w0.heap.size + 1 + 1 + 1 + 1 + 1, 0, none⟩) 2 2] 24)) = W1 at *
      obtain ⟨hsz, hbl, hbad⟩ := bads_world w0 3 24 w.heap.size SM.out W1 hW
      have BD := Lib.hid hbad
      have SM := Lib.hid ((SM.out.below hbl).more hbl.size)
      have BB := Lib.hid (bel_next BB.out hbl)
      clear hW hbl hbad
      obtain ⟨g8, hg8⟩ : ∃ g8, g8 = w0.heap.size + 1 + 1 + 1 + 1 + 1 + 1 := ⟨_, rfl⟩
      have hlt8 : g8 < W1.heap.size := by omega
      rw [← hg8] at BD ⊢
      clear hsz hg8
      go_loopw [4] (fun i wr => ∃ k : Nat, k ≤ 8 ∧ i = .int .i64 k ∧ Below W1.heap.size W1 wr) (fun i _ => 8 - (intOf i).toNat)
      case atStart => exact ⟨0, by omega, rfl, bel_self _⟩
      case round =>
        obtain ⟨j, hj, rfl, hbel⟩ := hrel
        by_cases hlj : j < 8
        · obtain ⟨A, n, c, L, h1, h2, h3, h4, h5, h6⟩ := (BD.out j hlj).next (p := ⟨g8, j, none⟩) hlt8 hbel
          have hz : g8 < wr.heap.size := Nat.lt_of_lt_of_le hlt8 hbel.size
          have HB := Lib.hid hbel
          have N := Lib.hid h2
          have K := Lib.hid h4
          have I := Lib.hid h5
          have S := Lib.hid h6
          have hlt' : (j : Int) < 8 := by omega
          clear h2 h4 h5 h6 hbel SM BD BB
          go_wp2_with fail
          refine (skWrite_v L [] _ N.out (by omega) I.out S.out K.out (skWR_bad (by rw [K.out]; decide))).mono ?_
          rintro e wa ⟨v, rfl, own, bel⟩
          obtain ⟨Aa, ca, rfl, _, _, _⟩ := own.sl
          have h1 := (bel.cell (p := ⟨g8, j, none⟩) hz).trans h1
          have hz := Nat.lt_of_lt_of_le hz bel.size
          have S := Lib.hid (S.out.next bel)
          have HB := Lib.hid (bel_next HB.out bel)
          clear own bel
          go_wp2_with fail
          refine (skOffsets_v L [] _ N.out (by omega) I.out S.out K.out (skOR_bad (by rw [K.out]; decide))).mono ?_
          rintro e wb ⟨v, rfl, own, bel⟩
          obtain ⟨Ab, cb, rfl, _, _, _⟩ := own.sl
          have h1 := (bel.cell (p := ⟨g8, j, none⟩) hz).trans h1
          have S := Lib.hid (S.out.next bel)
          have HB := Lib.hid (bel_next HB.out bel)
          clear own bel hz
          go_wp2_with fail
          refine (skFind_v L (-1) _ N.out (by omega) I.out S.out (by decide) (fd_bad K.out _).1 (fd_bad K.out _).2).mono ?_
          rintro e w' ⟨rfl, rfl⟩
          go_wp2_with fail
          refine (skCheck_v L _ N.out (by omega) I.out S.out K.out).mono ?_
          rintro e w' ⟨rfl, rfl⟩
          go_wp2_with fail
          go_roundw
          case rel => exact ⟨j + 1, by omega, by go_num, HB.out⟩
          case measure => simp [intOf]; omega
        · have SM := Lib.hid (SM.out.next hbel)
          have BB := Lib.hid (bel_next BB.out hbel)
          clear hbel BD hlt8
          obtain ⟨w9, rfl⟩ : ∃ wo : World, wo = wr := ⟨_, rfl⟩
          have S1 := Lib.hid (show Sl w9 w9.heap.size .i64 (some ⟨w.heap.size, 0, none⟩) (many 1000) from by rw [← many_take 1000 1001 (by decide)]; exact SM.out.take 1000)
          have r1 : ∀ W, (Instr.slice 24 (.slice (some ⟨w.heap.size, 0, none⟩) 1001 1001) none (some (.int .i64 1000)) none).run Try.prog W = .ok (.slice (some ⟨w.heap.size, 0, none⟩) 1000 1001) W := run_upto skElI _ 1001 1001 1000 rfl (by decide)
          have LW := Lib.hid (show (skW (many 1000)).length = 4004 by rw [skW_len, many_len])
          have UW := Lib.hid (skW_u8 (many 1000))
          have RB := Lib.hid (show rdE (skW (many 1000)) 1000 = 0 ∧ rdR (skW (many 1000)) 1000 = many 1000 from by
            have := rd_back many_ok []
            rw [List.append_nil, many_len] at this; exact this)
          have XB := Lib.hid (fun (m : Int) (h : m < 1 ∨ 1000 < m) => (show rdE (skW (many 1000)) m = 2 by unfold rdE; rw [if_pos h]))
          have X3 := Lib.hid (show rdE ((skW (many 1000)).take 4003) 1000 = 24 from rd_cut (n := 1000) (by decide) (by decide) (by rw [List.length_take, LW.out]; decide))
          have F1 := Lib.hid (show rdE (skW [4]) 1 = 12 from rd_form (l := [4]) (by decide) (by decide) (by decide) (by decide +kernel))
          have F2 := Lib.hid (show rdE (skW [100001]) 1 = 12 from rd_form (l := [100001]) (by decide) (by decide) (by decide) (by decide +kernel))
          have F3 := Lib.hid (show rdE (skW [4294967295, 5]) 2 = 12 from rd_form (l := [4294967295, 5]) (by decide) (by decide) (by decide) (by decide +kernel))
          have F4 := Lib.hid (show rdE (skW [5] ++ [9]) 1 = 0 ∧ rdR (skW [5] ++ [9]) 1 = [5] from rd_back (l := [5]) (by decide +kernel) [9])
          have L1 := Lib.hid (show (skW [4]).length = 8 from skW_len _)
          have L2 := Lib.hid (show (skW [100001]).length = 8 from skW_len _)
          have L3 := Lib.hid (show (skW [4294967295, 5]).length = 12 from skW_len _)
          have L4 := Lib.hid (show (skW [5]).length = 8 from skW_len _)
          clear SM
          go_wp2_with fail
          refine (skWrite_v (many 1000) (skW (many 1000)) _ (many_len _) (by decide) (many_i64 _) S1.out many_ok (skWR_ok many_ok)).mono ?_
          rintro e w1 ⟨v1, rfl, own1, bel1⟩
          obtain ⟨Aa, ca, rfl, hca, hma, sl1⟩ := own1.sln (LW.out)
          have Sa := Lib.hid sl1
          have S1 := Lib.hid (S1.out.next bel1)
          have BB := Lib.hid (bel_next BB.out bel1)
          clear own1 bel1 sl1
          have r2 : ∀ W, (Instr.slice 22 (.slice Aa 4004 ca) none (some (.int .i64 4003)) none).run Try.prog W = .ok (.slice Aa 4003 ca) W := run_upto leElU8 _ 4004 ca 4003 rfl (by omega)
          go_wp2_with fail
          refine (skRead_v (skW (many 1000)) (many 1000) _ LW.out hca hma UW.out Sa.out RB.out.1 RB.out.2).mono ?_
          rintro e w2 ⟨v2, rfl, own2, bel2⟩
          obtain ⟨Ab, cb, rfl, hcb, hmb, sl2⟩ := own2.sln (many_len 1000)
          have Sb := Lib.hid sl2
          have S1 := Lib.hid (S1.out.next bel2)
          have Sa := Lib.hid (Sa.out.next bel2)
          have BB := Lib.hid (bel_next BB.out bel2)
          clear own2 bel2 sl2
          go_wp2_with fail
          refine (skRead_v (skW (many 1000)) [] _ LW.out hca hma UW.out Sa.out (XB.out 0 (by decide)) (rdR_bad (by rw [XB.out 0 (by decide)]; decide))).mono ?_
          rintro e w3 ⟨v3, rfl, own3, bel3⟩
          obtain ⟨Ac, cc, rfl, _, _, sl3⟩ := own3.sl
          have Sc := Lib.hid sl3
          have S1 := Lib.hid (S1.out.next bel3)
          have Sa := Lib.hid (Sa.out.next bel3)
          have Sb := Lib.hid (Sb.out.next bel3)
          have BB := Lib.hid (bel_next BB.out bel3)
          clear own3 bel3 sl3
          clear Sc
          go_wp2_with fail
          refine (skRead_v (skW (many 1000)) [] _ LW.out hca hma UW.out Sa.out (XB.out 1001 (by decide)) (rdR_bad (by rw [XB.out 1001 (by decide)]; decide))).mono ?_
          rintro e w4 ⟨v4, rfl, own4, bel4⟩
          obtain ⟨Ad, cd, rfl, _, _, sl4⟩ := own4.sl
          have Sd := Lib.hid sl4
          have S1 := Lib.hid (S1.out.next bel4)
          have Sa := Lib.hid (Sa.out.next bel4)
          have Sb := Lib.hid (Sb.out.next bel4)
          have BB := Lib.hid (bel_next BB.out bel4)
          clear own4 bel4 sl4
          clear Sd
          go_wp2_with fail
          refine (skRead_v (skW (many 1000)) [] _ LW.out hca hma UW.out Sa.out (XB.out (-1) (by decide)) (rdR_bad (by rw [XB.out (-1) (by decide)]; decide))).mono ?_
          rintro e w5 ⟨v5, rfl, own5, bel5⟩
          obtain ⟨Ae, ce, rfl, _, _, sl5⟩ := own5.sl
          have Se := Lib.hid sl5
          have S1 := Lib.hid (S1.out.next bel5)
          have Sa := Lib.hid (Sa.out.next bel5)
          have Sb := Lib.hid (Sb.out.next bel5)
          have BB := Lib.hid (bel_next BB.out bel5)
          clear own5 bel5 sl5
          clear Se
          go_wp2_with fail
          refine (skRead_v ((skW (many 1000)).take 4003) [] _ (by rw [List.length_take, LW.out]; decide) (by omega) hma (fun x h => UW.out x (List.mem_of_mem_take h)) (Sa.out.take 4003) X3.out (rdR_bad (by rw [X3.out]; decide))).mono ?_
          rintro e w6 ⟨v6, rfl, own6, bel6⟩
          obtain ⟨Af, cf, rfl, _, _, sl6⟩ := own6.sl
          have Sf := Lib.hid sl6
          have S1 := Lib.hid (S1.out.next bel6)
          have Sa := Lib.hid (Sa.out.next bel6)
          have Sb := Lib.hid (Sb.out.next bel6)
          have BB := Lib.hid (bel_next BB.out bel6)
          clear own6 bel6 sl6
          clear Sf
          clear r2
          go_wp2_with fail
          refine (skRead_v (skW (many 1000)) [] _ LW.out hca hma UW.out Sa.out rd_999 (rdR_bad (by rw [rd_999]; decide))).mono ?_
          rintro e w7 ⟨v7, rfl, own7, bel7⟩
          obtain ⟨Ag, cg, rfl, _, _, sl7⟩ := own7.sl
          have Sg := Lib.hid sl7
          have S1 := Lib.hid (S1.out.next bel7)
          have Sa := Lib.hid (Sa.out.next bel7)
          have Sb := Lib.hid (Sb.out.next bel7)
          have BB := Lib.hid (bel_next BB.out bel7)
          clear own7 bel7 sl7
          clear Sg Sa
          go_wp2_with fail
          refine (skRead_v [] [] _ rfl (by decide) (by decide) (by unfold U8; simp) Sl.nil_ (show rdE [] 1 = 24 from by decide +kernel) (by decide +kernel)).mono ?_
          rintro e w8 ⟨v8, rfl, own8, bel8⟩
          obtain ⟨Ah, ch, rfl, _, _, sl8⟩ := own8.sl
          have Sh := Lib.hid sl8
          have S1 := Lib.hid (S1.out.next bel8)
          have Sb := Lib.hid (Sb.out.next bel8)
          have BB := Lib.hid (bel_next BB.out bel8)
          clear own8 bel8 sl8
          clear Sh
          go_wp2_with fail
          refine (summed_any _ 1 1 [4] _ rfl (by decide) (by decide) (Sl.lit' w8 .u64 _ [4] rfl)).mono ?_
          rintro e w9 ⟨v9, rfl, own9, bel9⟩
          obtain ⟨Ai, ci, rfl, hci, hmi, sl9⟩ := own9.sln (L1.out)
          have Si := Lib.hid sl9
          have S1 := Lib.hid ((S1.out.up _).next bel9)
          have Sb := Lib.hid ((Sb.out.up _).next bel9)
          have BB := Lib.hid (bel_next (bel_up BB.out _) bel9)
          clear own9 bel9 sl9
          go_wp2_with fail
          refine (skRead_v (skW [4]) [] _ L1.out hci hmi (skW_u8 _) Si.out F1.out (rdR_bad (by rw [F1.out]; decide))).mono ?_
          rintro e w10 ⟨v10, rfl, own10, bel10⟩
          obtain ⟨Aj, cj, rfl, _, _, sl10⟩ := own10.sl
          have Sj := Lib.hid sl10
          have S1 := Lib.hid (S1.out.next bel10)
          have Sb := Lib.hid (Sb.out.next bel10)
          have Si := Lib.hid (Si.out.next bel10)
          have BB := Lib.hid (bel_next BB.out bel10)
          clear own10 bel10 sl10
          clear Si Sj
          go_wp2_with fail
          refine (summed_any _ 1 1 [100001] _ rfl (by decide) (by decide) (Sl.lit' w10 .u64 _ [100001] rfl)).mono ?_
          rintro e w11 ⟨v11, rfl, own11, bel11⟩
          obtain ⟨Ak, ck, rfl, hck, hmk, sl11⟩ := own11.sln (L2.out)
          have Sk := Lib.hid sl11
          have S1 := Lib.hid ((S1.out.up _).next bel11)
          have Sb := Lib.hid ((Sb.out.up _).next bel11)
          have BB := Lib.hid (bel_next (bel_up BB.out _) bel11)
          clear own11 bel11 sl11
          go_wp2_with fail
          refine (skRead_v (skW [100001]) [] _ L2.out hck hmk (skW_u8 _) Sk.out F2.out (rdR_bad (by rw [F2.out]; decide))).mono ?_
          rintro e w12 ⟨v12, rfl, own12, bel12⟩
          obtain ⟨Al, cl, rfl, _, _, sl12⟩ := own12.sl
          have Sl := Lib.hid sl12
          have S1 := Lib.hid (S1.out.next bel12)
          have Sb := Lib.hid (Sb.out.next bel12)
          have Sk := Lib.hid (Sk.out.next bel12)
          have BB := Lib.hid (bel_next BB.out bel12)
          clear own12 bel12 sl12
          clear Sk Sl
          go_wp2_with fail
          refine (summed_any _ 2 2 [4294967295, 5] _ rfl (by decide) (by decide) (Sl.lit' w12 .u64 _ [4294967295, 5] rfl)).mono ?_
          rintro e w13 ⟨v13, rfl, own13, bel13⟩
          obtain ⟨Am, cm, rfl, hcm, hmm, sl13⟩ := own13.sln (L3.out)
          have Sm := Lib.hid sl13
          have S1 := Lib.hid ((S1.out.up _).next bel13)
          have Sb := Lib.hid ((Sb.out.up _).next bel13)
          have BB := Lib.hid (bel_next (bel_up BB.out _) bel13)
          clear own13 bel13 sl13
          go_wp2_with fail
          refine (skRead_v (skW [4294967295, 5]) [] _ L3.out hcm hmm (skW_u8 _) Sm.out F3.out (rdR_bad (by rw [F3.out]; decide))).mono ?_
          rintro e w14 ⟨v14, rfl, own14, bel14⟩
          obtain ⟨An, cn, rfl, _, _, sl14⟩ := own14.sl
          have Sn := Lib.hid sl14
          have S1 := Lib.hid (S1.out.next bel14)
          have Sb := Lib.hid (Sb.out.next bel14)
          have Sm := Lib.hid (Sm.out.next bel14)
          have BB := Lib.hid (bel_next BB.out bel14)
          clear own14 bel14 sl14
          clear Sm Sn
          go_wp2_with fail
          refine (summed_any _ 1 1 [5] _ rfl (by decide) (by decide) (Sl.lit' w14 .u64 _ [5] rfl)).mono ?_
          rintro e w15 ⟨v15, rfl, own15, bel15⟩
          obtain ⟨Ao, co, hvo, _, _, _⟩ := own15.sln L4.out
          have O15 := Lib.hid own15
          have S1 := Lib.hid ((S1.out.up _).below bel15)
          have Sb := Lib.hid ((Sb.out.up _).below bel15)
          have H15 := Lib.hid (show w.heap.size ≤ (w14.alloc (.cells #[.int .u64 5] 50)).heap.size from Nat.le_trans BB.out.size (by simp))
          have Z15 := Lib.hid bel15.size
          have BB := Lib.hid (bel_next (bel_up BB.out _) bel15)
          clear own15 bel15
          subst hvo
          go_wp2_with ((at_builtin; refine app1 (v := .slice Ao 8 co) leElU8 _ _ rfl rfl rfl rfl O15.out (by rw [L4.out]; decide) (by rw [L4.out]; decide) Z15.out ?_; intro v16 w16 own16 bel16; have O16 := Lib.hid own16; have S1 := Lib.hid ((S1.out.below bel16).more (Nat.le_trans Z15.out bel16.size)); have Sb := Lib.hid ((Sb.out.below bel16).more (Nat.le_trans Z15.out bel16.size)); have BB := Lib.hid (BB.out.trans (bel16.mono H15.out)); clear own16 bel16 O15))
          obtain ⟨Ap, cp, rfl, hcp, hmp, sl16⟩ := O16.out.sln (n := 9) (by rw [List.length_append, L4.out]; rfl)
          have Sp := Lib.hid sl16
          clear O16 sl16
          go_wp2_with fail
          refine (skRead_v (skW [5] ++ [9]) [5] _ (by rw [List.length_append, L4.out]; rfl) hcp hmp (u8_append (skW_u8 _) (by unfold U8; decide)) Sp.out F4.out.1 F4.out.2).mono ?_
          rintro e w17 ⟨v17, rfl, own17, bel17⟩
          obtain ⟨Aq, cq, rfl, _, _, sl17⟩ := own17.sl
          have Sq := Lib.hid sl17
          have S1 := Lib.hid (S1.out.next bel17)
          have Sb := Lib.hid (Sb.out.next bel17)
          have Sp := Lib.hid (Sp.out.next bel17)
          have BB := Lib.hid (bel_next BB.out bel17)
          clear own17 bel17 sl17
          clear Sp
          go_wp2_with fail
          refine (skFind_v [5, 6] (-1) _ rfl (by decide) (by unfold I64; decide) (Sl.lit' w17 .i64 _ [5, 6] rfl) (by decide) (show fdE [5, 6] (-1) = 2 from by decide +kernel) (show fdV [5, 6] (-1) = 0 from by decide +kernel)).mono ?_
          rintro e w' ⟨rfl, rfl⟩
          go_wp2_with fail
          refine (skFind_v [5, 6] 11 _ rfl (by decide) (by unfold I64; decide) (Sl.litAt (w17.alloc (.cells #[.int .i64 5, .int .i64 6] 3)) .i64 3 [5, 6] (cs := #[.int .i64 5, .int .i64 6]) rfl (g := w17.heap.size + 1) (by simp)) (by decide) (show fdE [5, 6] 11 = 2 from by decide +kernel) (show fdV [5, 6] 11 = 0 from by decide +kernel)).mono ?_
          rintro e w' ⟨rfl, rfl⟩
          go_wp2_with fail
          refine (skFind_v [5, 6] 9223372036854775807 _ rfl (by decide) (by unfold I64; decide) (Sl.litAt ((w17.alloc (.cells #[.int .i64 5, .int .i64 6] 3)).alloc (.cells #[.int .i64 5, .int .i64 6] 3)) .i64 3 [5, 6] (cs := #[.int .i64 5, .int .i64 6]) rfl (g := w17.heap.size + 1 + 1) (by simp)) (by decide) (show fdE [5, 6] 9223372036854775807 = 2 from by decide +kernel) (show fdV [5, 6] 9223372036854775807 = 0 from by decide +kernel)).mono ?_
          rintro e w' ⟨rfl, rfl⟩
          have S1 := Lib.hid (((S1.out.up (.cells #[.int .i64 5, .int .i64 6] 3)).up (.cells #[.int .i64 5, .int .i64 6] 3)).up (.cells #[.int .i64 5, .int .i64 6] 3))
          have Sb := Lib.hid (((Sb.out.up (.cells #[.int .i64 5, .int .i64 6] 3)).up (.cells #[.int .i64 5, .int .i64 6] 3)).up (.cells #[.int .i64 5, .int .i64 6] 3))
          have Sq := Lib.hid (((Sq.out.up (.cells #[.int .i64 5, .int .i64 6] 3)).up (.cells #[.int .i64 5, .int .i64 6] 3)).up (.cells #[.int .i64 5, .int .i64 6] 3))
          have BB := Lib.hid (bel_up (bel_up (bel_up BB.out (.cells #[.int .i64 5, .int .i64 6] 3)) (.cells #[.int .i64 5, .int .i64 6] 3)) (.cells #[.int .i64 5, .int .i64 6] 3))
          generalize hW3 : ((w17.alloc (.cells #[.int .i64 5, .int .i64 6] 3)).alloc (.cells #[.int .i64 5, .int .i64 6] 3)).alloc (.cells #[.int .i64 5, .int .i64 6] 3) = W3 at *
          clear hW3
          go_wp2_with fail
          refine (alive_any W3).mono ?_
          rintro e w18 ⟨rfl, bel18⟩
          have S1 := Lib.hid (S1.out.next bel18)
          have Sb := Lib.hid (Sb.out.next bel18)
          have Sq := Lib.hid (Sq.out.next bel18)
          have BB := Lib.hid (bel_next BB.out bel18)
          clear bel18
          go_wp2_with fail
          refine (sameI Ab _ 1000 1000 cb 1001 (many 1000) _ (many_len _) (many_len _) (by rw [many_len]; decide) Sb.out S1.out).mono ?_
          rintro e w19 ⟨rfl, bel19⟩
          have S1 := Lib.hid (S1.out.next bel19)
          have Sb := Lib.hid (Sb.out.next bel19)
          have Sq := Lib.hid (Sq.out.next bel19)
          have BB := Lib.hid (bel_next BB.out bel19)
          clear bel19
          go_wp2_with fail
          refine (sameI Aq _ 1 1 cq 1 [5] _ rfl rfl (by decide) (Sq.out.up _) (Sl.lit' w19 .i64 _ [5] rfl)).mono ?_
          rintro e w20 ⟨rfl, bel20⟩
          have S1 := Lib.hid ((S1.out.up _).next bel20)
          have Sb := Lib.hid ((Sb.out.up _).next bel20)
          have Sq := Lib.hid ((Sq.out.up _).next bel20)
          have BB := Lib.hid (bel_next (bel_up BB.out _) bel20)
          clear bel20
          go_wp2_with fail
          refine (found_yes _ 2 2 [5, 6] 10 1 _ rfl (by decide) (by unfold I64; decide) (Sl.lit' w20 .i64 3 [5, 6] (cs := #[.int .i64 5, .int .i64 6]) rfl) (by decide) (show fdE [5, 6] 10 = 0 from by decide +kernel) (show fdV [5, 6] 10 = 1 from by decide +kernel)).mono ?_
          rintro e w' ⟨rfl, rfl⟩
          go_wp2_with fail
          refine (found_yes _ 1 1 [100000] 99999 0 _ rfl (by decide) (by unfold I64; decide) (Sl.litAt (w20.alloc (.cells #[.int .i64 5, .int .i64 6] 3)) .i64 3 [100000] (cs := #[.int .i64 100000]) rfl (g := w20.heap.size + 1) (by simp)) (by decide) (show fdE [100000] 99999 = 0 from by decide +kernel) (show fdV [100000] 99999 = 0 from by decide +kernel)).mono ?_
          rintro e w' ⟨rfl, rfl⟩
          have BB := Lib.hid (bel_up (bel_up BB.out (.cells #[.int .i64 5, .int .i64 6] 3)) (.cells #[.int .i64 100000] 3))
          go_wp2_with fail
          go_ret
          exact ⟨rfl, BB.out⟩
end Go.Proofs.Ytdhiiknjdkmjjaa

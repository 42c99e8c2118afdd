/-
  What the functions of package header compute. Conditions: numbers within their types.
-/
import Derived.Test.YtgfibgnolmogkaaDoorHdShape
namespace Go.Proofs.YtgfibgnolmogkaaDoor
open Go.RowKit
set_option linter.unusedVariables false

set_option maxRecDepth 100000 in
set_option maxHeartbeats 1000000 in
theorem fits_any (f c b r n : Int) (w : World) (hc0 : 1 ≤ c) (hc1 : c ≤ 6) (hr0 : 1 ≤ r) (hr1 : r ≤ 1048576) (hn0 : 1 ≤ n) (hn1 : n ≤ 9223372036854775807) :
    Calls Tryd.prog 30 #[.agg #[.int .i64 f, .int .i64 c, .int .i64 b, .int .i64 r, .int .i64 n]] w fun e w' => e = .returned (.bool (hdF c r n)) ∧ Below w.heap.size w w' := by
  have q0 : 0 ≤ (4000 : Int) / c := Int.ediv_nonneg (by decide) (by omega)
  have q1 : (4000 : Int) / c ≤ 4000 := Int.ediv_le_self _ (by decide)
  have c0 : (c == 0) = false := by simp; omega
  by_cases hq : 4000 / c < n
  · have E := Lib.hid (show hdF c r n = false from decide_eq_false (by omega))
    go_enter Tryd.func30, Tryd.ntmps30
    go_wp2_with fail
    go_quiet (fail)
    go_wp2_with fail
    go_ret
    exact ⟨by rw [E.out]; rfl, below_drewN (bel_up (bel_self w) _) _⟩
  · have CN := Lib.hid (fun W => count_any r n W (by omega) (by omega) (by omega) hn1)
    have E := Lib.hid (show hdF c r n = (cnE r n == 0) by
      unfold hdF
      by_cases h : cnE r n = 0
      · rw [h]; exact decide_eq_true ⟨by omega, rfl⟩
      · rw [show (cnE r n == 0) = false by simp; exact h]; exact decide_eq_false (fun h' => h h'.2))
    have V := Lib.hid (show cnE r n = 0 → cnV r n ≤ 1000 from fun h => by have := cnE_ok h; omega)
    by_cases h0 : cnE r n = 0
    · have V2 := V.out h0
      rw [h0] at CN E
      clear V h0
      generalize cnV r n = v at *
      go_enter Tryd.func30, Tryd.ntmps30
      go_wp2_with fail
      go_quiet (fail)
      go_wp2_with fail
      refine (CN.out _).mono ?_
      rintro e w' ⟨rfl, rfl⟩
      have d : decide (v ≤ 1000) = true := by simp; exact V2
      go_wp2_with fail
      go_ret
      exact ⟨by rw [E.out]; rfl, below_drewN (bel_up (bel_self w) _) _⟩
    · have e1 : (cnE r n == 0) = false := by simp; exact h0
      rw [e1] at E
      clear V h0
      generalize cnV r n = v at *
      generalize cnE r n = q at *
      go_enter Tryd.func30, Tryd.ntmps30
      go_wp2_with fail
      go_quiet (fail)
      go_wp2_with fail
      refine (CN.out _).mono ?_
      rintro e w' ⟨rfl, rfl⟩
      go_wp2_with fail
      go_ret
      exact ⟨by rw [E.out]; rfl, below_drewN (bel_up (bel_self w) _) _⟩

set_option maxRecDepth 100000 in
set_option maxHeartbeats 1000000 in
theorem hdCheck (f c b r n : Int) (w : World) (hn1 : n ≤ 9223372036854775807) :
    Calls Tryd.prog 11 #[.agg #[.int .i64 f, .int .i64 c, .int .i64 b, .int .i64 r, .int .i64 n]] w fun e w' => e = .returned (.int .i64 (hdE f c b r n)) ∧ Below w.heap.size w w' := by
  have SH := Lib.hid (fun W => shaped_any f c b r n W)
  have FT := Lib.hid (fun W (h : hdS f c b r n = true) => fits_any f c b r n W (hdS_ok h).2.2.1 (hdS_ok h).2.2.2.1 (hdS_ok h).2.2.2.2.1 (hdS_ok h).2.2.2.2.2.1 (hdS_ok h).2.2.2.2.2.2 hn1)
  go_enter Tryd.func11, Tryd.ntmps11
  go_wp2_with fail
  refine (SH.out _).mono ?_
  rintro e w1 ⟨rfl, bel1⟩
  have BB := Lib.hid (bel_next (bel_up (bel_self w) _) bel1)
  have hb := bcell5 bel1 w.heap.size
  rcases hdE_cases f c b r n with ⟨h1, h2, h3⟩ | ⟨h1, h2, h3⟩ | ⟨h1, h2⟩
  · have c0 := (hb 0 (by simp))
    have c1 := (hb 1 (by simp))
    have c2 := (hb 2 (by simp))
    have c3 := (hb 3 (by simp))
    have c4 := (hb 4 (by simp))
    have F := Lib.hid (fun W => FT.out W h2)
    rw [h3] at F
    have E := Lib.hid h1
    simp only [h2]
    clear hb bel1 h1 h3 SH FT h2
    go_wp2_with fail
    refine (F.out _).mono ?_
    rintro e w2 ⟨rfl, bel2⟩
    have BB := Lib.hid (bel_next BB.out bel2)
    clear bel2
    go_wp2_with fail
    go_ret
    exact ⟨by rw [E.out]; rfl, BB.out⟩
  · have c0 := (hb 0 (by simp))
    have c1 := (hb 1 (by simp))
    have c2 := (hb 2 (by simp))
    have c3 := (hb 3 (by simp))
    have c4 := (hb 4 (by simp))
    have F := Lib.hid (fun W => FT.out W h2)
    rw [h3] at F
    have E := Lib.hid h1
    simp only [h2]
    clear hb bel1 h1 h3 SH FT h2
    go_wp2_with fail
    refine (F.out _).mono ?_
    rintro e w2 ⟨rfl, bel2⟩
    have BB := Lib.hid (bel_next BB.out bel2)
    clear bel2
    go_wp2_with fail
    go_ret
    exact ⟨by rw [E.out]; rfl, BB.out⟩
  · have E := Lib.hid h1
    simp only [h2]
    clear hb bel1 h1 SH FT h2
    go_wp2_with fail
    go_ret
    exact ⟨by rw [E.out]; rfl, BB.out⟩

/-- the cells of a struct's variable of five numbers, in a later world -/
theorem cells5 {W w1 : World} {T : TypeId} {f c b r n : Int} (hb : Below (W.alloc (.cells #[.int .i64 f, .int .i64 c, .int .i64 b, .int .i64 r, .int .i64 n] T)).heap.size (W.alloc (.cells #[.int .i64 f, .int .i64 c, .int .i64 b, .int .i64 r, .int .i64 n] T)) w1) :
    w1.cell? ⟨W.heap.size, 0, none⟩ = some (.int .i64 f) ∧ w1.cell? ⟨W.heap.size, 1, none⟩ = some (.int .i64 c) ∧ w1.cell? ⟨W.heap.size, 2, none⟩ = some (.int .i64 b) ∧ w1.cell? ⟨W.heap.size, 3, none⟩ = some (.int .i64 r) ∧ w1.cell? ⟨W.heap.size, 4, none⟩ = some (.int .i64 n) := by
  have h := fun i => (hb.cell (p := ⟨W.heap.size, i, none⟩) (by simp)).trans (cell_of_row _ _ i _ _ (0, 0) (heap_alloc_new W _))
  exact ⟨h 0, h 1, h 2, h 3, h 4⟩

theorem hdL_bad {f c b r n : Int} (h : hdE f c b r n ≠ 0) : hdL f c b r n = [] := by unfold hdL; rw [if_neg h]
theorem hdL_ok {f c b r n : Int} (h : hdE f c b r n = 0) : hdL f c b r n = alR r n := by unfold hdL; rw [if_pos h, alR_ok (hdE_ok h).2.2.2.2.2.2.2.2]

set_option maxRecDepth 100000 in
set_option maxHeartbeats 1000000 in
theorem hdFrames (f c b r n : Int) (w : World) (hn1 : n ≤ 9223372036854775807) :
    Calls Tryd.prog 10 #[.agg #[.int .i64 f, .int .i64 c, .int .i64 b, .int .i64 r, .int .i64 n]] w fun e w' =>
      ∃ v, e = .returned (.tuple #[v, .int .i64 (hdE f c b r n)]) ∧ Own w' w.heap.size 3 .i64 v (hdL f c b r n) ∧ Below w.heap.size w w' := by
  have CK := Lib.hid (fun W => hdCheck f c b r n W hn1)
  by_cases h0 : hdE f c b r n = 0
  · obtain ⟨_, _, _, _, h5, h6, h7, h8, h9⟩ := hdE_ok h0
    have AL := Lib.hid (fun W => all_any r n W (by omega) (by omega) (by omega) hn1)
    have R := Lib.hid (hdL_ok h0)
    rw [h0] at CK ⊢
    rw [h9] at AL
    clear h0 h9
    go_enter Tryd.func10, Tryd.ntmps10
    go_wp2_with fail
    refine (CK.out _).mono ?_
    rintro e w1 ⟨rfl, bel1⟩
    obtain ⟨c0, c1, c2, c3, c4⟩ := cells5 bel1
    have BB := Lib.hid (bel_next (bel_up (bel_self w) _) bel1)
    clear bel1
    go_wp2_with fail
    refine (AL.out _).mono ?_
    rintro e w2 ⟨v, rfl, own2, bel2⟩
    have O := Lib.hid (own2.rebase (base' := w.heap.size) BB.out.size)
    have BB := Lib.hid (bel_next BB.out bel2)
    clear own2 bel2 c0 c1 c2 c3 c4
    go_wp2_with fail
    go_ret2
    exact ⟨_, rfl, by rw [R.out]; exact O.out, BB.out⟩
  · have R := Lib.hid (hdL_bad h0)
    have e1 : (hdE f c b r n != 0) = true := by simp; exact h0
    generalize hdE f c b r n = E at *
    clear h0
    go_enter Tryd.func10, Tryd.ntmps10
    go_wp2_with fail
    refine (CK.out _).mono ?_
    rintro e w1 ⟨rfl, bel1⟩
    have BB := Lib.hid (bel_next (bel_up (bel_self w) _) bel1)
    clear bel1
    go_wp2_with fail
    go_ret2
    exact ⟨_, rfl, by rw [R.out]; exact own_nil5 _ _ _ _, BB.out⟩
end Go.Proofs.YtgfibgnolmogkaaDoor

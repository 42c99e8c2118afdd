/-
  What Check of the reference of layer 24 computes; Large of the reference of layer 25. Conditions: numbers within their types; the samples lie below.
-/
import Derived.Test.YtgfibgnolmogkaaDoorRef24
import Derived.Test.YtgfibgnolmogkaaDoorSince
namespace Go.Proofs.YtgfibgnolmogkaaDoor
open Go.RowKit
set_option linter.unusedVariables false

theorem asE_bad {ch b r : Int} {xs : List Int} (h : asE ch b xs ≠ 0) : clE ch b r xs = 8 := by
  have key : ecE b ch ≠ 0 ∨ ckE b xs ≠ 0 ∨ xs.length < 1 ∨ (xs.length : Int) % ch ≠ 0 := by
    unfold asE at h
    by_cases h1 : ecE b ch ≠ 0
    · exact .inl h1
    · by_cases h2 : ckE b xs ≠ 0
      · exact .inr (.inl h2)
      · rw [if_neg h1, if_neg h2] at h
        by_cases h3 : xs.length < 1 ∨ (xs.length : Int) % ch ≠ 0
        · exact .inr (.inr h3)
        · rw [if_neg h3] at h; exact absurd rfl h
  refine if_pos ?_
  by_cases hc : ch < 1
  · exact .inl hc
  · rcases key with h1 | h1 | h1 | h1
    · refine .inr (.inr (.inl ?_)); unfold heE; rw [if_pos (.inl h1)]; decide
    · exact .inr (.inr (.inr h1))
    · refine .inr (.inr (.inl ?_))
      have h0 : (xs.length : Int) = 0 := by omega
      unfold heE; rw [if_pos (.inr (.inl (by rw [h0, Int.zero_ediv]; decide)))]; decide
    · exact .inr (.inl h1)
theorem asE_ok {ch b r : Int} {xs : List Int} (h : asE ch b xs = 0) : 1 ≤ ch ∧ clE ch b r xs = if (heE ch b r ((xs.length : Int) / ch) == 0) = true then 0 else 8 := by
  unfold asE at h
  by_cases h1 : ecE b ch ≠ 0
  · rw [if_pos h1] at h; omega
  · by_cases h2 : ckE b xs ≠ 0
    · rw [if_neg h1, if_pos h2] at h; omega
    · rw [if_neg h1, if_neg h2] at h
      by_cases h3 : xs.length < 1 ∨ (xs.length : Int) % ch ≠ 0
      · rw [if_pos h3] at h; omega
      · obtain ⟨_, g1, g2⟩ := ecE_ok (by simpa using h1)
        refine ⟨g1, ?_⟩
        unfold clE
        by_cases h4 : heE ch b r ((xs.length : Int) / ch) = 0
        · rw [if_neg (by omega), h4]; rfl
        · rw [if_pos (by omega), if_neg (by simpa using h4)]

set_option maxRecDepth 100000 in
set_option maxHeartbeats 2000000 in
theorem re24Check (ch b r : Int) (A : Option Addr) (l c : Nat) (xs : List Int) (w : World) (hn : xs.length = l) (hm : l ≤ 9223372036854775807) (hx : I32 xs) (hs : Sl w w.heap.size .i32 A xs)
    (hc0 : -9223372036854775808 ≤ ch) (hc1 : ch ≤ 9223372036854775807) (hb0 : -9223372036854775808 ≤ b) (hb1 : b ≤ 9223372036854775807) (hr0 : -9223372036854775808 ≤ r) (hr1 : r ≤ 9223372036854775807) :
    Calls Tryd.prog 19 #[.agg #[.int .i64 ch, .int .i64 b, .int .i64 r, .slice A l c]] w fun e w' => e = .returned (.int .i64 (clE ch b r xs)) ∧ Below w.heap.size w w' := by
  subst hn
  have CS := Lib.hid (fun W => re24Shape ch b r A xs.length c W)
  have CA := Lib.hid (fun W hq => re20Asked ch b A xs.length c xs W rfl hm hx hq hb0 hb1)
  have BK := Lib.hid (BlkH.new w 40 #[.int .i64 ch, .int .i64 b, .int .i64 r, .slice A xs.length c])
  have BB := Lib.hid (bel_up (bel_self w) (.cells #[.int .i64 ch, .int .i64 b, .int .i64 r, .slice A xs.length c] 40))
  have SX := Lib.hid (hs.up (.cells #[.int .i64 ch, .int .i64 b, .int .i64 r, .slice A xs.length c] 40))
  clear hs hx
  by_cases h1 : asE ch b xs = 0
  · obtain ⟨g1, E⟩ := asE_ok (r := r) h1
    obtain ⟨q0, q1, q2⟩ := i64_div (ch := ch) (Int.natCast_nonneg xs.length) (by omega) g1
    have CH := Lib.hid (fun W => re24Head ch b r A xs.length c ((xs.length : Int) / ch) W hb0 hb1 hr0 hr1 q0 q1)
    have cz : (ch == 0) = false := by simp; omega
    have cz2 : ¬ ch = 0 := by omega
    have wq : IntKind.i64.wrap ((xs.length : Int) / ch) = (xs.length : Int) / ch := IntWalk.i64_in _ (by omega)
    have E := Lib.hid E
    rw [h1] at CA
    clear h1
    have Eh : (heE ch b r ((xs.length : Int) / ch) == 0) = true ∨ (heE ch b r ((xs.length : Int) / ch) == 0) = false := by
      cases (heE ch b r ((xs.length : Int) / ch) == 0) <;> simp
    generalize (heE ch b r ((xs.length : Int) / ch) == 0) = hb at *
    go_enter Tryd.func19, Tryd.ntmps19
    go_wp2_with fail
    generalize w.alloc (.cells #[.int .i64 ch, .int .i64 b, .int .i64 r, .slice A xs.length c] 40) = w0 at *
    rcases Eh with rfl | rfl
    · have E := Lib.hid (show clE ch b r xs = 0 by have := E.out; simpa using this)
      refine wp_region_since (by kernel_rfl) (by kernel_rfl) ?_
      refine qb_val (o := ⟨some 3, _, _, _, _, _⟩) (by go_simp) (fun W hW => (by have k := BK.out.next hW; have k0 := k.cell 0; have k1 := k.cell 1; have k2 := k.cell 2; have k3 := k.cell 3; go_simp <;> rfl)) (by go_simp <;> rfl) ?_
      refine qb_call (o := ⟨some 4, _, _, _, _, _⟩) (by go_simp) (fun W => by go_simp <;> rfl) (fun W hW => CS.out W) (by go_simp <;> rfl) ?_
      refine qb_val (o := ⟨some 5, _, _, _, _, _⟩) (by go_simp) (fun W hW => (by go_simp <;> rfl)) (by go_simp <;> rfl) ?_
      refine qb_val (o := ⟨some 6, _, _, _, _, _⟩) (by go_simp) (fun W hW => (by have k := BK.out.next hW; have k3 := k.cell 3; go_simp <;> rfl)) (by go_simp <;> rfl) ?_
      refine qb_call (o := ⟨some 7, _, _, _, _, _⟩) (by go_simp) (fun W => by go_simp <;> rfl) (fun W hW => CA.out W (SX.out.next hW)) (by go_simp <;> rfl) ?_
      refine qb_val (o := ⟨some 8, _, _, _, _, _⟩) (v := .bool false) (by go_simp) (fun W hW => (by go_simp <;> rfl)) (by go_simp <;> rfl) ?_
      refine qb_val (o := ⟨some 9, _, _, _, _, _⟩) (by go_simp) (fun W hW => (by go_simp <;> rfl)) (by go_simp <;> rfl) ?_
      refine qb_val (o := ⟨some 10, _, _, _, _, _⟩) (by go_simp) (fun W hW => (by have k := BK.out.next hW; have k0 := k.cell 0; have k1 := k.cell 1; have k2 := k.cell 2; have k3 := k.cell 3; go_simp <;> rfl)) (by go_simp <;> rfl) ?_
      refine qb_val (o := ⟨some 11, _, _, _, _, _⟩) (by go_simp) (fun W hW => (by go_simp <;> rfl)) (by go_simp <;> rfl) ?_
      refine qb_val (o := ⟨some 12, _, _, _, _, _⟩) (by go_simp) (fun W hW => (by have k := BK.out.next hW; have k3 := k.cell 3; go_simp <;> rfl)) (by go_simp <;> rfl) ?_
      refine qb_val (o := ⟨some 13, _, _, _, _, _⟩) (by go_simp) (fun W hW => (by go_simp <;> rfl)) (by go_simp <;> rfl) ?_
      refine qb_val (o := ⟨some 14, _, _, _, _, _⟩) (by go_simp) (fun W hW => (by go_simp <;> rfl)) (by go_simp <;> rfl) ?_
      refine qb_val (o := ⟨some 15, _, _, _, _, _⟩) (by go_simp) (fun W hW => (by have k := BK.out.next hW; have k0 := k.cell 0; go_simp <;> rfl)) (by go_simp <;> rfl) ?_
      refine qb_val (o := ⟨some 16, _, _, _, _, _⟩) (v := .int .i64 ((xs.length : Int) / ch)) (by go_simp) (fun W hW => (by go_simp <;> omega)) (by go_simp <;> rfl) ?_
      refine qb_call (o := ⟨some 17, _, _, _, _, _⟩) (by go_simp) (fun W => by go_simp <;> rfl) (fun W hW => CH.out W) (by go_simp <;> rfl) ?_
      refine qb_val (o := ⟨some 18, _, _, _, _, _⟩) (by go_simp) (fun W hW => (by go_simp <;> rfl)) (by go_simp <;> rfl) ?_
      refine qb_val (o := ⟨some 19, _, _, _, _, _⟩) (by go_simp) (fun W hW => (by go_simp <;> rfl)) (by go_simp <;> rfl) ?_
      refine wpQuiet_nil ?_
      intro w1 bel1
      have bel1 : Below w0.heap.size w0 w1 := bel1
      have BK := Lib.hid (BK.out.next bel1)
      have SX := Lib.hid (SX.out.next bel1)
      have BB := Lib.hid (bel_next BB.out bel1)
      clear bel1
      go_wp2_with fail
      go_ret
      exact ⟨by first | rfl | (rw [E.out]; rfl), BB.out⟩
    · have E := Lib.hid (show clE ch b r xs = 8 by have := E.out; simpa using this)
      refine wp_region_since (by kernel_rfl) (by kernel_rfl) ?_
      refine qb_val (o := ⟨some 3, _, _, _, _, _⟩) (by go_simp) (fun W hW => (by have k := BK.out.next hW; have k0 := k.cell 0; have k1 := k.cell 1; have k2 := k.cell 2; have k3 := k.cell 3; go_simp <;> rfl)) (by go_simp <;> rfl) ?_
      refine qb_call (o := ⟨some 4, _, _, _, _, _⟩) (by go_simp) (fun W => by go_simp <;> rfl) (fun W hW => CS.out W) (by go_simp <;> rfl) ?_
      refine qb_val (o := ⟨some 5, _, _, _, _, _⟩) (by go_simp) (fun W hW => (by go_simp <;> rfl)) (by go_simp <;> rfl) ?_
      refine qb_val (o := ⟨some 6, _, _, _, _, _⟩) (by go_simp) (fun W hW => (by have k := BK.out.next hW; have k3 := k.cell 3; go_simp <;> rfl)) (by go_simp <;> rfl) ?_
      refine qb_call (o := ⟨some 7, _, _, _, _, _⟩) (by go_simp) (fun W => by go_simp <;> rfl) (fun W hW => CA.out W (SX.out.next hW)) (by go_simp <;> rfl) ?_
      refine qb_val (o := ⟨some 8, _, _, _, _, _⟩) (v := .bool false) (by go_simp) (fun W hW => (by go_simp <;> rfl)) (by go_simp <;> rfl) ?_
      refine qb_val (o := ⟨some 9, _, _, _, _, _⟩) (by go_simp) (fun W hW => (by go_simp <;> rfl)) (by go_simp <;> rfl) ?_
      refine qb_val (o := ⟨some 10, _, _, _, _, _⟩) (by go_simp) (fun W hW => (by have k := BK.out.next hW; have k0 := k.cell 0; have k1 := k.cell 1; have k2 := k.cell 2; have k3 := k.cell 3; go_simp <;> rfl)) (by go_simp <;> rfl) ?_
      refine qb_val (o := ⟨some 11, _, _, _, _, _⟩) (by go_simp) (fun W hW => (by go_simp <;> rfl)) (by go_simp <;> rfl) ?_
      refine qb_val (o := ⟨some 12, _, _, _, _, _⟩) (by go_simp) (fun W hW => (by have k := BK.out.next hW; have k3 := k.cell 3; go_simp <;> rfl)) (by go_simp <;> rfl) ?_
      refine qb_val (o := ⟨some 13, _, _, _, _, _⟩) (by go_simp) (fun W hW => (by go_simp <;> rfl)) (by go_simp <;> rfl) ?_
      refine qb_val (o := ⟨some 14, _, _, _, _, _⟩) (by go_simp) (fun W hW => (by go_simp <;> rfl)) (by go_simp <;> rfl) ?_
      refine qb_val (o := ⟨some 15, _, _, _, _, _⟩) (by go_simp) (fun W hW => (by have k := BK.out.next hW; have k0 := k.cell 0; go_simp <;> rfl)) (by go_simp <;> rfl) ?_
      refine qb_val (o := ⟨some 16, _, _, _, _, _⟩) (v := .int .i64 ((xs.length : Int) / ch)) (by go_simp) (fun W hW => (by go_simp <;> omega)) (by go_simp <;> rfl) ?_
      refine qb_call (o := ⟨some 17, _, _, _, _, _⟩) (by go_simp) (fun W => by go_simp <;> rfl) (fun W hW => CH.out W) (by go_simp <;> rfl) ?_
      refine qb_val (o := ⟨some 18, _, _, _, _, _⟩) (by go_simp) (fun W hW => (by go_simp <;> rfl)) (by go_simp <;> rfl) ?_
      refine qb_val (o := ⟨some 19, _, _, _, _, _⟩) (by go_simp) (fun W hW => (by go_simp <;> rfl)) (by go_simp <;> rfl) ?_
      refine wpQuiet_nil ?_
      intro w1 bel1
      have bel1 : Below w0.heap.size w0 w1 := bel1
      have BK := Lib.hid (BK.out.next bel1)
      have SX := Lib.hid (SX.out.next bel1)
      have BB := Lib.hid (bel_next BB.out bel1)
      clear bel1
      go_wp2_with fail
      go_ret
      exact ⟨by first | rfl | (rw [E.out]; rfl), BB.out⟩
  · have E := Lib.hid (asE_bad (r := r) h1)
    have h1' : (asE ch b xs != 0) = true := by simp; exact h1
    generalize asE ch b xs = ae at *
    clear h1
    go_enter Tryd.func19, Tryd.ntmps19
    go_wp2_with fail
    generalize w.alloc (.cells #[.int .i64 ch, .int .i64 b, .int .i64 r, .slice A xs.length c] 40) = w0 at *
    refine wp_region_since (by kernel_rfl) (by kernel_rfl) ?_
    refine qb_val (o := ⟨some 3, _, _, _, _, _⟩) (by go_simp) (fun W hW => (by have k := BK.out.next hW; have k0 := k.cell 0; have k1 := k.cell 1; have k2 := k.cell 2; have k3 := k.cell 3; go_simp <;> rfl)) (by go_simp <;> rfl) ?_
    refine qb_call (o := ⟨some 4, _, _, _, _, _⟩) (by go_simp) (fun W => by go_simp <;> rfl) (fun W hW => CS.out W) (by go_simp <;> rfl) ?_
    refine qb_val (o := ⟨some 5, _, _, _, _, _⟩) (by go_simp) (fun W hW => (by go_simp <;> rfl)) (by go_simp <;> rfl) ?_
    refine qb_val (o := ⟨some 6, _, _, _, _, _⟩) (by go_simp) (fun W hW => (by have k := BK.out.next hW; have k3 := k.cell 3; go_simp <;> rfl)) (by go_simp <;> rfl) ?_
    refine qb_call (o := ⟨some 7, _, _, _, _, _⟩) (by go_simp) (fun W => by go_simp <;> rfl) (fun W hW => CA.out W (SX.out.next hW)) (by go_simp <;> rfl) ?_
    refine qb_val (o := ⟨some 8, _, _, _, _, _⟩) (v := .bool true) (by go_simp) (fun W hW => (by go_simp <;> rfl)) (by go_simp <;> rfl) ?_
    refine qb_val (o := ⟨some 9, _, _, _, _, _⟩) (by go_simp) (fun W hW => (by go_simp <;> rfl)) (by go_simp <;> rfl) ?_
    with_reducible refine qb_skipE ?_ ?_ ?_
    next => kernel_rfl
    next => kernel_rfl
    with_reducible refine qb_skipE ?_ ?_ ?_
    next => kernel_rfl
    next => kernel_rfl
    with_reducible refine qb_skipE ?_ ?_ ?_
    next => kernel_rfl
    next => kernel_rfl
    with_reducible refine qb_skipE ?_ ?_ ?_
    next => kernel_rfl
    next => kernel_rfl
    with_reducible refine qb_skipE ?_ ?_ ?_
    next => kernel_rfl
    next => kernel_rfl
    with_reducible refine qb_skipE ?_ ?_ ?_
    next => kernel_rfl
    next => kernel_rfl
    with_reducible refine qb_skipE ?_ ?_ ?_
    next => kernel_rfl
    next => kernel_rfl
    with_reducible refine qb_skipE ?_ ?_ ?_
    next => kernel_rfl
    next => kernel_rfl
    with_reducible refine qb_skipE ?_ ?_ ?_
    next => kernel_rfl
    next => kernel_rfl
    refine qb_val (o := ⟨some 19, _, _, _, _, _⟩) (by go_simp) (fun W hW => (by go_simp <;> rfl)) (by go_simp <;> rfl) ?_
    refine wpQuiet_nil ?_
    intro w1 bel1
    have bel1 : Below w0.heap.size w0 w1 := bel1
    have BK := Lib.hid (BK.out.next bel1)
    have SX := Lib.hid (SX.out.next bel1)
    have BB := Lib.hid (bel_next BB.out bel1)
    clear bel1
    go_wp2_with fail
    go_ret
    exact ⟨by first | rfl | (rw [E.out]; rfl), BB.out⟩

set_option maxRecDepth 100000 in
set_option maxHeartbeats 1000000 in
theorem re25Large (v : Bool) (ch b r : Int) (A : Option Addr) (l c : Nat) (w : World) (hv : decide ((300 < l ∧ l ≤ 4000) ∨ 4010 < l) = v) :
    Calls Tryd.prog 24 #[.agg #[.int .i64 ch, .int .i64 b, .int .i64 r, .slice A l c]] w fun e w' => e = .returned (.bool v) ∧ Below w.heap.size w w' := by
  have BB := Lib.hid (bel_up (bel_self w) (.cells #[.int .i64 ch, .int .i64 b, .int .i64 r, .slice A l c] 40))
  by_cases h1 : 300 < l
  · have h1' : (300 : Int) < (l : Int) := by omega
    by_cases h2 : l ≤ 4000
    · obtain rfl : v = true := by rw [← hv]; exact decide_eq_true (by omega)
      have h2' : (l : Int) ≤ 4000 := by omega
      clear hv
      go_enter Tryd.func24, Tryd.ntmps24
      go_wp2_with fail
      go_ret
      exact ⟨rfl, BB.out⟩
    · have h2' : ¬ (l : Int) ≤ 4000 := by omega
      by_cases h3 : 4010 < l
      · obtain rfl : v = true := by rw [← hv]; exact decide_eq_true (by omega)
        have h3' : (4010 : Int) < (l : Int) := by omega
        clear hv
        go_enter Tryd.func24, Tryd.ntmps24
        go_wp2_with fail
        go_ret
        exact ⟨rfl, BB.out⟩
      · obtain rfl : v = false := by rw [← hv]; exact decide_eq_false (by omega)
        have h3' : ¬ (4010 : Int) < (l : Int) := by omega
        clear hv
        go_enter Tryd.func24, Tryd.ntmps24
        go_wp2_with fail
        go_ret
        exact ⟨rfl, BB.out⟩
  · have h1' : ¬ (300 : Int) < (l : Int) := by omega
    obtain rfl : v = false := by rw [← hv]; exact decide_eq_false (by omega)
    have h3' : ¬ (4010 : Int) < (l : Int) := by omega
    clear hv
    go_enter Tryd.func24, Tryd.ntmps24
    go_wp2_with fail
    go_ret
    exact ⟨rfl, BB.out⟩
end Go.Proofs.YtgfibgnolmogkaaDoor

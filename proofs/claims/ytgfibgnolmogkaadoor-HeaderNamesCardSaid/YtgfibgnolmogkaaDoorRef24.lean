/-
  What Check of the reference of layer 24 computes, and what it calls; Large of the reference of layer 25. Conditions: numbers within their types; the samples lie below.
-/
import Derived.Test.YtgfibgnolmogkaaDoorRef18A
import Derived.Test.YtgfibgnolmogkaaDoorRef22C
import Derived.Test.YtgfibgnolmogkaaDoorClip
namespace Go.Proofs.YtgfibgnolmogkaaDoor
open Go.RowKit
set_option linter.unusedVariables false

set_option maxRecDepth 100000 in
set_option maxHeartbeats 1000000 in
theorem re20Check (ch b : Int) (w : World) (hb0 : -9223372036854775808 ≤ b) (hb1 : b ≤ 9223372036854775807) :
    Calls Tryd.prog 52 #[.agg #[.int .i64 ch, .int .i64 b]] w fun e w' => e = .returned (.int .i64 (ecE b ch)) ∧ Below w.heap.size w w' := by
  have CH := Lib.hid (fun W => half_any b W hb0 hb1)
  have E2 := Lib.hid (fun h => (show ecE b ch = 2 from if_pos h))
  by_cases h1 : ch < 1
  · have E := Lib.hid (E2.out (.inr (.inl h1)))
    clear E2 CH
    go_enter Tryd.func52, Tryd.ntmps52
    go_wp2_with fail
    go_ret
    exact ⟨by rw [E.out]; rfl, bel_up (bel_self w) _⟩
  · by_cases h2 : 6 < ch
    · have E := Lib.hid (E2.out (.inr (.inr h2)))
      clear E2 CH
      go_enter Tryd.func52, Tryd.ntmps52
      go_wp2_with fail
      go_ret
      exact ⟨by rw [E.out]; rfl, bel_up (bel_self w) _⟩
    · by_cases h3 : wdH b = 0
      · have E := Lib.hid (E2.out (.inl (by unfold wdE; rw [if_pos h3]; decide)))
        rw [h3] at CH
        clear E2 h3
        go_enter Tryd.func52, Tryd.ntmps52
        go_wp2_with fail
        refine (CH.out _).mono ?_
        rintro e w' ⟨rfl, rfl⟩
        go_wp2_with fail
        go_ret
        exact ⟨by rw [E.out]; rfl, bel_up (bel_self w) _⟩
      · have E := Lib.hid (show ecE b ch = 0 from if_neg (by unfold wdE; rw [if_neg h3]; omega))
        have hz : (wdH b == 0) = false := by simp; exact h3
        generalize wdH b = hh at *
        clear E2 h3
        go_enter Tryd.func52, Tryd.ntmps52
        go_wp2_with fail
        refine (CH.out _).mono ?_
        rintro e w' ⟨rfl, rfl⟩
        go_wp2_with fail
        go_ret
        exact ⟨by rw [E.out]; rfl, bel_up (bel_self w) _⟩

/-- the error of a shape and samples -/
def asE (ch b : Int) (xs : List Int) : Int := if ecE b ch ≠ 0 then 2 else if ckE b xs ≠ 0 then ckE b xs else if xs.length < 1 ∨ (xs.length : Int) % ch ≠ 0 then 2 else 0
theorem ecE_no {b ch : Int} (h : ecE b ch ≠ 0) : ecE b ch = 2 := two_of h

set_option maxRecDepth 100000 in
set_option maxHeartbeats 1000000 in
theorem re20Asked (ch b : Int) (A : Option Addr) (l c : Nat) (xs : List Int) (w : World) (hn : xs.length = l) (hm : l ≤ 9223372036854775807) (hx : I32 xs) (hs : Sl w w.heap.size .i32 A xs) (hb0 : -9223372036854775808 ≤ b) (hb1 : b ≤ 9223372036854775807) :
    Calls Tryd.prog 34 #[.agg #[.int .i64 ch, .int .i64 b], .slice A l c] w fun e w' => e = .returned (.int .i64 (asE ch b xs)) ∧ Below w.heap.size w w' := by
  subst hn
  have C1 := Lib.hid (fun W => re20Check ch b W hb0 hb1)
  have C2 := Lib.hid (fun W hq => rewcheck_any b A xs.length c xs W rfl hm hx hq hb0 hb1)
  have BK := Lib.hid (BlkH.new w 72 #[.int .i64 ch, .int .i64 b])
  have BB := Lib.hid (bel_up (bel_self w) (.cells #[.int .i64 ch, .int .i64 b] 72))
  have SX := Lib.hid (hs.up (.cells #[.int .i64 ch, .int .i64 b] 72))
  clear hs hx
  by_cases h1 : ecE b ch = 0
  · obtain ⟨_, g1, g2⟩ := ecE_ok h1
    have cz : (ch == 0) = false := by simp; omega
    by_cases h2 : ckE b xs = 0
    · by_cases h3 : xs.length < 1
      · have E := Lib.hid (show asE ch b xs = 2 by unfold asE; rw [if_neg (by omega), if_neg (by omega), if_pos (.inl h3)])
        have h3' : (xs.length : Int) < 1 := by omega
        rw [h1] at C1
        rw [h2] at C2
        clear h1 h2
        go_enter Tryd.func34, Tryd.ntmps34
        go_wp2_with fail
        generalize w.alloc (.cells #[.int .i64 ch, .int .i64 b] 72) = wb at *
        refine (C1.out _).mono ?_
        rintro e w1 ⟨rfl, bel1⟩
        have BK := Lib.hid (BK.out.next bel1)
        have SX := Lib.hid (SX.out.next bel1)
        have BB := Lib.hid (bel_next BB.out bel1)
        have c1 := BK.out.cell 1
        clear bel1
        go_wp2_with fail
        refine (C2.out _ SX.out).mono ?_
        rintro e w2 ⟨rfl, bel2⟩
        have BB := Lib.hid (bel_next BB.out bel2)
        clear bel2 c1
        go_wp2_with fail
        go_ret
        exact ⟨by rw [E.out]; rfl, BB.out⟩
      · have h3' : ¬ (xs.length : Int) < 1 := by omega
        have cz2 : ¬ ch = 0 := by omega
        by_cases h4 : (xs.length : Int) % ch = 0
        · have E := Lib.hid (show asE ch b xs = 0 by unfold asE; rw [if_neg (by omega), if_neg (by omega), if_neg (by omega)])
          have h5 : ¬ 0 < (xs.length : Int) % ch := by omega
          rw [h1] at C1
          rw [h2] at C2
          clear h1 h2 h4
          go_enter Tryd.func34, Tryd.ntmps34
          go_wp2_with fail
          generalize w.alloc (.cells #[.int .i64 ch, .int .i64 b] 72) = wb at *
          refine (C1.out _).mono ?_
          rintro e w1 ⟨rfl, bel1⟩
          have BK := Lib.hid (BK.out.next bel1)
          have SX := Lib.hid (SX.out.next bel1)
          have BB := Lib.hid (bel_next BB.out bel1)
          have c1 := BK.out.cell 1
          clear bel1
          go_wp2_with fail
          refine (C2.out _ SX.out).mono ?_
          rintro e w2 ⟨rfl, bel2⟩
          have BK := Lib.hid (BK.out.next bel2)
          have BB := Lib.hid (bel_next BB.out bel2)
          have c0 := BK.out.cell 0
          clear bel2 c1
          go_wp2_with fail
          go_ret
          exact ⟨by rw [E.out]; rfl, BB.out⟩
        · have E := Lib.hid (show asE ch b xs = 2 by unfold asE; rw [if_neg (by omega), if_neg (by omega), if_pos (.inr h4)])
          have h5 : 0 < (xs.length : Int) % ch := by have := Int.emod_nonneg (xs.length : Int) cz2; omega
          rw [h1] at C1
          rw [h2] at C2
          clear h1 h2 h4
          go_enter Tryd.func34, Tryd.ntmps34
          go_wp2_with fail
          generalize w.alloc (.cells #[.int .i64 ch, .int .i64 b] 72) = wb at *
          refine (C1.out _).mono ?_
          rintro e w1 ⟨rfl, bel1⟩
          have BK := Lib.hid (BK.out.next bel1)
          have SX := Lib.hid (SX.out.next bel1)
          have BB := Lib.hid (bel_next BB.out bel1)
          have c1 := BK.out.cell 1
          clear bel1
          go_wp2_with fail
          refine (C2.out _ SX.out).mono ?_
          rintro e w2 ⟨rfl, bel2⟩
          have BK := Lib.hid (BK.out.next bel2)
          have BB := Lib.hid (bel_next BB.out bel2)
          have c0 := BK.out.cell 0
          clear bel2 c1
          go_wp2_with fail
          go_ret
          exact ⟨by rw [E.out]; rfl, BB.out⟩
    · have E := Lib.hid (show asE ch b xs = ckE b xs by unfold asE; rw [if_neg (by omega), if_pos h2])
      have h2' : (ckE b xs != 0) = true := by simp; exact h2
      rw [h1] at C1
      generalize ckE b xs = q at *
      clear h1 h2
      go_enter Tryd.func34, Tryd.ntmps34
      go_wp2_with fail
      generalize w.alloc (.cells #[.int .i64 ch, .int .i64 b] 72) = wb at *
      refine (C1.out _).mono ?_
      rintro e w1 ⟨rfl, bel1⟩
      have BK := Lib.hid (BK.out.next bel1)
      have SX := Lib.hid (SX.out.next bel1)
      have BB := Lib.hid (bel_next BB.out bel1)
      have c1 := BK.out.cell 1
      clear bel1
      go_wp2_with fail
      refine (C2.out _ SX.out).mono ?_
      rintro e w2 ⟨rfl, bel2⟩
      have BK := Lib.hid (BK.out.next bel2)
      have SX := Lib.hid (SX.out.next bel2)
      have BB := Lib.hid (bel_next BB.out bel2)
      clear bel2 c1
      have c1 := BK.out.cell 1
      go_wp2_with fail
      refine (C2.out _ SX.out).mono ?_
      rintro e w3 ⟨rfl, bel3⟩
      have BB := Lib.hid (bel_next BB.out bel3)
      clear bel3 c1
      go_wp2_with fail
      go_ret
      exact ⟨by rw [E.out]; rfl, BB.out⟩
  · have E := Lib.hid (show asE ch b xs = 2 by unfold asE; rw [if_pos h1])
    rw [ecE_no h1] at C1
    clear h1
    go_enter Tryd.func34, Tryd.ntmps34
    go_wp2_with fail
    refine (C1.out _).mono ?_
    rintro e w1 ⟨rfl, bel1⟩
    have BB := Lib.hid (bel_next BB.out bel1)
    clear bel1
    go_wp2_with fail
    go_ret
    exact ⟨by rw [E.out]; rfl, BB.out⟩

/-- the error of a shape and a number of moments -/
def a1E (ch b n : Int) : Int := if ecE b ch ≠ 0 ∨ n < 1 ∨ 4000 / ch < n then 2 else 0

set_option maxRecDepth 100000 in
set_option maxHeartbeats 1000000 in
theorem re21Asked (ch b n : Int) (w : World) (hb0 : -9223372036854775808 ≤ b) (hb1 : b ≤ 9223372036854775807) :
    Calls Tryd.prog 54 #[.agg #[.int .i64 ch, .int .i64 b], .int .i64 n] w fun e w' => e = .returned (.int .i64 (a1E ch b n)) ∧ Below w.heap.size w w' := by
  have C1 := Lib.hid (fun W => re20Check ch b W hb0 hb1)
  have BK := Lib.hid (BlkH.new w 72 #[.int .i64 ch, .int .i64 b])
  have BB := Lib.hid (bel_up (bel_self w) (.cells #[.int .i64 ch, .int .i64 b] 72))
  by_cases h1 : ecE b ch = 0
  · obtain ⟨_, g1, g2⟩ := ecE_ok h1
    have cz : (ch == 0) = false := by simp; omega
    have cz2 : ¬ ch = 0 := by omega
    have q0 : 0 ≤ (4000 : Int) / ch := Int.ediv_nonneg (by decide) (by omega)
    have q1 : (4000 : Int) / ch ≤ 4000 := Int.ediv_le_self _ (by decide)
    by_cases h2 : n < 1
    · have E := Lib.hid (show a1E ch b n = 2 from if_pos (.inr (.inl h2)))
      rw [h1] at C1
      clear h1
      go_enter Tryd.func54, Tryd.ntmps54
      go_wp2_with fail
      refine (C1.out _).mono ?_
      rintro e w1 ⟨rfl, bel1⟩
      have BB := Lib.hid (bel_next BB.out bel1)
      clear bel1
      go_wp2_with fail
      go_ret
      exact ⟨by rw [E.out]; rfl, BB.out⟩
    · by_cases h3 : 4000 / ch < n
      · have E := Lib.hid (show a1E ch b n = 2 from if_pos (.inr (.inr h3)))
        rw [h1] at C1
        clear h1
        go_enter Tryd.func54, Tryd.ntmps54
        go_wp2_with fail
        refine (C1.out _).mono ?_
        rintro e w1 ⟨rfl, bel1⟩
        have BK := Lib.hid (BK.out.next bel1)
        have BB := Lib.hid (bel_next BB.out bel1)
        have c0 := BK.out.cell 0
        clear bel1
        go_wp2_with fail
        go_ret
        exact ⟨by rw [E.out]; rfl, BB.out⟩
      · have E := Lib.hid (show a1E ch b n = 0 from if_neg (by omega))
        rw [h1] at C1
        clear h1
        go_enter Tryd.func54, Tryd.ntmps54
        go_wp2_with fail
        refine (C1.out _).mono ?_
        rintro e w1 ⟨rfl, bel1⟩
        have BK := Lib.hid (BK.out.next bel1)
        have BB := Lib.hid (bel_next BB.out bel1)
        have c0 := BK.out.cell 0
        clear bel1
        go_wp2_with fail
        go_ret
        exact ⟨by rw [E.out]; rfl, BB.out⟩
  · have E := Lib.hid (show a1E ch b n = 2 from if_pos (.inl h1))
    rw [ecE_no h1] at C1
    clear h1
    go_enter Tryd.func54, Tryd.ntmps54
    go_wp2_with fail
    refine (C1.out _).mono ?_
    rintro e w1 ⟨rfl, bel1⟩
    have BB := Lib.hid (bel_next BB.out bel1)
    clear bel1
    go_wp2_with fail
    go_ret
    exact ⟨by rw [E.out]; rfl, BB.out⟩

set_option maxRecDepth 100000 in
set_option maxHeartbeats 1000000 in
theorem re24Shape (ch b r : Int) (A : Option Addr) (n c : Nat) (w : World) :
    Calls Tryd.prog 35 #[.agg #[.int .i64 ch, .int .i64 b, .int .i64 r, .slice A n c]] w fun e w' => e = .returned (.agg #[.int .i64 ch, .int .i64 b]) ∧ Below w.heap.size w w' := by
  have hB := BlkH.new (w.alloc (.cells #[.int .i64 ch, .int .i64 b, .int .i64 r, .slice A n c] 40)) 72 #[.int .i64 ch, .int .i64 b]
  rw [show (w.alloc (.cells #[.int .i64 ch, .int .i64 b, .int .i64 r, .slice A n c] 40)).heap.size = w.heap.size + 1 from Array.size_push _] at hB
  have hB := Lib.hid hB
  go_enter Tryd.func35, Tryd.ntmps35
  go_wp2_with fail
  refine bodyPost_ret (results_c1 Tryd.results35 _ _ rfl (show BlkH _ (w.heap.size + 1) _ #[.int .i64 ch, .int .i64 b] from hB.out) _ Tryd.underlying72 rfl (by kernel_rfl)) rfl ⟨rfl, bel_up (bel_up (bel_self w) _) _⟩

set_option maxRecDepth 100000 in
set_option maxHeartbeats 1000000 in
theorem re24Head (ch b r : Int) (A : Option Addr) (l c : Nat) (n : Int) (w : World) (hb0 : -9223372036854775808 ≤ b) (hb1 : b ≤ 9223372036854775807) (hr0 : -9223372036854775808 ≤ r) (hr1 : r ≤ 9223372036854775807) (hn0 : -9223372036854775808 ≤ n) (hn1 : n ≤ 9223372036854775807) :
    Calls Tryd.prog 36 #[.agg #[.int .i64 ch, .int .i64 b, .int .i64 r, .slice A l c], .int .i64 n] w fun e w' => e = .returned (.bool (heE ch b r n == 0)) ∧ Below w.heap.size w w' := by
  have CS := Lib.hid (fun W => re24Shape ch b r A l c W)
  have CA := Lib.hid (fun W => re21Asked ch b n W hb0 hb1)
  have CN := Lib.hid (fun W => recount_any r n W hr0 hr1 hn0 hn1)
  have BK := Lib.hid (BlkH.new w 40 #[.int .i64 ch, .int .i64 b, .int .i64 r, .slice A l c])
  have BB := Lib.hid (bel_up (bel_self w) (.cells #[.int .i64 ch, .int .i64 b, .int .i64 r, .slice A l c] 40))
  by_cases h1 : a1E ch b n = 0
  · have hh : ¬ (ecE b ch ≠ 0 ∨ n < 1 ∨ 4000 / ch < n) := fun h => by unfold a1E at h1; rw [if_pos h] at h1; omega
    have E := Lib.hid (show (heE ch b r n == 0) = (cnE r n == 0) by
      unfold heE
      by_cases h : cnE r n = 0
      · rw [if_neg (by omega), h]
      · rw [if_pos (by omega)]; symm; simpa using h)
    rw [h1] at CA
    clear h1 hh
    generalize cnE r n = q at *
    go_enter Tryd.func36, Tryd.ntmps36
    go_wp2_with fail
    generalize w.alloc (.cells #[.int .i64 ch, .int .i64 b, .int .i64 r, .slice A l c] 40) = wb at *
    have c0 := BK.out.cell 0
    have c1 := BK.out.cell 1
    have c2 := BK.out.cell 2
    have c3 := BK.out.cell 3
    go_wp2_with fail
    refine (CS.out _).mono ?_
    rintro e w1 ⟨rfl, bel1⟩
    have BK := Lib.hid (BK.out.next bel1)
    have BB := Lib.hid (bel_next BB.out bel1)
    clear bel1 c0 c1 c2 c3
    go_wp2_with fail
    refine (CA.out _).mono ?_
    rintro e w2 ⟨rfl, bel2⟩
    have BK := Lib.hid (BK.out.next bel2)
    have BB := Lib.hid (bel_next BB.out bel2)
    have c2 := BK.out.cell 2
    clear bel2
    go_wp2_with fail
    refine (CN.out _).mono ?_
    rintro e w3 ⟨rfl, bel3⟩
    have BB := Lib.hid (bel_next BB.out bel3)
    clear bel3 c2
    go_wp2_with fail
    go_ret
    exact ⟨by rw [E.out]; rfl, BB.out⟩
  · have E := Lib.hid (show (heE ch b r n == 0) = false by
      unfold heE
      unfold a1E at h1
      rw [if_pos (by
        rcases Classical.em (ecE b ch ≠ 0 ∨ n < 1 ∨ 4000 / ch < n) with h | h
        · omega
        · rw [if_neg h] at h1; omega)]
      rfl)
    rw [show a1E ch b n = 2 from two_of h1] at CA
    clear h1
    go_enter Tryd.func36, Tryd.ntmps36
    go_wp2_with fail
    generalize w.alloc (.cells #[.int .i64 ch, .int .i64 b, .int .i64 r, .slice A l c] 40) = wb at *
    have c0 := BK.out.cell 0
    have c1 := BK.out.cell 1
    have c2 := BK.out.cell 2
    have c3 := BK.out.cell 3
    go_wp2_with fail
    refine (CS.out _).mono ?_
    rintro e w1 ⟨rfl, bel1⟩
    have BB := Lib.hid (bel_next BB.out bel1)
    clear bel1 c0 c1 c2 c3
    go_wp2_with fail
    refine (CA.out _).mono ?_
    rintro e w2 ⟨rfl, bel2⟩
    have BB := Lib.hid (bel_next BB.out bel2)
    clear bel2
    go_wp2_with fail
    go_ret
    exact ⟨by rw [E.out]; rfl, BB.out⟩

theorem qb_skipE {P : Program} {w : World} {ops : Array Oper} {Q : Act → Prop} {a : Act} {o : Oper} {rest : List Oper} (hw : Region.wanted o (yielded ops a.tmps) = false) (ha : a.put o.dst undef = a) (h : wpQuiet P ops (Since w) Q rest a) : wpQuiet P ops (Since w) Q (o :: rest) a :=
  qb_skip hw ha h
end Go.Proofs.YtgfibgnolmogkaaDoor

/-
  What Check of packages clip and enframe compute. Conditions: numbers within their types; the samples lie below.
-/
import Derived.Test.YtgfibgnolmogkaaDoorWidthWalks
import Derived.Test.YtgfibgnolmogkaaDoorHdRead2
import Derived.Test.YtgfibgnolmogkaaDoorSince
namespace Go.Proofs.YtgfibgnolmogkaaDoor
open Go.RowKit
set_option linter.unusedVariables false

/-- the error of a shape; of a clip's head; of a clip -/
def ecE (b ch : Int) : Int := if wdE b ≠ 0 ∨ ch < 1 ∨ 6 < ch then 2 else 0
def heE (ch b r n : Int) : Int := if ecE b ch ≠ 0 ∨ n < 1 ∨ 4000 / ch < n ∨ cnE r n ≠ 0 then 8 else 0
def clE (ch b r : Int) (xs : List Int) : Int := if ch < 1 ∨ (xs.length : Int) % ch ≠ 0 ∨ heE ch b r ((xs.length : Int) / ch) ≠ 0 ∨ ckE b xs ≠ 0 then 8 else 0
theorem ecE_ok {b ch : Int} (h : ecE b ch = 0) : (b = 8 ∨ b = 16 ∨ b = 24) ∧ 1 ≤ ch ∧ ch ≤ 6 := by
  unfold ecE at h
  by_cases h1 : wdE b ≠ 0 ∨ ch < 1 ∨ 6 < ch
  · rw [if_pos h1] at h; omega
  · refine ⟨?_, by omega, by omega⟩
    by_cases h2 : wdH b = 0
    · exact absurd (.inl (by unfold wdE; rw [if_pos h2]; decide)) h1
    · exact ok_cases h2

theorem two_of {p : Prop} [Decidable p] (h : ¬ (if p then (2 : Int) else 0) = 0) : (if p then (2 : Int) else 0) = 2 := by
  by_cases hp : p
  · rw [if_pos hp]
  · rw [if_neg hp] at h; exact absurd rfl h
theorem results_c1 {P : Program} {fn : Func} {r : Tmp} {t : TypeId} (h : fn.results = #[.cell r t]) (tmps : Array Value) (w : World) {b : Nat} {cs : Array Value} (hr : tmps.getD r undef = .pointer (some ⟨b, 0, none⟩))
    (hb : BlkH w b t cs) (d : TypeDesc) (hu : P.underlying t = some d) (hd : d.isRow = true) (hi : (P.info? t).map (·.size) = some cs.size) :
    (results fn tmps).run P w = .ok (.agg cs) w := by
  have hl := run_loadVar_mid (P := P) w b 0 t cs.toList d (by have := World.rangeAt_of_block hb 0 cs.size; simpa using this) hu hd (by simpa using hi)
  simp only [Array.toArray_toList] at hl
  have hr' : tmps[r]?.getD undef = .pointer (some ⟨b, 0, none⟩) := by simpa using hr
  simp [results, h, hr', asAddr, hl]

set_option maxRecDepth 100000 in
set_option maxHeartbeats 1000000 in
theorem clShape (ch b r : Int) (A : Option Addr) (n c : Nat) (w : World) :
    Calls Tryd.prog 63 #[.agg #[.int .i64 ch, .int .i64 b, .int .i64 r, .slice A n c]] w fun e w' => e = .returned (.agg #[.int .i64 ch, .int .i64 b]) ∧ Below w.heap.size w w' := by
  have hB := BlkH.new (w.alloc (.cells #[.int .i64 ch, .int .i64 b, .int .i64 r, .slice A n c] 40)) 72 #[.int .i64 ch, .int .i64 b]
  rw [show (w.alloc (.cells #[.int .i64 ch, .int .i64 b, .int .i64 r, .slice A n c] 40)).heap.size = w.heap.size + 1 from Array.size_push _] at hB
  have hB := Lib.hid hB
  go_enter Tryd.func63, Tryd.ntmps63
  go_wp2_with fail
  refine bodyPost_ret (results_c1 Tryd.results63 _ _ rfl (show BlkH _ (w.heap.size + 1) _ #[.int .i64 ch, .int .i64 b] from hB.out) _ Tryd.underlying72 rfl (by kernel_rfl)) rfl ⟨rfl, bel_up (bel_up (bel_self w) _) _⟩

set_option maxRecDepth 100000 in
set_option maxHeartbeats 1000000 in
theorem enCheck (ch b : Int) (w : World) (hb0 : -9223372036854775808 ≤ b) (hb1 : b ≤ 9223372036854775807) :
    Calls Tryd.prog 62 #[.agg #[.int .i64 ch, .int .i64 b]] w fun e w' => e = .returned (.int .i64 (ecE b ch)) ∧ Below w.heap.size w w' := by
  have RG := Lib.hid (fun W => range_any b W hb0 hb1)
  by_cases h0 : wdE b = 0
  · have E := Lib.hid (show ecE b ch = if ch < 1 ∨ 6 < ch then 2 else 0 by unfold ecE; rw [h0]; simp)
    rw [h0] at RG
    generalize wdH b = x0 at *
    generalize wdHi b = x1 at *
    clear h0
    have hk : ch < 1 ∨ (1 ≤ ch ∧ 6 < ch) ∨ (1 ≤ ch ∧ ch ≤ 6) := by omega
    rcases hk with k1 | ⟨k1, k2⟩ | ⟨k1, k2⟩
    all_goals
      first | (have a1 : ¬ (ch < 1) := by omega) | skip
      first | (have a2 : ¬ (6 < ch) := by omega) | skip
      go_enter Tryd.func62, Tryd.ntmps62
      go_wp2_with fail
      refine (RG.out _).mono ?_
      rintro e w' ⟨rfl, rfl⟩
      go_wp2_with fail
      go_ret
      exact ⟨by rw [E.out]; first | (rw [if_pos (by omega)]; rfl) | (rw [if_neg (by omega)]; rfl), bel_up (bel_self w) _⟩
  · have E := Lib.hid (show ecE b ch = 2 from if_pos (.inl h0))
    rw [show wdE b = 2 from two_of h0] at RG
    generalize wdH b = x0 at *
    generalize wdHi b = x1 at *
    clear h0
    go_enter Tryd.func62, Tryd.ntmps62
    go_wp2_with fail
    refine (RG.out _).mono ?_
    rintro e w' ⟨rfl, rfl⟩
    go_wp2_with fail
    go_ret
    exact ⟨by rw [E.out]; rfl, bel_up (bel_self w) _⟩

set_option maxRecDepth 100000 in
set_option maxHeartbeats 2000000 in
theorem clHead (ch b r : Int) (A : Option Addr) (l c : Nat) (n : Int) (w : World) (hb0 : -9223372036854775808 ≤ b) (hb1 : b ≤ 9223372036854775807) (hr0 : -9223372036854775808 ≤ r) (hr1 : r ≤ 9223372036854775807)
    (hn0 : -9223372036854775808 ≤ n) (hn1 : n ≤ 9223372036854775807) :
    Calls Tryd.prog 50 #[.agg #[.int .i64 ch, .int .i64 b, .int .i64 r, .slice A l c], .int .i64 n] w fun e w' => e = .returned (.int .i64 (heE ch b r n)) ∧ Below w.heap.size w w' := by
  have SH := Lib.hid (fun W => clShape ch b r A l c W)
  have EN := Lib.hid (fun W => enCheck ch b W hb0 hb1)
  have CN := Lib.hid (fun W => count_any r n W hr0 hr1 hn0 hn1)
  by_cases h0 : ecE b ch = 0
  · obtain ⟨_, c0, c1⟩ := ecE_ok h0
    have q0 : 0 ≤ (4000 : Int) / ch := Int.ediv_nonneg (by decide) (by omega)
    have q1 : (4000 : Int) / ch ≤ 4000 := Int.ediv_le_self _ (by decide)
    have cz : (ch == 0) = false := by simp; omega
    have hk : n < 1 ∨ (1 ≤ n ∧ 4000 / ch < n) ∨ (1 ≤ n ∧ n ≤ 4000 / ch ∧ cnE r n ≠ 0) ∨ (1 ≤ n ∧ n ≤ 4000 / ch ∧ cnE r n = 0) := by omega
    have E := Lib.hid (show heE ch b r n = if n < 1 ∨ 4000 / ch < n ∨ cnE r n ≠ 0 then 8 else 0 by unfold heE; rw [h0]; simp)
    have E2 : n < 1 ∨ 4000 / ch < n ∨ cnE r n ≠ 0 → heE ch b r n = 8 := fun h => E.out.trans (if_pos h)
    have E3 : ¬ (n < 1 ∨ 4000 / ch < n ∨ cnE r n ≠ 0) → heE ch b r n = 0 := fun h => E.out.trans (if_neg h)
    have E2 := Lib.hid E2
    have E3 := Lib.hid E3
    rw [h0] at EN
    clear E h0
    rcases hk with k1 | ⟨k1, k2⟩ | ⟨k1, k2, k3⟩ | ⟨k1, k2, k3⟩
    · have E := Lib.hid (E2.out (by omega))
      go_enter Tryd.func50, Tryd.ntmps50
      go_wp2_with fail
      refine (SH.out _).mono ?_
      rintro e w1 ⟨rfl, bel1⟩
      have BK := Lib.hid (BlkH.next (BlkH.new w 40 #[.int .i64 ch, .int .i64 b, .int .i64 r, .slice A l c]) bel1)
      have BB := Lib.hid (bel_next (bel_up (bel_self w) _) bel1)
      clear bel1
      go_wp2_with fail
      refine (EN.out _).mono ?_
      rintro e w2 ⟨rfl, bel2⟩
      have BK := Lib.hid (BK.out.next bel2)
      have BB := Lib.hid (bel_next BB.out bel2)
      have cc0 := BK.out.cell 0
      have cc2 := BK.out.cell 2
      clear bel2
      go_wp2_with fail
      go_ret
      exact ⟨by rw [E.out]; rfl, BB.out⟩
    · have E := Lib.hid (E2.out (by omega))
      have a1 : ¬ n < 1 := by omega
      go_enter Tryd.func50, Tryd.ntmps50
      go_wp2_with fail
      refine (SH.out _).mono ?_
      rintro e w1 ⟨rfl, bel1⟩
      have BK := Lib.hid (BlkH.next (BlkH.new w 40 #[.int .i64 ch, .int .i64 b, .int .i64 r, .slice A l c]) bel1)
      have BB := Lib.hid (bel_next (bel_up (bel_self w) _) bel1)
      clear bel1
      go_wp2_with fail
      refine (EN.out _).mono ?_
      rintro e w2 ⟨rfl, bel2⟩
      have BK := Lib.hid (BK.out.next bel2)
      have BB := Lib.hid (bel_next BB.out bel2)
      have cc0 := BK.out.cell 0
      have cc2 := BK.out.cell 2
      clear bel2
      go_wp2_with fail
      go_ret
      exact ⟨by rw [E.out]; rfl, BB.out⟩
    · have E := Lib.hid (E2.out (by omega))
      have a1 : ¬ n < 1 := by omega
      have a2 : ¬ 4000 / ch < n := by omega
      generalize cnE r n = q at *
      generalize cnV r n = v at *
      go_enter Tryd.func50, Tryd.ntmps50
      go_wp2_with fail
      refine (SH.out _).mono ?_
      rintro e w1 ⟨rfl, bel1⟩
      have BK := Lib.hid (BlkH.next (BlkH.new w 40 #[.int .i64 ch, .int .i64 b, .int .i64 r, .slice A l c]) bel1)
      have BB := Lib.hid (bel_next (bel_up (bel_self w) _) bel1)
      clear bel1
      go_wp2_with fail
      refine (EN.out _).mono ?_
      rintro e w2 ⟨rfl, bel2⟩
      have BK := Lib.hid (BK.out.next bel2)
      have BB := Lib.hid (bel_next BB.out bel2)
      have cc0 := BK.out.cell 0
      have cc2 := BK.out.cell 2
      clear bel2
      go_wp2_with fail
      refine (CN.out _).mono ?_
      rintro e w3 ⟨rfl, rfl⟩
      go_wp2_with fail
      go_ret
      exact ⟨by rw [E.out]; rfl, BB.out⟩
    · have E := Lib.hid (E3.out (by omega))
      have a1 : ¬ n < 1 := by omega
      have a2 : ¬ 4000 / ch < n := by omega
      rw [k3] at CN
      generalize cnV r n = v at *
      go_enter Tryd.func50, Tryd.ntmps50
      go_wp2_with fail
      refine (SH.out _).mono ?_
      rintro e w1 ⟨rfl, bel1⟩
      have BK := Lib.hid (BlkH.next (BlkH.new w 40 #[.int .i64 ch, .int .i64 b, .int .i64 r, .slice A l c]) bel1)
      have BB := Lib.hid (bel_next (bel_up (bel_self w) _) bel1)
      clear bel1
      go_wp2_with fail
      refine (EN.out _).mono ?_
      rintro e w2 ⟨rfl, bel2⟩
      have BK := Lib.hid (BK.out.next bel2)
      have BB := Lib.hid (bel_next BB.out bel2)
      have cc0 := BK.out.cell 0
      have cc2 := BK.out.cell 2
      clear bel2
      go_wp2_with fail
      refine (CN.out _).mono ?_
      rintro e w3 ⟨rfl, rfl⟩
      go_wp2_with fail
      go_ret
      exact ⟨by rw [E.out]; rfl, BB.out⟩
  · have E := Lib.hid (show heE ch b r n = 8 from if_pos (.inl h0))
    rw [show ecE b ch = 2 from two_of h0] at EN
    clear h0
    go_enter Tryd.func50, Tryd.ntmps50
    go_wp2_with fail
    refine (SH.out _).mono ?_
    rintro e w1 ⟨rfl, bel1⟩
    have BK := Lib.hid (BlkH.next (BlkH.new w 40 #[.int .i64 ch, .int .i64 b, .int .i64 r, .slice A l c]) bel1)
    have BB := Lib.hid (bel_next (bel_up (bel_self w) _) bel1)
    clear bel1
    go_wp2_with fail
    refine (EN.out _).mono ?_
    rintro e w2 ⟨rfl, bel2⟩
    have BK := Lib.hid (BK.out.next bel2)
    have BB := Lib.hid (bel_next BB.out bel2)
    have cc0 := BK.out.cell 0
    have cc2 := BK.out.cell 2
    clear bel2
    go_wp2_with fail
    go_ret
    exact ⟨by rw [E.out]; rfl, BB.out⟩

theorem i64_div {n ch : Int} (h0 : 0 ≤ n) (h1 : n ≤ 9223372036854775807) (hc : 1 ≤ ch) : -9223372036854775808 ≤ n / ch ∧ n / ch ≤ 9223372036854775807 ∧ 0 ≤ n / ch := by
  have q0 : 0 ≤ n / ch := Int.ediv_nonneg h0 (by omega)
  have q1 : n / ch ≤ n := Int.ediv_le_self _ h0
  omega

set_option maxRecDepth 100000 in
set_option maxHeartbeats 2000000 in
theorem clCheck (ch b r : Int) (A : Option Addr) (l c : Nat) (xs : List Int) (w : World) (hn : xs.length = l) (hm : l ≤ 9223372036854775807) (hx : I32 xs) (hs : Sl w w.heap.size .i32 A xs)
    (hc0 : -9223372036854775808 ≤ ch) (hc1 : ch ≤ 9223372036854775807) (hb0 : -9223372036854775808 ≤ b) (hb1 : b ≤ 9223372036854775807) (hr0 : -9223372036854775808 ≤ r) (hr1 : r ≤ 9223372036854775807) :
    Calls Tryd.prog 33 #[.agg #[.int .i64 ch, .int .i64 b, .int .i64 r, .slice A l c]] w fun e w' => e = .returned (.int .i64 (clE ch b r xs)) ∧ Below w.heap.size w w' := by
  subst hn
  have E8 := Lib.hid (fun h => (show clE ch b r xs = 8 from if_pos h))
  have E0 := Lib.hid (fun h => (show clE ch b r xs = 0 from if_neg h))
  by_cases h0 : ch < 1
  · have E := Lib.hid (E8.out (.inl h0))
    go_enter Tryd.func33, Tryd.ntmps33
    go_wp2_with fail
    go_ret
    exact ⟨by rw [E.out]; rfl, bel_up (bel_self w) _⟩
  · have cz : (ch == 0) = false := by simp; omega
    obtain ⟨q0, q1, q2⟩ := i64_div (ch := ch) (Int.natCast_nonneg xs.length) (by omega) (by omega)
    by_cases h1 : (xs.length : Int) % ch = 0
    · have HD := Lib.hid (fun W => clHead ch b r A xs.length c ((xs.length : Int) / ch) W hb0 hb1 hr0 hr1 q0 q1)
      have CK := Lib.hid (fun W hq => wcheck_any b A xs.length c xs W rfl hm hx hq hb0 hb1)
      have z1 : ((xs.length : Int) % ch == 0) = true := by simp; exact h1
      have BK := Lib.hid (BlkH.new w 40 #[.int .i64 ch, .int .i64 b, .int .i64 r, .slice A xs.length c])
      have BB := Lib.hid (bel_up (bel_self w) (.cells #[.int .i64 ch, .int .i64 b, .int .i64 r, .slice A xs.length c] 40))
      have SX := Lib.hid (hs.up (.cells #[.int .i64 ch, .int .i64 b, .int .i64 r, .slice A xs.length c] 40))
      have Ec : heE ch b r ((xs.length : Int) / ch) = 0 ∨ heE ch b r ((xs.length : Int) / ch) = 8 := by unfold heE; split <;> simp
      have Ed : ckE b xs = 0 ∨ (ckE b xs == 0) = false := by by_cases h : ckE b xs = 0; exact .inl h; exact .inr (by simpa using h)
      have E8a := Lib.hid (fun h => E8.out (.inr (.inr (.inl h))))
      have E8b := Lib.hid (fun h => E8.out (.inr (.inr (.inr h))))
      have E0 := Lib.hid (fun h h' => E0.out (fun q => by rcases q with q | q | q | q; exact h0 q; exact q h1; exact q h; exact q h'))
      have wq : IntKind.i64.wrap ((xs.length : Int) / ch) = (xs.length : Int) / ch := IntWalk.i64_in _ (by omega)
      generalize clE ch b r xs = ec at *
      generalize ckE b xs = ed at *
      generalize heE ch b r ((xs.length : Int) / ch) = eh at *
      clear E8 hs hx
      go_enter Tryd.func33, Tryd.ntmps33
      go_wp2_with fail
      generalize w.alloc (.cells #[.int .i64 ch, .int .i64 b, .int .i64 r, .slice A xs.length c] 40) = wb at *
      refine wp_region_since (by kernel_rfl) (by kernel_rfl) ?_
      refine qb_val (o := ⟨some 16, _, _, _, _, _⟩) (by go_simp) (fun W hW => (by have k := BK.out.next hW; have k0 := k.cell 0; have k1 := k.cell 1; have k2 := k.cell 2; have k3 := k.cell 3; go_simp <;> rfl)) (by go_simp <;> rfl) ?_
      refine qb_val (o := ⟨some 17, _, _, _, _, _⟩) (by go_simp) (fun W hW => (by go_simp <;> rfl)) (by go_simp <;> rfl) ?_
      refine qb_val (o := ⟨some 18, _, _, _, _, _⟩) (by go_simp) (fun W hW => (by have k := BK.out.next hW; have k0 := k.cell 0; have k1 := k.cell 1; have k2 := k.cell 2; have k3 := k.cell 3; go_simp <;> rfl)) (by go_simp <;> rfl) ?_
      refine qb_val (o := ⟨some 19, _, _, _, _, _⟩) (by go_simp) (fun W hW => (by go_simp <;> rfl)) (by go_simp <;> rfl) ?_
      refine qb_val (o := ⟨some 20, _, _, _, _, _⟩) (by go_simp) (fun W hW => (by go_simp <;> rfl)) (by go_simp <;> rfl) ?_
      refine qb_val (o := ⟨some 21, _, _, _, _, _⟩) (by go_simp) (fun W hW => (by have k := BK.out.next hW; have k0 := k.cell 0; have k1 := k.cell 1; have k2 := k.cell 2; have k3 := k.cell 3; go_simp <;> rfl)) (by go_simp <;> rfl) ?_
      refine qb_val (o := ⟨some 22, _, _, _, _, _⟩) (v := .int .i64 ((xs.length : Int) / ch)) (by go_simp) (fun W hW => (by go_simp; omega)) (by go_simp <;> rfl) ?_
      refine qb_call (o := ⟨some 23, _, _, _, _, _⟩) (by go_simp) (fun W => by go_simp <;> rfl) (fun W hW => HD.out W) (by go_simp <;> rfl) ?_
      refine qb_val (o := ⟨some 3, _, _, _, _, _⟩) (by go_simp) (fun W hW => (by go_simp <;> rfl)) (by go_simp <;> rfl) ?_
      refine wpQuiet_nil ?_
      intro w1 bel1
      have BK := Lib.hid (BK.out.next bel1)
      have SX := Lib.hid (SX.out.next bel1)
      have BB := Lib.hid (bel_next BB.out bel1)
      clear bel1 HD
      have k0 := BK.out.cell 0
      have k1 := BK.out.cell 1
      have k2 := BK.out.cell 2
      have k3 := BK.out.cell 3
      rcases Ec with rfl | rfl
      · rcases Ed with rfl | Ed
        · have E := Lib.hid (E0.out rfl rfl)
          go_wp2_with fail
          refine (CK.out _ SX.out).mono ?_
          rintro e w2 ⟨rfl, rfl⟩
          go_wp2_with fail
          go_ret
          exact ⟨by rw [E.out]; rfl, BB.out⟩
        · have E := Lib.hid (E8b.out (by simpa using Ed))
          have Ed' : ¬ ed = 0 := by simpa using Ed
          go_wp2_with fail
          refine (CK.out _ SX.out).mono ?_
          rintro e w2 ⟨rfl, rfl⟩
          go_wp2_with fail
          go_ret
          exact ⟨by rw [E.out]; rfl, BB.out⟩
      · have E := Lib.hid (E8a.out (by decide))
        go_wp2_with fail
        go_ret
        exact ⟨by rw [E.out]; rfl, BB.out⟩
    · have E := Lib.hid (E8.out (.inr (.inl h1)))
      have z1 : ((xs.length : Int) % ch == 0) = false := by simpa using h1
      go_enter Tryd.func33, Tryd.ntmps33
      go_wp2_with fail
      go_ret
      exact ⟨by rw [E.out]; rfl, bel_up (bel_self w) _⟩

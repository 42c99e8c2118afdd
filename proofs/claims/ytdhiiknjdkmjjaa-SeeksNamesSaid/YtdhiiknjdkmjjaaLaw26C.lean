/-
  The walk of SeeksAdd. Conditions: numbers within their types.
-/
import Derived.Test.YtdhiiknjdkmjjaaLaw26B
namespace Go.Proofs.Ytdhiiknjdkmjjaa
open Go.RowKit
set_option linter.unusedVariables false

theorem fdI_spec (l : List Int) (a : Int) (h : 0 ≤ a) : sumI (l.take (fdI l a)) ≤ a ∧ (fdI l a < l.length → a < sumI (l.take (fdI l a + 1))) := by
  induction l generalizing a with
  | nil => exact ⟨by simpa [sumI_nil] using h, fun h => by simp at h⟩
  | cons x r ih =>
    unfold fdI
    split
    · exact ⟨by simpa [sumI_nil] using h, fun _ => by rw [List.take_succ_cons, sumI_cons, List.take_zero, sumI_nil]; omega⟩
    · have := ih (a - x) (by omega)
      refine ⟨by rw [List.take_succ_cons, sumI_cons]; omega, fun h2 => ?_⟩
      rw [List.take_succ_cons, sumI_cons]
      have := this.2 (by simp at h2; omega)
      omega
theorem sum_mono {l : List Int} (h : ∀ x ∈ l, 5 ≤ x) {i j : Nat} (hij : i ≤ j) : sumI (l.take i) ≤ sumI (l.take j) := by
  have e : l.take j = l.take i ++ (l.take j).drop i := by
    have := List.take_append_drop i (l.take j)
    rwa [List.take_take, Nat.min_eq_left hij, eq_comm] at this
  have h2 := sumI_ge (m := 5) (l := (l.take j).drop i) (fun x hx => h x (List.mem_of_mem_take (List.mem_of_mem_drop hx)))
  rw [e, sumI_append]; omega
theorem fdI_of {l : List Int} (h : skE l = 0) {a : Int} {k : Nat} (hk : k < l.length) (h1 : sumI (l.take k) ≤ a) (h2 : a < sumI (l.take (k + 1))) : fdE l a = 0 ∧ fdV l a = k := by
  have h5 := (skE_ok h).2.2.1
  have h0 : 0 ≤ a := by have := (skE_part h k hk).2.1; omega
  have hs := fdI_spec l a h0
  have e : fdI l a = k := by
    rcases Nat.lt_trichotomy (fdI l a) k with hl | hl | hl
    · have := hs.2 (by omega)
      have := sum_mono h5 (show fdI l a + 1 ≤ k by omega)
      omega
    · exact hl
    · have := sum_mono h5 (show k + 1 ≤ fdI l a by omega)
      omega
  have e1 : fdE l a = 0 := by unfold fdE; rw [if_pos h, if_neg (by omega)]
  exact ⟨e1, by unfold fdV; rw [if_pos e1, e]⟩
theorem fd_out {l : List Int} (h : skE l = 0) {a : Int} (ha : a < 0 ∨ sumI l ≤ a) : fdE l a = 2 ∧ fdV l a = 0 := by
  have h5 := (skE_ok h).2.2.1
  have e1 : fdE l a = 2 := by
    unfold fdE
    rw [if_pos h, if_pos]
    rcases ha with ha | ha
    · exact .inl ha
    · by_cases h0 : a < 0
      · exact .inl h0
      · right
        have hs := fdI_spec l a (by omega)
        rcases Nat.lt_or_ge (fdI l a) l.length with hl | hl
        · have := hs.2 hl
          have := sum_mono h5 (show fdI l a + 1 ≤ l.length by omega)
          rw [List.take_length] at this
          omega
        · have := fdI_le l a; omega
  exact ⟨e1, by unfold fdV; rw [e1, if_neg (by decide)]⟩
theorem fd_in {l : List Int} (h : skE l = 0) {a : Int} (h0 : 0 ≤ a) (h1 : a < sumI l) : ∃ k : Nat, k < l.length ∧ fdE l a = 0 ∧ fdV l a = k ∧ sumI (l.take k) ≤ a ∧ a < sumI (l.take (k + 1)) := by
  have hs := fdI_spec l a h0
  have hl : fdI l a < l.length := by
    rcases Nat.lt_or_ge (fdI l a) l.length with hl | hl
    · exact hl
    · have : fdI l a = l.length := by have := fdI_le l a; omega
      rw [this, List.take_length] at hs; omega
  obtain ⟨e1, e2⟩ := fdI_of h hl hs.1 (hs.2 hl)
  exact ⟨fdI l a, hl, e1, e2, hs.1, hs.2 hl⟩

theorem recheck_v {A : Option Addr} {n c : Nat} {e : Int} (xs : List Int) (w : World) (hn : xs.length = n) (hm : n ≤ 9223372036854775807) (hx : I64 xs) (hs : Sl w w.heap.size .i64 A xs) (he : skE xs = e) :
    Calls Try.prog 21 #[.slice A n c] w fun e' w' => e' = .returned (.int .i64 e) ∧ w = w' := by
  subst he
  exact reskCheck A n c xs w hn hm hx hs

set_option maxRecDepth 100000 in
set_option maxHeartbeats 2000000 in
theorem add_main (A : Option Addr) (n c : Nat) (xs : List Int) (a : Int) (w : World) (hn : xs.length = n) (hx : I64 xs) (hs : Sl w w.heap.size .i64 A xs) (ha0 : -9223372036854775808 ≤ a) (ha1 : a ≤ 9223372036854775807) (hl : lgB n = false) (h0 : skE xs = 0) :
    Calls Try.prog 5 #[.slice A n c, .int .i64 a] w fun e w' => e = .returned (.bool true) ∧ Below w.heap.size w w' := by
  have SX := Lib.hid hs
  have HX := Lib.hid hx
  have N := Lib.hid hn
  have LG := Lib.hid hl
  have K := Lib.hid h0
  have OK := Lib.hid ((skOR_ok h0).trans (by rw [hn]))
  have n1 : 1 ≤ n ∧ n ≤ 1000 := by have := skE_ok h0; omega
  have BB := Lib.hid (bel_self w)
  have L := Lib.hid (skO_len xs n)
  obtain ⟨p, hp⟩ : ∃ p, p = n + 1 := ⟨_, rfl⟩
  rw [← hp] at L
  have P := Lib.hid hp
  have e1 : (n : Int) + 1 = (p : Int) := by omega
  have e2 : ((p : Int) != (p : Int)) = false := by simp
  clear hs hx hn hl h0 hp
  go_enter Try.func5, Try.ntmps5
  go_wp2_with fail
  refine (alive_any w).mono ?_
  rintro e w1 ⟨rfl, bel1⟩
  have SX := Lib.hid (SX.out.next bel1)
  have BB := Lib.hid (bel_next BB.out bel1)
  clear bel1
  go_wp2_with fail
  refine (long_v false _ LG.out).mono ?_
  rintro e w' ⟨rfl, rfl⟩
  go_wp2_with fail
  refine (recheck_v xs _ N.out (by omega) HX.out SX.out K.out).mono ?_
  rintro e w' ⟨rfl, rfl⟩
  go_wp2_with fail
  refine (skOffsets_v xs (skO xs n) _ N.out (by omega) HX.out SX.out K.out OK.out).mono ?_
  rintro e w2 ⟨v2, rfl, own2, bel2⟩
  obtain ⟨Ao, co, rfl, hco, hmo, sl2⟩ := own2.sln (L.out)
  have So := Lib.hid sl2
  have SX := Lib.hid (SX.out.next bel2)
  have BB := Lib.hid (bel_next BB.out bel2)
  clear own2 bel2 sl2
  obtain ⟨b, o, rfl, hb, hc⟩ := So.out (by rw [L.out]; have := P.out; omega)
  have cO := Lib.hid (show ∀ k, k ≤ n → w2.cell? ⟨b, o + k, none⟩ = some (.int .i64 (sumI (xs.take k))) from fun k hk => (hc k (by rw [L.out]; have := P.out; omega)).trans (by rw [skO_get xs n k hk]))
  have c0 := cO.out 0 (by omega)
  rw [List.take_zero, sumI_nil, Nat.add_zero] at c0
  have pp : 0 < (p : Int) := by have := P.out; omega
  clear hc
  go_wp2_with fail
  go_loopw [8] (fun i wr => ∃ k : Nat, k ≤ n ∧ i = .int .i64 k ∧ Below w2.heap.size w2 wr) (fun i _ => n - (intOf i).toNat)
  case atStart => exact ⟨0, by omega, rfl, bel_self _⟩
  case round =>
    obtain ⟨k, hk, rfl, hbel⟩ := hrel
    have HB := Lib.hid hbel
    have SX := Lib.hid (SX.out.next hbel)
    have cO := Lib.hid (show ∀ k, k ≤ n → wr.cell? ⟨b, o + k, none⟩ = some (.int .i64 (sumI (xs.take k))) from fun k hk => (HB.out.cell (p := ⟨b, o + k, none⟩) hb).trans (cO.out k hk))
    clear hbel c0
    by_cases hlt : k < n
    · obtain ⟨q1, q2, q3, q4⟩ := skE_part K.out k (by rw [N.out]; omega)
      have ck0 := cO.out k hk
      have ck1 := cO.out (k + 1) (by omega)
      obtain ⟨b2, o2, rfl, hb2, hc2⟩ := SX.out (by rw [N.out]; omega)
      have cx := hc2 k (by rw [N.out]; omega)
      have f1 := fdI_of K.out (a := sumI (xs.take k)) (k := k) (by rw [N.out]; omega) (Int.le_refl _) (by omega)
      have f2 := fdI_of K.out (a := sumI (xs.take k) + xs.getD k 0 - 1) (k := k) (by rw [N.out]; omega) (by omega) (by omega)
      have F1 := Lib.hid (fun d => found_yes (some ⟨b2, o2, none⟩) n c xs _ k (wr.drewN d) N.out (by omega) HX.out (SX.out.drewN d) (by omega) f1.1 f1.2)
      have F2 := Lib.hid (fun d => found_yes (some ⟨b2, o2, none⟩) n c xs _ k (wr.drewN d) N.out (by omega) HX.out (SX.out.drewN d) (by omega) f2.1 f2.2)
      rw [q4] at ck1
      clear q4 f1 f2 hc2
      generalize xs.getD k 0 = y at *
      generalize sumI (xs.take k) = s at *
      have z1 : (k : Int) < (n : Int) := by omega
      have z2 : (k : Int) < (p : Int) := by have := P.out; omega
      have z3 : (k : Int) + 1 < (p : Int) := by have := P.out; omega
      have z4 : IntKind.i64.wrap ((k : Int) + 1) = (k : Int) + 1 := IntWalk.i64_in _ (by omega)
      have z5 : IntKind.i64.wrap (s + y) = s + y := IntWalk.i64_in _ (by omega)
      have z6 : IntKind.i64.wrap (s + y - 1) = s + y - 1 := IntWalk.i64_in _ (by omega)
      have z7 : (s + y != s + y) = false := by simp
      have z8 : ((k : Int) + 1).toNat = k + 1 := by omega
      have z9 : (0 : Int) ≤ (k : Int) + 1 := by omega
      go_wp2_with fail
      go_quiet (first | (go_at_call 23; with_reducible exact quiet_left5 (F1.out _)) | (go_at_call 23; with_reducible exact quiet_left5 (F2.out _)))
      clear z4 z5 z6 z7 z8 z9
      go_wp2_with fail
      go_roundw
      case rel => exact ⟨k + 1, by omega, by go_num, below_drewN HB.out _⟩
      case measure => simp [intOf]; omega
    · obtain rfl : k = n := by omega
      have BB := Lib.hid (bel_next BB.out HB.out)
      obtain ⟨w3, rfl⟩ : ∃ wo : World, wo = wr := ⟨_, rfl⟩
      have ce := cO.out k (Nat.le_refl _)
      rw [List.take_of_length_le (by rw [N.out]; omega)] at ce
      have z2 : (k : Int) < (p : Int) := by have := P.out; omega
      clear HB
      by_cases hq : 0 ≤ a ∧ a < sumI xs
      · obtain ⟨j, j1, j2, j3, j4, j5⟩ := fd_in K.out hq.1 hq.2
        have cj := cO.out j (by rw [N.out] at j1; omega)
        have cj1 := cO.out (j + 1) (by rw [N.out] at j1; omega)
        have J2 := Lib.hid j2
        have J3 := Lib.hid j3
        rw [N.out] at j1
        generalize sumI (xs.take j) = s at *
        generalize sumI (xs.take (j + 1)) = t at *
        obtain ⟨tt, htt⟩ : ∃ tt, sumI xs = tt := ⟨_, rfl⟩
        rw [htt] at ce hq
        have hq1 := hq.1
        have hq2 := hq.2
        have zj : (j : Int) < (k : Int) := by omega
        have zj1 : (j : Int) < (p : Int) := by have := P.out; omega
        have zj2 : (j : Int) + 1 < (p : Int) := by have := P.out; omega
        have z8 : ((j : Int) + 1).toNat = j + 1 := by omega
        clear j2 j3 hq htt cO
        go_wp2_with fail
        refine (skFind_v xs a _ N.out (by omega) HX.out SX.out ha1 J2.out J3.out).mono ?_
        rintro e w' ⟨rfl, rfl⟩
        go_wp2_with fail
        go_ret
        exact ⟨rfl, BB.out⟩
      · obtain ⟨j2, j3⟩ := fd_out K.out (a := a) (by omega)
        have J2 := Lib.hid j2
        have J3 := Lib.hid j3
        obtain ⟨tt, htt⟩ : ∃ tt, sumI xs = tt := ⟨_, rfl⟩
        rw [htt] at ce hq
        clear j2 j3 htt cO
        by_cases h0 : a < 0
        · clear hq
          go_wp2_with fail
          refine (skFind_v xs a _ N.out (by omega) HX.out SX.out ha1 J2.out J3.out).mono ?_
          rintro e w' ⟨rfl, rfl⟩
          go_wp2_with fail
          go_ret
          exact ⟨rfl, BB.out⟩
        · have h1 : tt ≤ a := by omega
          clear hq
          go_wp2_with fail
          refine (skFind_v xs a _ N.out (by omega) HX.out SX.out ha1 J2.out J3.out).mono ?_
          rintro e w' ⟨rfl, rfl⟩
          go_wp2_with fail
          go_ret
          exact ⟨rfl, BB.out⟩

set_option maxRecDepth 100000 in
set_option maxHeartbeats 400000 in
theorem seeksAdd_walk (A : Option Addr) (c : Nat) (xs : List Int) (a : Int) (w : World) (hc : xs.length ≤ c) (hm : c ≤ 9223372036854775807) (hx : I64 xs) (hs : Sl w w.heap.size .i64 A xs) (ha0 : -9223372036854775808 ≤ a) (ha1 : a ≤ 9223372036854775807) :
    Calls Try.prog 5 #[.slice A xs.length c, .int .i64 a] w fun e w' => e = .returned (.bool true) ∧ Below w.heap.size w w' := by
  by_cases h : lgB xs.length = false
  · by_cases h0 : skE xs = 0
    · exact add_main A _ c xs a w rfl hx hs ha0 ha1 h h0
    · have K := Lib.hid (skE_bad h0)
      have LG := Lib.hid h
      have SX := Lib.hid hs
      have BB := Lib.hid (bel_self w)
      clear hs h h0
      go_enter Try.func5, Try.ntmps5
      go_wp2_with fail
      refine (alive_any w).mono ?_
      rintro e w1 ⟨rfl, bel1⟩
      have SX := Lib.hid (SX.out.next bel1)
      have BB := Lib.hid (bel_next BB.out bel1)
      clear bel1
      go_wp2_with fail
      refine (long_v false _ LG.out).mono ?_
      rintro e w' ⟨rfl, rfl⟩
      go_wp2_with fail
      refine (recheck_v xs _ rfl (by omega) hx SX.out K.out).mono ?_
      rintro e w' ⟨rfl, rfl⟩
      go_wp2_with fail
      go_ret
      exact ⟨rfl, BB.out⟩
  · have LG := Lib.hid (show lgB xs.length = true by simpa using h)
    have BB := Lib.hid (bel_self w)
    clear hs hx h
    go_enter Try.func5, Try.ntmps5
    go_wp2_with fail
    refine (alive_any w).mono ?_
    rintro e w1 ⟨rfl, bel1⟩
    have BB := Lib.hid (bel_next BB.out bel1)
    clear bel1
    go_wp2_with fail
    refine (long_v true _ LG.out).mono ?_
    rintro e w' ⟨rfl, rfl⟩
    go_wp2_with fail
    go_ret
    exact ⟨rfl, BB.out⟩
end Go.Proofs.Ytdhiiknjdkmjjaa

/-
  The walk of SeeksBack. Conditions: numbers within their types.
-/
import Derived.Test.YtdhiiknjdkmjjaaLaw26B
import Derived.Test.YtdhiiknjdkmjjaaCrcOne
namespace Go.Proofs.Ytdhiiknjdkmjjaa
open Go.RowKit
set_option linter.unusedVariables false

theorem skB_cons (x : Int) (r : List Int) : skB (x :: r) = le4 x ++ skB r := by simp [skB]
theorem va4_skB {l : List Int} (h : ∀ x ∈ l, 0 ≤ x ∧ x ≤ 100000) (t : List Int) {k : Nat} (hk : k < l.length) : va4 (skB l ++ t) (4 * k) = l.getD k 0 := by
  induction l generalizing k with
  | nil => simp at hk
  | cons x r ih =>
    rw [skB_cons, List.append_assoc]
    have hx := h x (by simp)
    cases k with
    | zero => rw [va4_app_l _ _ _ (by simp [le4]), va4_le4 (by omega) (by omega)]; rfl
    | succ k =>
      have e : 4 * (k + 1) = (le4 x).length + 4 * k := by simp [le4]; omega
      rw [e, va4_app, ih (fun y hy => h y (by simp [hy])) (by simpa using hk)]; rfl
theorem skW_u8 (l : List Int) : U8 (skW l) := u8_append (skB_u8 _) (le4_u8 _)
theorem rdL_skW {l : List Int} (h : skE l = 0) (t : List Int) : rdL (skW l ++ t) l.length = l := by
  apply List.ext_getElem
  · rw [rdL_len]
  · intro i h1 h2
    have : (rdL (skW l ++ t) l.length)[i] = va4 (skW l ++ t) (4 * i) := by simp [rdL]
    rw [this]
    unfold skW
    rw [List.append_assoc, va4_skB (skE_each h) _ h2, List.getD_eq_getElem?_getD, List.getElem?_eq_getElem h2]
    rfl
theorem take_skW (l t : List Int) : (skW l ++ t).take (4 * l.length) = skB l := by
  unfold skW
  rw [List.append_assoc, ← skB_len l, List.take_left']
  rfl
theorem rd_back {l : List Int} (h : skE l = 0) (t : List Int) : rdE (skW l ++ t) l.length = 0 ∧ rdR (skW l ++ t) l.length = l := by
  obtain ⟨h1, h2, _, _⟩ := skE_ok h
  have hs : ((sumL ((skW l ++ t).take (4 * l.length)) : Nat) : Int) = va4 (skW l ++ t) (4 * l.length) := by
    rw [take_skW, ← skB_len l]
    unfold skW
    have := sumL_lt (skB l)
    have e := va4_app (skB l) (le4 ((sumL (skB l) : Nat) : Int) ++ t) 0
    rw [Nat.add_zero] at e
    rw [List.append_assoc, e, va4_app_l _ _ _ (by simp [le4]), va4_le4 (by omega) (by omega)]
  have hl : (skW l ++ t).length = 4 * l.length + 4 + t.length := by rw [List.length_append, skW_len]
  rcases rdE_cases (skW l ++ t) l.length with ⟨_, h0⟩ | ⟨k, hk, _, _, h3⟩
  · omega
  · obtain rfl : l.length = k := by omega
    rcases h3 with ⟨_, h3⟩ | ⟨_, ⟨_, h4⟩ | ⟨_, ⟨_, h5⟩ | ⟨h6, _, h7⟩⟩⟩
    · omega
    · exact absurd hs h4
    · rw [rdL_skW h] at h5; exact absurd h h5
    · exact ⟨h6, h7.trans (rdL_skW h t)⟩
theorem rd_cut {b : List Int} {n : Nat} (h1 : 1 ≤ n) (h2 : n ≤ 1000) (h : b.length < 4 * n + 4) : rdE b n = 24 := by
  rcases rdE_cases b n with ⟨_, h0⟩ | ⟨k, hk, _, _, h3⟩
  · omega
  · obtain rfl : n = k := by omega
    rcases h3 with ⟨h3, _⟩ | ⟨h3, _⟩
    · exact h3
    · omega
theorem rd_other {l : List Int} (h : skE l = 0) {i : Nat} (hi : i < 4 * l.length + 4) {y : Int} (hy : 0 ≤ y ∧ y ≤ 255) (hne : y ≠ (skW l).getD i 0) : rdE ((skW l).set i y) l.length = 22 := by
  obtain ⟨h1, h2, _, _⟩ := skE_ok h
  have hlen := skW_len l
  have hb := rd_back h []
  rw [List.append_nil] at hb
  have hs : ((sumL ((skW l).take (4 * l.length)) : Nat) : Int) = va4 (skW l) (4 * l.length) := by
    rcases rdE_cases (skW l) l.length with ⟨_, h0⟩ | ⟨k, hk, _, _, h3⟩
    · omega
    · obtain rfl : l.length = k := by omega
      rcases h3 with ⟨h3, _⟩ | ⟨_, ⟨h4, _⟩ | ⟨h4, _⟩⟩
      · omega
      · omega
      · exact h4
  have hd : ((sumL (((skW l).set i y).take (4 * l.length)) : Nat) : Int) ≠ va4 ((skW l).set i y) (4 * l.length) := by
    rcases Nat.lt_or_ge i (4 * l.length) with hlt | hge
    · have e1 : ((skW l).set i y).take (4 * l.length) = ((skW l).take (4 * l.length)).set i y := by rw [List.take_set]
      have e2 : y ≠ ((skW l).take (4 * l.length)).getD i 0 := by
        rw [List.getD_eq_getElem?_getD, List.getElem?_take_of_lt hlt, ← List.getD_eq_getElem?_getD]; exact hne
      have e3 := sumL_set (l := (skW l).take (4 * l.length)) (fun x hx => skW_u8 l x (List.mem_of_mem_take hx)) (i := i) (by rw [List.length_take]; omega) hy e2
      rw [e1, va4_set_far _ (by omega) (.inl hlt), ← hs]
      intro h; exact e3 (by omega)
    · have e1 : ((skW l).set i y).take (4 * l.length) = (skW l).take (4 * l.length) := by rw [List.take_set_of_le hge]
      have e2 := va4_set (skW_u8 l) (i := i) (j := 4 * l.length) (by omega) hge (by omega) hy hne (by omega)
      rw [e1, hs]
      exact fun h => e2 h.symm
  rcases rdE_cases ((skW l).set i y) l.length with ⟨_, h0⟩ | ⟨k, hk, _, _, h3⟩
  · omega
  · obtain rfl : l.length = k := by omega
    rcases h3 with ⟨_, h3⟩ | ⟨_, ⟨h4, _⟩ | ⟨h4, _⟩⟩
    · rw [List.length_set] at h3; omega
    · exact h4
    · exact absurd h4 hd

set_option maxRecDepth 100000 in
set_option maxHeartbeats 400000 in
theorem back_skip (A A' : Option Addr) (n c m c' : Nat) (a y : Int) (w : World) (h : lgB n = true ∨ lgB n = false ∧ laB m = true) :
    Calls Try.prog 7 #[.slice A n c, .slice A' m c', .int .i64 a, .int .u8 y] w fun e w' => e = .returned (.bool true) ∧ Below w.heap.size w w' := by
  have BB := Lib.hid (bel_self w)
  rcases h with h | ⟨h, h2⟩
  · have LG := Lib.hid h
    clear h
    go_enter Try.func7, Try.ntmps7
    go_wp2_with fail
    refine (alive_any w).mono ?_
    rintro e w1 ⟨rfl, bel1⟩
    have BB := Lib.hid (bel_next BB.out bel1)
    clear bel1
    go_wp2_with fail
    refine (long_v true _ LG.out).mono ?_
    rintro e w' ⟨rfl, rfl⟩
    go_wp2_with fail
    go_ret
    exact ⟨rfl, BB.out⟩
  · have LG := Lib.hid h
    have LA := Lib.hid h2
    clear h h2
    go_enter Try.func7, Try.ntmps7
    go_wp2_with fail
    refine (alive_any w).mono ?_
    rintro e w1 ⟨rfl, bel1⟩
    have BB := Lib.hid (bel_next BB.out bel1)
    clear bel1
    go_wp2_with fail
    refine (long_v false _ LG.out).mono ?_
    rintro e w' ⟨rfl, rfl⟩
    go_wp2_with fail
    refine (large_v true _ LA.out).mono ?_
    rintro e w' ⟨rfl, rfl⟩
    go_wp2_with fail
    go_ret
    exact ⟨rfl, BB.out⟩

set_option maxRecDepth 100000 in
set_option maxHeartbeats 400000 in
theorem back_bad (A A' : Option Addr) (n c m c' : Nat) (a y : Int) (xs : List Int) (w : World) (hn : xs.length = n) (hx : I64 xs) (hs : Sl w w.heap.size .i64 A xs) (h1 : lgB n = false) (h2 : laB m = false) (h0 : skE xs ≠ 0) :
    Calls Try.prog 7 #[.slice A n c, .slice A' m c', .int .i64 a, .int .u8 y] w fun e w' => e = .returned (.bool true) ∧ Below w.heap.size w w' := by
  have BB := Lib.hid (bel_self w)
  have LG := Lib.hid h1
  have LA := Lib.hid h2
  have SX := Lib.hid hs
  have K := Lib.hid (skE_bad h0)
  have R := Lib.hid (skWR_bad h0)
  have N := Lib.hid hn
  have hm := lgB_no h1
  clear h1 h2 hs h0 hn
  go_enter Try.func7, Try.ntmps7
  go_wp2_with fail
  refine (alive_any w).mono ?_
  rintro e w1 ⟨rfl, bel1⟩
  have SX := Lib.hid (SX.out.next bel1)
  have BB := Lib.hid (bel_next BB.out bel1)
  clear bel1
  go_wp2_with fail
  refine (long_v false _ LG.out).mono ?_
  rintro e w' ⟨rfl, rfl⟩
  go_wp2_with fail
  refine (large_v false _ LA.out).mono ?_
  rintro e w' ⟨rfl, rfl⟩
  go_wp2_with fail
  refine (skWrite_v xs [] _ N.out (by omega) hx SX.out K.out R.out).mono ?_
  rintro e w2 ⟨v2, rfl, own2, bel2⟩
  obtain ⟨Aa, ca, rfl, _, _, sl2⟩ := own2.sl
  have Sa := Lib.hid sl2
  have SX := Lib.hid (SX.out.next bel2)
  have BB := Lib.hid (bel_next BB.out bel2)
  clear own2 bel2 sl2
  go_wp2_with fail
  refine (skCheck_v xs _ N.out (by omega) hx SX.out K.out).mono ?_
  rintro e w' ⟨rfl, rfl⟩
  go_wp2_with fail
  go_ret
  exact ⟨rfl, BB.out⟩

theorem Own.next5 {w w' : World} {base e : Nat} {k : IntKind} {v : Value} {xs : List Int} (h : Own w base e k v xs) (hb : Below w.heap.size w w') : Own w' base e k v xs := h.below hb

set_option maxRecDepth 100000 in
set_option maxHeartbeats 2000000 in
theorem back_main (A A' : Option Addr) (n c m c' : Nat) (a y : Int) (xs bs : List Int) (w : World) (hn : xs.length = n) (hx : I64 xs) (hs : Sl w w.heap.size .i64 A xs) (hm : bs.length = m) (hb : U8 bs) (hsb : Sl w w.heap.size .u8 A' bs)
    (ha0 : -9223372036854775808 ≤ a) (ha1 : a ≤ 9223372036854775807) (hy0 : 0 ≤ y) (hy1 : y ≤ 255) (h1 : lgB n = false) (h2 : laB m = false) (h0 : skE xs = 0) :
    Calls Try.prog 7 #[.slice A n c, .slice A' m c', .int .i64 a, .int .u8 y] w fun e w' => e = .returned (.bool true) ∧ Below w.heap.size w w' := by
  have BB := Lib.hid (bel_self w)
  have LG := Lib.hid h1
  have LA := Lib.hid h2
  have SX := Lib.hid hs
  have SB := Lib.hid hsb
  have HX := Lib.hid hx
  have HBS := Lib.hid hb
  have K := Lib.hid h0
  have R := Lib.hid (skWR_ok h0)
  have N := Lib.hid hn
  have M := Lib.hid hm
  have hl1 := skE_ok h0
  have hn1 : 1 ≤ n ∧ n ≤ 1000 := by omega
  have hm1 := laB_no h2
  clear hl1
  obtain ⟨q, hq⟩ : ∃ q, q = 4 * n + 4 := ⟨_, rfl⟩
  have LW := Lib.hid (show (skW xs).length = q by rw [skW_len, hn, hq])
  have RB := Lib.hid (show rdE (skW xs ++ bs) n = 0 ∧ rdR (skW xs ++ bs) n = xs by rw [← hn]; exact rd_back h0 bs)
  have RC := Lib.hid (show rdE ((skW xs).take (q - 1)) n = 24 from rd_cut hn1.1 hn1.2 (by rw [List.length_take]; omega))
  have RO := Lib.hid (show ∀ i z, i < q → 0 ≤ z ∧ z ≤ 255 → z ≠ (skW xs).getD i 0 → rdE ((skW xs).set i z) n = 22 from fun i z hi hz hne => by rw [← hn]; exact rd_other h0 (by omega) hz hne)
  have U := Lib.hid (skW_u8 xs)
  have e1 : 4 * (n : Int) + 4 = (q : Int) := by omega
  have e2 : ((q : Int) != (q : Int)) = false := by simp
  have Q := Lib.hid hq
  have E1 := Lib.hid e1
  clear h1 h2 hs hsb hx hb h0 hn hm hq
  go_enter Try.func7, Try.ntmps7
  go_wp2_with fail
  refine (alive_any w).mono ?_
  rintro e w1 ⟨rfl, bel1⟩
  have SX := Lib.hid (SX.out.next bel1)
  have SB := Lib.hid (SB.out.next bel1)
  have BB := Lib.hid (bel_next BB.out bel1)
  clear bel1
  go_wp2_with fail
  refine (long_v false _ LG.out).mono ?_
  rintro e w' ⟨rfl, rfl⟩
  go_wp2_with fail
  refine (large_v false _ LA.out).mono ?_
  rintro e w' ⟨rfl, rfl⟩
  go_wp2_with fail
  refine (skWrite_v xs (skW xs) _ N.out (by omega) HX.out SX.out K.out R.out).mono ?_
  rintro e w2 ⟨v2, rfl, own2, bel2⟩
  obtain ⟨Aa, ca, rfl, hca, hma, sl2⟩ := own2.sln LW.out
  obtain ⟨g, rfl, hg1, hg2⟩ := own2.addr (by rw [LW.out, Q.out]; omega)
  have SA := Lib.hid sl2
  have OA := Lib.hid (own2.rebase (base' := w.heap.size) BB.out.size)
  have SX := Lib.hid (SX.out.next bel2)
  have SB := Lib.hid (SB.out.next bel2)
  have BB := Lib.hid (bel_next BB.out bel2)
  clear own2 bel2 sl2
  have B0 := Lib.hid (bel_up (bel_self w2) (.cells #[] 5))
  have hq4 : q ≤ 4004 := by have := Q.out; omega
  go_wp2_with (first
    | (at_builtin; refine appNh (xs := []) (ys := skW xs) leElU8 _ _ rfl rfl rfl rfl LW.out (Own.lit w2 w2.heap.size .u8 5 [] rfl rfl (Nat.le_refl _) (by decide)) (SA.out.alloc (Nat.le_refl _) _) (by simp; omega) (by simp; omega) B0.out.size ?_; intro v3 w3 own3 bel3; have O3 := Lib.hid (show Own w3 w2.heap.size 5 .u8 v3 (skW xs) by simpa using own3); have B3 := Lib.hid (B0.out.trans bel3); clear own3 bel3)
    | (at_builtin; refine appNh (xs := skW xs) (ys := bs) leElU8 _ _ rfl rfl rfl rfl M.out O3.out (SB.out.below B3.out) (by rw [LW.out]; omega) (by rw [LW.out]; omega) B3.out.size ?_; intro v4 w4 own4 bel4; have O4 := Lib.hid own4; have B4 := Lib.hid (B3.out.trans bel4); clear own4 bel4 O3 B3))
  obtain ⟨Ab, cb, rfl, hcb, hmb, sl4⟩ := O4.out.sln (n := q + m) (by rw [List.length_append, LW.out, M.out])
  have SC := Lib.hid sl4
  have OA := Lib.hid (OA.out.next5 B4.out)
  have SA := Lib.hid (SA.out.next B4.out)
  have SX := Lib.hid (SX.out.next B4.out)
  have BB := Lib.hid (bel_next BB.out B4.out)
  clear sl4 O4 B4 B0 SB
  go_wp2_with fail
  refine (skRead_v (skW xs ++ bs) xs _ (by rw [List.length_append, LW.out, M.out]) hcb hmb (u8_append U.out HBS.out) SC.out RB.out.1 RB.out.2).mono ?_
  rintro e w5 ⟨v5, rfl, own5, bel5⟩
  obtain ⟨Ar, cr, rfl, hcr, hmr, sl5⟩ := own5.sln N.out
  have SR := Lib.hid sl5
  have OA := Lib.hid (OA.out.next5 bel5)
  have SA := Lib.hid (SA.out.next bel5)
  have SX := Lib.hid (SX.out.next bel5)
  have BB := Lib.hid (bel_next BB.out bel5)
  clear own5 bel5 sl5 SC
  have r1 : ∀ W, (Instr.slice 22 (.slice (some ⟨g, 0, none⟩) q ca) none (some (.int .i64 ((q : Int) - 1))) none).run Try.prog W = .ok (.slice (some ⟨g, 0, none⟩) (q - 1) ca) W := run_upto leElU8 _ q ca (q - 1) (by have := Q.out; omega) (by omega)
  go_wp2_with fail
  refine (skRead_v ((skW xs).take (q - 1)) [] _ (by rw [List.length_take, LW.out]; omega) (by omega) hma (fun x h => U.out x (List.mem_of_mem_take h)) (SA.out.take _) RC.out (rdR_bad (by rw [RC.out]; decide))).mono ?_
  rintro e w6 ⟨v6, rfl, own6, bel6⟩
  obtain ⟨A6, c6, rfl, _, _, _⟩ := own6.sl
  have SR := Lib.hid (SR.out.next bel6)
  have OA := Lib.hid (OA.out.next5 bel6)
  have SX := Lib.hid (SX.out.next bel6)
  have BB := Lib.hid (bel_next BB.out bel6)
  clear own6 bel6 r1 SA
  go_wp2_with fail
  refine (sameI Ar A n n cr c xs _ N.out N.out (by rw [N.out]; omega) SR.out SX.out).mono ?_
  rintro e w7 ⟨rfl, bel7⟩
  have OA := Lib.hid (OA.out.next5 bel7)
  have BB := Lib.hid (bel_next BB.out bel7)
  clear bel7 SR SX
  by_cases hq : 0 ≤ a ∧ a < q ∧ y ≠ 0
  · obtain ⟨ha, hb, hy⟩ := hq
    obtain ⟨i, rfl⟩ := Int.eq_ofNat_of_zero_le ha
    have hi : i < q := by omega
    have cell := OA.out.cell i (by rw [LW.out]; exact hi)
    have free := OA.out.frozen i
    have hb2 := U.out _ (mem_getD (show i < (skW xs).length by rw [LW.out]; exact hi))
    obtain ⟨z1, z2, z3⟩ := xor8_bd (y := y) hb2 ⟨hy0, hy1⟩ hy
    have RZ := Lib.hid (RO.out i _ hi ⟨z1, z2⟩ z3)
    generalize (skW xs).getD i 0 = x at *
    generalize hz : bits .xor .u8 x y = z at *
    have O8 := Lib.hid (OA.out.set i z)
    have B8 := Lib.hid (BB.out.setCell (p := ⟨g, i, none⟩) (Nat.le_trans (Nat.le_refl _) OA.out.base_le) (.int .u8 z))
    have UZ := Lib.hid (u8_set U.out i ⟨z1, z2⟩)
    have LZ := Lib.hid (show ((skW xs).set i z).length = q by rw [List.length_set]; exact LW.out)
    obtain ⟨A8, c8, hv8, hc8, hm8, sl8⟩ := O8.out.sln LZ.out
    injection hv8 with hA8 hn8 hcc8
    subst hA8 hcc8
    have S8 := Lib.hid sl8
    have y0 : (y == 0) = false := by simp; exact hy
    clear sl8 OA BB
    go_wp2_with fail
    refine (skRead_v ((skW xs).set i z) [] _ LZ.out hca hma UZ.out S8.out RZ.out (rdR_bad (by rw [RZ.out]; decide))).mono ?_
    rintro e w9 ⟨v9, rfl, own9, bel9⟩
    obtain ⟨A9, c9, rfl, _, _, _⟩ := own9.sl
    have BB := Lib.hid (bel_next B8.out bel9)
    clear own9 bel9
    go_wp2_with fail
    go_ret
    exact ⟨rfl, BB.out⟩
  · by_cases ha : a < 0
    · go_wp2_with fail
      go_ret
      exact ⟨rfl, BB.out⟩
    · by_cases hb : (q : Int) ≤ a
      · go_wp2_with fail
        go_ret
        exact ⟨rfl, BB.out⟩
      · obtain rfl : y = 0 := by
          by_cases h : y = 0
          · exact h
          · exact absurd ⟨by omega, by omega, h⟩ hq
        clear hq
        go_wp2_with fail
        go_ret
        exact ⟨rfl, BB.out⟩

theorem seeksBack_walk (A : Option Addr) (c : Nat) (xs : List Int) (A' : Option Addr) (c' : Nat) (bs : List Int) (a y : Int) (w : World) (hc : xs.length ≤ c) (hm : c ≤ 9223372036854775807) (hx : I64 xs) (hs : Sl w w.heap.size .i64 A xs)
    (hc' : bs.length ≤ c') (hm' : c' ≤ 9223372036854775807) (hb : U8 bs) (hsb : Sl w w.heap.size .u8 A' bs) (ha0 : -9223372036854775808 ≤ a) (ha1 : a ≤ 9223372036854775807) (hy0 : 0 ≤ y) (hy1 : y ≤ 255) :
    Calls Try.prog 7 #[.slice A xs.length c, .slice A' bs.length c', .int .i64 a, .int .u8 y] w fun e w' => e = .returned (.bool true) ∧ Below w.heap.size w w' := by
  by_cases h1 : lgB xs.length = false
  · by_cases h2 : laB bs.length = false
    · by_cases h0 : skE xs = 0
      · exact back_main A A' _ c _ c' a y xs bs w rfl hx hs rfl hb hsb ha0 ha1 hy0 hy1 h1 h2 h0
      · exact back_bad A A' _ c _ c' a y xs w rfl hx hs h1 h2 h0
    · exact back_skip A A' _ c _ c' a y w (.inr ⟨h1, by simpa using h2⟩)
  · exact back_skip A A' _ c _ c' a y w (.inl (by simpa using h1))
end Go.Proofs.Ytdhiiknjdkmjjaa

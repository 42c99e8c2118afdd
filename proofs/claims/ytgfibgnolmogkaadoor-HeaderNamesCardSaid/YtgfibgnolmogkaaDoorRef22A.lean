/-
  What the functions of the reference of layer 22 compute. Conditions: numbers within their types.
-/
import Derived.Test.YtgfibgnolmogkaaDoorLenAllA
namespace Go.Proofs.YtgfibgnolmogkaaDoor
open Go.RowKit
set_option linter.unusedVariables false

set_option maxHeartbeats 400000 in
theorem relong_any (r : Int) (w : World) (hr0 : -9223372036854775808 ≤ r) (hr1 : r ≤ 9223372036854775807) :
    Calls Tryd.prog 71 #[.int .i64 r] w fun e w' => e = .returned (.tuple #[.int .i64 (lgV r), .int .i64 (lgE r)]) ∧ w = w' := by
  by_cases h1 : r < 1
  · have e := Lib.hid (lg_no (r := r) (by omega))
    go_enter Tryd.func71, Tryd.ntmps71
    go_wp2_with fail
    go_ret2
    exact ⟨by rw [e.out.1, e.out.2]; rfl, rfl⟩
  · by_cases h2 : 1048576 < r
    · have e := Lib.hid (lg_no (r := r) (by omega))
      go_enter Tryd.func71, Tryd.ntmps71
      go_wp2_with fail
      go_ret2
      exact ⟨by rw [e.out.1, e.out.2]; rfl, rfl⟩
    · have e := Lib.hid (lg_ok (r := r) (by omega) (by omega))
      have h3 : (r * 256 / 245 == 0) = false := by simp; omega
      go_enter Tryd.func71, Tryd.ntmps71
      go_wp2_with fail
      all_goals
        go_ret2
        refine ⟨?_, rfl⟩
        rw [e.out.1, e.out.2]
        have q : ∀ a b : Int, a = b → Ending.returned (.tuple #[.int .i64 a, .int .i64 0]) = .returned (.tuple #[.int .i64 b, .int .i64 0]) := fun a b h => by rw [h]
        exact q _ _ (by omega)

/-- what is left of n moments behind k frames -/
def lfK (L n : Int) (k : Nat) : Int := max 0 (n - (k : Int) * L)
theorem lfK_zero (L n : Int) (h : 1 ≤ n) : lfK L n 0 = n := by unfold lfK; omega
theorem lfK_bd (L n : Int) (k : Nat) (hL : 1 ≤ L) : 0 ≤ lfK L n k ∧ lfK L n k ≤ max 0 n := by
  unfold lfK
  have : 0 ≤ (k : Int) * L := Int.mul_nonneg (by omega) (by omega)
  omega
theorem alL_eq {L n : Int} {m : Nat} (hm : frN L n = (m : Int) + 1) : alL L n = List.replicate m L ++ [n - (m : Int) * L] := by
  unfold alL
  rw [hm, show (m : Int) + 1 - 1 = m by omega, Int.toNat_natCast]
theorem alL_step {L n : Int} {m k : Nat} (hL : 1 ≤ L) (hn : 1 ≤ n) (hm : frN L n = (m : Int) + 1) (hk : k < m + 1) :
    0 < lfK L n k ∧ lfK L n (k + 1) = lfK L n k - min (lfK L n k) L ∧ (alL L n).getD k 0 = min (lfK L n k) L := by
  have hs := frN_spec hL hn
  rw [hm, show (m : Int) + 1 - 1 = m by omega] at hs
  obtain ⟨_, h1, h2⟩ := hs
  rw [Int.add_mul] at h2
  have e1 : ((k + 1 : Nat) : Int) * L = (k : Int) * L + L := by rw [Int.natCast_add, Int.add_mul]; omega
  unfold lfK
  rw [alL_eq hm, e1]
  rcases Nat.lt_or_ge k m with hlt | hge
  · have h3 : ((k + 1 : Nat) : Int) * L ≤ (m : Int) * L := Int.mul_le_mul_of_nonneg_right (by omega) (by omega)
    rw [e1] at h3
    refine ⟨by omega, by omega, ?_⟩
    rw [List.getD_eq_getElem?_getD, List.getElem?_append_left (by simpa using hlt), List.getElem?_replicate, if_pos hlt]
    simp only [Option.getD_some]; omega
  · obtain rfl : k = m := by omega
    refine ⟨by omega, by omega, ?_⟩
    rw [List.getD_eq_getElem?_getD, List.getElem?_append_right (by simp), List.length_replicate, Nat.sub_self]
    simp only [List.getElem?_cons_zero, Option.getD_some]; omega
theorem lfK_last {L n : Int} {m : Nat} (hL : 1 ≤ L) (hn : 1 ≤ n) (hm : frN L n = (m : Int) + 1) : lfK L n (m + 1) = 0 := by
  have hs := (frN_spec hL hn).2.2
  rw [hm] at hs
  unfold lfK
  rw [show ((m + 1 : Nat) : Int) = (m : Int) + 1 by omega]
  omega
theorem alL_length {L n : Int} {m : Nat} (hm : frN L n = (m : Int) + 1) : (alL L n).length = m + 1 := by rw [alL_eq hm]; simp

set_option maxHeartbeats 1000000 in
theorem reall_any (r n : Int) (w : World) (hr0 : -9223372036854775808 ≤ r) (hr1 : r ≤ 9223372036854775807) (hn0 : -9223372036854775808 ≤ n) (hn1 : n ≤ 9223372036854775807) :
    Calls Tryd.prog 66 #[.int .i64 r, .int .i64 n] w fun e w' =>
      ∃ v, e = .returned (.tuple #[v, .int .i64 (cnE r n)]) ∧ Own w' w.heap.size 3 .i64 v (alR r n) ∧ Below w.heap.size w w' := by
  have LG := Lib.hid (relong_any r w hr0 hr1)
  by_cases h0 : lgE r = 0 ∧ 1 ≤ n ∧ n ≤ 4000
  · obtain ⟨hl, h1, h2⟩ := h0
    obtain ⟨b1, b2, b3, b4⟩ := lgV_bd hl
    rw [hl] at LG
    have hq := (frN_spec b1 h1).1
    have hq2 := frN_le b1 h1
    obtain ⟨m, hm⟩ : ∃ m : Nat, frN (lgV r) n = (m : Int) + 1 := ⟨(frN (lgV r) n - 1).toNat, by omega⟩
    have HM := Lib.hid hm
    have R := Lib.hid (show (m + 1 ≤ 1000 → cnE r n = 0 ∧ alR r n = alL (lgV r) n) ∧ (1000 < m + 1 → cnE r n = 4 ∧ alR r n = []) by
      refine ⟨fun h => ?_, fun h => ?_⟩
      · have : cnE r n = 0 := by unfold cnE; rw [if_pos ⟨hl, h1, h2⟩, if_pos (by omega)]
        exact ⟨this, alR_ok this⟩
      · have : cnE r n = 4 := by unfold cnE; rw [if_pos ⟨hl, h1, h2⟩, if_neg (by omega)]
        exact ⟨this, alR_bad (by omega)⟩)
    rw [hm] at hq hq2
    clear hm hl
    generalize alR r n = ys at *
    generalize cnE r n = E at *
    generalize lgV r = L at *
    have mn := Lib.hid (show ∀ t : Int, (if t < L then t else L) = min t L by intro t; omega)
    go_enter Tryd.func66, Tryd.ntmps66
    go_wp2_with fail
    refine LG.out.mono ?_
    rintro e w' ⟨rfl, rfl⟩
    go_wp2_with fail
    go_loopw [1, 8] (fun i v wr => ∃ k : Nat, k ≤ m + 1 ∧ i = .int .i64 (lfK L n k) ∧ Own wr w.heap.size 3 .i64 v ((alL L n).take k) ∧ Below w.heap.size w wr) (fun i _ _ => (intOf i).toNat)
    case atStart => exact ⟨0, by omega, by rw [lfK_zero L n h1], own_nil _ _ _ _, bel_self _⟩
    case round =>
      obtain ⟨k, hk, rfl, hown, hbel⟩ := hrel
      have hB := hbel.size
      have HO := Lib.hid hown
      have HB := Lib.hid hbel
      clear hown hbel
      by_cases hlt : k < m + 1
      · obtain ⟨s1, s2, s3⟩ := alL_step b1 h1 HM.out hlt
        have s4 := lfK_bd L n k b1
        have T := Lib.hid (take_snoc (alL L n) k (by rw [alL_length HM.out]; exact hlt))
        rw [s3] at T
        have hlen := Lib.hid (show ((alL L n).take k).length ≤ 4000 by rw [List.length_take, alL_length HM.out]; omega)
        have S2 := Lib.hid s2
        clear s2 s3
        generalize lfK L n k = t at *
        generalize (alL L n).take k = vs at *
        by_cases hc : L < t
        · have e := Lib.hid (show min t L = L by omega)
          go_wp2_with ((at_builtin; refine app1 elI64 _ _ rfl rfl rfl rfl HO.out (by have := hlen.out; omega) (by have := hlen.out; omega) hB ?_; intro v2 w2 ho2 hb2; have HO2 := Lib.hid ho2; have HB2 := Lib.hid (HB.out.trans hb2); clear ho2 hb2))
          go_roundw
          case rel => exact ⟨k + 1, by omega, by rw [S2.out, e.out], by rw [T.out, e.out]; exact HO2.out, HB2.out⟩
          case measure => simp [intOf]; omega
        · have e := Lib.hid (show min t L = t by omega)
          go_wp2_with ((at_builtin; refine app1 elI64 _ _ rfl rfl rfl rfl HO.out (by have := hlen.out; omega) (by have := hlen.out; omega) hB ?_; intro v2 w2 ho2 hb2; have HO2 := Lib.hid ho2; have HB2 := Lib.hid (HB.out.trans hb2); clear ho2 hb2))
          go_roundw
          case rel => exact ⟨k + 1, by omega, by rw [S2.out, e.out]; go_num, by rw [T.out, e.out]; exact HO2.out, HB2.out⟩
          case measure => simp [intOf]; omega
      · obtain rfl : k = m + 1 := by omega
        have Z := Lib.hid (lfK_last b1 h1 HM.out)
        have e1 := Lib.hid (show (alL L n).take (m + 1) = alL L n from List.take_of_length_le (by rw [alL_length HM.out]; omega))
        have e2 := Lib.hid (alL_length HM.out)
        rw [Z.out]
        rw [e1.out] at HO
        clear Z e1
        clear hlt hk hq hq2 HM
        generalize alL L n = xs at *
        generalize m + 1 = q at *
        obtain ⟨A, c, rfl, _, _, _⟩ := HO.out.sln (e2.out)
        by_cases hm : q ≤ 1000
        · obtain ⟨rfl, r2⟩ := R.out.1 hm
          have R2 := Lib.hid r2
          clear r2 R
          have hm' : ¬ ((1000 : Int) < (q : Int)) := by omega
          go_wp2_with fail
          go_ret2
          exact ⟨_, rfl, by rw [R2.out]; exact HO.out, HB.out⟩
        · obtain ⟨rfl, r2⟩ := R.out.2 (by omega)
          have R2 := Lib.hid r2
          clear r2 R
          have hm' : ((1000 : Int) < (q : Int)) := by omega
          go_wp2_with fail
          go_ret2
          exact ⟨_, rfl, by rw [R2.out]; exact own_nil _ _ _ _, HB.out⟩
  · have hE : cnE r n = 2 := by unfold cnE; rw [if_neg h0]
    have R := Lib.hid (alR_bad (r := r) (n := n) (by omega))
    rw [hE]
    rcases lgE_cases r with ⟨hl, h3, h4⟩ | ⟨hl, _, h3⟩
    · rw [hl] at LG
      have h5 : n < 1 ∨ 4000 < n := by omega
      generalize alR r n = ys at *
      generalize lgV r = L at *
      clear h0 hE
      rcases h5 with h5 | h5
      · go_enter Tryd.func66, Tryd.ntmps66
        go_wp2_with fail
        refine LG.out.mono ?_
        rintro e w' ⟨rfl, rfl⟩
        go_wp2_with fail
        go_ret2
        exact ⟨_, rfl, by rw [R.out]; exact own_nil _ _ _ _, bel_self _⟩
      · go_enter Tryd.func66, Tryd.ntmps66
        go_wp2_with fail
        refine LG.out.mono ?_
        rintro e w' ⟨rfl, rfl⟩
        go_wp2_with fail
        all_goals
          go_ret2
          exact ⟨_, rfl, by rw [R.out]; exact own_nil _ _ _ _, bel_self _⟩
    · rw [hl] at LG
      generalize alR r n = ys at *
      generalize lgV r = L at *
      clear h0 hE hl
      go_enter Tryd.func66, Tryd.ntmps66
      go_wp2_with fail
      refine LG.out.mono ?_
      rintro e w' ⟨rfl, rfl⟩
      go_wp2_with fail
      all_goals
        go_ret2
        exact ⟨_, rfl, by rw [R.out]; exact own_nil _ _ _ _, bel_self _⟩
end Go.Proofs.YtgfibgnolmogkaaDoor

/-
  What Forward, Back and Same of the reference of layer 13 compute. Conditions: numbers within their types.
-/
import Derived.Test.YtkdfjhblkcbfdaaRef13Walks
namespace Go.Proofs.Ytkdfjhblkcbfdaa
open Go.RowKit
set_option linter.unusedVariables false

set_option maxHeartbeats 1000000 in
theorem reforward_ok (b : Int) (A : Option Addr) (n c : Nat) (xs : List Int) (w : World) (hb : shE b = 0) (hn : xs.length = n) (hl : n ≤ 4000) (hx : I32 xs) (hs : Sl w w.heap.size .i32 A xs)
    (hb0 : -9223372036854775808 ≤ b) (hb1 : b ≤ 9223372036854775807) :
    Calls Try.prog 17 #[.int .i64 b, .slice A n c] w fun e w' =>
      ∃ v, e = .returned (.tuple #[v, .int .i64 0]) ∧ Own w' w.heap.size 21 .i32 v (fwd (shS b) 0 xs) ∧ Below w.heap.size w w' := by
  subst hn
  have CH := reshift_any b w hb0 hb1
  rw [hb] at CH
  have hs4 := shS_of hb
  generalize shS b = s at *
  have CH := Lib.hid CH
  have HS4 := Lib.hid hs4
  have d1 : decide ((4000 : Int) < (xs.length : Int)) = false := by simp; omega
  clear hb hs4
  go_enter Try.func17, Try.ntmps17
  go_wp2_with fail
  refine CH.out.mono ?_
  rintro e w' ⟨rfl, rfl⟩
  clear CH
  go_wp2_with fail
  go_loopw [8, 9] (fun v i wr => ∃ k : Nat, k ≤ xs.length ∧ i = .int .i64 k ∧ Own wr w.heap.size 21 .i32 v (fwd s 0 (xs.take k)) ∧ Below w.heap.size w wr) (fun _ i _ => xs.length - (intOf i).toNat)
  case atStart => exact ⟨0, Nat.zero_le _, rfl, World.ownsRow_nil _ _ _ _, Below.refl _ _⟩
  case round =>
    obtain ⟨k, hk, rfl, hown, hbel⟩ := hrel
    by_cases hlt : k < xs.length
    · obtain ⟨b, o, rfl, hb, hc⟩ := hs (by omega)
      have hcell := (hbel.cell (p := ⟨b, o + k, none⟩) hb).trans (hc k hlt)
      have hbd := hx _ (mem_getD hlt)
      have hT := (congrArg (fwd s 0) (take_snoc xs k hlt)).trans (fwd_snoc s 0 (xs.take k) (xs.getD k 0))
      by_cases hk0 : 0 < k
      · have hk0' : (0 : Int) < (k : Int) := by omega
        have hlast := lastI_bd (i32_take hx k)
        have hprev := (hbel.cell (p := ⟨b, o + (k - 1), none⟩) hb).trans (hc (k - 1) (by omega))
        rw [← lastI_take xs k hk0 hk] at hprev
        generalize lastI 0 (xs.take k) = la at *
        have hgb := gF_bd s la hlast.1 hlast.2
        generalize xs.getD k 0 = y at *
        have HT := Lib.hid hT
        have HO := Lib.hid hown
        have HB := Lib.hid hbel
        clear hT hc hs hown hbel
        go_wp2_with fail
        refine (behind_any s la _ HS4.out hlast.1 hlast.2).mono ?_
        rintro e w' ⟨rfl, rfl⟩
        generalize gF s la = g at *
        go_wp2_with fail
        refine (Wrap_any _ _ (by omega) (by omega)).mono ?_
        rintro e w' ⟨rfl, rfl⟩
        go_wp2_with (at_builtin; refine app1 elI32 _ _ rfl rfl rfl rfl HO.out (by simp [fwd_len]; omega) (by simp [fwd_len]; omega) HB.out.size ?_; intro v' w' hown' hbel')
        go_roundw
        case rel => exact ⟨k + 1, by omega, by go_num, by rw [HT.out]; exact hown', HB.out.trans hbel'⟩
        case measure => simp [intOf]; omega
      · have e0 : gF s (lastI 0 (xs.take k)) = 0 := by
          rw [show k = 0 by omega, show lastI 0 (xs.take 0) = 0 from by simp [lastI], gF_zero]
        rw [e0] at hT
        have hk0' : ¬ (0 : Int) < (k : Int) := by omega
        generalize xs.getD k 0 = y at *
        have HT := Lib.hid hT
        have HO := Lib.hid hown
        have HB := Lib.hid hbel
        clear hT hc hs hown hbel e0
        go_wp2_with fail
        refine (Wrap_any _ _ (by omega) (by omega)).mono ?_
        rintro e w' ⟨rfl, rfl⟩
        go_wp2_with (at_builtin; refine app1 elI32 _ _ rfl rfl rfl rfl HO.out (by simp [fwd_len]; omega) (by simp [fwd_len]; omega) HB.out.size ?_; intro v' w' hown' hbel')
        go_roundw
        case rel => exact ⟨k + 1, by omega, by go_num, by rw [HT.out, Int.sub_zero]; exact hown', HB.out.trans hbel'⟩
        case measure => simp [intOf]; omega
    · go_wp2_with fail
      go_ret2
      refine ⟨_, rfl, ?_, hbel⟩
      rw [List.take_of_length_le (by omega)] at hown
      exact hown

set_option maxHeartbeats 1000000 in
theorem rebackward_ok (b : Int) (A : Option Addr) (n c : Nat) (xs : List Int) (w : World) (hb : shE b = 0) (hn : xs.length = n) (hl : n ≤ 4000) (hx : I32 xs) (hs : Sl w w.heap.size .i32 A xs)
    (hb0 : -9223372036854775808 ≤ b) (hb1 : b ≤ 9223372036854775807) :
    Calls Try.prog 19 #[.int .i64 b, .slice A n c] w fun e w' =>
      ∃ v, e = .returned (.tuple #[v, .int .i64 0]) ∧ Own w' w.heap.size 21 .i32 v (bck (shS b) 0 xs) ∧ Below w.heap.size w w' := by
  subst hn
  have CH := reshift_any b w hb0 hb1
  rw [hb] at CH
  have hs4 := shS_of hb
  generalize shS b = s at *
  have CH := Lib.hid CH
  have HS4 := Lib.hid hs4
  have d1 : decide ((4000 : Int) < (xs.length : Int)) = false := by simp; omega
  clear hb hs4
  go_enter Try.func19, Try.ntmps19
  go_wp2_with fail
  refine CH.out.mono ?_
  rintro e w' ⟨rfl, rfl⟩
  clear CH
  go_wp2_with fail
  go_loopw [8, 9] (fun v i wr => ∃ k : Nat, k ≤ xs.length ∧ i = .int .i64 k ∧ Own wr w.heap.size 21 .i32 v (bck s 0 (xs.take k)) ∧ Below w.heap.size w wr) (fun _ i _ => xs.length - (intOf i).toNat)
  case atStart => exact ⟨0, Nat.zero_le _, rfl, World.ownsRow_nil _ _ _ _, Below.refl _ _⟩
  case round =>
    obtain ⟨k, hk, rfl, hown, hbel⟩ := hrel
    by_cases hlt : k < xs.length
    · obtain ⟨b, o, rfl, hb, hc⟩ := hs (by omega)
      have hcell := (hbel.cell (p := ⟨b, o + k, none⟩) hb).trans (hc k hlt)
      have hbd := hx _ (mem_getD hlt)
      have hT := (congrArg (bck s 0) (take_snoc xs k hlt)).trans (bck_snoc s 0 (xs.take k) (xs.getD k 0))
      by_cases hk0 : 0 < k
      · have hk0' : (0 : Int) < (k : Int) := by omega
        have hlast := lastI_bd (bck_i32 s 0 (xs.take k))
        obtain ⟨A', c', rfl, hcc, hcm, hsl⟩ := hown.sln (n := k) (by rw [bck_len, List.length_take]; omega)
        obtain ⟨b', o', rfl, hb', hc'⟩ := hsl (by rw [bck_len, List.length_take]; omega)
        have hprev := hc' (k - 1) (by rw [bck_len, List.length_take]; omega)
        rw [← lastI_getD _ k (by rw [bck_len, List.length_take]; omega) hk0] at hprev
        clear hsl hc'
        generalize lastI 0 (bck s 0 (xs.take k)) = la at *
        have hgb := gF_bd s la hlast.1 hlast.2
        generalize xs.getD k 0 = y at *
        have HT := Lib.hid hT
        have HO := Lib.hid hown
        have HB := Lib.hid hbel
        clear hT hc hs hown hbel
        go_wp2_with fail
        refine (behind_any s la _ HS4.out hlast.1 hlast.2).mono ?_
        rintro e w' ⟨rfl, rfl⟩
        generalize gF s la = g at *
        go_wp2_with fail
        refine (Wrap_any _ _ (by omega) (by omega)).mono ?_
        rintro e w' ⟨rfl, rfl⟩
        go_wp2_with (at_builtin; refine app1 elI32 _ _ rfl rfl rfl rfl HO.out (by simp [bck_len]; omega) (by simp [bck_len]; omega) HB.out.size ?_; intro v' w' hown' hbel')
        go_roundw
        case rel => exact ⟨k + 1, by omega, by go_num, by rw [HT.out]; exact hown', HB.out.trans hbel'⟩
        case measure => simp [intOf]; omega
      · have e0 : gF s (lastI 0 (bck s 0 (xs.take k))) = 0 := by
          rw [show k = 0 by omega, show lastI 0 (bck s 0 (xs.take 0)) = 0 from by simp [lastI, bck], gF_zero]
        rw [e0] at hT
        have hk0' : ¬ (0 : Int) < (k : Int) := by omega
        generalize xs.getD k 0 = y at *
        have HT := Lib.hid hT
        have HO := Lib.hid hown
        have HB := Lib.hid hbel
        clear hT hc hs hown hbel e0
        go_wp2_with fail
        refine (Wrap_any _ _ (by omega) (by omega)).mono ?_
        rintro e w' ⟨rfl, rfl⟩
        go_wp2_with (at_builtin; refine app1 elI32 _ _ rfl rfl rfl rfl HO.out (by simp [bck_len]; omega) (by simp [bck_len]; omega) HB.out.size ?_; intro v' w' hown' hbel')
        go_roundw
        case rel => exact ⟨k + 1, by omega, by go_num, by rw [HT.out, Int.add_zero]; exact hown', HB.out.trans hbel'⟩
        case measure => simp [intOf]; omega
    · go_wp2_with fail
      go_ret2
      refine ⟨_, rfl, ?_, hbel⟩
      rw [List.take_of_length_le (by omega)] at hown
      exact hown

set_option maxHeartbeats 400000 in
theorem reforward_bad (b : Int) (A : Option Addr) (n c : Nat) (w : World) (hb : chE b n ≠ 0) (hm : n ≤ 9223372036854775807) (hb0 : -9223372036854775808 ≤ b) (hb1 : b ≤ 9223372036854775807) :
    Calls Try.prog 17 #[.int .i64 b, .slice A n c] w fun e w' => e = .returned (.tuple #[.slice none 0 0, .int .i64 (chE b n)]) ∧ w = w' := by
  have CH := reshift_any b w hb0 hb1
  by_cases h : shE b = 0
  · have hn : 4000 < n := by
      rcases Nat.lt_or_ge 4000 n with h' | h'
      · exact h'
      · exact absurd (chE_ok h h') hb
    rw [h] at CH
    have e1 := Lib.hid (chE_many h hn)
    have CH := Lib.hid CH
    generalize chE b n = ce at *
    generalize shS b = s at *
    clear hb h
    go_enter Try.func17, Try.ntmps17
    go_wp2_with fail
    refine CH.out.mono ?_
    rintro e w' ⟨rfl, rfl⟩
    clear CH
    go_wp2_with fail
    go_ret2
    exact ⟨by rw [e1.out]; rfl, rfl⟩
  · have hne : (shE b != 0) = true := by simp [h]
    have e1 := Lib.hid ((chE_bad (n := n) h).trans (show 2 = shE b by rcases shE_cases b with h' | h' <;> omega))
    have CH := Lib.hid CH
    generalize chE b n = ce at *
    generalize shE b = se at *
    generalize shS b = s at *
    clear hb h
    go_enter Try.func17, Try.ntmps17
    go_wp2_with fail
    refine CH.out.mono ?_
    rintro e w' ⟨rfl, rfl⟩
    clear CH
    go_wp2_with fail
    go_ret2
    exact ⟨by rw [e1.out]; rfl, rfl⟩

theorem reforward_any (b : Int) (A : Option Addr) (n c : Nat) (xs : List Int) (w : World) (hn : xs.length = n) (hm : n ≤ 9223372036854775807) (hx : I32 xs) (hs : Sl w w.heap.size .i32 A xs)
    (hb0 : -9223372036854775808 ≤ b) (hb1 : b ≤ 9223372036854775807) :
    Calls Try.prog 17 #[.int .i64 b, .slice A n c] w fun e w' =>
      ∃ v, e = .returned (.tuple #[v, .int .i64 (chE b n)]) ∧ Own w' w.heap.size 21 .i32 v (fwdR b xs) ∧ Below w.heap.size w w' := by
  subst hn
  by_cases hl : chE b xs.length = 0
  · refine (reforward_ok b A _ c xs w (chE_zero hl).1 rfl (chE_zero hl).2 hx hs hb0 hb1).mono ?_
    rintro e w' ⟨v, rfl, hown, hbel⟩
    exact ⟨v, by rw [hl], by rw [fwdR_ok hl]; exact hown, hbel⟩
  · refine (reforward_bad b A xs.length c w hl hm hb0 hb1).mono ?_
    rintro e w' ⟨rfl, rfl⟩
    exact ⟨_, rfl, by rw [fwdR_bad hl]; exact World.ownsRow_nil _ _ _ _, bel_self _⟩

set_option maxHeartbeats 400000 in
theorem rebackward_bad (b : Int) (A : Option Addr) (n c : Nat) (w : World) (hb : chE b n ≠ 0) (hm : n ≤ 9223372036854775807) (hb0 : -9223372036854775808 ≤ b) (hb1 : b ≤ 9223372036854775807) :
    Calls Try.prog 19 #[.int .i64 b, .slice A n c] w fun e w' => e = .returned (.tuple #[.slice none 0 0, .int .i64 (chE b n)]) ∧ w = w' := by
  have CH := reshift_any b w hb0 hb1
  by_cases h : shE b = 0
  · have hn : 4000 < n := by
      rcases Nat.lt_or_ge 4000 n with h' | h'
      · exact h'
      · exact absurd (chE_ok h h') hb
    rw [h] at CH
    have e1 := Lib.hid (chE_many h hn)
    have CH := Lib.hid CH
    generalize chE b n = ce at *
    generalize shS b = s at *
    clear hb h
    go_enter Try.func19, Try.ntmps19
    go_wp2_with fail
    refine CH.out.mono ?_
    rintro e w' ⟨rfl, rfl⟩
    clear CH
    go_wp2_with fail
    go_ret2
    exact ⟨by rw [e1.out]; rfl, rfl⟩
  · have hne : (shE b != 0) = true := by simp [h]
    have e1 := Lib.hid ((chE_bad (n := n) h).trans (show 2 = shE b by rcases shE_cases b with h' | h' <;> omega))
    have CH := Lib.hid CH
    generalize chE b n = ce at *
    generalize shE b = se at *
    generalize shS b = s at *
    clear hb h
    go_enter Try.func19, Try.ntmps19
    go_wp2_with fail
    refine CH.out.mono ?_
    rintro e w' ⟨rfl, rfl⟩
    clear CH
    go_wp2_with fail
    go_ret2
    exact ⟨by rw [e1.out]; rfl, rfl⟩

theorem rebackward_any (b : Int) (A : Option Addr) (n c : Nat) (xs : List Int) (w : World) (hn : xs.length = n) (hm : n ≤ 9223372036854775807) (hx : I32 xs) (hs : Sl w w.heap.size .i32 A xs)
    (hb0 : -9223372036854775808 ≤ b) (hb1 : b ≤ 9223372036854775807) :
    Calls Try.prog 19 #[.int .i64 b, .slice A n c] w fun e w' =>
      ∃ v, e = .returned (.tuple #[v, .int .i64 (chE b n)]) ∧ Own w' w.heap.size 21 .i32 v (bckR b xs) ∧ Below w.heap.size w w' := by
  subst hn
  by_cases hl : chE b xs.length = 0
  · refine (rebackward_ok b A _ c xs w (chE_zero hl).1 rfl (chE_zero hl).2 hx hs hb0 hb1).mono ?_
    rintro e w' ⟨v, rfl, hown, hbel⟩
    exact ⟨v, by rw [hl], by rw [bckR_ok hl]; exact hown, hbel⟩
  · refine (rebackward_bad b A xs.length c w hl hm hb0 hb1).mono ?_
    rintro e w' ⟨rfl, rfl⟩
    exact ⟨_, rfl, by rw [bckR_bad hl]; exact World.ownsRow_nil _ _ _ _, bel_self _⟩
end Go.Proofs.Ytkdfjhblkcbfdaa

/-
  What the functions of package first compute. Conditions: numbers within their types.
-/
import Derived.Test.YtgnmpkembcdkcaaFirstPlain
namespace Go.Proofs.Ytgnmpkembcdkcaa
open Go.RowKit
set_option linter.unusedVariables false

theorem elI32 : Elem Try.prog 41 21 .i32 4 := Elem.mk' Try.underlying41 (by kernel_rfl)

set_option maxHeartbeats 400000 in
theorem shift_any (b : Int) (w : World) (hb0 : -9223372036854775808 ≤ b) (hb1 : b ≤ 9223372036854775807) :
    Calls Try.prog 39 #[.int .i64 b] w fun e w' => e = .returned (.tuple #[.int .i64 (shS b), .int .i64 (shE b)]) ∧ w = w' := by
  by_cases h8 : b = 8
  · subst h8
    go_enter Try.func39, Try.ntmps39
    go_wp2_with fail
    go_ret2
    exact ⟨rfl, rfl⟩
  · by_cases h16 : b = 16
    · subst h16
      go_enter Try.func39, Try.ntmps39
      go_wp2_with fail
      go_ret2
      exact ⟨rfl, rfl⟩
    · by_cases h24 : b = 24
      · subst h24
        go_enter Try.func39, Try.ntmps39
        go_wp2_with fail
        go_ret2
        exact ⟨rfl, rfl⟩
      · have e1 := Lib.hid (show shS b = 0 by unfold shS; simp [h8, h16, h24])
        have e2 := Lib.hid (show shE b = 2 by unfold shE; simp [h8, h16, h24])
        have q1 : (b == 8) = false := by simp [h8]
        have q2 : (b == 16) = false := by simp [h16]
        have q3 : (b == 24) = false := by simp [h24]
        clear h8 h16 h24
        go_enter Try.func39, Try.ntmps39
        go_wp2_with fail
        go_ret2
        exact ⟨by rw [e1.out, e2.out]; rfl, rfl⟩

theorem guess4 (x : Int) : (x * 16 - x) / 16 = gF 4 x := by unfold gF; rw [if_pos rfl]; omega
theorem guess5 (x : Int) : (x * 32 - x) / 32 = gF 5 x := by unfold gF; rw [if_neg (by omega)]; omega

set_option maxHeartbeats 400000 in
theorem guess_any (s x : Int) (w : World) (hs : s = 4 ∨ s = 5) (h0 : -2147483648 ≤ x) (h1 : x ≤ 2147483647) :
    Calls Try.prog 36 #[.int .i64 s, .int .i32 x] w fun e w' => e = .returned (.int .i32 (gF s x)) ∧ w = w' := by
  rcases hs with rfl | rfl
  · go_enter Try.func36, Try.ntmps36
    go_wp2_with fail
    go_ret
    exact ⟨ret_int (guess4 x), rfl⟩
  · go_enter Try.func36, Try.ntmps36
    go_wp2_with fail
    go_ret
    exact ⟨ret_int (guess5 x), rfl⟩

def guR (b x : Int) : Int := if shE b = 0 then gF (shS b) x else 0

set_option maxHeartbeats 400000 in
theorem Guess_any (b x : Int) (w : World) (hb0 : -9223372036854775808 ≤ b) (hb1 : b ≤ 9223372036854775807) (h0 : -2147483648 ≤ x) (h1 : x ≤ 2147483647) :
    Calls Try.prog 29 #[.int .i64 b, .int .i32 x] w fun e w' => e = .returned (.tuple #[.int .i32 (guR b x), .int .i64 (shE b)]) ∧ w = w' := by
  have SH := Lib.hid (shift_any b w hb0 hb1)
  by_cases hb : shE b = 0
  · have hs4 := Lib.hid (shS_of hb)
    have e1 := Lib.hid (show guR b x = gF (shS b) x from if_pos hb)
    rw [hb] at SH ⊢
    generalize shS b = s at *
    clear hb
    go_enter Try.func29, Try.ntmps29
    go_wp2_with fail
    refine SH.out.mono ?_
    rintro e w' ⟨rfl, rfl⟩
    go_wp2_with fail
    refine (guess_any s x _ hs4.out h0 h1).mono ?_
    rintro e w' ⟨rfl, rfl⟩
    go_wp2_with fail
    go_ret2
    exact ⟨by rw [e1.out]; rfl, rfl⟩
  · have e1 := Lib.hid (show guR b x = 0 from if_neg hb)
    have hne : (shE b != 0) = true := by simp [hb]
    generalize shS b = s at *
    generalize shE b = ee at *
    clear hb
    go_enter Try.func29, Try.ntmps29
    go_wp2_with fail
    refine SH.out.mono ?_
    rintro e w' ⟨rfl, rfl⟩
    go_wp2_with fail
    go_ret2
    exact ⟨by rw [e1.out]; rfl, rfl⟩

set_option maxHeartbeats 400000 in
theorem check_any (b : Int) (A : Option Addr) (n c : Nat) (w : World) (hm : n ≤ 9223372036854775807) (hb0 : -9223372036854775808 ≤ b) (hb1 : b ≤ 9223372036854775807) :
    Calls Try.prog 35 #[.int .i64 b, .slice A n c] w fun e w' => e = .returned (.tuple #[.int .i64 (shS b), .int .i64 (chE b n)]) ∧ w = w' := by
  have SH := Lib.hid (shift_any b w hb0 hb1)
  by_cases hb : shE b = 0
  · by_cases hn : n ≤ 4000
    · have e1 := Lib.hid (chE_ok hb hn)
      rw [hb] at SH
      generalize chE b n = ce at *
      generalize shS b = s at *
      clear hb
      go_enter Try.func35, Try.ntmps35
      go_wp2_with fail
      refine SH.out.mono ?_
      rintro e w' ⟨rfl, rfl⟩
      go_wp2_with fail
      go_ret2
      exact ⟨by rw [e1.out]; rfl, rfl⟩
    · have e1 := Lib.hid (chE_many hb (by omega : 4000 < n))
      rw [hb] at SH
      generalize chE b n = ce at *
      generalize shS b = s at *
      clear hb
      go_enter Try.func35, Try.ntmps35
      go_wp2_with fail
      refine SH.out.mono ?_
      rintro e w' ⟨rfl, rfl⟩
      go_wp2_with fail
      go_ret2
      exact ⟨by rw [e1.out]; rfl, rfl⟩
  · have e1 := Lib.hid (chE_bad (n := n) hb)
    have hne : (shE b == 0) = false := by simp [hb]
    have e2 := Lib.hid (show shE b = 2 by rcases shE_cases b with h | h <;> omega)
    generalize shE b = ee at *
    generalize chE b n = ce at *
    generalize shS b = s at *
    clear hb
    go_enter Try.func35, Try.ntmps35
    go_wp2_with fail
    refine SH.out.mono ?_
    rintro e w' ⟨rfl, rfl⟩
    go_wp2_with fail
    go_ret2
    exact ⟨by rw [e1.out, ← e2.out]; rfl, rfl⟩

set_option maxHeartbeats 1000000 in
theorem forward_ok (b : Int) (A : Option Addr) (n c : Nat) (xs : List Int) (w : World) (hb : shE b = 0) (hn : xs.length = n) (hl : n ≤ 4000) (hx : I32 xs) (hs : Sl w w.heap.size .i32 A xs)
    (hb0 : -9223372036854775808 ≤ b) (hb1 : b ≤ 9223372036854775807) :
    Calls Try.prog 25 #[.int .i64 b, .slice A n c] w fun e w' =>
      ∃ v, e = .returned (.tuple #[v, .int .i64 0]) ∧ Own w' w.heap.size 21 .i32 v (fwd (shS b) 0 xs) ∧ Below w.heap.size w w' := by
  subst hn
  have CH := check_any b A xs.length c w (by omega) hb0 hb1
  rw [chE_ok hb hl] at CH
  have hs4 := shS_of hb
  generalize shS b = s at *
  have CH := Lib.hid CH
  have HS4 := Lib.hid hs4
  clear hb hs4
  go_enter Try.func25, Try.ntmps25
  go_wp2_with fail
  refine CH.out.mono ?_
  rintro e w' ⟨rfl, rfl⟩
  clear CH
  go_wp2_with fail
  go_loopw [8, 9, 23] (fun v la i wr => ∃ k : Nat, k ≤ xs.length ∧ i = .int .i64 k ∧ la = .int .i32 (lastI 0 (xs.take k)) ∧ Own wr w.heap.size 21 .i32 v (fwd s 0 (xs.take k)) ∧ Below w.heap.size w wr) (fun _ _ i _ => xs.length - (intOf i).toNat)
  case atStart => exact ⟨0, Nat.zero_le _, rfl, rfl, World.ownsRow_nil _ _ _ _, Below.refl _ _⟩
  case round =>
    obtain ⟨k, hk, rfl, rfl, hown, hbel⟩ := hrel
    have hlast := lastI_bd (i32_take hx k)
    by_cases hlt : k < xs.length
    · obtain ⟨b, o, rfl, hb, hc⟩ := hs (by omega)
      have hcell := (hbel.cell (p := ⟨b, o + k, none⟩) hb).trans (hc k hlt)
      have hbd := hx _ (mem_getD hlt)
      have HT := Lib.hid ((congrArg (fwd s 0) (take_snoc xs k hlt)).trans (fwd_snoc s 0 (xs.take k) (xs.getD k 0)))
      have HL := Lib.hid ((congrArg (lastI 0) (take_snoc xs k hlt)).trans (lastI_snoc 0 (xs.getD k 0) (xs.take k)))
      have HO := Lib.hid hown
      have HB := Lib.hid hbel
      have hs4 := HS4.out
      clear hc hs hown hbel HS4
      generalize xs.getD k 0 = y at *
      generalize lastI 0 (xs.take k) = la at *
      have hgb := gF_bd s la hlast.1 hlast.2
      have hs4' := Lib.hid hs4
      clear hs4
      go_wp2_with fail
      refine (guess_any s la _ hs4'.out hlast.1 hlast.2).mono ?_
      rintro e w' ⟨rfl, rfl⟩
      generalize gF s la = g at *
      go_wp2_with (at_builtin; refine app1 elI32 _ _ rfl rfl rfl rfl HO.out (by simp [fwd_len]; omega) (by simp [fwd_len]; omega) HB.out.size ?_; intro v' w' hown' hbel')
      go_roundw
      case rel => exact ⟨k + 1, by omega, by go_num, by rw [HL.out], by rw [HT.out]; exact hown', HB.out.trans hbel'⟩
      case measure => simp [intOf]; omega
    · go_wp2_with fail
      go_ret2
      refine ⟨_, rfl, ?_, hbel⟩
      rw [List.take_of_length_le (by omega)] at hown
      exact hown

set_option maxHeartbeats 400000 in
theorem forward_bad (b : Int) (A : Option Addr) (n c : Nat) (w : World) (hb : chE b n ≠ 0) (hm : n ≤ 9223372036854775807) (hb0 : -9223372036854775808 ≤ b) (hb1 : b ≤ 9223372036854775807) :
    Calls Try.prog 25 #[.int .i64 b, .slice A n c] w fun e w' => e = .returned (.tuple #[.slice none 0 0, .int .i64 (chE b n)]) ∧ w = w' := by
  have CH := Lib.hid (check_any b A n c w hm hb0 hb1)
  have hne : (chE b n != 0) = true := by simp [hb]
  generalize chE b n = ce at *
  clear hb
  go_enter Try.func25, Try.ntmps25
  go_wp2_with fail
  refine CH.out.mono ?_
  rintro e w' ⟨rfl, rfl⟩
  clear CH
  go_wp2_with fail
  go_ret2
  exact ⟨rfl, rfl⟩

theorem forward_any (b : Int) (A : Option Addr) (n c : Nat) (xs : List Int) (w : World) (hn : xs.length = n) (hm : n ≤ 9223372036854775807) (hx : I32 xs) (hs : Sl w w.heap.size .i32 A xs)
    (hb0 : -9223372036854775808 ≤ b) (hb1 : b ≤ 9223372036854775807) :
    Calls Try.prog 25 #[.int .i64 b, .slice A n c] w fun e w' =>
      ∃ v, e = .returned (.tuple #[v, .int .i64 (chE b n)]) ∧ Own w' w.heap.size 21 .i32 v (fwdR b xs) ∧ Below w.heap.size w w' := by
  subst hn
  by_cases hl : chE b xs.length = 0
  · refine (forward_ok b A _ c xs w (chE_zero hl).1 rfl (chE_zero hl).2 hx hs hb0 hb1).mono ?_
    rintro e w' ⟨v, rfl, hown, hbel⟩
    exact ⟨v, by rw [hl], by rw [fwdR_ok hl]; exact hown, hbel⟩
  · refine (forward_bad b A xs.length c w hl hm hb0 hb1).mono ?_
    rintro e w' ⟨rfl, rfl⟩
    exact ⟨_, rfl, by rw [fwdR_bad hl]; exact World.ownsRow_nil _ _ _ _, bel_self _⟩

end Go.Proofs.Ytgnmpkembcdkcaa

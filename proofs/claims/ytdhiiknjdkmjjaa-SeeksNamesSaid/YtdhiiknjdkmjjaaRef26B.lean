/-
  What Added, Offsets, Find, SameInts, Long and Large of the reference of layer 26 compute. Conditions: numbers within their types.
-/
import Derived.Test.YtdhiiknjdkmjjaaRef26
namespace Go.Proofs.Ytdhiiknjdkmjjaa
open Go.RowKit
set_option linter.unusedVariables false

set_option maxHeartbeats 1000000 in
theorem reskAdded (A : Option Addr) (n c : Nat) (xs : List Int) (w : World) (hn : xs.length = n) (hK : skE xs = 0) (hs : Sl w w.heap.size .i64 A xs) :
    Calls Try.prog 33 #[.slice A n c] w fun e w' => ∃ v, e = .returned v ∧ Own w' w.heap.size 3 .i64 v (skO xs n) ∧ Below w.heap.size w w' := by
  have N := Lib.hid hn
  have K := Lib.hid hK
  have hm : n ≤ 1000 := by have := (skE_ok hK).2.1; omega
  have hO := Lib.hid (Own.lit w w.heap.size .i64 3 [0] (n := 1) rfl (cs := #[.int .i64 0]) rfl (Nat.le_refl _) (by decide))
  have hB := Lib.hid (bel_up (bel_self w) (.cells #[.int .i64 0] 3))
  clear hn hK
  go_enter Try.func33, Try.ntmps33
  go_wp2_with fail
  go_loopw [3, 4] (fun v i wr => ∃ k : Nat, k ≤ n ∧ i = .int .i64 k ∧ Own wr w.heap.size 3 .i64 v (skO xs k) ∧ Below w.heap.size w wr) (fun _ i _ => n - (intOf i).toNat)
  case atStart => exact ⟨0, by omega, rfl, by rw [skO_zero]; exact hO.out, hB.out⟩
  case round =>
    obtain ⟨k, hk, rfl, hown, hbel⟩ := hrel
    have HO := Lib.hid hown
    have HB := Lib.hid hbel
    have L := Lib.hid (skO_len xs k)
    clear hown hbel hO hB
    obtain ⟨Av, cv, rfl, hc0, hc1, _⟩ := HO.out.sln L.out
    by_cases hlt : k < n
    · obtain ⟨b, o, rfl, hb, hc⟩ := hs (by rw [N.out]; omega)
      have hcell := (HB.out.cell (p := ⟨b, o + k, none⟩) hb).trans (hc k (by rw [N.out]; omega))
      obtain ⟨p1, p2, p3, p4⟩ := skE_part K.out k (by rw [N.out]; omega)
      obtain ⟨g, rfl, hg1, hg2⟩ := HO.out.addr (by rw [L.out]; omega)
      have hcell2 := (HO.out.cell k (by rw [L.out]; omega)).trans (by rw [skO_get xs k k (Nat.le_refl _)])
      have T := Lib.hid (skO_snoc xs k)
      rw [p4] at T
      clear hc hs p4
      generalize xs.getD k 0 = y at *
      generalize sumI (xs.take k) = s at *
      have hlt' : (k : Int) < (n : Int) := by omega
      have hlt2 : (k : Int) < (k : Int) + 1 := by omega
      have e9 : IntKind.i64.wrap (s + y) = s + y := IntWalk.i64_in _ (by omega)
      have k0 : (0 : Int) ≤ (k : Int) := by omega
      go_wp2_with fail
      go_region_law ((refine step_app1 (v := .slice (some ⟨g, 0, none⟩) (k + 1) cv) (y := s + y) (g := wr.heap.size) skElI (.tmp 12) (.tmp 22) rfl rfl (by simp [Act.eval]) (by simp [Act.eval]) (World.ownsRow.alloc HO.out _) (by simp) (by rw [L.out]; omega) (by rw [L.out]; omega) (by have := HB.out.size; simp; omega) ?_); intro v' w' hown' hbel')
      all_goals
        have BB := Lib.hid (HB.out.trans ((bel_up (bel_self wr) (.cells #[.int .i64 (s + y)] 3)).drew.mono HB.out.size))
        clear e9
        go_wp2_with fail
        go_roundw
        case rel => exact ⟨k + 1, by omega, by go_num, by rw [T.out]; exact hown', BB.out.trans hbel'⟩
        case measure => simp [intOf]; omega
    · obtain rfl : k = n := by omega
      clear hs
      go_wp2_with fail
      go_ret
      exact ⟨_, rfl, HO.out, HB.out⟩

set_option maxHeartbeats 400000 in
theorem reskOffsets (A : Option Addr) (n c : Nat) (xs : List Int) (w : World) (hn : xs.length = n) (hm : n ≤ 9223372036854775807) (hx : I64 xs) (hs : Sl w w.heap.size .i64 A xs) :
    Calls Try.prog 17 #[.slice A n c] w fun e w' =>
      ∃ v, e = .returned (.tuple #[v, .int .i64 (skE xs)]) ∧ Own w' w.heap.size 3 .i64 v (skOR xs) ∧ Below w.heap.size w w' := by
  have CK := Lib.hid (reskCheck A n c xs w hn hm hx hs)
  by_cases h0 : skE xs = 0
  · have R := Lib.hid ((skOR_ok h0).trans (by rw [hn]))
    have BY := Lib.hid (reskAdded A n c xs w hn h0 hs)
    rw [h0] at CK ⊢
    clear h0 hn hs
    go_enter Try.func17, Try.ntmps17
    go_wp2_with fail
    refine CK.out.mono ?_
    rintro e w' ⟨rfl, rfl⟩
    go_wp2_with fail
    refine BY.out.mono ?_
    rintro e w' ⟨v, rfl, ho, hb⟩
    have HO := Lib.hid ho
    clear ho
    go_wp2_with fail
    go_ret2
    exact ⟨_, rfl, by rw [R.out]; exact HO.out, hb⟩
  · have R := Lib.hid (skOR_bad h0)
    have e1 := skE_bad h0
    rw [e1] at CK ⊢
    clear h0 hn
    go_enter Try.func17, Try.ntmps17
    go_wp2_with fail
    refine CK.out.mono ?_
    rintro e w' ⟨rfl, rfl⟩
    go_wp2_with fail
    go_ret2
    exact ⟨_, rfl, by rw [R.out]; exact own_nil5 _ _ _ _, bel_self _⟩

set_option maxHeartbeats 1000000 in
theorem reskFind (A : Option Addr) (n c : Nat) (xs : List Int) (a : Int) (w : World) (hn : xs.length = n) (hm : n ≤ 9223372036854775807) (hx : I64 xs) (hs : Sl w w.heap.size .i64 A xs) (ha : a ≤ 9223372036854775807) :
    Calls Try.prog 19 #[.slice A n c, .int .i64 a] w fun e w' => e = .returned (.tuple #[.int .i64 (fdV xs a), .int .i64 (fdE xs a)]) ∧ w = w' := by
  have CK := Lib.hid (reskCheck A n c xs w hn hm hx hs)
  by_cases h0 : skE xs = 0
  · by_cases h1 : a < 0
    · have e1 := Lib.hid (show fdE xs a = 2 by unfold fdE; rw [if_pos h0, if_pos (.inl h1)])
      have e2 := Lib.hid (show fdV xs a = 0 by unfold fdV; rw [e1.out, if_neg (by decide)])
      rw [h0] at CK
      clear h0 hn
      go_enter Try.func19, Try.ntmps19
      go_wp2_with fail
      refine CK.out.mono ?_
      rintro e w' ⟨rfl, rfl⟩
      go_wp2_with fail
      go_ret2
      exact ⟨by rw [e1.out, e2.out]; rfl, rfl⟩
    · have K := Lib.hid h0
      rw [h0] at CK
      have N := Lib.hid hn
      have EV := Lib.hid (show (fdI xs a = n → fdE xs a = 2 ∧ fdV xs a = 0) ∧ (fdI xs a ≠ n → fdE xs a = 0 ∧ fdV xs a = fdI xs a) by
        refine ⟨fun h => ?_, fun h => ?_⟩
        · have : fdE xs a = 2 := by unfold fdE; rw [if_pos h0, if_pos (.inr (by rw [hn]; exact h))]
          exact ⟨this, by unfold fdV; rw [this, if_neg (by decide)]⟩
        · have : fdE xs a = 0 := by unfold fdE; rw [if_pos h0, if_neg (by rw [hn]; omega)]
          exact ⟨this, by unfold fdV; rw [this, if_pos rfl]⟩)
      have hn2 := (skE_ok h0).2.1
      have STEP := Lib.hid (fun k (hk : k < n) => skE_part h0 k (by omega))
      rw [hn] at hn2
      clear h0 hn hx
      have D0 := Lib.hid (show fdI xs a = 0 + fdI (xs.drop 0) (a - sumI (xs.take 0)) by simp [sumI_nil])
      go_enter Try.func19, Try.ntmps19
      go_wp2_with fail
      refine CK.out.mono ?_
      rintro e w' ⟨rfl, rfl⟩
      clear CK
      go_wp2_with fail
      go_loop [1, 7] (fun t i => ∃ k : Nat, k ≤ n ∧ i = .int .i64 k ∧ t = .int .i64 (a - sumI (xs.take k)) ∧ 0 ≤ a - sumI (xs.take k) ∧ Hid (fdI xs a = k + fdI (xs.drop k) (a - sumI (xs.take k)))) (fun _ i => n - (intOf i).toNat)
      case atStart => exact ⟨0, by omega, rfl, by rw [List.take_zero, sumI_nil]; go_num, by rw [List.take_zero, sumI_nil]; omega, D0⟩
      case round =>
        obtain ⟨k, hk, rfl, rfl, ha0, HF⟩ := hrel
        by_cases hlt : k < n
        · obtain ⟨b, o, rfl, hb, hc⟩ := hs (by rw [N.out]; omega)
          have hcell := hc k (by rw [N.out]; omega)
          obtain ⟨p1, p2, p3, p4⟩ := STEP.out k (by omega)
          have F := fd_at xs (a - sumI (xs.take k)) k (by rw [N.out]; omega)
          have HF2 := Lib.hid F
          have P4 := Lib.hid p4
          clear F p4 hc hs
          generalize hy : xs.getD k 0 = y at *
          clear hy
          have z2 : (k : Int) < (n : Int) := by omega
          generalize hs' : sumI (xs.take k) = s at *
          have HS := Lib.hid hs'
          clear hs'
          by_cases hq : a - s < y
          · have hz := Lib.hid (show fdI xs a = k by have h1 := HF.out; have h2 := HF2.out; rw [if_pos hq] at h2; rw [h2] at h1; omega)
            have hv := Lib.hid (EV.out.2 (by rw [hz.out]; omega))
            go_wp2_with fail
            go_ret2
            exact ⟨by rw [hv.out.1, hv.out.2, hz.out]; rfl, rfl⟩
          · have HN := Lib.hid (show fdI xs a = ((k + 1 : Nat)) + fdI (xs.drop (k + 1)) (a - sumI (xs.take (k + 1))) by
              have h1 := HF.out
              have h2 := HF2.out
              rw [if_neg hq] at h2
              rw [h2] at h1
              rw [h1, P4.out, show a - (s + y) = a - s - y by omega]; omega)
            go_wp2_with fail
            go_round
            case rel => exact ⟨k + 1, by omega, by go_num, by rw [P4.out]; go_num, by rw [P4.out]; omega, HN⟩
            case measure => simp [intOf]; omega
        · obtain rfl : k = n := by omega
          have hz := Lib.hid (show fdI xs a = k by rw [HF.out, List.drop_of_length_le (by rw [N.out]; omega)]; rfl)
          have hv := Lib.hid (EV.out.1 hz.out)
          clear hs
          go_wp2_with fail
          go_ret2
          exact ⟨by rw [hv.out.1, hv.out.2]; rfl, rfl⟩
  · have e0 := skE_bad h0
    have e1 := Lib.hid (show fdE xs a = 8 by unfold fdE; rw [if_neg h0])
    have e2 := Lib.hid (show fdV xs a = 0 by unfold fdV; rw [e1.out, if_neg (by decide)])
    rw [e0] at CK
    clear h0 hn e0
    go_enter Try.func19, Try.ntmps19
    go_wp2_with fail
    refine CK.out.mono ?_
    rintro e w' ⟨rfl, rfl⟩
    go_wp2_with fail
    go_ret2
    exact ⟨by rw [e1.out, e2.out]; rfl, rfl⟩
end Go.Proofs.Ytdhiiknjdkmjjaa

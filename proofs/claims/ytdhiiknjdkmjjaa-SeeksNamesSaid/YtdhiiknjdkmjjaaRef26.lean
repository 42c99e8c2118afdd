/-
  What the functions of the reference of layer 26 compute. Conditions: numbers within their types.
-/
import Derived.Test.YtdhiiknjdkmjjaaSkRead
import Derived.Test.YtdhiiknjdkmjjaaRef03A
import Derived.Test.YtdhiiknjdkmjjaaKit3
namespace Go.Proofs.Ytdhiiknjdkmjjaa
open Go.RowKit
set_option linter.unusedVariables false

set_option maxHeartbeats 1000000 in
theorem reskCheck (A : Option Addr) (n c : Nat) (xs : List Int) (w : World) (hn : xs.length = n) (hm : n ≤ 9223372036854775807) (hx : I64 xs) (hs : Sl w w.heap.size .i64 A xs) :
    Calls Try.prog 21 #[.slice A n c] w fun e w' => e = .returned (.int .i64 (skE xs)) ∧ w = w' := by
  by_cases h0 : n < 1
  · have e := Lib.hid (skE_len (l := xs) (by omega))
    have f0 : ((n : Int) < 1) := by omega
    clear hn
    go_enter Try.func21, Try.ntmps21
    go_wp2_with fail
    go_ret
    exact ⟨by rw [e.out]; rfl, rfl⟩
  have f0 : ¬ ((n : Int) < 1) := by omega
  by_cases h1 : 1000 < n
  · have e := Lib.hid (skE_len (l := xs) (by omega))
    clear hn
    go_enter Try.func21, Try.ntmps21
    go_wp2_with fail
    go_ret
    exact ⟨by rw [e.out]; rfl, rfl⟩
  have h2 : ¬ (1000 : Int) < (n : Int) := by omega
  have N := Lib.hid hn
  clear hn
  go_enter Try.func21, Try.ntmps21
  go_wp2_with fail
  go_loop [3, 4] (fun t i => ∃ k : Nat, k ≤ n ∧ i = .int .i64 k ∧ t = .int .i64 (sumI (xs.take k)) ∧ (∀ x ∈ xs.take k, 5 ≤ x) ∧ sumI (xs.take k) ≤ 100000 * k) (fun _ i => n - (intOf i).toNat)
  case atStart => exact ⟨0, by omega, rfl, by simp [sumI_nil], by simp, by simp [sumI_nil]⟩
  case round =>
    obtain ⟨k, hk, rfl, rfl, hall, hsum⟩ := hrel
    by_cases hlt : k < n
    · obtain ⟨b, o, rfl, hb, hc⟩ := hs (by rw [N.out]; omega)
      have hcell := hc k (by rw [N.out]; omega)
      have hbd := hx _ (mem_getD (show k < xs.length by rw [N.out]; omega))
      have hT := take_snoc xs k (by rw [N.out]; omega)
      have SM := Lib.hid (fun h => skE_small (l := xs) k (by rw [N.out]; omega) h)
      have GR := Lib.hid (fun h => skE_great (l := xs) k (by rw [N.out]; omega) h)
      have ST := Lib.hid (show sumI (xs.take (k + 1)) = sumI (xs.take k) + xs.getD k 0 by rw [hT, sumI_snoc])
      have h0 := sumI_ge hall
      have hS0 : 0 ≤ sumI (xs.take k) := by omega
      have AL := Lib.hid (show 5 ≤ xs.getD k 0 → ∀ x ∈ xs.take (k + 1), 5 ≤ x by
        intro h5 x hx'
        rw [hT] at hx'
        rcases List.mem_append.1 hx' with h | h
        · exact hall x h
        · rw [List.mem_singleton.1 h]; exact h5)
      clear hc hs hT hall h0
      generalize xs.getD k 0 = y at *
      generalize sumI (xs.take k) = t at *
      have hlt' : (k : Int) < (n : Int) := by omega
      by_cases h5 : y < 5
      · have e := Lib.hid (SM.out h5)
        clear SM GR AL
        go_wp2_with fail
        go_ret
        exact ⟨by rw [e.out]; rfl, rfl⟩
      · by_cases hg : 100000 < y
        · have e := Lib.hid (GR.out (by omega))
          clear SM GR AL
          go_wp2_with fail
          go_ret
          exact ⟨by rw [e.out]; rfl, rfl⟩
        · have AL2 := Lib.hid (AL.out (by omega))
          clear SM GR AL
          go_wp2_with fail
          go_round
          case rel => exact ⟨k + 1, by omega, by go_num, by rw [ST.out], AL2.out, by rw [ST.out]; omega⟩
          case measure => simp [intOf]; omega
    · obtain rfl : k = n := by omega
      rw [List.take_of_length_le (by rw [N.out]; omega)] at hall hsum ⊢
      by_cases hq : 100000 < sumI xs
      · have e := Lib.hid (skE_bad (l := xs) (fun h => by have := (skE_ok h).2.2.2; omega))
        clear hall hsum hs hx
        generalize sumI xs = t at *
        go_wp2_with fail
        go_ret
        exact ⟨by rw [e.out]; rfl, rfl⟩
      · have e := Lib.hid (skE_mk (by rw [N.out]; omega) (by rw [N.out]; omega) hall (by omega))
        clear hall hsum hs hx
        generalize sumI xs = t at *
        go_wp2_with fail
        go_ret
        exact ⟨by rw [e.out]; rfl, rfl⟩

theorem skW_len (xs : List Int) : (skW xs).length = 4 * xs.length + 4 := by unfold skW; rw [List.length_append, skB_len]; rfl

set_option maxHeartbeats 1000000 in
theorem reskBytes (A : Option Addr) (n c : Nat) (xs : List Int) (w : World) (hn : xs.length = n) (hm : n ≤ 1000) (hx : ∀ x ∈ xs, 0 ≤ x ∧ x ≤ 100000) (hs : Sl w w.heap.size .i64 A xs) :
    Calls Try.prog 31 #[.slice A n c] w fun e w' => ∃ v, e = .returned v ∧ Own w' w.heap.size 5 .u8 v (skW xs) ∧ Below w.heap.size w w' := by
  have N := Lib.hid hn
  clear hn
  go_enter Try.func31, Try.ntmps31
  go_wp2_with fail
  go_loopw [3, 4] (fun v i wr => ∃ k : Nat, k ≤ n ∧ i = .int .i64 k ∧ Own wr w.heap.size 5 .u8 v (skB (xs.take k)) ∧ Below w.heap.size w wr) (fun _ i _ => n - (intOf i).toNat)
  case atStart => exact ⟨0, by omega, rfl, own_nil5 _ _ _ _, bel_self _⟩
  case round =>
    obtain ⟨k, hk, rfl, hown, hbel⟩ := hrel
    have HO := Lib.hid hown
    have HB := Lib.hid hbel
    clear hown hbel
    by_cases hlt : k < n
    · obtain ⟨b, o, rfl, hb, hc⟩ := hs (by rw [N.out]; omega)
      have hcell := (HB.out.cell (p := ⟨b, o + k, none⟩) hb).trans (hc k (by rw [N.out]; omega))
      have hbd := hx _ (mem_getD (show k < xs.length by rw [N.out]; omega))
      have T := Lib.hid ((congrArg skB (take_snoc xs k (by rw [N.out]; omega))).trans (skB_snoc _ _))
      have L := Lib.hid (show (skB (xs.take k)).length ≤ 4000 by rw [skB_len, List.length_take]; omega)
      clear hc hs
      generalize xs.getD k 0 = y at *
      have hlt' : (k : Int) < (n : Int) := by omega
      go_wp2_with fail
      refine (reWritten4 y _ (by omega) (by omega)).mono ?_
      rintro e w1 ⟨v1, rfl, own1, bel1⟩
      obtain ⟨A1, c1, rfl, _, _, sl1⟩ := own1.sln (n := 4) rfl
      have S1 := Lib.hid sl1
      have O1 := Lib.hid (HO.out.below bel1)
      have B1 := Lib.hid (bel_next HB.out bel1)
      clear own1 sl1 bel1 hcell
      go_wp2_with ((at_builtin; refine appN (ys := le4 y) leElU8 _ _ rfl rfl rfl rfl O1.out S1.out (by have := L.out; simp [le4]; omega) (by have := L.out; simp [le4]; omega) B1.out.size ?_; intro v2 w2 ho2 hb2; have O2 := Lib.hid ho2; have B2 := Lib.hid (B1.out.trans hb2); clear ho2 hb2))
      go_roundw
      case rel => exact ⟨k + 1, by omega, by go_num, by rw [T.out]; exact O2.out, B2.out⟩
      case measure => simp [intOf]; omega
    · obtain rfl : k = n := by omega
      rw [List.take_of_length_le (by rw [N.out]; omega)] at HO
      have L := Lib.hid (show (skB xs).length = 4 * k by rw [skB_len, N.out])
      obtain ⟨Av, cv, rfl, _, _, slv⟩ := HO.out.sln L.out
      have S := Lib.hid slv
      have z := sumL_lt (skB xs)
      have W := Lib.hid (show skW xs = skB xs ++ le4 ((sumL (skB xs) : Nat) : Int) from rfl)
      have OF := Lib.hid (fun W hW => Of_any Av (4 * k) cv (skB xs) W L.out (by omega) (skB_u8 xs) hW)
      clear slv hs
      generalize sumL (skB xs) = t at *
      go_wp2_with fail
      refine (OF.out _ S.out).mono ?_
      rintro e w1 ⟨rfl, rfl⟩
      go_wp2_with fail
      refine (reWritten4 (t : Int) _ (by omega) (by omega)).mono ?_
      rintro e w1 ⟨v1, rfl, own1, bel1⟩
      obtain ⟨A1, c1, rfl, _, _, sl1⟩ := own1.sln (n := 4) rfl
      have S1 := Lib.hid sl1
      have O1 := Lib.hid (HO.out.below bel1)
      have B1 := Lib.hid (bel_next HB.out bel1)
      clear own1 sl1 bel1
      go_wp2_with ((at_builtin; refine appN (v := .slice Av (4 * k) cv) (ys := le4 t) leElU8 _ _ rfl rfl rfl rfl O1.out S1.out (by rw [L.out]; simp [le4]; omega) (by rw [L.out]; simp [le4]; omega) B1.out.size ?_; intro v2 w2 ho2 hb2; have O2 := Lib.hid ho2; have B2 := Lib.hid (B1.out.trans hb2); clear ho2 hb2))
      go_ret
      exact ⟨_, rfl, by rw [W.out]; exact O2.out, B2.out⟩

theorem skE_each {xs : List Int} (h : skE xs = 0) : ∀ x ∈ xs, 0 ≤ x ∧ x ≤ 100000 := fun x hx => by
  obtain ⟨k, hk, rfl⟩ := List.getElem_of_mem hx
  have := skE_part h k hk
  rw [List.getD_eq_getElem?_getD, List.getElem?_eq_getElem hk] at this
  simp only [Option.getD_some] at this
  omega

set_option maxHeartbeats 400000 in
theorem reskWrite (A : Option Addr) (n c : Nat) (xs : List Int) (w : World) (hn : xs.length = n) (hm : n ≤ 9223372036854775807) (hx : I64 xs) (hs : Sl w w.heap.size .i64 A xs) :
    Calls Try.prog 15 #[.slice A n c] w fun e w' =>
      ∃ v, e = .returned (.tuple #[v, .int .i64 (skE xs)]) ∧ Own w' w.heap.size 5 .u8 v (skWR xs) ∧ Below w.heap.size w w' := by
  have CK := Lib.hid (reskCheck A n c xs w hn hm hx hs)
  by_cases h0 : skE xs = 0
  · have R := Lib.hid (skWR_ok h0)
    have BY := Lib.hid (reskBytes A n c xs w hn (by have := (skE_ok h0).2.1; omega) (skE_each h0) hs)
    rw [h0] at CK ⊢
    clear h0 hn hs
    go_enter Try.func15, Try.ntmps15
    go_wp2_with fail
    refine CK.out.mono ?_
    rintro e w' ⟨rfl, rfl⟩
    go_wp2_with fail
    refine BY.out.mono ?_
    rintro e w' ⟨v, rfl, ho, hb⟩
    have HO := Lib.hid ho
    clear ho
    go_wp2_with fail
    go_ret2
    exact ⟨_, rfl, by rw [R.out]; exact HO.out, hb⟩
  · have R := Lib.hid (skWR_bad h0)
    have e1 := skE_bad h0
    rw [e1] at CK ⊢
    clear h0 hn
    go_enter Try.func15, Try.ntmps15
    go_wp2_with fail
    refine CK.out.mono ?_
    rintro e w' ⟨rfl, rfl⟩
    go_wp2_with fail
    go_ret2
    exact ⟨_, rfl, by rw [R.out]; exact own_nil5 _ _ _ _, bel_self _⟩
end Go.Proofs.Ytdhiiknjdkmjjaa

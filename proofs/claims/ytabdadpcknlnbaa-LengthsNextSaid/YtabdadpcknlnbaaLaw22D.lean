/-
  The walk of LengthsNext. Conditions: numbers within their types.
-/
import Derived.Test.YtabdadpcknlnbaaLaw22B
import Derived.Test.YtabdadpcknlnbaaKit4
namespace Go.Proofs.Ytabdadpcknlnbaa
open Go.RowKit
set_option linter.unusedVariables false

set_option maxHeartbeats 1000000 in
/-- Same leaves memory alone: it draws. -/
theorem same22q (A A' : Option Addr) (n m c c' : Nat) (xs : List Int) (w : World) (hn : xs.length = n) (hm : xs.length = m) (hl : xs.length ≤ 9223372036854775807) (hs : Sl w w.heap.size .i64 A xs) (hs' : Sl w w.heap.size .i64 A' xs) :
    Calls Try.prog 17 #[.slice A n c, .slice A' m c'] w fun e w' =>
      e = .returned (.bool true) ∧ ∃ d, w' = w.drewN d := by
  subst hn
  subst hm
  have hd : ((xs.length : Int) != (xs.length : Int)) = false := by simp
  go_enter Try.func17, Try.ntmps17
  go_wp2_with fail
  go_loopw [5] (fun i wr => ∃ k : Nat, k ≤ xs.length ∧ i = .int .i64 k ∧ ∃ d, wr = w.drewN d) (fun i _ => xs.length - (intOf i).toNat)
  case atStart => exact ⟨0, Nat.zero_le _, rfl, 0, rfl⟩
  case round =>
    obtain ⟨k, hk, rfl, d, rfl⟩ := hrel
    by_cases hlt : k < xs.length
    · obtain ⟨b, o, rfl, hb, hc⟩ := hs (by omega)
      obtain ⟨b', o', rfl, hb', hc'⟩ := hs' (by omega)
      have hcell := hc k hlt
      have hcell' := hc' k hlt
      clear hc hs hc' hs'
      generalize xs.getD k 0 = y at *
      have hlt' : (k : Int) < (xs.length : Int) := by omega
      have hy : (y != y) = false := by simp
      go_wp2_with fail
      go_quiet (fail)
      go_wp2_with fail
      go_roundw
      case rel => exact ⟨k + 1, by omega, by go_num, _, rfl⟩
      case measure => simp [intOf]; omega
    · go_wp2_with fail
      go_ret
      exact ⟨rfl, _, rfl⟩

theorem alL_next {L n : Int} {k : Nat} (hL : 1 ≤ L) (hn : 1 ≤ n) (hq : frN L n = ((k + 1 : Nat) : Int)) :
    ∃ y : Int, 1 ≤ y ∧ y ≤ L ∧ alL L n = List.replicate k L ++ [y] ∧ (y < L → alL L (n + 1) = List.replicate k L ++ [y + 1]) ∧ (y = L → alL L (n + 1) = List.replicate k L ++ [L, 1]) := by
  have hs := frN_spec hL hn
  rw [hq] at hs
  obtain ⟨_, h1, h2⟩ := hs
  have e1 : ((k + 1 : Nat) : Int) - 1 = (k : Int) := by omega
  have e2 : ((k + 1 : Nat) : Int) * L = (k : Int) * L + L := by rw [Int.natCast_add, Int.add_mul]; omega
  rw [e1] at h1
  rw [e2] at h2
  refine ⟨n - (k : Int) * L, by omega, by omega, alL_eq (by rw [hq]; omega), fun h => ?_, fun h => ?_⟩
  · have h3 : frN L (n + 1) = (k : Int) + 1 := frN_uniq hL (by rw [show (k : Int) + 1 - 1 = k by omega]; omega) (by rw [Int.add_mul]; omega)
    rw [alL_eq h3, show n + 1 - (k : Int) * L = n - (k : Int) * L + 1 by omega]
  · have h3 : frN L (n + 1) = ((k + 1 : Nat) : Int) + 1 := frN_uniq hL (by rw [show ((k + 1 : Nat) : Int) + 1 - 1 = ((k + 1 : Nat) : Int) by omega, e2]; omega) (by rw [Int.add_mul, e2]; omega)
    rw [alL_eq h3, e2, show n + 1 - ((k : Int) * L + L) = 1 by omega, List.replicate_succ', List.append_assoc]
    rfl

set_option maxRecDepth 100000 in
set_option maxHeartbeats 1000000 in
theorem next_good (r n : Int) (w : World) (hr0 : -9223372036854775808 ≤ r) (hr1 : r ≤ 9223372036854775807) (hE : cnE r n = 0) (hF : cnE r (n + 1) = 0) :
    Calls Try.prog 8 #[.int .i64 r, .int .i64 n] w fun e w' => e = .returned (.bool true) ∧ Below w.heap.size w w' := by
  have BB := Lib.hid (bel_self w)
  obtain ⟨hl, b1, b2, b3, b4, b5, b6, b7, b8, b9, b10, hv⟩ := cnE_ok hE
  have C := Lib.hid hE
  have C2 := Lib.hid hF
  have D := Lib.hid hl
  obtain ⟨k, hk⟩ : ∃ k : Nat, frN (lgV r) n = ((k + 1 : Nat) : Int) := ⟨(frN (lgV r) n - 1).toNat, by omega⟩
  obtain ⟨y, y1, y2, y3, y4, y5⟩ := alL_next b1 b5 hk
  have hk1 : k < 1000 := by omega
  have R := alR_ok hE
  have R2 := alR_ok hF
  rw [y3] at R
  obtain ⟨L, hL⟩ : ∃ L, lgV r = L := ⟨_, rfl⟩
  rw [hL] at b1 b2 y2 y4 y5 R R2
  have G := Lib.hid hL
  clear hL hv b7 b8 b9 b10 hE hF hl hk y3
  obtain ⟨q, hq⟩ : ∃ q, q = k + 1 := ⟨_, rfl⟩
  have z1 : (q : Int) - 1 = (k : Int) := by omega
  have hxl : (List.replicate k L ++ [y]).length = q := by simp [hq]
  have hxk : (List.replicate k L ++ [y]).getD k 0 = y := by simp [List.getD_eq_getElem?_getD]
  have hxt : (List.replicate k L ++ [y]).take k = List.replicate k L := by rw [List.take_append_of_le_length (by simp), List.take_of_length_le (by simp)]
  generalize List.replicate k L ++ [y] = xs at *
  have QK := Lib.hid hq
  clear hq
  have XL := Lib.hid hxl
  have XK := Lib.hid hxk
  have XT := Lib.hid hxt
  have RR := Lib.hid R
  clear hxl hxk hxt R
  have Z1 := z1
  have k0 : ¬ (k : Int) < 0 := by omega
  have e1 : ∀ a : Int, (a == a) = true := fun a => by simp
  have hlen : (List.replicate k L).length = k := by simp
  have HK := Lib.hid hlen
  clear hlen
  by_cases hy : y < L
  · have R2' := Lib.hid (R2.trans (y4 hy))
    have hxl : (List.replicate k L ++ [y + 1]).length = q := by rw [QK.out]; simp
    have hxk : (List.replicate k L ++ [y + 1]).getD k 0 = y + 1 := by simp [List.getD_eq_getElem?_getD]
    have hxt : (List.replicate k L ++ [y + 1]).take k = List.replicate k L := by rw [List.take_append_of_le_length (by simp), List.take_of_length_le (by simp)]
    generalize List.replicate k L ++ [y + 1] = ys at *
    have YL := Lib.hid hxl
    have YK := Lib.hid hxk
    have YT := Lib.hid hxt
    clear hxl hxk hxt y4 y5 R2
    go_enter Try.func8, Try.ntmps8
    go_wp2_with fail
    refine (alive_any w).mono ?_
    rintro e w1 ⟨rfl, bel1⟩
    have BB := Lib.hid (bel_next BB.out bel1)
    clear bel1
    go_wp2_with fail
    refine (all_v xs w1 RR.out C.out hr0 hr1 (by omega) (by omega)).mono ?_
    rintro e w2 ⟨v2, rfl, own2, bel2⟩
    obtain ⟨Aa, ca, rfl, hca, hma, sl2⟩ := own2.sln (XL.out)
    have Sa := Lib.hid sl2
    have BB := Lib.hid (bel_next BB.out bel2)
    clear own2 bel2 sl2
    go_wp2_with fail
    refine (all_v ys w2 R2'.out C2.out hr0 hr1 (by omega) (by omega)).mono ?_
    rintro e w3 ⟨v3, rfl, own3, bel3⟩
    obtain ⟨Ab, cb, rfl, hcb, hmb, sl3⟩ := own3.sln (YL.out)
    have Sb := Lib.hid sl3
    have Sa := Lib.hid (Sa.out.next bel3)
    have BB := Lib.hid (bel_next BB.out bel3)
    clear own3 bel3 sl3
    go_wp2_with fail
    refine (long_v w3 G.out D.out hr0 hr1).mono ?_
    rintro e w' ⟨rfl, rfl⟩
    obtain ⟨b, o, rfl, hb, hc⟩ := Sa.out (by rw [XL.out, QK.out]; omega)
    have ca1 := (hc k (by rw [XL.out, QK.out]; omega)).trans (by rw [XK.out])
    obtain ⟨b', o', rfl, hb', hc'⟩ := Sb.out (by rw [YL.out, QK.out]; omega)
    have cb1 := (hc' k (by rw [YL.out, QK.out]; omega)).trans (by rw [YK.out])
    clear hc hc'
    have qc : q ≤ ca ∧ q ≤ cb := ⟨hca, hcb⟩
    have s1 : ∀ W, (Instr.slice 29 (.slice (some ⟨b, o, none⟩) q ca) none (some (.int .i64 (k : Int))) none).run Try.prog W = .ok (.slice (some ⟨b, o, none⟩) k ca) W := run_to elI64 _ q ca k rfl (by have := QK.out; omega)
    have s2 : ∀ W, (Instr.slice 29 (.slice (some ⟨b', o', none⟩) q cb) none (some (.int .i64 (k : Int))) none).run Try.prog W = .ok (.slice (some ⟨b', o', none⟩) k cb) W := run_to elI64 _ q cb k rfl (by have := QK.out; omega)
    have hkq : (k : Int) < (q : Int) := by have := QK.out; omega
    have T1 := Lib.hid (show Sl w3 w3.heap.size .i64 (some ⟨b, o, none⟩) (List.replicate k L) by rw [← XT.out]; exact Sa.out.take k)
    have T2 := Lib.hid (show Sl w3 w3.heap.size .i64 (some ⟨b', o', none⟩) (List.replicate k L) by rw [← YT.out]; exact Sb.out.take k)
    have k2 : decide ((k : Int) < 0) = false := by simp
    have k3 : decide (q < q) = false := by simp
    go_wp2_with fail
    go_quiet ((go_at_call 17; exact Calls.quiet_of (same22q _ _ k k _ _ (List.replicate k L) _ HK.out HK.out (by rw [HK.out]; omega) T2.out T1.out)))
    have w1 : IntKind.i64.wrap (y + 1) = y + 1 := IntWalk.i64_in _ (by omega)
    have w2 : (y + 1 == y + 1) = true := by simp
    have w3 : ((q : Int) == (q : Int)) = true := by simp
    clear s1 s2 e1
    go_wp2_with fail
    go_quiet (fail)
    go_wp2_with fail
    go_ret
    exact ⟨rfl, below_drewN (below_drewN BB.out _) _⟩
  · obtain rfl : y = L := by omega
    have R2' := Lib.hid (R2.trans (y5 rfl))
    have hxl : (List.replicate k y ++ [y, 1]).length = q + 1 := by rw [QK.out]; simp
    have hxk : (List.replicate k y ++ [y, 1]).getD k 0 = y := by simp [List.getD_eq_getElem?_getD]
    have hxq : (List.replicate k y ++ [y, 1]).getD q 0 = 1 := by rw [QK.out]; simp [List.getD_eq_getElem?_getD]
    have hxt : (List.replicate k y ++ [y, 1]).take k = List.replicate k y := by rw [List.take_append_of_le_length (by simp), List.take_of_length_le (by simp)]
    generalize List.replicate k y ++ [y, 1] = ys at *
    obtain ⟨p, hp⟩ : ∃ p, p = q + 1 := ⟨_, rfl⟩
    rw [← hp] at hxl
    have hp' : (q : Int) + 1 = (p : Int) := by omega
    have PQ := Lib.hid hp
    have YL := Lib.hid hxl
    have YK := Lib.hid hxk
    have YQ := Lib.hid hxq
    have YT := Lib.hid hxt
    clear hxl hxk hxt hxq y4 y5 R2 hp
    have P1 := Lib.hid hp'
    clear hp'
    go_enter Try.func8, Try.ntmps8
    go_wp2_with fail
    refine (alive_any w).mono ?_
    rintro e w1 ⟨rfl, bel1⟩
    have BB := Lib.hid (bel_next BB.out bel1)
    clear bel1
    go_wp2_with fail
    refine (all_v xs w1 RR.out C.out hr0 hr1 (by omega) (by omega)).mono ?_
    rintro e w2 ⟨v2, rfl, own2, bel2⟩
    obtain ⟨Aa, ca, rfl, hca, hma, sl2⟩ := own2.sln (XL.out)
    have Sa := Lib.hid sl2
    have BB := Lib.hid (bel_next BB.out bel2)
    clear own2 bel2 sl2
    go_wp2_with fail
    refine (all_v ys w2 R2'.out C2.out hr0 hr1 (by omega) (by omega)).mono ?_
    rintro e w3 ⟨v3, rfl, own3, bel3⟩
    obtain ⟨Ab, cb, rfl, hcb, hmb, sl3⟩ := own3.sln (YL.out)
    have Sb := Lib.hid sl3
    have Sa := Lib.hid (Sa.out.next bel3)
    have BB := Lib.hid (bel_next BB.out bel3)
    clear own3 bel3 sl3
    go_wp2_with fail
    refine (long_v w3 G.out D.out hr0 hr1).mono ?_
    rintro e w' ⟨rfl, rfl⟩
    obtain ⟨b, o, rfl, hb, hc⟩ := Sa.out (by rw [XL.out, QK.out]; omega)
    have ca1 := (hc k (by rw [XL.out, QK.out]; omega)).trans (by rw [XK.out])
    obtain ⟨b', o', rfl, hb', hc'⟩ := Sb.out (by rw [YL.out, PQ.out, QK.out]; omega)
    have cb1 := (hc' k (by rw [YL.out, PQ.out, QK.out]; omega)).trans (by rw [YK.out])
    have cb2 := (hc' q (by rw [YL.out, PQ.out, QK.out]; omega)).trans (by rw [YQ.out])
    clear hc hc'
    have qc : q ≤ ca ∧ p ≤ cb := ⟨hca, hcb⟩
    have s1 : ∀ W, (Instr.slice 29 (.slice (some ⟨b, o, none⟩) q ca) none (some (.int .i64 (k : Int))) none).run Try.prog W = .ok (.slice (some ⟨b, o, none⟩) k ca) W := run_to elI64 _ q ca k rfl (by have := QK.out; omega)
    have s2 : ∀ W, (Instr.slice 29 (.slice (some ⟨b', o', none⟩) p cb) none (some (.int .i64 (k : Int))) none).run Try.prog W = .ok (.slice (some ⟨b', o', none⟩) k cb) W := run_to elI64 _ p cb k rfl (by have := QK.out; have := PQ.out; omega)
    have hkq : (k : Int) < (q : Int) := by have := QK.out; omega
    have hkp : (k : Int) < (p : Int) := by have := QK.out; have := PQ.out; omega
    have hqp : (q : Int) < (p : Int) := by have := QK.out; have := PQ.out; omega
    have T1 := Lib.hid (show Sl w3 w3.heap.size .i64 (some ⟨b, o, none⟩) (List.replicate k y) by rw [← XT.out]; exact Sa.out.take k)
    have T2 := Lib.hid (show Sl w3 w3.heap.size .i64 (some ⟨b', o', none⟩) (List.replicate k y) by rw [← YT.out]; exact Sb.out.take k)
    have k2 : decide ((k : Int) < 0) = false := by simp
    have k3 : decide (p < q) = false := by have := PQ.out; simp; omega
    go_wp2_with fail
    go_quiet ((go_at_call 17; exact Calls.quiet_of (same22q _ _ k k _ _ (List.replicate k y) _ HK.out HK.out (by rw [HK.out]; omega) T2.out T1.out)))
    have w3 : (y == y) = true := by simp
    have w4 : ((p : Int) == (p : Int)) = true := by simp
    have w5 : ((1 : Int) == (1 : Int)) = true := by simp
    have w6 : (q : Int) + 1 = (p : Int) := P1.out
    have w7 : IntKind.i64.wrap ((q : Int) + 1) = (p : Int) := by rw [w6]; exact IntWalk.i64_in _ (by have := QK.out; have := PQ.out; omega)
    have w8 : (k : Int) + 1 = (q : Int) := by have := QK.out; omega
    have w9 : IntKind.i64.wrap ((k : Int) + 1) = (q : Int) := by rw [w8]; exact IntWalk.i64_in _ (by have := QK.out; have := PQ.out; omega)
    clear s1 s2 e1 hy z1 Z1
    go_wp2_with fail
    go_quiet (fail)
    go_wp2_with fail
    go_ret
    exact ⟨rfl, below_drewN (below_drewN BB.out _) _⟩

theorem frN_up {L n : Int} (hL : 1 ≤ L) (hn : 1 ≤ n) : frN L n ≤ frN L (n + 1) := by
  unfold frN
  exact Int.ediv_le_ediv (by omega) (by omega)
theorem cn_next {r n : Int} (h : cnE r n ≠ 0) (h' : cnE r (n + 1) = 0) : n = 0 := by
  obtain ⟨hl, b1, b2, b3, b4, b5, b6, b7, b8, b9, b10, hv⟩ := cnE_ok h'
  rcases Int.lt_or_le n 1 with h1 | h1
  · omega
  · exfalso
    apply h
    have := frN_up b1 h1
    unfold cnE; rw [if_pos ⟨hl, h1, by omega⟩, if_pos (by omega)]

set_option maxRecDepth 100000 in
set_option maxHeartbeats 1000000 in
theorem next_bad (r n E F G : Int) (w : World) (hr0 : -9223372036854775808 ≤ r) (hr1 : r ≤ 9223372036854775807) (hn0 : -9223372036854775808 ≤ n) (hn1 : n < 9223372036854775807) (hE : cnE r n = E) (hF : cnE r (n + 1) = F) (hG : lgE r = G)
    (h : F ≠ 0 ∨ n = 0 ∧ E ≠ 0 ∧ F = 0) :
    Calls Try.prog 8 #[.int .i64 r, .int .i64 n] w fun e w' => e = .returned (.bool true) ∧ Below w.heap.size w w' := by
  have BB := Lib.hid (bel_self w)
  have C := Lib.hid hE
  have C2 := Lib.hid hF
  have D := Lib.hid hG
  clear hE hF hG
  rcases h with h | ⟨rfl, h2, rfl⟩
  · have f1 : (F == 0) = false := by simp; exact h
    have f2 : (F != 0) = true := by simp; exact h
    clear h
    by_cases h0 : E = 0
    · subst h0
      go_enter Try.func8, Try.ntmps8
      go_wp2_with fail
      refine (alive_any w).mono ?_
      rintro e w1 ⟨rfl, bel1⟩
      have BB := Lib.hid (bel_next BB.out bel1)
      clear bel1
      go_wp2_with fail
      refine (all_v _ w1 rfl C.out hr0 hr1 (by omega) (by omega)).mono ?_
      rintro e w2 ⟨v2, rfl, own2, bel2⟩
      obtain ⟨Aa, ca, rfl, _, _, sl2⟩ := own2.sl
      have Sa := Lib.hid sl2
      have BB := Lib.hid (bel_next BB.out bel2)
      clear own2 bel2 sl2
      go_wp2_with fail
      refine (all_v _ w2 rfl C2.out hr0 hr1 (by omega) (by omega)).mono ?_
      rintro e w3 ⟨v3, rfl, own3, bel3⟩
      obtain ⟨Ab, cb, rfl, _, _, sl3⟩ := own3.sl
      have Sb := Lib.hid sl3
      have Sa := Lib.hid (Sa.out.next bel3)
      have BB := Lib.hid (bel_next BB.out bel3)
      clear own3 bel3 sl3
      go_wp2_with fail
      refine (long_v w3 rfl D.out hr0 hr1).mono ?_
      rintro e w' ⟨rfl, rfl⟩
      go_wp2_with fail
      go_ret
      exact ⟨rfl, BB.out⟩
    · have f3 : (E != 0) = true := by simp; exact h0
      clear h0
      go_enter Try.func8, Try.ntmps8
      go_wp2_with fail
      refine (alive_any w).mono ?_
      rintro e w1 ⟨rfl, bel1⟩
      have BB := Lib.hid (bel_next BB.out bel1)
      clear bel1
      go_wp2_with fail
      refine (all_v _ w1 rfl C.out hr0 hr1 (by omega) (by omega)).mono ?_
      rintro e w2 ⟨v2, rfl, own2, bel2⟩
      obtain ⟨Aa, ca, rfl, _, _, sl2⟩ := own2.sl
      have Sa := Lib.hid sl2
      have BB := Lib.hid (bel_next BB.out bel2)
      clear own2 bel2 sl2
      go_wp2_with fail
      refine (all_v _ w2 rfl C2.out hr0 hr1 (by omega) (by omega)).mono ?_
      rintro e w3 ⟨v3, rfl, own3, bel3⟩
      obtain ⟨Ab, cb, rfl, _, _, sl3⟩ := own3.sl
      have Sb := Lib.hid sl3
      have Sa := Lib.hid (Sa.out.next bel3)
      have BB := Lib.hid (bel_next BB.out bel3)
      clear own3 bel3 sl3
      go_wp2_with fail
      refine (long_v w3 rfl D.out hr0 hr1).mono ?_
      rintro e w' ⟨rfl, rfl⟩
      go_wp2_with fail
      go_ret
      exact ⟨rfl, BB.out⟩
  · have f3 : (E != 0) = true := by simp; exact h2
    clear h2
    go_enter Try.func8, Try.ntmps8
    go_wp2_with fail
    refine (alive_any w).mono ?_
    rintro e w1 ⟨rfl, bel1⟩
    have BB := Lib.hid (bel_next BB.out bel1)
    clear bel1
    go_wp2_with fail
    refine (all_v _ w1 rfl C.out hr0 hr1 (by omega) (by omega)).mono ?_
    rintro e w2 ⟨v2, rfl, own2, bel2⟩
    obtain ⟨Aa, ca, rfl, _, _, sl2⟩ := own2.sl
    have Sa := Lib.hid sl2
    have BB := Lib.hid (bel_next BB.out bel2)
    clear own2 bel2 sl2
    go_wp2_with fail
    refine (all_v _ w2 rfl C2.out hr0 hr1 (by omega) (by omega)).mono ?_
    rintro e w3 ⟨v3, rfl, own3, bel3⟩
    obtain ⟨Ab, cb, rfl, _, _, sl3⟩ := own3.sl
    have Sb := Lib.hid sl3
    have Sa := Lib.hid (Sa.out.next bel3)
    have BB := Lib.hid (bel_next BB.out bel3)
    clear own3 bel3 sl3
    go_wp2_with fail
    refine (long_v w3 rfl D.out hr0 hr1).mono ?_
    rintro e w' ⟨rfl, rfl⟩
    go_wp2_with fail
    go_ret
    exact ⟨rfl, BB.out⟩

set_option maxRecDepth 100000 in
set_option maxHeartbeats 1000000 in
theorem next_top (r n E G : Int) (w : World) (hr0 : -9223372036854775808 ≤ r) (hr1 : r ≤ 9223372036854775807) (hn0 : -9223372036854775808 ≤ n) (hn1 : n ≤ 9223372036854775807) (hE : cnE r n = E) (N : Int) (hN : IntKind.i64.wrap (n + 1) = N) (hF : cnE r N = 2) (hG : lgE r = G) (h0 : E ≠ 0)
    (hN0 : -9223372036854775808 ≤ N) (hN1 : N ≤ 9223372036854775807) :
    Calls Try.prog 8 #[.int .i64 r, .int .i64 n] w fun e w' => e = .returned (.bool true) ∧ Below w.heap.size w w' := by
  have BB := Lib.hid (bel_self w)
  have C := Lib.hid hE
  have C2 := Lib.hid hF
  have D := Lib.hid hG
  clear hE hF hG
  have f3 : (E != 0) = true := by simp; exact h0
  clear h0
  go_enter Try.func8, Try.ntmps8
  go_wp2_with fail
  refine (alive_any w).mono ?_
  rintro e w1 ⟨rfl, bel1⟩
  have BB := Lib.hid (bel_next BB.out bel1)
  clear bel1
  go_wp2_with fail
  refine (all_v _ w1 rfl C.out hr0 hr1 hn0 hn1).mono ?_
  rintro e w2 ⟨v2, rfl, own2, bel2⟩
  obtain ⟨Aa, ca, rfl, _, _, sl2⟩ := own2.sl
  have Sa := Lib.hid sl2
  have BB := Lib.hid (bel_next BB.out bel2)
  clear own2 bel2 sl2
  go_wp2_with fail
  refine (all_v _ w2 rfl C2.out hr0 hr1 hN0 hN1).mono ?_
  rintro e w3 ⟨v3, rfl, own3, bel3⟩
  obtain ⟨Ab, cb, rfl, _, _, sl3⟩ := own3.sl
  have Sb := Lib.hid sl3
  have Sa := Lib.hid (Sa.out.next bel3)
  have BB := Lib.hid (bel_next BB.out bel3)
  clear own3 bel3 sl3
  go_wp2_with fail
  refine (long_v w3 rfl D.out hr0 hr1).mono ?_
  rintro e w' ⟨rfl, rfl⟩
  go_wp2_with fail
  go_ret
  exact ⟨rfl, BB.out⟩

theorem lengthsNext_walk (r n : Int) (w : World) (hr0 : -9223372036854775808 ≤ r) (hr1 : r ≤ 9223372036854775807) (hn0 : -9223372036854775808 ≤ n) (hn1 : n ≤ 9223372036854775807) :
    Calls Try.prog 8 #[.int .i64 r, .int .i64 n] w fun e w' => e = .returned (.bool true) ∧ Below w.heap.size w w' := by
  by_cases ht : n < 9223372036854775807
  · by_cases hF : cnE r (n + 1) = 0
    · by_cases hE : cnE r n = 0
      · exact next_good r n w hr0 hr1 hE hF
      · exact next_bad r n _ _ _ w hr0 hr1 hn0 ht rfl rfl rfl (.inr ⟨cn_next hE hF, hE, hF⟩)
    · exact next_bad r n _ _ _ w hr0 hr1 hn0 ht rfl rfl rfl (.inl hF)
  · have hw : IntKind.i64.wrap (n + 1) = -9223372036854775808 := by rw [show n + 1 = 9223372036854775808 by omega]; decide +kernel
    have h2 : ∀ m : Int, (m < 1 ∨ 4000 < m) → cnE r m = 2 := fun m hm => by unfold cnE; rw [if_neg (by omega)]
    exact next_top r n _ _ w hr0 hr1 hn0 hn1 (h2 n (by omega)) _ hw (h2 _ (by decide)) rfl (by decide) (by decide) (by decide)
end Go.Proofs.Ytabdadpcknlnbaa

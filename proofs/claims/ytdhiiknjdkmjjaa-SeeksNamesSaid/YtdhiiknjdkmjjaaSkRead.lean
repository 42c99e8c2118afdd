/-
  What Read of package seeks computes. Conditions: numbers within their types.
-/
import Derived.Test.YtdhiiknjdkmjjaaSkWalks2
import Derived.Test.YtdhiiknjdkmjjaaKit5
namespace Go.Proofs.Ytdhiiknjdkmjjaa
open Go.RowKit
set_option linter.unusedVariables false

/-- numbers of four bytes each -/
def rdL (b : List Int) (n : Nat) : List Int := (List.range n).map (fun i => va4 b (4 * i))
theorem rdL_len (b : List Int) (n : Nat) : (rdL b n).length = n := by simp [rdL]
theorem rdL_snoc (b : List Int) (n : Nat) : rdL b (n + 1) = rdL b n ++ [va4 b (4 * n)] := by
  unfold rdL
  rw [List.range_succ, List.map_append]; rfl
theorem va4_bd {b : List Int} (h : U8 b) (i : Nat) (hi : i + 4 ≤ b.length) : 0 ≤ va4 b i ∧ va4 b i ≤ 4294967295 := by
  have h0 := h _ (mem_getD (show i < b.length by omega))
  have h1 := h _ (mem_getD (show i + 1 < b.length by omega))
  have h2 := h _ (mem_getD (show i + 2 < b.length by omega))
  have h3 := h _ (mem_getD (show i + 3 < b.length by omega))
  unfold va4; omega
theorem rdL_i64 {b : List Int} (h : U8 b) (n : Nat) (hn : 4 * n ≤ b.length) : I64 (rdL b n) := by
  intro x hx
  obtain ⟨i, hi, rfl⟩ := List.mem_map.1 hx
  have := List.mem_range.1 hi
  have := va4_bd h (4 * i) (by omega)
  omega
theorem rd_set (b : List Int) (k m : Nat) (h : k < m) : (rdL b k ++ List.replicate (m - k) 0).set k (va4 b (4 * k)) = rdL b (k + 1) ++ List.replicate (m - (k + 1)) 0 := by
  rw [List.set_append_right _ _ (by rw [rdL_len]; omega), rdL_len, Nat.sub_self, show m - k = (m - (k + 1)) + 1 by omega, List.replicate_succ, List.set_cons_zero, rdL_snoc, List.append_assoc]
  rfl
def rdE (b : List Int) (n : Int) : Int :=
  if n < 1 ∨ 1000 < n then 2 else if (b.length : Int) < 4 * n + 4 then 24 else if ((sumL (b.take (4 * n.toNat)) : Nat) : Int) ≠ va4 b (4 * n.toNat) then 22 else if skE (rdL b n.toNat) ≠ 0 then 12 else 0
def rdR (b : List Int) (n : Int) : List Int := if rdE b n = 0 then rdL b n.toNat else []
theorem rdR_bad {b : List Int} {n : Int} (h : rdE b n ≠ 0) : rdR b n = [] := by unfold rdR; rw [if_neg h]
theorem rdE_cases (b : List Int) (n : Int) : (rdE b n = 2 ∧ (n < 1 ∨ 1000 < n)) ∨ ∃ m : Nat, n = (m : Int) ∧ 1 ≤ m ∧ m ≤ 1000 ∧
    ((rdE b n = 24 ∧ b.length < 4 * m + 4) ∨ (4 * m + 4 ≤ b.length ∧ ((rdE b n = 22 ∧ ((sumL (b.take (4 * m)) : Nat) : Int) ≠ va4 b (4 * m)) ∨ (((sumL (b.take (4 * m)) : Nat) : Int) = va4 b (4 * m) ∧
      ((rdE b n = 12 ∧ skE (rdL b m) ≠ 0) ∨ (rdE b n = 0 ∧ skE (rdL b m) = 0 ∧ rdR b n = rdL b m)))))) := by
  by_cases h0 : n < 1 ∨ 1000 < n
  · left; unfold rdE; rw [if_pos h0]; exact ⟨rfl, h0⟩
  · right
    obtain ⟨m, rfl⟩ : ∃ m : Nat, n = (m : Int) := ⟨n.toNat, by omega⟩
    refine ⟨m, rfl, by omega, by omega, ?_⟩
    have hr : rdE b m = 0 → rdR b m = rdL b m := fun h => by unfold rdR; rw [if_pos h, Int.toNat_natCast]
    have key : rdE b m = if (b.length : Int) < 4 * (m : Int) + 4 then 24 else if ((sumL (b.take (4 * m)) : Nat) : Int) ≠ va4 b (4 * m) then 22 else if skE (rdL b m) ≠ 0 then 12 else 0 := by
      unfold rdE; rw [if_neg h0, Int.toNat_natCast]
    by_cases h1 : (b.length : Int) < 4 * (m : Int) + 4
    · left; rw [key, if_pos h1]; exact ⟨rfl, by omega⟩
    · right
      rw [if_neg h1] at key
      refine ⟨by omega, ?_⟩
      by_cases h2 : ((sumL (b.take (4 * m)) : Nat) : Int) ≠ va4 b (4 * m)
      · left; rw [key, if_pos h2]; exact ⟨rfl, h2⟩
      · right
        rw [if_neg h2] at key
        refine ⟨Decidable.not_not.1 h2, ?_⟩
        by_cases h3 : skE (rdL b m) ≠ 0
        · left; rw [key, if_pos h3]; exact ⟨rfl, h3⟩
        · right; rw [if_neg h3] at key; exact ⟨key, Decidable.not_not.1 h3, hr key⟩

theorem leAt4z {z : Int} (A : Option Addr) (n c i : Nat) (xs : List Int) (w : World) (hz : z = (i : Int)) (hn : xs.length = n) (hi : i + 4 ≤ n) (hc : n ≤ c) (hm : n ≤ 9223372036854775807) (hx : U8 xs) (hs : Sl w w.heap.size .u8 A xs) :
    Calls Try.prog 25 #[.slice A n c, .int .i64 z, .int .i64 4] w fun e w' => e = .returned (.tuple #[.int .u64 (va4 xs i), .int .i64 0]) ∧ w = w' := by
  subst hz
  exact leAt4 A n c i xs w hn hi hc hm hx hs

set_option maxHeartbeats 1000000 in
theorem read_sum (A : Option Addr) (n c m : Nat) (b : List Int) (w : World) (hn : b.length = n) (hc : n ≤ c) (hm : c ≤ 9223372036854775807) (hx : U8 b) (hs : Sl w w.heap.size .u8 A b) (h1 : 1 ≤ m) (h2 : m ≤ 1000) (h3 : 4 * m + 4 ≤ n) (h4 : ((sumL (b.take (4 * m)) : Nat) : Int) ≠ va4 b (4 * m)) :
    Calls Try.prog 10 #[.slice A n c, .int .i64 m] w fun e w' => e = .returned (.tuple #[.slice none 0 0, .int .i64 22]) ∧ Below w.heap.size w w' := by
  have r1 : ∀ W, (Instr.slice 22 (.slice A n c) none (some (.int .i64 (4 * (m : Int)))) none).run Try.prog W = .ok (.slice A (4 * m) c) W := run_upto leElU8 A n c (4 * m) (by omega) (by omega)
  have S := Lib.hid hs
  have X := Lib.hid hx
  have N := Lib.hid hn
  have d0 : ¬ ((n : Int) < 4 * (m : Int) + 4) := by omega
  have ne : (((sumL (b.take (4 * m)) : Nat) : Int) != va4 b (4 * m)) = true := by simp; exact h4
  have SM := Lib.hid (fun W (hW : Sl W W.heap.size .u8 A b) => sum_ok A (4 * m) c (b.take (4 * m)) W (by rw [List.length_take, N.out]; omega) (by omega) (fun x h => X.out x (List.mem_of_mem_take h)) (hW.take _))
  clear hs hx hn h4
  have z := sumL_lt (b.take (4 * m))
  generalize sumL (b.take (4 * m)) = s at *
  obtain ⟨v, hv⟩ : ∃ v, va4 b (4 * m) = v := ⟨_, rfl⟩
  have AT := Lib.hid (leAt4z (z := 4 * (m : Int)) A n c (4 * m) b w (by omega) N.out (by omega) hc (by omega) X.out S.out)
  rw [hv] at AT ne
  clear hv
  go_enter Try.func10, Try.ntmps10
  go_wp2_with fail
  refine AT.out.mono ?_
  rintro e w' ⟨rfl, rfl⟩
  go_wp2_with fail
  refine (SM.out _ S.out).mono ?_
  rintro e w1 ⟨rfl, bel⟩
  go_wp2_with fail
  go_ret2
  exact ⟨rfl, bel⟩

set_option maxHeartbeats 400000 in
theorem read_arg (A : Option Addr) (n c : Nat) (m : Int) (w : World) (h : m < 1 ∨ 1000 < m) :
    Calls Try.prog 10 #[.slice A n c, .int .i64 m] w fun e w' => e = .returned (.tuple #[.slice none 0 0, .int .i64 2]) ∧ w = w' := by
  by_cases h1 : m < 1
  all_goals
    go_enter Try.func10, Try.ntmps10
    go_wp2_with fail
    go_ret2
    exact ⟨rfl, rfl⟩

set_option maxHeartbeats 400000 in
theorem read_short (A : Option Addr) (n c m : Nat) (w : World) (h1 : 1 ≤ m) (h2 : m ≤ 1000) (h3 : n < 4 * m + 4) :
    Calls Try.prog 10 #[.slice A n c, .int .i64 m] w fun e w' => e = .returned (.tuple #[.slice none 0 0, .int .i64 24]) ∧ w = w' := by
  have d0 : ((n : Int) < 4 * (m : Int) + 4) := by omega
  go_enter Try.func10, Try.ntmps10
  go_wp2_with fail
  go_ret2
  exact ⟨rfl, rfl⟩

set_option maxHeartbeats 1000000 in
theorem read_main (A : Option Addr) (n c m : Nat) (b : List Int) (w : World) (hn : b.length = n) (hc : n ≤ c) (hm : c ≤ 9223372036854775807) (hx : U8 b) (hs : Sl w w.heap.size .u8 A b) (h1 : 1 ≤ m) (h2 : m ≤ 1000) (h3 : 4 * m + 4 ≤ n) (h4 : ((sumL (b.take (4 * m)) : Nat) : Int) = va4 b (4 * m)) :
    Calls Try.prog 10 #[.slice A n c, .int .i64 m] w fun e w' => ∃ v, e = .returned (.tuple #[v, .int .i64 (if skE (rdL b m) = 0 then 0 else 12)]) ∧ Own w' w.heap.size 3 .i64 v (if skE (rdL b m) = 0 then rdL b m else []) ∧ Below w.heap.size w w' := by
  have r1 : ∀ W, (Instr.slice 22 (.slice A n c) none (some (.int .i64 (4 * (m : Int)))) none).run Try.prog W = .ok (.slice A (4 * m) c) W := run_upto leElU8 A n c (4 * m) (by omega) (by omega)
  have mk1 : ∀ W, (Instr.makeSlice 24 (.int .i64 (m : Int)) (.int .i64 (m : Int))).run Try.prog W = .ok (.slice (some ⟨W.heap.size, 0, none⟩) m m) (W.alloc (.cells (zerosA .i64 m) 3)) := run_make_ints skElI m rfl (by omega) (by omega)
  have S := Lib.hid hs
  have X := Lib.hid hx
  have N := Lib.hid hn
  have d0 : ¬ ((n : Int) < 4 * (m : Int) + 4) := by omega
  have SM := Lib.hid (fun W (hW : Sl W W.heap.size .u8 A b) => sum_ok A (4 * m) c (b.take (4 * m)) W (by rw [List.length_take, N.out]; omega) (by omega) (fun x h => X.out x (List.mem_of_mem_take h)) (hW.take _))
  clear hs hx hn
  have z := sumL_lt (b.take (4 * m))
  generalize sumL (b.take (4 * m)) = s at *
  have AT := Lib.hid (leAt4z (z := 4 * (m : Int)) A n c (4 * m) b w (by omega) N.out (by omega) hc (by omega) X.out S.out)
  rw [← h4] at AT
  have ne : ((s : Int) != (s : Int)) = false := by simp
  clear h4
  go_enter Try.func10, Try.ntmps10
  go_wp2_with fail
  refine AT.out.mono ?_
  rintro e w' ⟨rfl, rfl⟩
  go_wp2_with fail
  refine (SM.out _ S.out).mono ?_
  rintro e w1 ⟨rfl, bel⟩
  have HB1 := Lib.hid (bel_up bel (.cells (zerosA .i64 m) 3))
  have HO1 := Lib.hid (Own.zeros w1 w.heap.size .i64 3 m bel.size (by omega))
  have hg := bel.size
  clear bel AT SM
  go_wp2_with fail
  go_loopw [49] (fun i wr => ∃ k : Nat, k ≤ m ∧ i = .int .i64 k ∧ Own wr w.heap.size 3 .i64 (.slice (some ⟨w1.heap.size, 0, none⟩) m m) (rdL b k ++ List.replicate (m - k) 0) ∧ Below w.heap.size w wr) (fun i _ => m - (intOf i).toNat)
  case atStart => exact ⟨0, by omega, rfl, by simpa [rdL] using HO1.out, HB1.out⟩
  case round =>
    obtain ⟨k, hk, rfl, hown, hbel⟩ := hrel
    have HO := Lib.hid hown
    have HB := Lib.hid hbel
    clear hown hbel HO1 HB1
    by_cases hlt : k < m
    · have hlt' : (k : Int) < (m : Int) := by omega
      have AT := Lib.hid (leAt4z (z := 4 * (k : Int)) A n c (4 * k) b wr (by omega) N.out (by omega) hc (by omega) X.out ((S.out.below HB.out).more HB.out.size))
      have bd := va4_bd X.out (4 * k) (by rw [N.out]; omega)
      have cell := HO.out.cell k (by simp [rdL_len]; omega)
      have free := HO.out.frozen k
      have O2 := Lib.hid (HO.out.set k (va4 b (4 * k)))
      rw [rd_set b k m hlt] at O2
      have B2 := Lib.hid (HB.out.setCell (p := ⟨w1.heap.size, k, none⟩) hg (.int .i64 (va4 b (4 * k))))
      generalize (rdL b k ++ List.replicate (m - k) 0).getD k 0 = y at *
      generalize va4 b (4 * k) = v at *
      clear HO HB
      go_wp2_with fail
      refine AT.out.mono ?_
      rintro e w' ⟨rfl, rfl⟩
      go_wp2_with fail
      go_roundw
      case rel => exact ⟨k + 1, by omega, by go_num, O2.out, B2.out⟩
      case measure => simp [intOf]; omega
    · obtain rfl : k = m := by omega
      rw [Nat.sub_self, List.replicate_zero, List.append_nil] at HO
      have I := rdL_i64 X.out k (by rw [N.out]; omega)
      have CK := Lib.hid (fun W (hW : Sl W W.heap.size .i64 (some ⟨w1.heap.size, 0, none⟩) (rdL b k)) => skCheck (some ⟨w1.heap.size, 0, none⟩) k k (rdL b k) W (rdL_len b k) (by omega) I hW)
      obtain ⟨A', c', hv, _, _, sl⟩ := HO.out.sln (rdL_len b k)
      injection hv with hA hc1 hc2
      subst hA hc2
      have SL := Lib.hid sl
      clear sl I hg
      by_cases h0 : skE (rdL b k) = 0
      · have Y := Lib.hid h0
        rw [h0] at CK
        clear h0
        go_wp2_with fail
        refine (CK.out _ SL.out).mono ?_
        rintro e w' ⟨rfl, rfl⟩
        go_wp2_with fail
        go_ret2
        exact ⟨_, by first | rfl | (rw [if_pos Y.out]; rfl), by first | exact HO.out | (rw [if_pos Y.out]; exact HO.out), HB.out⟩
      · have Y := Lib.hid h0
        rw [skE_bad h0] at CK
        clear h0
        go_wp2_with fail
        refine (CK.out _ SL.out).mono ?_
        rintro e w' ⟨rfl, rfl⟩
        go_wp2_with fail
        go_ret2
        exact ⟨_, by first | rfl | (rw [if_neg Y.out]; rfl), by first | exact own_nil5 _ _ _ _ | (rw [if_neg Y.out]; exact own_nil5 _ _ _ _), HB.out⟩

theorem skRead (A : Option Addr) (n c : Nat) (b : List Int) (m : Int) (w : World) (hn : b.length = n) (hc : n ≤ c) (hm : c ≤ 9223372036854775807) (hx : U8 b) (hs : Sl w w.heap.size .u8 A b) :
    Calls Try.prog 10 #[.slice A n c, .int .i64 m] w fun e w' => ∃ v, e = .returned (.tuple #[v, .int .i64 (rdE b m)]) ∧ Own w' w.heap.size 3 .i64 v (rdR b m) ∧ Below w.heap.size w w' := by
  rcases rdE_cases b m with ⟨h, h0⟩ | ⟨k, rfl, h1, h2, ⟨h, h3⟩ | ⟨h3, ⟨h, h4⟩ | ⟨h4, ⟨h, h5⟩ | ⟨h, h5, h6⟩⟩⟩⟩
  · rw [rdR_bad (by omega), h]
    exact (read_arg A n c m w h0).mono fun e w' ⟨he, hw⟩ => ⟨_, he, own_nil5 _ _ _ _, hw ▸ bel_self _⟩
  · rw [rdR_bad (by omega), h]
    exact (read_short A n c k w h1 h2 (by omega)).mono fun e w' ⟨he, hw⟩ => ⟨_, he, own_nil5 _ _ _ _, hw ▸ bel_self _⟩
  · rw [rdR_bad (by omega), h]
    exact (read_sum A n c k b w hn hc hm hx hs h1 h2 (by omega) h4).mono fun e w' ⟨he, hw⟩ => ⟨_, he, own_nil5 _ _ _ _, hw⟩
  · have := read_main A n c k b w hn hc hm hx hs h1 h2 (by omega) h4
    rw [if_neg h5, if_neg h5] at this
    rw [rdR_bad (by omega), h]
    exact this
  · have := read_main A n c k b w hn hc hm hx hs h1 h2 (by omega) h4
    rw [if_pos h5, if_pos h5] at this
    rw [h6, h]
    exact this
end Go.Proofs.Ytdhiiknjdkmjjaa

/-
  What Read, SameInts, Long and Large of the reference of layer 26 compute. Conditions: numbers within their types.
-/
import Derived.Test.YtdhiiknjdkmjjaaRef26B
namespace Go.Proofs.Ytdhiiknjdkmjjaa
open Go.RowKit
set_option linter.unusedVariables false

/-- four bytes of a slice: some address, and what it holds -/
theorem mid4 (A : Option Addr) (l c i : Nat) (xs : List Int) (hl : xs.length = l) (hn : 4 * i + 4 ≤ l) (hc : l ≤ c) :
    ∃ A', (∀ W, (Instr.slice 22 (.slice A l c) (some (.int .i64 (4 * (i : Int)))) (some (.int .i64 (4 * (i : Int) + 4))) none).run Try.prog W = .ok (.slice A' 4 (c - 4 * i)) W) ∧
      ∀ W B, Sl W B .u8 A xs → Sl W B .u8 A' ((xs.drop (4 * i)).take 4) := by
  obtain ⟨A', h1, h2⟩ := mid_ex leElU8 A l c (4 * i) 4 xs hl hn hc
  refine ⟨A', fun W => ?_, h2⟩
  have := h1 W
  rw [show ((4 * i : Nat) : Int) = 4 * (i : Int) by omega] at this
  exact this

theorem reOfMid (A A' : Option Addr) (l c c' i : Nat) (xs : List Int) (w : World) (hl : xs.length = l) (hn : 4 * i + 4 ≤ l) (hx : U8 xs) (hs : Sl w w.heap.size .u8 A' ((xs.drop (4 * i)).take 4)) :
    Calls Try.prog 27 #[.slice A' 4 c'] w fun e w' => e = .returned (.int .u64 (va4 xs (4 * i))) ∧ w = w' := by
  rw [← va4_mid xs (4 * i)]
  exact reOf4 A' 4 c' _ w (by rw [List.length_take, List.length_drop]; omega) rfl (fun x h => hx x (List.mem_of_mem_drop (List.mem_of_mem_take h))) hs

set_option maxHeartbeats 400000 in
theorem reread_arg (A : Option Addr) (n c : Nat) (m : Int) (w : World) (h : m < 1 ∨ 1000 < m) :
    Calls Try.prog 11 #[.slice A n c, .int .i64 m] w fun e w' => e = .returned (.tuple #[.slice none 0 0, .int .i64 2]) ∧ w = w' := by
  by_cases h1 : m < 1
  all_goals
    go_enter Try.func11, Try.ntmps11
    go_wp2_with fail
    go_ret2
    exact ⟨rfl, rfl⟩

set_option maxHeartbeats 400000 in
theorem reread_short (A : Option Addr) (n c m : Nat) (w : World) (h1 : 1 ≤ m) (h2 : m ≤ 1000) (h3 : n < 4 * m + 4) :
    Calls Try.prog 11 #[.slice A n c, .int .i64 m] w fun e w' => e = .returned (.tuple #[.slice none 0 0, .int .i64 24]) ∧ w = w' := by
  have d0 : ((n : Int) < 4 * (m : Int) + 4) := by omega
  go_enter Try.func11, Try.ntmps11
  go_wp2_with fail
  go_ret2
  exact ⟨rfl, rfl⟩

set_option maxHeartbeats 1000000 in
theorem reread_sum (A : Option Addr) (n c m : Nat) (b : List Int) (w : World) (hn : b.length = n) (hc : n ≤ c) (hm : c ≤ 9223372036854775807) (hx : U8 b) (hs : Sl w w.heap.size .u8 A b) (h1 : 1 ≤ m) (h2 : m ≤ 1000) (h3 : 4 * m + 4 ≤ n) (h4 : ((sumL (b.take (4 * m)) : Nat) : Int) ≠ va4 b (4 * m)) :
    Calls Try.prog 11 #[.slice A n c, .int .i64 m] w fun e w' => e = .returned (.tuple #[.slice none 0 0, .int .i64 22]) ∧ Below w.heap.size w w' := by
  have r1 : ∀ W, (Instr.slice 22 (.slice A n c) none (some (.int .i64 (4 * (m : Int)))) none).run Try.prog W = .ok (.slice A (4 * m) c) W := run_upto leElU8 A n c (4 * m) (by omega) (by omega)
  obtain ⟨A', r2, s2⟩ := mid4 A n c m b hn h3 hc
  have S := Lib.hid hs
  have S2 := Lib.hid (s2 _ _ hs)
  have X := Lib.hid hx
  have N := Lib.hid hn
  have d0 : ¬ ((n : Int) < 4 * (m : Int) + 4) := by omega
  have ne : (va4 b (4 * m) != ((sumL (b.take (4 * m)) : Nat) : Int)) = true := by simp; omega
  have c1 : ∀ W, Sl W W.heap.size .u8 A b → Calls Try.prog 28 #[.slice A (4 * m) c] W fun e w' => e = .returned (.int .u32 ((sumL (b.take (4 * m)) : Nat) : Int)) ∧ W = w' := fun W hW => Of_any A (4 * m) c (b.take (4 * m)) W (by rw [List.length_take, N.out]; omega) (by omega) (fun x h => X.out x (List.mem_of_mem_take h)) (hW.take _)
  have c2 : ∀ W, Sl W W.heap.size .u8 A' ((b.drop (4 * m)).take 4) → Calls Try.prog 27 #[.slice A' 4 (c - 4 * m)] W fun e w' => e = .returned (.int .u64 (va4 b (4 * m))) ∧ W = w' := fun W hW => reOfMid A A' n c _ m b W hn h3 hx hW
  clear hs hx hn h4 s2
  have z := sumL_lt (b.take (4 * m))
  generalize sumL (b.take (4 * m)) = s at *
  generalize va4 b (4 * m) = v at *
  have C1 := Lib.hid c1
  have C2 := Lib.hid c2
  clear c1 c2
  have w1 : IntKind.i64.wrap (4 * (m : Int)) = 4 * (m : Int) := IntWalk.i64_in _ (by omega)
  have w2 : IntKind.i64.wrap (4 * (m : Int) + 4) = 4 * (m : Int) + 4 := IntWalk.i64_in _ (by omega)
  go_enter Try.func11, Try.ntmps11
  go_wp2_with fail
  go_quiet (first | (go_at_call 27; exact quiet_left5 (C2.out _ (S2.out.drewN _))) | (go_at_call 28; exact quiet_left5 (C1.out _ (S.out.drewN _))))
  go_wp2_with fail
  go_ret2
  exact ⟨rfl, below_drewN (bel_self _) _⟩

set_option maxHeartbeats 1000000 in
theorem reread_main (A : Option Addr) (n c m : Nat) (b : List Int) (w : World) (hn : b.length = n) (hc : n ≤ c) (hm : c ≤ 9223372036854775807) (hx : U8 b) (hs : Sl w w.heap.size .u8 A b) (h1 : 1 ≤ m) (h2 : m ≤ 1000) (h3 : 4 * m + 4 ≤ n) (h4 : ((sumL (b.take (4 * m)) : Nat) : Int) = va4 b (4 * m)) :
    Calls Try.prog 11 #[.slice A n c, .int .i64 m] w fun e w' => ∃ v, e = .returned (.tuple #[v, .int .i64 (if skE (rdL b m) = 0 then 0 else 12)]) ∧ Own w' w.heap.size 3 .i64 v (if skE (rdL b m) = 0 then rdL b m else []) ∧ Below w.heap.size w w' := by
  have r1 : ∀ W, (Instr.slice 22 (.slice A n c) none (some (.int .i64 (4 * (m : Int)))) none).run Try.prog W = .ok (.slice A (4 * m) c) W := run_upto leElU8 A n c (4 * m) (by omega) (by omega)
  obtain ⟨A', r2, s2⟩ := mid4 A n c m b hn h3 hc
  have S := Lib.hid hs
  have S2 := Lib.hid (s2 _ _ hs)
  have X := Lib.hid hx
  have N := Lib.hid hn
  have d0 : ¬ ((n : Int) < 4 * (m : Int) + 4) := by omega
  have c1 : ∀ W, Sl W W.heap.size .u8 A b → Calls Try.prog 28 #[.slice A (4 * m) c] W fun e w' => e = .returned (.int .u32 ((sumL (b.take (4 * m)) : Nat) : Int)) ∧ W = w' := fun W hW => Of_any A (4 * m) c (b.take (4 * m)) W (by rw [List.length_take, N.out]; omega) (by omega) (fun x h => X.out x (List.mem_of_mem_take h)) (hW.take _)
  have c2 : ∀ W, Sl W W.heap.size .u8 A' ((b.drop (4 * m)).take 4) → Calls Try.prog 27 #[.slice A' 4 (c - 4 * m)] W fun e w' => e = .returned (.int .u64 (va4 b (4 * m))) ∧ W = w' := fun W hW => reOfMid A A' n c _ m b W hn h3 hx hW
  rw [← h4] at c2
  clear hs hx hn h4 s2
  have z := sumL_lt (b.take (4 * m))
  generalize sumL (b.take (4 * m)) = s at *
  have ne : ((s : Int) != (s : Int)) = false := by simp
  have C1 := Lib.hid c1
  have C2 := Lib.hid c2
  clear c1 c2
  have w1 : IntKind.i64.wrap (4 * (m : Int)) = 4 * (m : Int) := IntWalk.i64_in _ (by omega)
  have w2 : IntKind.i64.wrap (4 * (m : Int) + 4) = 4 * (m : Int) + 4 := IntWalk.i64_in _ (by omega)
  go_enter Try.func11, Try.ntmps11
  go_wp2_with fail
  go_quiet (first | (go_at_call 27; exact quiet_left5 (C2.out _ (S2.out.drewN _))) | (go_at_call 28; exact quiet_left5 (C1.out _ (S.out.drewN _))))
  clear w1 w2 r1 r2 C1 C2
  go_wp2_with fail
  go_loopw [6, 7] (fun v i wr => ∃ k : Nat, k ≤ m ∧ i = .int .i64 k ∧ Own wr w.heap.size 3 .i64 v (rdL b k) ∧ Below w.heap.size w wr) (fun _ i _ => m - (intOf i).toNat)
  case atStart => exact ⟨0, by omega, rfl, own_nil5 _ _ _ _, below_drewN (bel_self w) _⟩
  case round =>
    obtain ⟨k, hk, rfl, hown, hbel⟩ := hrel
    have HO := Lib.hid hown
    have HB := Lib.hid hbel
    have L := Lib.hid (rdL_len b k)
    clear hown hbel
    by_cases hlt : k < m
    · have hlt' : (k : Int) < (m : Int) := by omega
      obtain ⟨A2, r3, s3⟩ := mid4 A n c k b N.out (by omega) hc
      have S3 := Lib.hid (s3 _ _ ((S.out.below HB.out).more HB.out.size))
      have OF := Lib.hid (reOfMid A A2 n c (c - 4 * k) k b wr N.out (by omega) X.out S3.out)
      have T := Lib.hid (rdL_snoc b k)
      have bd := va4_bd X.out (4 * k) (by rw [N.out]; omega)
      have hB := HB.out.size
      clear s3
      generalize va4 b (4 * k) = y at *
      go_wp2_with fail
      refine OF.out.mono ?_
      rintro e w' ⟨rfl, rfl⟩
      clear r3
      go_wp2_with ((at_builtin; refine app1 skElI _ _ rfl rfl rfl rfl HO.out (by rw [L.out]; omega) (by rw [L.out]; omega) hB ?_; intro v2 w2 ho2 hb2; have O2 := Lib.hid ho2; have B2 := Lib.hid (HB.out.trans hb2); clear ho2 hb2))
      go_roundw
      case rel => exact ⟨k + 1, by omega, by go_num, by rw [T.out]; exact O2.out, B2.out⟩
      case measure => simp [intOf]; omega
    · obtain rfl : k = m := by omega
      have I := rdL_i64 X.out k (by rw [N.out]; omega)
      obtain ⟨Av, cv, rfl, hv1, hv2, sl⟩ := HO.out.sln L.out
      have CK := Lib.hid (reskCheck Av k cv (rdL b k) _ (rdL_len b k) (by omega) I sl)
      clear sl I
      by_cases h0 : skE (rdL b k) = 0
      · have Y := Lib.hid h0
        rw [h0] at CK
        clear h0
        go_wp2_with fail
        refine CK.out.mono ?_
        rintro e w' ⟨rfl, rfl⟩
        go_wp2_with fail
        go_ret2
        exact ⟨_, by first | rfl | (rw [if_pos Y.out]; rfl), by first | exact HO.out | (rw [if_pos Y.out]; exact HO.out), HB.out⟩
      · have Y := Lib.hid h0
        rw [skE_bad h0] at CK
        clear h0
        go_wp2_with fail
        refine CK.out.mono ?_
        rintro e w' ⟨rfl, rfl⟩
        go_wp2_with fail
        go_ret2
        exact ⟨_, by first | rfl | (rw [if_neg Y.out]; rfl), by first | exact own_nil5 _ _ _ _ | (rw [if_neg Y.out]; exact own_nil5 _ _ _ _), HB.out⟩

theorem reskRead (A : Option Addr) (n c : Nat) (b : List Int) (m : Int) (w : World) (hn : b.length = n) (hc : n ≤ c) (hm : c ≤ 9223372036854775807) (hx : U8 b) (hs : Sl w w.heap.size .u8 A b) :
    Calls Try.prog 11 #[.slice A n c, .int .i64 m] w fun e w' => ∃ v, e = .returned (.tuple #[v, .int .i64 (rdE b m)]) ∧ Own w' w.heap.size 3 .i64 v (rdR b m) ∧ Below w.heap.size w w' := by
  rcases rdE_cases b m with ⟨h, h0⟩ | ⟨k, rfl, h1, h2, ⟨h, h3⟩ | ⟨h3, ⟨h, h4⟩ | ⟨h4, ⟨h, h5⟩ | ⟨h, h5, h6⟩⟩⟩⟩
  · rw [rdR_bad (by omega), h]
    exact (reread_arg A n c m w h0).mono fun e w' ⟨he, hw⟩ => ⟨_, he, own_nil5 _ _ _ _, hw ▸ bel_self _⟩
  · rw [rdR_bad (by omega), h]
    exact (reread_short A n c k w h1 h2 (by omega)).mono fun e w' ⟨he, hw⟩ => ⟨_, he, own_nil5 _ _ _ _, hw ▸ bel_self _⟩
  · rw [rdR_bad (by omega), h]
    exact (reread_sum A n c k b w hn hc hm hx hs h1 h2 (by omega) h4).mono fun e w' ⟨he, hw⟩ => ⟨_, he, own_nil5 _ _ _ _, hw⟩
  · have := reread_main A n c k b w hn hc hm hx hs h1 h2 (by omega) h4
    rw [if_neg h5, if_neg h5] at this
    rw [rdR_bad (by omega), h]
    exact this
  · have := reread_main A n c k b w hn hc hm hx hs h1 h2 (by omega) h4
    rw [if_pos h5, if_pos h5] at this
    rw [h6, h]
    exact this

def lgB (n : Nat) : Bool := decide (100 < n ∧ n < 998 ∨ 1002 < n)
def laB (n : Nat) : Bool := decide (500 < n ∧ n < 3990 ∨ 4100 < n)

set_option maxHeartbeats 400000 in
theorem long26_any (A : Option Addr) (n c : Nat) (w : World) : Calls Try.prog 13 #[.slice A n c] w fun e w' => e = .returned (.bool (lgB n)) ∧ w = w' := by
  by_cases h1 : 100 < n ∧ n < 998 ∨ 1002 < n
  · have e := Lib.hid (show lgB n = true from decide_eq_true h1)
    by_cases h2 : 1002 < n
    · have a1 : (100 : Int) < (n : Int) := by omega
      have a2 : ¬ (n : Int) < 998 := by omega
      have a3 : (1002 : Int) < (n : Int) := by omega
      clear h1 h2
      go_enter Try.func13, Try.ntmps13
      go_wp2_with fail
      go_ret
      exact ⟨by rw [e.out]; rfl, rfl⟩
    · have a1 : (100 : Int) < (n : Int) := by omega
      have a2 : (n : Int) < 998 := by omega
      clear h1 h2
      go_enter Try.func13, Try.ntmps13
      go_wp2_with fail
      go_ret
      exact ⟨by rw [e.out]; rfl, rfl⟩
  · have e := Lib.hid (show lgB n = false from decide_eq_false h1)
    have a3 : ¬ (1002 : Int) < (n : Int) := by omega
    by_cases h2 : 100 < n
    · have a1 : (100 : Int) < (n : Int) := by omega
      have a2 : ¬ (n : Int) < 998 := by omega
      clear h1 h2
      go_enter Try.func13, Try.ntmps13
      go_wp2_with fail
      go_ret
      exact ⟨by rw [e.out]; rfl, rfl⟩
    · have a1 : ¬ (100 : Int) < (n : Int) := by omega
      clear h1 h2
      go_enter Try.func13, Try.ntmps13
      go_wp2_with fail
      go_ret
      exact ⟨by rw [e.out]; rfl, rfl⟩

set_option maxHeartbeats 400000 in
theorem large26_any (A : Option Addr) (n c : Nat) (w : World) : Calls Try.prog 9 #[.slice A n c] w fun e w' => e = .returned (.bool (laB n)) ∧ w = w' := by
  by_cases h1 : 500 < n ∧ n < 3990 ∨ 4100 < n
  · have e := Lib.hid (show laB n = true from decide_eq_true h1)
    by_cases h2 : 4100 < n
    · have a1 : (500 : Int) < (n : Int) := by omega
      have a2 : ¬ (n : Int) < 3990 := by omega
      have a3 : (4100 : Int) < (n : Int) := by omega
      clear h1 h2
      go_enter Try.func9, Try.ntmps9
      go_wp2_with fail
      go_ret
      exact ⟨by rw [e.out]; rfl, rfl⟩
    · have a1 : (500 : Int) < (n : Int) := by omega
      have a2 : (n : Int) < 3990 := by omega
      clear h1 h2
      go_enter Try.func9, Try.ntmps9
      go_wp2_with fail
      go_ret
      exact ⟨by rw [e.out]; rfl, rfl⟩
  · have e := Lib.hid (show laB n = false from decide_eq_false h1)
    have a3 : ¬ (4100 : Int) < (n : Int) := by omega
    by_cases h2 : 500 < n
    · have a1 : (500 : Int) < (n : Int) := by omega
      have a2 : ¬ (n : Int) < 3990 := by omega
      clear h1 h2
      go_enter Try.func9, Try.ntmps9
      go_wp2_with fail
      go_ret
      exact ⟨by rw [e.out]; rfl, rfl⟩
    · have a1 : ¬ (500 : Int) < (n : Int) := by omega
      clear h1 h2
      go_enter Try.func9, Try.ntmps9
      go_wp2_with fail
      go_ret
      exact ⟨by rw [e.out]; rfl, rfl⟩

set_option maxHeartbeats 1000000 in
theorem sameI (A A' : Option Addr) (n m c c' : Nat) (xs : List Int) (w : World) (hn : xs.length = n) (hm : xs.length = m) (hl : xs.length ≤ 9223372036854775807) (hs : Sl w w.heap.size .i64 A xs) (hs' : Sl w w.heap.size .i64 A' xs) :
    Calls Try.prog 12 #[.slice A n c, .slice A' m c'] w fun e w' =>
      e = .returned (.bool true) ∧ Below w.heap.size w w' := by
  subst hn
  subst hm
  have hd : ((xs.length : Int) != (xs.length : Int)) = false := by simp
  go_enter Try.func12, Try.ntmps12
  go_wp2_with fail
  go_loopw [5] (fun i wr => ∃ k : Nat, k ≤ xs.length ∧ i = .int .i64 k ∧ Below w.heap.size w wr) (fun i _ => xs.length - (intOf i).toNat)
  case atStart => exact ⟨0, Nat.zero_le _, rfl, Below.refl _ _⟩
  case round =>
    obtain ⟨k, hk, rfl, hbel⟩ := hrel
    by_cases hlt : k < xs.length
    · obtain ⟨b, o, rfl, hb, hc⟩ := hs (by omega)
      obtain ⟨b', o', rfl, hb', hc'⟩ := hs' (by omega)
      have hcell := (hbel.cell (p := ⟨b, o + k, none⟩) hb).trans (hc k hlt)
      have hcell' := (hbel.cell (p := ⟨b', o' + k, none⟩) hb').trans (hc' k hlt)
      have HB := Lib.hid hbel
      clear hc hs hc' hs' hbel
      generalize xs.getD k 0 = y at *
      have hlt' : (k : Int) < (xs.length : Int) := by omega
      have hy : (y != y) = false := by simp
      go_wp2_with fail
      go_quiet (fail)
      go_wp2_with fail
      go_roundw
      case rel => exact ⟨k + 1, by omega, by go_num, below_drewN HB.out _⟩
      case measure => simp [intOf]; omega
    · go_wp2_with fail
      go_ret
      exact ⟨rfl, hbel⟩
end Go.Proofs.Ytdhiiknjdkmjjaa

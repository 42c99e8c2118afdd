/-
  What One, Bytes and Great of the reference of layer 18 compute. Conditions: numbers within their types.
-/
import Derived.Test.YtfapkpegfgeliaaRef18Walks
namespace Go.Proofs.Ytfapkpegfgeliaa
open Go.RowKit
set_option linter.unusedVariables false

theorem nB_le (b : Int) : nB b ≤ 3 := by
  unfold nB; split
  · omega
  · split <;> omega
theorem own_one {w : World} {a : Int} {l : List Int} (h : l = [a]) : Own (w.alloc (.cells #[.int .u8 a] 5)) w.heap.size 5 .u8 (.slice (some ⟨w.heap.size, 0, none⟩) 1 1) l := by
  subst h
  exact Own.lit w w.heap.size .u8 5 [a] rfl rfl (Nat.le_refl _) (by decide)
theorem own_two {w : World} {a b : Int} {l : List Int} (h : l = [a, b]) : Own (w.alloc (.cells #[.int .u8 a, .int .u8 b] 5)) w.heap.size 5 .u8 (.slice (some ⟨w.heap.size, 0, none⟩) 2 2) l := by
  subst h
  exact Own.lit w w.heap.size .u8 5 [a, b] rfl rfl (Nat.le_refl _) (by decide)

set_option maxHeartbeats 400000 in
theorem one8 (x : Int) (w : World) (h0 : -128 ≤ x) (h1 : x < 128) :
    Calls Try.prog 23 #[.int .i64 8, .int .i32 x] w fun e w' => ∃ v, e = .returned v ∧ Own w' w.heap.size 5 .u8 v (oneB 8 x) ∧ Below w.heap.size w w' := by
  have E := Lib.hid (show oneB 8 x = [x + 128] by simp [oneB]; omega)
  go_enter Try.func23, Try.ntmps23
  go_wp2_with fail
  go_ret
  exact ⟨_, rfl, own_one E.out, bel_up (bel_self w) _⟩

set_option maxHeartbeats 1000000 in
theorem one16n (x : Int) (w : World) (h0 : -32768 ≤ x) (h1 : x < 32768) (hs : x < 0) :
    Calls Try.prog 23 #[.int .i64 16, .int .i32 x] w fun e w' => ∃ v, e = .returned v ∧ Own w' w.heap.size 5 .u8 v (oneB 16 x) ∧ Below w.heap.size w w' := by
  have E := Lib.hid (show oneB 16 x = [(x + 65536) % 256, (x + 65536) / 256 % 256] by simp [oneB]; omega)
  go_enter Try.func23, Try.ntmps23
  go_wp2_with fail
  refine (half_any 16 w (by decide) (by decide)).mono ?_
  rintro e w' ⟨rfl, rfl⟩
  rw [show wdH 16 = 32768 from rfl]
  go_wp2_with fail
  go_ret
  exact ⟨_, rfl, own_two E.out, bel_up (bel_self w) _⟩

set_option maxHeartbeats 1000000 in
theorem one16p (x : Int) (w : World) (h0 : -32768 ≤ x) (h1 : x < 32768) (hs : 0 ≤ x) :
    Calls Try.prog 23 #[.int .i64 16, .int .i32 x] w fun e w' => ∃ v, e = .returned v ∧ Own w' w.heap.size 5 .u8 v (oneB 16 x) ∧ Below w.heap.size w w' := by
  have E := Lib.hid (show oneB 16 x = [x % 256, x / 256 % 256] by rfl)
  go_enter Try.func23, Try.ntmps23
  go_wp2_with fail
  go_ret
  exact ⟨_, rfl, own_two E.out, bel_up (bel_self w) _⟩

set_option maxHeartbeats 1000000 in
theorem one24n (x : Int) (w : World) (h0 : -8388608 ≤ x) (h1 : x < 8388608) (hs : x < 0) :
    Calls Try.prog 23 #[.int .i64 24, .int .i32 x] w fun e w' => ∃ v, e = .returned v ∧ Own w' w.heap.size 5 .u8 v (oneB 24 x) ∧ Below w.heap.size w w' := by
  have E := Lib.hid (show oneB 24 x = [(x + 16777216) % 256, (x + 16777216) / 256 % 256] ++ [(x + 16777216) / 65536] by simp [oneB]; omega)
  go_enter Try.func23, Try.ntmps23
  go_wp2_with fail
  refine (half_any 24 w (by decide) (by decide)).mono ?_
  rintro e w' ⟨rfl, rfl⟩
  rw [show wdH 24 = 8388608 from rfl]
  go_wp2_with (at_builtin; refine app1 (base := w.heap.size) (xs := [(x + 16777216) % 256, (x + 16777216) / 256 % 256]) elU8 _ _ rfl rfl rfl (by simp [Act.eval]) (own_two rfl) (by simp) (by simp) (by simp) ?_; intro v1 w1 own1 bel1)
  go_ret
  exact ⟨_, rfl, by rw [E.out]; exact own1, (bel_up (bel_self w) _).trans bel1⟩

set_option maxHeartbeats 1000000 in
theorem one24p (x : Int) (w : World) (h0 : -8388608 ≤ x) (h1 : x < 8388608) (hs : 0 ≤ x) :
    Calls Try.prog 23 #[.int .i64 24, .int .i32 x] w fun e w' => ∃ v, e = .returned v ∧ Own w' w.heap.size 5 .u8 v (oneB 24 x) ∧ Below w.heap.size w w' := by
  have E := Lib.hid (show oneB 24 x = [x % 256, x / 256 % 256] ++ [x / 65536] by simp [oneB]; omega)
  go_enter Try.func23, Try.ntmps23
  go_wp2_with (at_builtin; refine app1 (base := w.heap.size) (xs := [x % 256, x / 256 % 256]) elU8 _ _ rfl rfl rfl (by simp [Act.eval]) (own_two rfl) (by simp) (by simp) (by simp) ?_; intro v1 w1 own1 bel1)
  go_ret
  exact ⟨_, rfl, by rw [E.out]; exact own1, (bel_up (bel_self w) _).trans bel1⟩

theorem one_any (b x : Int) (w : World) (h : wdH b ≠ 0) (hx : -wdH b ≤ x ∧ x < wdH b) :
    Calls Try.prog 23 #[.int .i64 b, .int .i32 x] w fun e w' => ∃ v, e = .returned v ∧ Own w' w.heap.size 5 .u8 v (oneB b x) ∧ Below w.heap.size w w' := by
  rcases ok_cases h with rfl | rfl | rfl
  · exact one8 x w hx.1 hx.2
  · rcases Int.lt_or_le x 0 with hs | hs
    · exact one16n x w hx.1 hx.2 hs
    · exact one16p x w hx.1 hx.2 hs
  · rcases Int.lt_or_le x 0 with hs | hs
    · exact one24n x w hx.1 hx.2 hs
    · exact one24p x w hx.1 hx.2 hs

set_option maxHeartbeats 1000000 in
theorem rebytes_ok (b : Int) (A : Option Addr) (n c : Nat) (xs : List Int) (w : World) (hn : xs.length = n) (hx : I32 xs) (hs : Sl w w.heap.size .i32 A xs) (hck : ckE b xs = 0)
    (hb0 : -9223372036854775808 ≤ b) (hb1 : b ≤ 9223372036854775807) :
    Calls Try.prog 17 #[.int .i64 b, .slice A n c] w fun e w' =>
      ∃ v, e = .returned (.tuple #[v, .int .i64 0]) ∧ Own w' w.heap.size 5 .u8 v (byL b xs) ∧ Below w.heap.size w w' := by
  subst hn
  obtain ⟨hw, hl, hin⟩ := ckE_zero hck
  have CK := recheck_any b A xs.length c xs w rfl (by omega) hx hs hb0 hb1
  rw [hck] at CK
  have CK := Lib.hid CK
  have HW := Lib.hid hw
  have HI := Lib.hid hin
  clear hck hw hin
  go_enter Try.func17, Try.ntmps17
  go_wp2_with fail
  refine CK.out.mono ?_
  rintro e w0 ⟨rfl, bel0⟩
  have BB := Lib.hid bel0
  clear CK bel0
  go_wp2_with fail
  go_loopw [6, 7] (fun v i wr => ∃ k : Nat, k ≤ xs.length ∧ i = .int .i64 k ∧ Own wr w.heap.size 5 .u8 v (byL b (xs.take k)) ∧ Below w.heap.size w wr) (fun _ i _ => xs.length - (intOf i).toNat)
  case atStart => exact ⟨0, Nat.zero_le _, rfl, World.ownsRow_nil _ _ _ _, BB.out⟩
  case round =>
    obtain ⟨k, hk, rfl, hown, hbel⟩ := hrel
    by_cases hlt : k < xs.length
    · obtain ⟨bb, o, rfl, hb, hc⟩ := hs (by omega)
      have hcell := (hbel.cell (p := ⟨bb, o + k, none⟩) hb).trans (hc k hlt)
      have hbd := HI.out _ (mem_getD hlt)
      have HBD := Lib.hid hbd
      have HT := Lib.hid ((congrArg (byL b) (take_snoc xs k hlt)).trans (byL_snoc b (xs.take k) (xs.getD k 0)))
      have HLN := Lib.hid (show (byL b (xs.take k)).length ≤ 12000 by
        rw [byL_len HW.out, List.length_take]
        have h3 : nB b ≤ 3 := by exact nB_le b
        have := Nat.mul_le_mul h3 (show min k xs.length ≤ 4000 by omega)
        omega)
      have HO := Lib.hid hown
      have HB := Lib.hid hbel
      clear hc hs hown hbel hbd
      generalize xs.getD k 0 = y at *
      have HL1 := Lib.hid (show (oneB b y).length ≤ 3 by rw [oneB_len HW.out]; exact nB_le b)
      go_wp2_with fail
      refine (one_any b y _ HW.out HBD.out).mono ?_
      rintro e w1 ⟨v1, rfl, own1, bel1⟩
      obtain ⟨A1, c1, rfl, _, _, sl1⟩ := own1.sl
      have S1 := Lib.hid sl1
      have B1 := Lib.hid (HB.out.trans (bel1.mono HB.out.size))
      have O1 := Lib.hid (HO.out.below bel1)
      clear own1 bel1 sl1 HO
      go_wp2_with (at_builtin; refine appN elU8 _ _ rfl rfl rfl rfl O1.out S1.out (by have := HLN.out; have := HL1.out; omega) (by have := HLN.out; have := HL1.out; omega) B1.out.size ?_; intro v2 w2 own2 bel2)
      go_roundw
      case rel => exact ⟨k + 1, by omega, by go_num, by rw [HT.out]; exact own2, B1.out.trans bel2⟩
      case measure => simp [intOf]; omega
    · go_wp2_with fail
      go_ret2
      refine ⟨_, rfl, ?_, hbel⟩
      rw [List.take_of_length_le (by omega)] at hown
      exact hown

set_option maxHeartbeats 400000 in
theorem rebytes_any (b : Int) (A : Option Addr) (n c : Nat) (xs : List Int) (w : World) (hn : xs.length = n) (hm : n ≤ 9223372036854775807) (hx : I32 xs) (hs : Sl w w.heap.size .i32 A xs)
    (hb0 : -9223372036854775808 ≤ b) (hb1 : b ≤ 9223372036854775807) :
    Calls Try.prog 17 #[.int .i64 b, .slice A n c] w fun e w' =>
      ∃ v, e = .returned (.tuple #[v, .int .i64 (ckE b xs)]) ∧ Own w' w.heap.size 5 .u8 v (byR b xs) ∧ Below w.heap.size w w' := by
  by_cases h : ckE b xs = 0
  · rw [h, show byR b xs = byL b xs from if_pos h]
    exact rebytes_ok b A n c xs w hn hx hs h hb0 hb1
  · have CK := Lib.hid (recheck_any b A n c xs w hn hm hx hs hb0 hb1)
    have SX := Lib.hid hs
    have HX := Lib.hid hx
    have HN := Lib.hid hn
    have hne : (ckE b xs != 0) = true := by simp [h]
    have E := Lib.hid (show byR b xs = [] from if_neg h)
    have CK2 := Lib.hid (fun (W : World) (h' : Below w.heap.size w W) => recheck_any b A n c xs W hn hm hx (hs.next h') hb0 hb1)
    generalize ckE b xs = ce at *
    clear h hs hx hn
    go_enter Try.func17, Try.ntmps17
    go_wp2_with fail
    refine CK.out.mono ?_
    rintro e w1 ⟨rfl, bel1⟩
    have B1 := Lib.hid bel1
    clear CK bel1
    go_wp2_with fail
    refine (CK2.out w1 B1.out).mono ?_
    rintro e w2 ⟨rfl, bel2⟩
    have B2 := Lib.hid (bel_next B1.out bel2)
    clear CK2 bel2
    go_wp2_with fail
    go_ret2
    exact ⟨_, rfl, by rw [E.out]; exact World.ownsRow_nil _ _ _ _, B2.out⟩
end Go.Proofs.Ytfapkpegfgeliaa

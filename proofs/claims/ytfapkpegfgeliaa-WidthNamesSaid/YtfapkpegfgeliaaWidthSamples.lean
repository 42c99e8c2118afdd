/-
  What Samples of package width computes. Conditions: numbers within their types.
-/
import Derived.Test.YtfapkpegfgeliaaWidthBytes
import Derived.Laws.DeepBits32
namespace Go.Proofs.Ytfapkpegfgeliaa
open Go.RowKit
set_option linter.unusedVariables false

theorem i32_or_nat (a b : Nat) (ha : a < 2147483648) (hb : b < 2147483648) : bits .or .i32 (a : Int) (b : Int) = ((a ||| b : Nat) : Int) := by
  have hx : a ||| b < 2 ^ 31 := Nat.or_lt_two_pow (by omega) (by omega)
  show IntKind.i32.wrap ((BitVec.ofInt 32 (a : Int) ||| BitVec.ofInt 32 (b : Int)).toNat : Int) = _
  rw [BitVec.toNat_or, ofInt_u32 a (by omega), ofInt_u32 b (by omega)]
  exact wrap_i32_small _ (by omega) (by omega)
theorem or_shift (a b i : Nat) (h : a < 2 ^ i) : a ||| (b * 2 ^ i) = a + b * 2 ^ i := by
  have := Nat.two_pow_add_eq_or_of_lt h b
  rw [Nat.mul_comm b, Nat.or_comm, ← this, Nat.add_comm]
theorem read16 {x y : Int} (hx : 0 ≤ x ∧ x ≤ 255) (hy : 0 ≤ y ∧ y ≤ 255) : wrap32 (bits .or .i32 x (y * 256) * 65536) / 65536 = sgH 32768 (x + 256 * y) := by
  obtain ⟨a, rfl⟩ := Int.eq_ofNat_of_zero_le hx.1
  obtain ⟨b, rfl⟩ := Int.eq_ofNat_of_zero_le hy.1
  have e : bits .or .i32 (a : Int) ((b : Int) * 256) = ((a + b * 256 : Nat) : Int) := by
    rw [show (b : Int) * 256 = ((b * 256 : Nat) : Int) by omega, i32_or_nat _ _ (by omega) (by omega)]
    exact congrArg _ (or_shift a b 8 (by omega))
  rw [e]
  unfold wrap32 sgH
  split <;> omega
theorem read24 {x y z : Int} (hx : 0 ≤ x ∧ x ≤ 255) (hy : 0 ≤ y ∧ y ≤ 255) (hz : 0 ≤ z ∧ z ≤ 255) :
    wrap32 (bits .or .i32 (bits .or .i32 x (y * 256)) (z * 65536) * 256) / 256 = sgH 8388608 (x + 256 * y + 65536 * z) := by
  obtain ⟨a, rfl⟩ := Int.eq_ofNat_of_zero_le hx.1
  obtain ⟨b, rfl⟩ := Int.eq_ofNat_of_zero_le hy.1
  obtain ⟨c, rfl⟩ := Int.eq_ofNat_of_zero_le hz.1
  have e : bits .or .i32 (a : Int) ((b : Int) * 256) = ((a + b * 256 : Nat) : Int) := by
    rw [show (b : Int) * 256 = ((b * 256 : Nat) : Int) by omega, i32_or_nat _ _ (by omega) (by omega)]
    exact congrArg _ (or_shift a b 8 (by omega))
  have e2 : bits .or .i32 ((a + b * 256 : Nat) : Int) ((c : Int) * 65536) = ((a + b * 256 + c * 65536 : Nat) : Int) := by
    rw [show (c : Int) * 65536 = ((c * 65536 : Nat) : Int) by omega, i32_or_nat _ _ (by omega) (by omega)]
    exact congrArg _ (or_shift (a + b * 256) c 16 (by omega))
  rw [e, e2]
  unfold wrap32 sgH
  split <;> omega

set_option maxHeartbeats 1000000 in
theorem samp8_ok (A : Option Addr) (n c m : Nat) (xs : List Int) (w : World) (hn : xs.length = n) (hm : n = 1 * m) (hl : m ≤ 4000) (hx : U8 xs) (hs : Sl w w.heap.size .u8 A xs) :
    Calls Try.prog 10 #[.int .i64 8, .slice A n c] w fun e w' =>
      ∃ v, e = .returned (.tuple #[v, .int .i64 0]) ∧ Own w' w.heap.size 21 .i32 v (sampTo 8 xs m) ∧ Below w.heap.size w w' := by
  have CR := Lib.hid (range_any 8 w (by decide) (by decide))
  have HN := Lib.hid hn
  have HM := Lib.hid hm
  have d1 : ((n : Int) % 1 != 0) = false := by simp <;> omega
  have d2 : decide ((4000 : Int) < (n : Int) / 1) = false := by simp <;> omega
  have hnb : n ≤ 4000 := by omega
  have d3 : decide ((4000 : Int) < (n : Int)) = false := by simp; omega
  clear hn hm
  go_enter Try.func10, Try.ntmps10
  go_wp2_with fail
  refine CR.out.mono ?_
  rintro e w' ⟨rfl, rfl⟩
  clear CR
  rw [show wdE 8 = 0 from rfl]
  go_wp2_with fail
  go_loopw [10, 11] (fun v i wr => ∃ k : Nat, k ≤ m ∧ i = .int .i64 ((1 * k : Nat) : Int) ∧ Own wr w.heap.size 21 .i32 v (sampTo 8 xs k) ∧ Below w.heap.size w wr) (fun _ i _ => n - (intOf i).toNat)
  case atStart => exact ⟨0, Nat.zero_le _, rfl, World.ownsRow_nil _ _ _ _, Below.refl _ _⟩
  case round =>
    obtain ⟨k, hk, rfl, hown, hbel⟩ := hrel
    have hnn := HN.out
    have hmm := HM.out
    by_cases hlt : k < m
    · obtain ⟨b, o, rfl, hb, hc⟩ := hs (by omega)
      have cell0 := (hbel.cell (p := ⟨b, o + (1 * k), none⟩) hb).trans (hc (1 * k) (by omega))
      have b0 := hx _ (mem_getD (show 1 * k < xs.length by omega))
      have i0 : ((1 * k : Nat) : Int) < (n : Int) := by omega
      have HT := sampTo_succ 8 xs k
      rw [show nB 8 = 1 from rfl] at HT
      have HO := Lib.hid hown
      have HB := Lib.hid hbel
      clear hc hs hown hbel hnn hmm
      generalize hp : 1 * k = p at *
      have HP := Lib.hid hp
      clear hp
      have HV := Lib.hid (show sampAt 8 xs p = xs.getD p 0 - 128 from rfl)
      have HT := Lib.hid HT
      generalize xs.getD p 0 = y0 at *
      go_wp2_with (at_builtin; refine app1 elI32 _ _ rfl rfl rfl rfl HO.out (by rw [sampTo_len]; omega) (by rw [sampTo_len]; omega) HB.out.size ?_; intro v1 w1 own1 bel1; have O1 := Lib.hid own1; have B1 := Lib.hid (HB.out.trans bel1); clear own1 bel1)
      go_roundw
      case rel => exact ⟨k + 1, by omega, congrArg (Value.int .i64) (by have := HP.out; omega), by rw [HT.out, HV.out]; exact O1.out, B1.out⟩
      case measure => simp [intOf]; omega
    · obtain rfl : k = m := by omega
      clear hnn hmm hs
      have hge : ¬ (((1 * k : Nat) : Int) < (n : Int)) := by have := HM.out; omega
      generalize hp : 1 * k = p at *
      clear hp
      go_wp2_with fail
      go_ret2
      exact ⟨_, rfl, hown, hbel⟩

set_option maxHeartbeats 1000000 in
theorem samp16_ok (A : Option Addr) (n c m : Nat) (xs : List Int) (w : World) (hn : xs.length = n) (hm : n = 2 * m) (hl : m ≤ 4000) (hx : U8 xs) (hs : Sl w w.heap.size .u8 A xs) :
    Calls Try.prog 10 #[.int .i64 16, .slice A n c] w fun e w' =>
      ∃ v, e = .returned (.tuple #[v, .int .i64 0]) ∧ Own w' w.heap.size 21 .i32 v (sampTo 16 xs m) ∧ Below w.heap.size w w' := by
  have CR := Lib.hid (range_any 16 w (by decide) (by decide))
  have HN := Lib.hid hn
  have HM := Lib.hid hm
  have d1 : ((n : Int) % 2 != 0) = false := by simp <;> omega
  have d2 : decide ((4000 : Int) < (n : Int) / 2) = false := by simp <;> omega
  have hnb : n ≤ 8000 := by omega
  clear hn hm
  go_enter Try.func10, Try.ntmps10
  go_wp2_with fail
  refine CR.out.mono ?_
  rintro e w' ⟨rfl, rfl⟩
  clear CR
  rw [show wdE 16 = 0 from rfl]
  go_wp2_with fail
  go_loopw [10, 11] (fun v i wr => ∃ k : Nat, k ≤ m ∧ i = .int .i64 ((2 * k : Nat) : Int) ∧ Own wr w.heap.size 21 .i32 v (sampTo 16 xs k) ∧ Below w.heap.size w wr) (fun _ i _ => n - (intOf i).toNat)
  case atStart => exact ⟨0, Nat.zero_le _, rfl, World.ownsRow_nil _ _ _ _, Below.refl _ _⟩
  case round =>
    obtain ⟨k, hk, rfl, hown, hbel⟩ := hrel
    have hnn := HN.out
    have hmm := HM.out
    by_cases hlt : k < m
    · obtain ⟨b, o, rfl, hb, hc⟩ := hs (by omega)
      have cell0 := (hbel.cell (p := ⟨b, o + (2 * k), none⟩) hb).trans (hc (2 * k) (by omega))
      have b0 := hx _ (mem_getD (show 2 * k < xs.length by omega))
      have i0 : ((2 * k : Nat) : Int) < (n : Int) := by omega
      have cell1 := (hbel.cell (p := ⟨b, o + (2 * k + 1), none⟩) hb).trans (hc (2 * k + 1) (by omega))
      have b1 := hx _ (mem_getD (show 2 * k + 1 < xs.length by omega))
      have i1 : ((2 * k : Nat) : Int) + 1 < (n : Int) := by omega
      have HT := sampTo_succ 16 xs k
      rw [show nB 16 = 2 from rfl] at HT
      have HO := Lib.hid hown
      have HB := Lib.hid hbel
      clear hc hs hown hbel hnn hmm
      generalize hp : 2 * k = p at *
      have HP := Lib.hid hp
      clear hp
      have HV := Lib.hid ((read16 b0 b1).trans (show _ = sampAt 16 xs p from rfl))
      have HT := Lib.hid HT
      generalize xs.getD p 0 = y0 at *
      generalize xs.getD (p + 1) 0 = y1 at *
      go_wp2_with fail
      refine wp_loop_rounds 3 ?_
      rw [rounds_succ]
      go_wp2_with fail
      rw [rounds_succ]
      go_wp2_with fail
      rw [rounds_succ]
      go_wp2_with (at_builtin; refine app1 elI32 _ _ rfl rfl rfl rfl HO.out (by rw [sampTo_len]; omega) (by rw [sampTo_len]; omega) HB.out.size ?_; intro v1 w1 own1 bel1; have O1 := Lib.hid own1; have B1 := Lib.hid (HB.out.trans bel1); clear own1 bel1)
      go_roundw
      case rel => exact ⟨k + 1, by omega, congrArg (Value.int .i64) (by have := HP.out; omega), by rw [HT.out, ← HV.out]; exact O1.out, B1.out⟩
      case measure => simp [intOf]; omega
    · obtain rfl : k = m := by omega
      clear hnn hmm hs
      have hge : ¬ (((2 * k : Nat) : Int) < (n : Int)) := by have := HM.out; omega
      generalize hp : 2 * k = p at *
      clear hp
      go_wp2_with fail
      go_ret2
      exact ⟨_, rfl, hown, hbel⟩

set_option maxHeartbeats 1000000 in
theorem samp24_ok (A : Option Addr) (n c m : Nat) (xs : List Int) (w : World) (hn : xs.length = n) (hm : n = 3 * m) (hl : m ≤ 4000) (hx : U8 xs) (hs : Sl w w.heap.size .u8 A xs) :
    Calls Try.prog 10 #[.int .i64 24, .slice A n c] w fun e w' =>
      ∃ v, e = .returned (.tuple #[v, .int .i64 0]) ∧ Own w' w.heap.size 21 .i32 v (sampTo 24 xs m) ∧ Below w.heap.size w w' := by
  have CR := Lib.hid (range_any 24 w (by decide) (by decide))
  have HN := Lib.hid hn
  have HM := Lib.hid hm
  have d1 : ((n : Int) % 3 != 0) = false := by simp <;> omega
  have d2 : decide ((4000 : Int) < (n : Int) / 3) = false := by simp <;> omega
  have hnb : n ≤ 12000 := by omega
  clear hn hm
  go_enter Try.func10, Try.ntmps10
  go_wp2_with fail
  refine CR.out.mono ?_
  rintro e w' ⟨rfl, rfl⟩
  clear CR
  rw [show wdE 24 = 0 from rfl]
  go_wp2_with fail
  go_loopw [10, 11] (fun v i wr => ∃ k : Nat, k ≤ m ∧ i = .int .i64 ((3 * k : Nat) : Int) ∧ Own wr w.heap.size 21 .i32 v (sampTo 24 xs k) ∧ Below w.heap.size w wr) (fun _ i _ => n - (intOf i).toNat)
  case atStart => exact ⟨0, Nat.zero_le _, rfl, World.ownsRow_nil _ _ _ _, Below.refl _ _⟩
  case round =>
    obtain ⟨k, hk, rfl, hown, hbel⟩ := hrel
    have hnn := HN.out
    have hmm := HM.out
    by_cases hlt : k < m
    · obtain ⟨b, o, rfl, hb, hc⟩ := hs (by omega)
      have cell0 := (hbel.cell (p := ⟨b, o + (3 * k), none⟩) hb).trans (hc (3 * k) (by omega))
      have b0 := hx _ (mem_getD (show 3 * k < xs.length by omega))
      have i0 : ((3 * k : Nat) : Int) < (n : Int) := by omega
      have cell1 := (hbel.cell (p := ⟨b, o + (3 * k + 1), none⟩) hb).trans (hc (3 * k + 1) (by omega))
      have b1 := hx _ (mem_getD (show 3 * k + 1 < xs.length by omega))
      have i1 : ((3 * k : Nat) : Int) + 1 < (n : Int) := by omega
      have cell2 := (hbel.cell (p := ⟨b, o + (3 * k + 2), none⟩) hb).trans (hc (3 * k + 2) (by omega))
      have b2 := hx _ (mem_getD (show 3 * k + 2 < xs.length by omega))
      have i2 : ((3 * k : Nat) : Int) + 2 < (n : Int) := by omega
      have HT := sampTo_succ 24 xs k
      rw [show nB 24 = 3 from rfl] at HT
      have HO := Lib.hid hown
      have HB := Lib.hid hbel
      clear hc hs hown hbel hnn hmm
      generalize hp : 3 * k = p at *
      have HP := Lib.hid hp
      clear hp
      have HV := Lib.hid ((read24 b0 b1 b2).trans (show _ = sampAt 24 xs p from rfl))
      have HT := Lib.hid HT
      generalize xs.getD p 0 = y0 at *
      generalize xs.getD (p + 1) 0 = y1 at *
      generalize xs.getD (p + 2) 0 = y2 at *
      go_wp2_with fail
      refine wp_loop_rounds 4 ?_
      rw [rounds_succ]
      go_wp2_with fail
      rw [rounds_succ]
      go_wp2_with fail
      rw [rounds_succ]
      go_wp2_with fail
      rw [rounds_succ]
      go_wp2_with (at_builtin; refine app1 elI32 _ _ rfl rfl rfl rfl HO.out (by rw [sampTo_len]; omega) (by rw [sampTo_len]; omega) HB.out.size ?_; intro v1 w1 own1 bel1; have O1 := Lib.hid own1; have B1 := Lib.hid (HB.out.trans bel1); clear own1 bel1)
      go_roundw
      case rel => exact ⟨k + 1, by omega, congrArg (Value.int .i64) (by have := HP.out; omega), by rw [HT.out, ← HV.out]; exact O1.out, B1.out⟩
      case measure => simp [intOf]; omega
    · obtain rfl : k = m := by omega
      clear hnn hmm hs
      have hge : ¬ (((3 * k : Nat) : Int) < (n : Int)) := by have := HM.out; omega
      generalize hp : 3 * k = p at *
      clear hp
      go_wp2_with fail
      go_ret2
      exact ⟨_, rfl, hown, hbel⟩

set_option maxHeartbeats 400000 in
theorem samp_arg (b : Int) (A : Option Addr) (n c : Nat) (w : World) (h : wdH b = 0) (hm : n ≤ 9223372036854775807) (hb0 : -9223372036854775808 ≤ b) (hb1 : b ≤ 9223372036854775807) :
    Calls Try.prog 10 #[.int .i64 b, .slice A n c] w fun e w' => e = .returned (.tuple #[.slice none 0 0, .int .i64 2]) ∧ w = w' := by
  have CR := range_any b w hb0 hb1
  rw [show wdE b = 2 from if_pos h] at CR
  have CR := Lib.hid CR
  generalize wdH b = hh at *
  generalize wdHi b = hi at *
  clear h
  go_enter Try.func10, Try.ntmps10
  go_wp2_with fail
  refine CR.out.mono ?_
  rintro e w' ⟨rfl, rfl⟩
  clear CR
  go_wp2_with fail
  go_ret2
  exact ⟨rfl, rfl⟩

set_option maxHeartbeats 400000 in
theorem samp16_form (A : Option Addr) (n c : Nat) (w : World) (h : n % 2 ≠ 0) (hm : n ≤ 9223372036854775807) :
    Calls Try.prog 10 #[.int .i64 16, .slice A n c] w fun e w' => e = .returned (.tuple #[.slice none 0 0, .int .i64 12]) ∧ w = w' := by
  have CR := Lib.hid (range_any 16 w (by decide) (by decide))
  have d1 : ((n : Int) % 2 != 0) = true := by simp; omega
  clear h
  go_enter Try.func10, Try.ntmps10
  go_wp2_with fail
  refine CR.out.mono ?_
  rintro e w' ⟨rfl, rfl⟩
  clear CR
  rw [show wdE 16 = 0 from rfl]
  go_wp2_with fail
  go_ret2
  exact ⟨rfl, rfl⟩

set_option maxHeartbeats 400000 in
theorem samp24_form (A : Option Addr) (n c : Nat) (w : World) (h : n % 3 ≠ 0) (hm : n ≤ 9223372036854775807) :
    Calls Try.prog 10 #[.int .i64 24, .slice A n c] w fun e w' => e = .returned (.tuple #[.slice none 0 0, .int .i64 12]) ∧ w = w' := by
  have CR := Lib.hid (range_any 24 w (by decide) (by decide))
  have d1 : ((n : Int) % 3 != 0) = true := by simp; omega
  clear h
  go_enter Try.func10, Try.ntmps10
  go_wp2_with fail
  refine CR.out.mono ?_
  rintro e w' ⟨rfl, rfl⟩
  clear CR
  rw [show wdE 24 = 0 from rfl]
  go_wp2_with fail
  go_ret2
  exact ⟨rfl, rfl⟩

set_option maxHeartbeats 400000 in
theorem samp8_many (A : Option Addr) (n c : Nat) (w : World) (h : n % 1 = 0) (h2 : 4000 < n / 1) (hm : n ≤ 9223372036854775807) :
    Calls Try.prog 10 #[.int .i64 8, .slice A n c] w fun e w' => e = .returned (.tuple #[.slice none 0 0, .int .i64 4]) ∧ w = w' := by
  have CR := Lib.hid (range_any 8 w (by decide) (by decide))
  have d1 : ((n : Int) % 1 != 0) = false := by simp <;> omega
  have d2 : (4000 : Int) < (n : Int) / 1 := by omega
  have d3 : (4000 : Int) < (n : Int) := by omega
  clear h
  go_enter Try.func10, Try.ntmps10
  go_wp2_with fail
  refine CR.out.mono ?_
  rintro e w' ⟨rfl, rfl⟩
  clear CR
  rw [show wdE 8 = 0 from rfl]
  go_wp2_with fail
  go_ret2
  exact ⟨rfl, rfl⟩

set_option maxHeartbeats 400000 in
theorem samp16_many (A : Option Addr) (n c : Nat) (w : World) (h : n % 2 = 0) (h2 : 4000 < n / 2) (hm : n ≤ 9223372036854775807) :
    Calls Try.prog 10 #[.int .i64 16, .slice A n c] w fun e w' => e = .returned (.tuple #[.slice none 0 0, .int .i64 4]) ∧ w = w' := by
  have CR := Lib.hid (range_any 16 w (by decide) (by decide))
  have d1 : ((n : Int) % 2 != 0) = false := by simp <;> omega
  have d2 : (4000 : Int) < (n : Int) / 2 := by omega
  have d3 : (4000 : Int) < (n : Int) := by omega
  clear h
  go_enter Try.func10, Try.ntmps10
  go_wp2_with fail
  refine CR.out.mono ?_
  rintro e w' ⟨rfl, rfl⟩
  clear CR
  rw [show wdE 16 = 0 from rfl]
  go_wp2_with fail
  go_ret2
  exact ⟨rfl, rfl⟩

set_option maxHeartbeats 400000 in
theorem samp24_many (A : Option Addr) (n c : Nat) (w : World) (h : n % 3 = 0) (h2 : 4000 < n / 3) (hm : n ≤ 9223372036854775807) :
    Calls Try.prog 10 #[.int .i64 24, .slice A n c] w fun e w' => e = .returned (.tuple #[.slice none 0 0, .int .i64 4]) ∧ w = w' := by
  have CR := Lib.hid (range_any 24 w (by decide) (by decide))
  have d1 : ((n : Int) % 3 != 0) = false := by simp <;> omega
  have d2 : (4000 : Int) < (n : Int) / 3 := by omega
  have d3 : (4000 : Int) < (n : Int) := by omega
  clear h
  go_enter Try.func10, Try.ntmps10
  go_wp2_with fail
  refine CR.out.mono ?_
  rintro e w' ⟨rfl, rfl⟩
  clear CR
  rw [show wdE 24 = 0 from rfl]
  go_wp2_with fail
  go_ret2
  exact ⟨rfl, rfl⟩

theorem samples_any (b : Int) (A : Option Addr) (n c : Nat) (xs : List Int) (w : World) (hn : xs.length = n) (hm : n ≤ 9223372036854775807) (hx : U8 xs) (hs : Sl w w.heap.size .u8 A xs)
    (hb0 : -9223372036854775808 ≤ b) (hb1 : b ≤ 9223372036854775807) :
    Calls Try.prog 10 #[.int .i64 b, .slice A n c] w fun e w' =>
      ∃ v, e = .returned (.tuple #[v, .int .i64 (saE b n)]) ∧ Own w' w.heap.size 21 .i32 v (saL b xs) ∧ Below w.heap.size w w' := by
  subst hn
  have bad : ∀ ee : Int, ee ≠ 0 → saE b xs.length = ee → (Calls Try.prog 10 #[.int .i64 b, .slice A xs.length c] w fun e w' => e = .returned (.tuple #[.slice none 0 0, .int .i64 ee]) ∧ w = w') →
      Calls Try.prog 10 #[.int .i64 b, .slice A xs.length c] w fun e w' =>
      ∃ v, e = .returned (.tuple #[v, .int .i64 (saE b xs.length)]) ∧ Own w' w.heap.size 21 .i32 v (saL b xs) ∧ Below w.heap.size w w' := by
    intro ee h0 he hc
    refine hc.mono ?_
    rintro e w' ⟨rfl, rfl⟩
    exact ⟨_, by rw [he], by rw [show saL b xs = [] from if_neg (by rw [he]; exact h0)]; exact World.ownsRow_nil _ _ _ _, bel_self _⟩
  by_cases h : wdH b = 0
  · exact bad 2 (by decide) (if_pos h) (samp_arg b A _ c w h hm hb0 hb1)
  · by_cases h1 : xs.length % nB b = 0
    · by_cases h2 : 4000 < xs.length / nB b
      · have he : saE b xs.length = 4 := by unfold saE; rw [if_neg h, if_neg (by simpa using h1), if_pos h2]
        refine bad 4 (by decide) he ?_
        rcases ok_cases h with rfl | rfl | rfl
        · exact samp8_many A _ c w h1 h2 hm
        · exact samp16_many A _ c w h1 h2 hm
        · exact samp24_many A _ c w h1 h2 hm
      · have he : saE b xs.length = 0 := by unfold saE; rw [if_neg h, if_neg (by simpa using h1), if_neg h2]
        rw [he, show saL b xs = sampTo b xs (xs.length / nB b) from if_pos he]
        have hm2 : xs.length = nB b * (xs.length / nB b) := by
          have := Nat.div_add_mod xs.length (nB b)
          omega
        rcases ok_cases h with rfl | rfl | rfl
        · exact samp8_ok A _ c _ xs w rfl hm2 (by omega) hx hs
        · exact samp16_ok A _ c _ xs w rfl hm2 (by omega) hx hs
        · exact samp24_ok A _ c _ xs w rfl hm2 (by omega) hx hs
    · have he : saE b xs.length = 12 := by unfold saE; rw [if_neg h, if_pos h1]
      refine bad 12 (by decide) he ?_
      rcases ok_cases h with rfl | rfl | rfl
      · exact absurd (Nat.mod_one _) h1
      · exact samp16_form A _ c w h1 hm
      · exact samp24_form A _ c w h1 hm
end Go.Proofs.Ytfapkpegfgeliaa

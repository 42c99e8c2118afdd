/-
  The walk of Crc32Linear. Conditions: numbers within their types.
-/
import Derived.Test.YtfhodjdbbocpiaaLaw03C
import Derived.Test.YtfhodjdbbocpiaaKit3
namespace Go.Proofs.Ytfhodjdbbocpiaa
open Go.RowKit
set_option linter.unusedVariables false

def xorI (a b : Int) : Int := ((a.toNat ^^^ b.toNat : Nat) : Int)
theorem xorI_bd {a b : Int} (ha : 0 ≤ a ∧ a ≤ 255) (hb : 0 ≤ b ∧ b ≤ 255) : 0 ≤ xorI a b ∧ xorI a b ≤ 255 := by
  unfold xorI
  have : a.toNat ^^^ b.toNat < 2 ^ 8 := Nat.xor_lt_two_pow (by omega) (by omega)
  omega
def xorL (xs ys : List Int) : List Int := List.zipWith xorI xs ys
theorem crcByte_xor (s t a b : Nat) : crcByte (s ^^^ t) (a ^^^ b) = crcByte s a ^^^ crcByte t b := by
  unfold crcByte
  rw [← crcN_xor]
  congr 1
  rw [Nat.xor_assoc, Nat.xor_assoc, ← Nat.xor_assoc t a b, Nat.xor_comm t a, Nat.xor_assoc a t b]
theorem crcL_xor : ∀ (xs ys : List Int) (s t : Nat), xs.length = ys.length → crcL (s ^^^ t) (xorL xs ys) = crcL s xs ^^^ crcL t ys
  | [], [], s, t, _ => rfl
  | [], y :: ys, s, t, h => by simp at h
  | x :: xs, [], s, t, h => by simp at h
  | x :: xs, y :: ys, s, t, h => by
    have ih := crcL_xor xs ys (crcByte s x.toNat) (crcByte t y.toNat) (by simpa using h)
    rw [← crcByte_xor] at ih
    have e : (xorI x y).toNat = x.toNat ^^^ y.toNat := by unfold xorI; omega
    show crcL (crcByte (s ^^^ t) (xorI x y).toNat) (xorL xs ys) = _
    rw [e]
    exact ih
theorem xorL_take_snoc (xs ys : List Int) (k : Nat) (h1 : k < xs.length) (h2 : k < ys.length) : xorL (xs.take (k + 1)) (ys.take (k + 1)) = xorL (xs.take k) (ys.take k) ++ [xorI (xs.getD k 0) (ys.getD k 0)] := by
  rw [take_snoc xs k h1, take_snoc ys k h2]
  unfold xorL
  rw [List.zipWith_append (by simp; omega)]
  rfl
theorem xorL_u8 {xs ys : List Int} (hx : U8 xs) (hy : U8 ys) : U8 (xorL xs ys) := by
  intro z hz
  obtain ⟨i, hi, rfl⟩ := List.getElem_of_mem hz
  simp only [xorL, List.length_zipWith] at hi
  simp only [xorL, List.getElem_zipWith]
  exact xorI_bd (hx _ (List.getElem_mem _)) (hy _ (List.getElem_mem _))

set_option maxRecDepth 100000 in
set_option maxHeartbeats 1000000 in
theorem crc32Linear_main (A : Option Addr) (c : Nat) (xs : List Int) (A' : Option Addr) (c' n : Nat) (ys : List Int) (w : World)
    (hx : U8 xs) (hsl : Sl w w.heap.size .u8 A xs) (hy : U8 ys) (hsl' : Sl w w.heap.size .u8 A' ys) (h1 : xs.length = n) (h2 : ys.length = n) (h3 : n ≤ 500) :
    Calls Try.prog 7 #[.slice A n c, .slice A' n c'] w fun e w' => e = .returned (.bool true) ∧ Below w.heap.size w w' := by
  have SX := Lib.hid hsl
  have SY := Lib.hid hsl'
  have HX := Lib.hid hx
  have HY := Lib.hid hy
  have L1 := Lib.hid h1
  have L2 := Lib.hid h2
  have d1 : ((n : Int) != (n : Int)) = false := by simp
  have d2 : decide ((500 : Int) < (n : Int)) = false := by simp; omega
  clear hsl hsl' hx hy h1 h2
  go_enter Try.func7, Try.ntmps7
  go_wp2_with fail
  go_loopw [5, 6] (fun v i wr => ∃ k : Nat, k ≤ n ∧ i = .int .i64 k ∧ Own wr w.heap.size 5 .u8 v (xorL (xs.take k) (ys.take k)) ∧ Below w.heap.size w wr) (fun _ i _ => n - (intOf i).toNat)
  case atStart => exact ⟨0, Nat.zero_le _, rfl, World.ownsRow_nil _ _ _ _, Below.refl _ _⟩
  case round =>
    obtain ⟨k, hk, rfl, hown, hbel⟩ := hrel
    by_cases hlt : k < n
    · have l1 := L1.out
      have l2 := L2.out
      obtain ⟨b, o, rfl, hb, hc⟩ := SX.out (by omega)
      obtain ⟨b', o', rfl, hb', hc'⟩ := SY.out (by omega)
      have hcell := (hbel.cell (p := ⟨b, o + k, none⟩) hb).trans (hc k (by omega))
      have hcell' := (hbel.cell (p := ⟨b', o' + k, none⟩) hb').trans (hc' k (by omega))
      have hbd := HX.out _ (mem_getD (show k < xs.length by omega))
      have hbd' := HY.out _ (mem_getD (show k < ys.length by omega))
      have HT := Lib.hid (xorL_take_snoc xs ys k (by omega) (by omega))
      have ex := u8_xor (xs.getD k 0) (ys.getD k 0) (by omega) (by omega) (by omega) (by omega)
      have EX := Lib.hid (show bits .xor .u8 (xs.getD k 0) (ys.getD k 0) = xorI (xs.getD k 0) (ys.getD k 0) from ex)
      have hln : (xorL (xs.take k) (ys.take k)).length = k := by simp [xorL]; omega
      have HLN := Lib.hid hln
      have HO := Lib.hid hown
      have HB := Lib.hid hbel
      clear hc hc' SX SY hown hbel l1 l2 ex hln L1 L2
      generalize xs.getD k 0 = x at *
      generalize ys.getD k 0 = y at *
      generalize xorI x y = z at *
      have ez := EX.out
      have hlt' : (k : Int) < (n : Int) := by omega
      go_wp2_with fail
      go_region_law ((refine step_app1 (y := z) (g := wr.heap.size) elU8 (.tmp 30) (.tmp 40) rfl rfl (by simp [Act.eval]) (by simp [Act.eval]) (World.ownsRow.alloc HO.out _) (by simp) (by rw [HLN.out]; omega) (by rw [HLN.out]; omega) (by have := HB.out.size; simp; omega) ?_); intro v' w' hown' hbel')
      all_goals
        have BB := Lib.hid (HB.out.trans ((bel_up (bel_self wr) (.cells #[.int .u8 z] 5)).drew.mono HB.out.size))
        go_wp2_with fail
        go_roundw
        case rel => exact ⟨k + 1, by omega, by go_num, by rw [HT.out]; exact hown', BB.out.trans hbel'⟩
        case measure => simp [intOf]; omega
    · have l1 := L1.out
      have l2 := L2.out
      rw [List.take_of_length_le (by omega), List.take_of_length_le (by omega)] at hown
      have BB := Lib.hid hbel
      have SX := Lib.hid (SX.out.next hbel)
      have SY := Lib.hid (SY.out.next hbel)
      obtain ⟨Ao, co, rfl, _, _, sl1⟩ := hown.sln (n := n) (by simp [xorL]; omega)
      have SO := Lib.hid sl1
      have HZ := Lib.hid (xorL_u8 HX.out HY.out)
      have LZ := Lib.hid (show (xorL xs ys).length = n by simp [xorL]; omega)
      have E := Lib.hid (crcL_xor xs ys 0 0 (by omega))
      have b1 := crcL_lt (s := 0) (by decide) HX.out
      have b2 := crcL_lt (s := 0) (by decide) HY.out
      have ex := u32_xor_nat (crcL 0 xs) (crcL 0 ys) b1 b2
      have EX := Lib.hid ex
      have G1 := Lib.hid (rfl : crcL 0 xs = crcL 0 xs)
      generalize h5 : crcL 0 xs = t1 at *
      generalize h6 : crcL 0 ys = t2 at *
      have H5 := Lib.hid h5
      have H6 := Lib.hid h6
      clear sl1 hown hbel l1 l2 ex h5 h6 G1
      obtain ⟨w0, rfl⟩ : ∃ wo : World, wo = wr := ⟨_, rfl⟩
      go_wp2_with fail
      refine (next_v (s := 0) (v := t1) xs _ (by decide) L1.out (by omega) HX.out SX.out H5.out).mono ?_
      rintro e w1 ⟨rfl, bel1⟩
      have SX := Lib.hid (SX.out.next bel1)
      have SY := Lib.hid (SY.out.next bel1)
      have SO := Lib.hid (SO.out.next bel1)
      have BB := Lib.hid (bel_next BB.out bel1)
      clear bel1
      go_wp2_with fail
      refine (next_v (s := 0) (v := t2) ys _ (by decide) L2.out (by omega) HY.out SY.out H6.out).mono ?_
      rintro e w2 ⟨rfl, bel2⟩
      have SX := Lib.hid (SX.out.next bel2)
      have SY := Lib.hid (SY.out.next bel2)
      have SO := Lib.hid (SO.out.next bel2)
      have BB := Lib.hid (bel_next BB.out bel2)
      clear bel2
      go_wp2_with fail
      refine (next_v (s := 0) (v := t1 ^^^ t2) (xorL xs ys) _ (by decide) LZ.out (by omega) HZ.out SO.out E.out).mono ?_
      rintro e w3 ⟨rfl, bel3⟩
      have SX := Lib.hid (SX.out.next bel3)
      have SY := Lib.hid (SY.out.next bel3)
      have SO := Lib.hid (SO.out.next bel3)
      have BB := Lib.hid (bel_next BB.out bel3)
      clear bel3
      have e9 : (((t1 ^^^ t2 : Nat) : Int) == bits .xor .u32 (t1 : Int) (t2 : Int)) = true := by rw [EX.out]; simp
      go_wp2_with fail
      refine (alive_any w3).mono ?_
      rintro e w4 ⟨rfl, bel4⟩
      have SX := Lib.hid (SX.out.next bel4)
      have SY := Lib.hid (SY.out.next bel4)
      have SO := Lib.hid (SO.out.next bel4)
      have BB := Lib.hid (bel_next BB.out bel4)
      clear bel4
      go_wp2_with fail
      go_ret
      exact ⟨rfl, BB.out⟩

set_option maxRecDepth 100000 in
set_option maxHeartbeats 400000 in
theorem crc32Linear_walk (A : Option Addr) (c : Nat) (xs : List Int) (A' : Option Addr) (c' : Nat) (ys : List Int) (w : World)
    (hc : xs.length ≤ c) (hm : c ≤ 9223372036854775807) (hx : U8 xs) (hsl : Sl w w.heap.size .u8 A xs) (hc' : ys.length ≤ c') (hm' : c' ≤ 9223372036854775807) (hy : U8 ys) (hsl' : Sl w w.heap.size .u8 A' ys) :
    Calls Try.prog 7 #[.slice A xs.length c, .slice A' ys.length c'] w fun e w' => e = .returned (.bool true) ∧ Below w.heap.size w w' := by
  by_cases h1 : xs.length = ys.length
  · by_cases h2 : xs.length ≤ 500
    · have := crc32Linear_main A c xs A' c' xs.length ys w hx hsl hy hsl' rfl h1.symm h2
      rw [← h1]
      exact this
    · have BB := Lib.hid (bel_self w)
      have d1 : ((xs.length : Int) != (ys.length : Int)) = false := by simp [h1]
      rw [← h1] at d1 ⊢
      clear hsl hx hsl' hy h1
      go_enter Try.func7, Try.ntmps7
      go_wp2_with fail
      refine (alive_any w).mono ?_
      rintro e w1 ⟨rfl, bel1⟩
      have BB := Lib.hid (bel_next BB.out bel1)
      clear bel1
      go_wp2_with fail
      go_ret
      exact ⟨rfl, BB.out⟩
  · have BB := Lib.hid (bel_self w)
    have d1 : ((xs.length : Int) != (ys.length : Int)) = true := by simp; omega
    clear hsl hx hsl' hy h1
    go_enter Try.func7, Try.ntmps7
    go_wp2_with fail
    refine (alive_any w).mono ?_
    rintro e w1 ⟨rfl, bel1⟩
    have BB := Lib.hid (bel_next BB.out bel1)
    clear bel1
    go_wp2_with fail
    go_ret
    exact ⟨rfl, BB.out⟩
end Go.Proofs.Ytfhodjdbbocpiaa

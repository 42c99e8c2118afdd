/-
  What Bytes, Value and At of package le compute at two and four bytes, and Written and Of of its reference. Conditions: numbers within their types.
-/
import Derived.Test.YtgfibgnolmogkaaDoorKit4
import Derived.Laws.BitsAllLaws
import Derived.Laws.BitsLemmas
import Derived.Laws.Bits64b
namespace Go.Proofs.YtgfibgnolmogkaaDoor
open Go.RowKit
set_option linter.unusedVariables false

def le4 (n : Int) : List Int := [n % 256, n / 256 % 256, n / 65536 % 256, n / 16777216 % 256]
def le2 (n : Int) : List Int := [n % 256, n / 256 % 256]
def va4 (xs : List Int) (i : Nat) : Int := xs.getD i 0 + 256 * xs.getD (i + 1) 0 + 65536 * xs.getD (i + 2) 0 + 16777216 * xs.getD (i + 3) 0
def va2 (xs : List Int) (i : Nat) : Int := xs.getD i 0 + 256 * xs.getD (i + 1) 0

theorem leElU8 : Elem Tryd.prog 24 5 .u8 1 := Elem.mk' Tryd.underlying24 (by kernel_rfl)

set_option maxHeartbeats 400000 in
theorem leFits4 (n : Int) (w : World) (h0 : 0 ≤ n) (h1 : n ≤ 4294967295) :
    Calls Tryd.prog 46 #[.int .u64 n, .int .i64 4] w fun e w' => e = .returned (.bool true) ∧ w = w' := by
  have d : (n / 4294967296 == 0) = true := by simp; omega
  go_enter Tryd.func46, Tryd.ntmps46
  go_wp2_with fail
  go_ret
  exact ⟨rfl, rfl⟩

set_option maxHeartbeats 1000000 in
theorem leBytes4 (n : Int) (w : World) (h0 : 0 ≤ n) (h1 : n ≤ 4294967295) :
    Calls Tryd.prog 27 #[.int .u64 n, .int .i64 4] w fun e w' =>
      ∃ v, e = .returned (.tuple #[v, .int .i64 0]) ∧ Own w' w.heap.size 5 .u8 v (le4 n) ∧ Below w.heap.size w w' := by
  have mk1 : ∀ W, (Instr.makeSlice 24 (.int .i64 4) (.int .i64 4)).run Tryd.prog W = .ok (.slice (some ⟨W.heap.size, 0, none⟩) 4 4) (W.alloc (.cells #[.int .u8 0, .int .u8 0, .int .u8 0, .int .u8 0] 5)) := run_make_ints leElU8 4 rfl (by decide) (by decide)
  go_enter Tryd.func27, Tryd.ntmps27
  go_wp2_with fail
  refine (leFits4 n _ h0 h1).mono ?_
  rintro e w' ⟨rfl, rfl⟩
  go_wp2_with fail
  refine wp_loop_rounds 5 ?_
  rw [rounds_succ]; go_wp2_with fail
  rw [rounds_succ]; go_wp2_with fail
  rw [rounds_succ]; go_wp2_with fail
  rw [rounds_succ]; go_wp2_with fail
  rw [rounds_succ]; go_wp2_with fail
  go_ret2
  exact ⟨_, rfl, Own.lit w w.heap.size .u8 5 (le4 n) rfl (by unfold le4; rw [show n / 16777216 % 256 = n / 16777216 by omega]; rfl) (Nat.le_refl _) (by decide), bel_up (bel_self w) _⟩

set_option maxHeartbeats 400000 in
theorem leFits2 (n : Int) (w : World) (h0 : 0 ≤ n) (h1 : n ≤ 65535) :
    Calls Tryd.prog 46 #[.int .u64 n, .int .i64 2] w fun e w' => e = .returned (.bool true) ∧ w = w' := by
  have d : (n / 65536 == 0) = true := by simp; omega
  go_enter Tryd.func46, Tryd.ntmps46
  go_wp2_with fail
  go_ret
  exact ⟨rfl, rfl⟩

set_option maxHeartbeats 1000000 in
theorem leBytes2 (n : Int) (w : World) (h0 : 0 ≤ n) (h1 : n ≤ 65535) :
    Calls Tryd.prog 27 #[.int .u64 n, .int .i64 2] w fun e w' =>
      ∃ v, e = .returned (.tuple #[v, .int .i64 0]) ∧ Own w' w.heap.size 5 .u8 v (le2 n) ∧ Below w.heap.size w w' := by
  have mk1 : ∀ W, (Instr.makeSlice 24 (.int .i64 2) (.int .i64 2)).run Tryd.prog W = .ok (.slice (some ⟨W.heap.size, 0, none⟩) 2 2) (W.alloc (.cells #[.int .u8 0, .int .u8 0] 5)) := run_make_ints leElU8 2 rfl (by decide) (by decide)
  go_enter Tryd.func27, Tryd.ntmps27
  go_wp2_with fail
  refine (leFits2 n _ h0 h1).mono ?_
  rintro e w' ⟨rfl, rfl⟩
  go_wp2_with fail
  refine wp_loop_rounds 3 ?_
  rw [rounds_succ]; go_wp2_with fail
  rw [rounds_succ]; go_wp2_with fail
  rw [rounds_succ]; go_wp2_with fail
  go_ret2
  exact ⟨_, rfl, Own.lit w w.heap.size .u8 5 (le2 n) rfl (by unfold le2; rw [show n / 256 % 256 = n / 256 by omega]; rfl) (Nat.le_refl _) (by decide), bel_up (bel_self w) _⟩

theorem or_shl (a b i : Nat) (h : a < 2 ^ i) : a ||| (b * 2 ^ i) = a + b * 2 ^ i := by
  have := Nat.two_pow_add_eq_or_of_lt h b
  rw [Nat.mul_comm b, Nat.or_comm, ← this, Nat.add_comm]
theorem or64 {a b : Int} (i : Nat) {m : Int} (hm : m = ((2 ^ i : Nat) : Int)) (ha : 0 ≤ a) (ha2 : a < m) (hb : 0 ≤ b) (hb2 : b ≤ 255) (hi : m ≤ 4294967296) : bits .or .u64 a (b * m) = a + b * m := by
  obtain ⟨p, hp⟩ : ∃ p, p = 2 ^ i := ⟨_, rfl⟩
  rw [← hp] at hm
  subst hm
  obtain ⟨x, rfl⟩ := Int.eq_ofNat_of_zero_le ha
  obtain ⟨y, rfl⟩ := Int.eq_ofNat_of_zero_le hb
  have h1 : x < p := by omega
  have h2 : p ≤ 4294967296 := by omega
  have h3 : y * p ≤ 255 * 4294967296 := Nat.mul_le_mul (by omega) h2
  rw [show (y : Int) * (p : Int) = ((y * p : Nat) : Int) by rw [Int.natCast_mul], bits_or_u64_nat _ _ (by omega) (by omega), hp, or_shl x y i (by rw [← hp]; exact h1)]
  omega

/-- a part of a slice: some address, and what it holds -/
theorem mid_ex {P : Program} {t e : TypeId} {k : IntKind} {bytes : Nat} (hE : Elem P t e k bytes) (A : Option Addr) (l c n m : Nat) (xs : List Int) (hl : xs.length = l) (hn : n + m ≤ l) (hc : l ≤ c) :
    ∃ A', (∀ W, (Instr.slice t (.slice A l c) (some (.int .i64 (n : Int))) (some (.int .i64 ((n : Int) + (m : Int)))) none).run P W = .ok (.slice A' m (c - n)) W) ∧
      ∀ W B, Sl W B k A xs → Sl W B k A' ((xs.drop n).take m) := by
  obtain ⟨i, hi, _, h1, _⟩ := hE.info
  subst hl
  refine ⟨if c = n then A else A.map (·.add n), fun W => ?_, fun W B h => (h.drop n (by omega) hc).take m⟩
  have e1 : (n : Int) + (m : Int) = ((n + m : Nat) : Int) := by omega
  have e2 : n + m ≤ c := by omega
  rw [e1]
  simp [Instr.slice, run_underlying hE.under, Instr.sliceBounds, Instr.sliceBound, asIntOf, sizeOf, typeInfo, hi, h1, Sem.run_bind]
  have e3 : ((n : Int) + (m : Int)).toNat = n + m := by omega
  rw [if_pos ⟨by omega, by omega⟩, e3, if_pos (by omega), show n + m - n = m by omega]

theorem getD_mid (xs : List Int) (n m j : Nat) (h : j < m) : ((xs.drop n).take m).getD j 0 = xs.getD (n + j) 0 := by
  rw [List.getD_eq_getElem?_getD, List.getD_eq_getElem?_getD, List.getElem?_take_of_lt h, List.getElem?_drop]

set_option maxHeartbeats 1000000 in
theorem leValue4 (A : Option Addr) (n c : Nat) (xs : List Int) (w : World) (hn : xs.length = n) (h4 : n = 4) (hx : U8 xs) (hs : Sl w w.heap.size .u8 A xs) :
    Calls Tryd.prog 49 #[.slice A n c] w fun e w' => e = .returned (.tuple #[.int .u64 (va4 xs 0), .int .i64 0]) ∧ w = w' := by
  subst h4
  obtain ⟨b, o, rfl, hb, hc⟩ := hs (by omega)
  have c0 := hc 0 (by omega)
  rw [Nat.add_zero] at c0
  have c1 := hc 1 (by omega)
  have c2 := hc 2 (by omega)
  have c3 := hc 3 (by omega)
  have b0 := hx _ (mem_getD (show 0 < xs.length by omega))
  have b1 := hx _ (mem_getD (show 1 < xs.length by omega))
  have b2 := hx _ (mem_getD (show 2 < xs.length by omega))
  have b3 := hx _ (mem_getD (show 3 < xs.length by omega))
  have V := Lib.hid (show va4 xs 0 = xs.getD 0 0 + xs.getD 1 0 * 256 + xs.getD 2 0 * 65536 + xs.getD 3 0 * 16777216 by unfold va4; simp only [Nat.zero_add]; omega)
  clear hc hs hx hn
  generalize va4 xs 0 = v at *
  generalize xs.getD 0 0 = x0 at *
  generalize xs.getD 1 0 = x1 at *
  generalize xs.getD 2 0 = x2 at *
  generalize xs.getD 3 0 = x3 at *
  have o1 : bits .or .u64 0 x0 = x0 := by have h := or64 (a := 0) (b := x0) (m := 1) 0 rfl (by omega) (by decide) (by omega) (by omega) (by decide); rwa [Int.mul_one, Int.zero_add] at h
  have o2 : bits .or .u64 x0 (x1 * 256) = x0 + x1 * 256 := or64 8 rfl (by omega) (by omega) (by omega) (by omega) (by decide)
  have o3 : bits .or .u64 (x0 + x1 * 256) (x2 * 65536) = x0 + x1 * 256 + x2 * 65536 := or64 16 rfl (by omega) (by omega) (by omega) (by omega) (by decide)
  have o4 : bits .or .u64 (x0 + x1 * 256 + x2 * 65536) (x3 * 16777216) = x0 + x1 * 256 + x2 * 65536 + x3 * 16777216 := or64 24 rfl (by omega) (by omega) (by omega) (by omega) (by decide)
  go_enter Tryd.func49, Tryd.ntmps49
  go_wp2_with fail
  refine wp_loop_rounds 5 ?_
  rw [rounds_succ]; go_wp2_with fail
  rw [rounds_succ]; go_wp2_with fail
  rw [rounds_succ]; go_wp2_with fail
  rw [rounds_succ]; go_wp2_with fail
  rw [rounds_succ]; go_wp2_with fail
  go_ret2
  exact ⟨by rw [V.out]; rfl, rfl⟩
set_option maxHeartbeats 1000000 in
theorem leValue2 (A : Option Addr) (n c : Nat) (xs : List Int) (w : World) (hn : xs.length = n) (h4 : n = 2) (hx : U8 xs) (hs : Sl w w.heap.size .u8 A xs) :
    Calls Tryd.prog 49 #[.slice A n c] w fun e w' => e = .returned (.tuple #[.int .u64 (va2 xs 0), .int .i64 0]) ∧ w = w' := by
  subst h4
  obtain ⟨b, o, rfl, hb, hc⟩ := hs (by omega)
  have c0 := hc 0 (by omega)
  rw [Nat.add_zero] at c0
  have c1 := hc 1 (by omega)
  have b0 := hx _ (mem_getD (show 0 < xs.length by omega))
  have b1 := hx _ (mem_getD (show 1 < xs.length by omega))
  have V := Lib.hid (show va2 xs 0 = xs.getD 0 0 + xs.getD 1 0 * 256 by unfold va2; simp only [Nat.zero_add]; omega)
  clear hc hs hx hn
  generalize va2 xs 0 = v at *
  generalize xs.getD 0 0 = x0 at *
  generalize xs.getD 1 0 = x1 at *
  have o1 : bits .or .u64 0 x0 = x0 := by have h := or64 (a := 0) (b := x0) (m := 1) 0 rfl (by omega) (by decide) (by omega) (by omega) (by decide); rwa [Int.mul_one, Int.zero_add] at h
  have o2 : bits .or .u64 x0 (x1 * 256) = x0 + x1 * 256 := or64 8 rfl (by omega) (by omega) (by omega) (by omega) (by decide)
  go_enter Tryd.func49, Tryd.ntmps49
  go_wp2_with fail
  refine wp_loop_rounds 3 ?_
  rw [rounds_succ]; go_wp2_with fail
  rw [rounds_succ]; go_wp2_with fail
  rw [rounds_succ]; go_wp2_with fail
  go_ret2
  exact ⟨by rw [V.out]; rfl, rfl⟩

theorem va4_mid (xs : List Int) (i : Nat) : va4 ((xs.drop i).take 4) 0 = va4 xs i := by
  unfold va4
  simp only [getD_mid _ _ _ _ (show 0 < 4 by decide), getD_mid _ _ _ _ (show 0 + 1 < 4 by decide), getD_mid _ _ _ _ (show 0 + 2 < 4 by decide), getD_mid _ _ _ _ (show 0 + 3 < 4 by decide), Nat.zero_add, Nat.add_zero]

set_option maxHeartbeats 400000 in
theorem leAt4 (A : Option Addr) (n c i : Nat) (xs : List Int) (w : World) (hn : xs.length = n) (hi : i + 4 ≤ n) (hc : n ≤ c) (hm : n ≤ 9223372036854775807) (hx : U8 xs) (hs : Sl w w.heap.size .u8 A xs) :
    Calls Tryd.prog 32 #[.slice A n c, .int .i64 i, .int .i64 4] w fun e w' => e = .returned (.tuple #[.int .u64 (va4 xs i), .int .i64 0]) ∧ w = w' := by
  obtain ⟨A', hrun, hsl⟩ := mid_ex leElU8 A n c i 4 xs hn hi hc
  have R : ∀ W, (Instr.slice 24 (.slice A n c) (some (.int .i64 (i : Int))) (some (.int .i64 ((i : Int) + 4))) none).run Tryd.prog W = .ok (.slice A' 4 (c - i)) W := fun W => hrun W
  have S := Lib.hid (hsl w _ hs)
  have L := Lib.hid (show ((xs.drop i).take 4).length = 4 by rw [List.length_take, List.length_drop]; omega)
  have X := Lib.hid (show U8 ((xs.drop i).take 4) from fun x h => hx x (List.mem_of_mem_drop (List.mem_of_mem_take h)))
  have V := Lib.hid (va4_mid xs i)
  have d : ¬ ((n : Int) - 4 < (i : Int)) := by omega
  clear hrun hsl hs
  go_enter Tryd.func32, Tryd.ntmps32
  go_wp2_with fail
  refine (leValue4 A' _ _ ((xs.drop i).take 4) _ L.out rfl X.out S.out).mono ?_
  rintro e w' ⟨rfl, rfl⟩
  go_wp2_with fail
  go_ret2
  exact ⟨by rw [V.out]; rfl, rfl⟩

set_option maxHeartbeats 1000000 in
theorem reWritten4 (n : Int) (w : World) (h0 : 0 ≤ n) (h1 : n ≤ 18446744073709551615) :
    Calls Tryd.prog 57 #[.int .u64 n, .int .i64 4] w fun e w' =>
      ∃ v, e = .returned v ∧ Own w' w.heap.size 5 .u8 v (le4 n) ∧ Below w.heap.size w w' := by
  have HO0 := Lib.hid (show Own w w.heap.size 5 .u8 (.slice none 0 0) [] from ⟨rfl, .inl ⟨rfl, rfl⟩⟩)
  have HB0 := Lib.hid (bel_self w)
  go_enter Tryd.func57, Tryd.ntmps57
  go_wp2_with fail
  refine wp_loop_rounds 5 ?_
  rw [rounds_succ]
  go_wp2_with ((at_builtin; refine app1 leElU8 _ _ rfl rfl rfl rfl HO0.out (by simp) (by simp) HB0.out.size ?_; intro v1 w1 ho1 hb1; have HO1 := Lib.hid ho1; have HB1 := Lib.hid (HB0.out.trans hb1); clear ho1 hb1))
  rw [rounds_succ]
  go_wp2_with ((at_builtin; refine app1 leElU8 _ _ rfl rfl rfl rfl HO1.out (by simp) (by simp) HB1.out.size ?_; intro v2 w2 ho2 hb2; have HO2 := Lib.hid ho2; have HB2 := Lib.hid (HB1.out.trans hb2); clear ho2 hb2))
  rw [rounds_succ]
  go_wp2_with ((at_builtin; refine app1 leElU8 _ _ rfl rfl rfl rfl HO2.out (by simp) (by simp) HB2.out.size ?_; intro v3 w3 ho3 hb3; have HO3 := Lib.hid ho3; have HB3 := Lib.hid (HB2.out.trans hb3); clear ho3 hb3))
  rw [rounds_succ]
  go_wp2_with ((at_builtin; refine app1 leElU8 _ _ rfl rfl rfl rfl HO3.out (by simp) (by simp) HB3.out.size ?_; intro v4 w4 ho4 hb4; have HO4 := Lib.hid ho4; have HB4 := Lib.hid (HB3.out.trans hb4); clear ho4 hb4))
  rw [rounds_succ]
  go_wp2_with fail
  go_ret
  have e : le4 n = [n % 256, n / 256 % 256, n / 256 / 256 % 256, n / 256 / 256 / 256 % 256] := by
    unfold le4
    rw [show n / 256 / 256 / 256 = n / 16777216 by omega, show n / 256 / 256 = n / 65536 by omega]
  exact ⟨_, rfl, by rw [e]; simpa using HO4.out, HB4.out⟩

set_option maxHeartbeats 1000000 in
theorem reOf4 (A : Option Addr) (n c : Nat) (xs : List Int) (w : World) (hn : xs.length = n) (h4 : n = 4) (hx : U8 xs) (hs : Sl w w.heap.size .u8 A xs) :
    Calls Tryd.prog 37 #[.slice A n c] w fun e w' => e = .returned (.int .u64 (va4 xs 0)) ∧ w = w' := by
  subst h4
  obtain ⟨b, o, rfl, hb, hc⟩ := hs (by omega)
  have c0 := hc 0 (by omega)
  rw [Nat.add_zero] at c0
  have c1 := hc 1 (by omega)
  have c2 := hc 2 (by omega)
  have c3 := hc 3 (by omega)
  have b0 := hx _ (mem_getD (show 0 < xs.length by omega))
  have b1 := hx _ (mem_getD (show 1 < xs.length by omega))
  have b2 := hx _ (mem_getD (show 2 < xs.length by omega))
  have b3 := hx _ (mem_getD (show 3 < xs.length by omega))
  have V := Lib.hid (show va4 xs 0 = xs.getD 0 0 + xs.getD 1 0 * 256 + xs.getD 2 0 * 65536 + xs.getD 3 0 * 16777216 by unfold va4; simp only [Nat.zero_add]; omega)
  clear hc hs hx hn
  generalize va4 xs 0 = v at *
  generalize xs.getD 0 0 = x0 at *
  generalize xs.getD 1 0 = x1 at *
  generalize xs.getD 2 0 = x2 at *
  generalize xs.getD 3 0 = x3 at *
  go_enter Tryd.func37, Tryd.ntmps37
  go_wp2_with fail
  refine wp_loop_rounds 5 ?_
  rw [rounds_succ]; go_wp2_with fail
  rw [rounds_succ]; go_wp2_with fail
  rw [rounds_succ]; go_wp2_with fail
  rw [rounds_succ]; go_wp2_with fail
  rw [rounds_succ]; go_wp2_with fail
  go_ret
  exact ⟨ret_int (by rw [V.out]; omega), rfl⟩

theorem va2_mid (xs : List Int) (i : Nat) : va2 ((xs.drop i).take 2) 0 = va2 xs i := by
  unfold va2
  simp only [getD_mid _ _ _ _ (show 0 < 2 by decide), getD_mid _ _ _ _ (show 0 + 1 < 2 by decide), Nat.zero_add, Nat.add_zero]

set_option maxHeartbeats 400000 in
theorem leAt2 (A : Option Addr) (n c i : Nat) (xs : List Int) (w : World) (hn : xs.length = n) (hi : i + 2 ≤ n) (hc : n ≤ c) (hm : n ≤ 9223372036854775807) (hx : U8 xs) (hs : Sl w w.heap.size .u8 A xs) :
    Calls Tryd.prog 32 #[.slice A n c, .int .i64 i, .int .i64 2] w fun e w' => e = .returned (.tuple #[.int .u64 (va2 xs i), .int .i64 0]) ∧ w = w' := by
  obtain ⟨A', hrun, hsl⟩ := mid_ex leElU8 A n c i 2 xs hn hi hc
  have R : ∀ W, (Instr.slice 24 (.slice A n c) (some (.int .i64 (i : Int))) (some (.int .i64 ((i : Int) + 2))) none).run Tryd.prog W = .ok (.slice A' 2 (c - i)) W := fun W => hrun W
  have S := Lib.hid (hsl w _ hs)
  have L := Lib.hid (show ((xs.drop i).take 2).length = 2 by rw [List.length_take, List.length_drop]; omega)
  have X := Lib.hid (show U8 ((xs.drop i).take 2) from fun x h => hx x (List.mem_of_mem_drop (List.mem_of_mem_take h)))
  have V := Lib.hid (va2_mid xs i)
  have d : ¬ ((n : Int) - 2 < (i : Int)) := by omega
  clear hrun hsl hs
  go_enter Tryd.func32, Tryd.ntmps32
  go_wp2_with fail
  refine (leValue2 A' _ _ ((xs.drop i).take 2) _ L.out rfl X.out S.out).mono ?_
  rintro e w' ⟨rfl, rfl⟩
  go_wp2_with fail
  go_ret2
  exact ⟨by rw [V.out]; rfl, rfl⟩

set_option maxHeartbeats 1000000 in
theorem reWritten2 (n : Int) (w : World) (h0 : 0 ≤ n) (h1 : n ≤ 18446744073709551615) :
    Calls Tryd.prog 57 #[.int .u64 n, .int .i64 2] w fun e w' =>
      ∃ v, e = .returned v ∧ Own w' w.heap.size 5 .u8 v (le2 n) ∧ Below w.heap.size w w' := by
  have HO0 := Lib.hid (show Own w w.heap.size 5 .u8 (.slice none 0 0) [] from ⟨rfl, .inl ⟨rfl, rfl⟩⟩)
  have HB0 := Lib.hid (bel_self w)
  go_enter Tryd.func57, Tryd.ntmps57
  go_wp2_with fail
  refine wp_loop_rounds 3 ?_
  rw [rounds_succ]
  go_wp2_with ((at_builtin; refine app1 leElU8 _ _ rfl rfl rfl rfl HO0.out (by simp) (by simp) HB0.out.size ?_; intro v1 w1 ho1 hb1; have HO1 := Lib.hid ho1; have HB1 := Lib.hid (HB0.out.trans hb1); clear ho1 hb1))
  rw [rounds_succ]
  go_wp2_with ((at_builtin; refine app1 leElU8 _ _ rfl rfl rfl rfl HO1.out (by simp) (by simp) HB1.out.size ?_; intro v2 w2 ho2 hb2; have HO2 := Lib.hid ho2; have HB2 := Lib.hid (HB1.out.trans hb2); clear ho2 hb2))
  rw [rounds_succ]
  go_wp2_with fail
  go_ret
  have e : le2 n = [n % 256, n / 256 % 256] := by
    unfold le2
    rfl
  exact ⟨_, rfl, by rw [e]; simpa using HO2.out, HB2.out⟩

set_option maxHeartbeats 1000000 in
theorem reOf2 (A : Option Addr) (n c : Nat) (xs : List Int) (w : World) (hn : xs.length = n) (h4 : n = 2) (hx : U8 xs) (hs : Sl w w.heap.size .u8 A xs) :
    Calls Tryd.prog 37 #[.slice A n c] w fun e w' => e = .returned (.int .u64 (va2 xs 0)) ∧ w = w' := by
  subst h4
  obtain ⟨b, o, rfl, hb, hc⟩ := hs (by omega)
  have c0 := hc 0 (by omega)
  rw [Nat.add_zero] at c0
  have c1 := hc 1 (by omega)
  have b0 := hx _ (mem_getD (show 0 < xs.length by omega))
  have b1 := hx _ (mem_getD (show 1 < xs.length by omega))
  have V := Lib.hid (show va2 xs 0 = xs.getD 0 0 + xs.getD 1 0 * 256 by unfold va2; simp only [Nat.zero_add]; omega)
  clear hc hs hx hn
  generalize va2 xs 0 = v at *
  generalize xs.getD 0 0 = x0 at *
  generalize xs.getD 1 0 = x1 at *
  go_enter Tryd.func37, Tryd.ntmps37
  go_wp2_with fail
  refine wp_loop_rounds 3 ?_
  rw [rounds_succ]; go_wp2_with fail
  rw [rounds_succ]; go_wp2_with fail
  rw [rounds_succ]; go_wp2_with fail
  go_ret
  exact ⟨ret_int (by rw [V.out]; omega), rfl⟩

theorem va4_le4 {n : Int} (h0 : 0 ≤ n) (h1 : n ≤ 4294967295) : va4 (le4 n) 0 = n := by
  simp [va4, le4]; omega
theorem va2_le2 {n : Int} (h0 : 0 ≤ n) (h1 : n ≤ 65535) : va2 (le2 n) 0 = n := by
  simp [va2, le2]; omega
end Go.Proofs.YtgfibgnolmogkaaDoor

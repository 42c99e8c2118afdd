/-
  The walk of Crc32Burst. Conditions: numbers within their types.
-/
import Derived.Test.YtfhodjdbbocpiaaLaw03D
import Derived.StillTailTactics
import Derived.Deep.DeepCutAuto
namespace Go.Proofs.Ytfhodjdbbocpiaa
open Go.RowKit
set_option linter.unusedVariables false

theorem xor_mul256 (a b : Nat) : (a ^^^ b) * 256 = (a * 256) ^^^ (b * 256) := by
  have h := Nat.shiftLeft_xor_distrib (a := a) (b := b) (i := 8)
  simpa [Nat.shiftLeft_eq] using h
theorem numL_set (e : Nat) : ∀ (zs : List Int) (j : Nat), j < zs.length → numL (zs.set j (xorI (zs.getD j 0) (e : Int))) = numL zs ^^^ (e * 256 ^ j)
  | [], j, h => by simp at h
  | c :: l, 0, _ => by
    have : (xorI c (e : Int)).toNat = c.toNat ^^^ e := by unfold xorI; rw [Int.toNat_natCast, Int.toNat_natCast]
    simp only [List.set_cons_zero, numL, List.getD_cons_zero, this, Nat.pow_zero, Nat.mul_one]
    rw [Nat.xor_assoc, Nat.xor_comm e, ← Nat.xor_assoc]
  | c :: l, j + 1, h => by
    have ih := numL_set e l j (by simpa using h)
    simp only [List.set_cons_succ, numL, List.getD_cons_succ, ih]
    rw [xor_mul256, ← Nat.xor_assoc, Nat.pow_succ, Nat.mul_assoc]

def difB (ch k : Nat) : Bool := decide (ch % 2 ^ k ≠ 0)
theorem mod_succ (ch k : Nat) : ch % 2 ^ (k + 1) = (ch % 2 ^ k) ^^^ ((ch / 2 ^ k % 2) * 2 ^ k) := by
  apply Nat.eq_of_testBit_eq
  intro i
  rw [Nat.testBit_xor, Nat.testBit_mod_two_pow, Nat.testBit_mod_two_pow, Nat.testBit_mul_two_pow]
  by_cases h1 : i < k
  · simp [h1, show i < k + 1 by omega, show ¬ k ≤ i by omega]
  · by_cases h2 : i = k
    · subst h2
      have : (ch / 2 ^ i).testBit 0 = ch.testBit (0 + i) := Nat.testBit_div_two_pow ch 0
      simp only [Nat.zero_add] at this
      rw [show ch.testBit i = (ch / 2 ^ i).testBit 0 from by rw [this]]
      have h3 : (ch / 2 ^ i % 2).testBit 0 = (ch / 2 ^ i).testBit 0 := by simp [Nat.testBit_zero]
      simp [h3]
    · have h3 : (ch / 2 ^ k % 2).testBit (i - k) = false := by
        apply Nat.testBit_lt_two_pow
        have : 2 ^ 1 ≤ 2 ^ (i - k) := Nat.pow_le_pow_right (by omega) (by omega)
        omega
      simp [h1, show ¬ i < k + 1 by omega, show k ≤ i by omega, h3]
theorem mod_one {ch k : Nat} (h : ch / 2 ^ k % 2 = 1) : ch % 2 ^ (k + 1) = (ch % 2 ^ k) ^^^ 2 ^ k := by rw [mod_succ, h, Nat.one_mul]
theorem mod_none {ch k : Nat} (h : ch / 2 ^ k % 2 = 0) : ch % 2 ^ (k + 1) = ch % 2 ^ k := by rw [mod_succ, h, Nat.zero_mul, Nat.xor_zero]
theorem dif_one {ch k : Nat} (h : ch / 2 ^ k % 2 = 1) : difB ch (k + 1) = true := by
  unfold difB
  have h1 : ch % 2 ^ k < 2 ^ k := Nat.mod_lt _ (Nat.two_pow_pos k)
  have h2 : (ch % 2 ^ (k + 1)).testBit k = true := by
    rw [mod_one h, Nat.testBit_xor, Nat.testBit_lt_two_pow h1]
    simp
  simp only [decide_eq_true_eq]
  intro h3
  rw [h3] at h2
  simp at h2

theorem shl_xor {z : Int} (hz : 0 ≤ z ∧ z ≤ 255) (r : Nat) (hr : r < 8) : bits .xor .u8 z (2 ^ r % 256) = xorI z ((2 ^ r : Nat) : Int) := by
  have h1 : 2 ^ r < 2 ^ 8 := Nat.pow_lt_pow_right (by omega) hr
  have h2 : (2 : Int) ^ r = ((2 ^ r : Nat) : Int) := by simp
  rw [h2]
  generalize 2 ^ r = p at *
  have h3 : (p : Int) % 256 = (p : Int) := by omega
  rw [h3, u8_xor _ _ hz.1 (by omega) (by omega) (by omega)]
  rfl
theorem xor_mul_pow (a b n : Nat) : (a ^^^ b) * 2 ^ n = (a * 2 ^ n) ^^^ (b * 2 ^ n) := by
  have h := Nat.shiftLeft_xor_distrib (a := a) (b := b) (i := n)
  simpa [Nat.shiftLeft_eq] using h
theorem num_step {zs : List Int} {x m at_ k : Nat} (h : numL zs = x ^^^ (m * 2 ^ at_)) (hj : (at_ + k) / 8 < zs.length) :
    numL (zs.set ((at_ + k) / 8) (xorI (zs.getD ((at_ + k) / 8) 0) ((2 ^ ((at_ + k) % 8) : Nat) : Int))) = x ^^^ ((m ^^^ 2 ^ k) * 2 ^ at_) := by
  rw [numL_set _ _ _ hj, h, xor_mul_pow, ← Nat.xor_assoc]
  congr 1
  rw [show 256 = 2 ^ 8 from rfl, ← Nat.pow_mul, ← Nat.pow_add, ← Nat.pow_add]
  congr 1
  omega
theorem u8_set {zs : List Int} (h : U8 zs) (j : Nat) {v : Int} (hv : 0 ≤ v ∧ v ≤ 255) : U8 (zs.set j v) := fun x hx => by
  rcases List.mem_or_eq_of_mem_set hx with h' | rfl
  · exact h x h'
  · exact hv

set_option maxRecDepth 100000 in
set_option maxHeartbeats 1000000 in
theorem crc32Burst_main (A : Option Addr) (c : Nat) (xs : List Int) (at_ ch : Nat) (w : World) (hx : U8 xs) (hsl : Sl w w.heap.size .u8 A xs) (hl : xs.length ≤ 500) (hat : at_ < 8 * xs.length) (hch : ch < 4294967296) :
    Calls Try.prog 5 #[.slice A xs.length c, .int .i64 (at_ : Int), .int .u32 (ch : Int)] w fun e w' => e = .returned (.bool true) ∧ Below w.heap.size w w' := by
  have SX := Lib.hid hsl
  have HX := Lib.hid hx
  have d1 : decide ((500 : Int) < (xs.length : Int)) = false := by simp; omega
  have d2 : decide ((at_ : Int) < 0) = false := by simp
  have d3 : decide (8 * (xs.length : Int) ≤ (at_ : Int)) = false := by simp; omega
  have B0 := Lib.hid (bel_up (bel_self w) (.cells #[] 5))
  clear hsl hx
  go_enter Try.func5, Try.ntmps5
  go_wp2_with (at_builtin; refine appN (xs := []) (ys := xs) elU8 _ _ rfl rfl rfl rfl (Own.lit w w.heap.size .u8 5 [] rfl rfl (Nat.le_refl _) (by decide)) (SX.out.alloc (Nat.le_refl _) _) (by simp; omega) (by simp; omega) B0.out.size ?_; intro v1 w1 own1 bel1; have BB := Lib.hid (B0.out.trans bel1); have O1 := Lib.hid own1; clear own1 bel1 B0)
  rw [List.nil_append] at O1
  obtain ⟨Ao, co, rfl, hco, hmo, _⟩ := O1.out.sln rfl
  obtain ⟨g, rfl, hg, hg'⟩ := O1.out.addr (by omega)
  go_wp2_with fail
  go_loopw [8, 9] (fun d i wr => ∃ (k : Nat) (zs : List Int), k ≤ 32 ∧ at_ + k ≤ 8 * xs.length ∧ i = .int .i64 k ∧ d = .bool (difB ch k) ∧ zs.length = xs.length ∧ U8 zs ∧ numL zs = numL xs ^^^ ((ch % 2 ^ k) * 2 ^ at_) ∧ Own wr w.heap.size 5 .u8 (.slice (some ⟨g, 0, none⟩) xs.length co) zs ∧ Below w.heap.size w wr) (fun _ i _ => 32 - (intOf i).toNat)
  case atStart => exact ⟨0, xs, by omega, by omega, rfl, by simp [difB]; omega, rfl, HX.out, by simp [Nat.mod_one], O1.out, BB.out⟩
  case round =>
    obtain ⟨k, zs, hk, hak, rfl, rfl, hzl, hz8, hnum, hown, hbel⟩ := hrel
    by_cases hlt : k < 32 ∧ at_ + k < 8 * xs.length
    · obtain ⟨hk1, hk2⟩ := hlt
      have hk1' : (k : Int) < 32 := by omega
      have hk2' : (at_ : Int) + (k : Int) < 8 * (xs.length : Int) := by omega
      have hk2'' : (at_ : Int) + (k : Int) ≤ 4000 := by omega
      have HO := Lib.hid hown
      have HB := Lib.hid hbel
      have HN := Lib.hid hnum
      have HZ := Lib.hid hz8
      have HL := Lib.hid hzl
      clear hown hbel hnum hz8 hzl
      have ea : bits .and .u32 ((ch : Int) / 2 ^ k) 1 = ((ch / 2 ^ k % 2 : Nat) : Int) := by
        have hq : ch / 2 ^ k ≤ ch := Nat.div_le_self _ _
        have e0 : (ch : Int) / 2 ^ k = ((ch / 2 ^ k : Nat) : Int) := by simp
        rw [e0]
        have h := bits_mask .u32 32 (by decide) (fun n h2 h3 => by rw [IntKind.wrap_u32']; omega) 1 (by decide) ((ch / 2 ^ k : Nat) : Int) (Int.natCast_nonneg _) (by exact_mod_cast (show ch / 2 ^ k < 2 ^ 32 by omega))
        simpa using h
      rcases Nat.mod_two_eq_zero_or_one (ch / 2 ^ k) with hq | hq
      · rw [hq] at ea
        have hm := Lib.hid (mod_none hq)
        have hd := Lib.hid (show difB ch (k + 1) = difB ch k by unfold difB; rw [mod_none hq])
        have HA := Lib.hid hq
        clear hq
        go_wp2_with fail
        go_roundw
        case rel => exact ⟨k + 1, zs, by omega, by omega, by go_num, by rw [hd.out], HL.out, HZ.out, by rw [hm.out]; exact HN.out, HO.out, HB.out⟩
        case measure => simp [intOf]; omega
      · rw [hq] at ea
        have hm := Lib.hid (mod_one hq)
        have hd := Lib.hid (dif_one hq)
        clear hq
        have hj : (at_ + k) / 8 < zs.length := by have := HL.out; omega
        have hcell := HO.out.cell ((at_ + k) / 8) hj
        have hfr := HO.out.frozen ((at_ + k) / 8)
        have hzb := HZ.out _ (mem_getD hj)
        have NS := Lib.hid (num_step (k := k) HN.out hj)
        have hp : 2 ^ ((at_ + k) % 8) < 2 ^ 8 := Nat.pow_lt_pow_right (by omega) (by omega)
        have HV := shl_xor hzb ((at_ + k) % 8) (by omega)
        have HU := Lib.hid (u8_set HZ.out ((at_ + k) / 8) (xorI_bd hzb (b := ((2 ^ ((at_ + k) % 8) : Nat) : Int)) ⟨Int.natCast_nonneg _, by exact_mod_cast Nat.le_of_lt_succ hp⟩))
        have HS := Lib.hid (HO.out.set ((at_ + k) / 8) (xorI (zs.getD ((at_ + k) / 8) 0) ((2 ^ ((at_ + k) % 8) : Nat) : Int)))
        have HE := Lib.hid HV
        have hgg := HO.out.base_le
        have HBB := Lib.hid ((HB.out.setCell (p := ⟨g, (at_ + k) / 8, none⟩) hgg (.int .u8 (xorI (zs.getD ((at_ + k) / 8) 0) ((2 ^ ((at_ + k) % 8) : Nat) : Int)))).drew)
        have HLL := Lib.hid (show (zs.set ((at_ + k) / 8) (xorI (zs.getD ((at_ + k) / 8) 0) ((2 ^ ((at_ + k) % 8) : Nat) : Int))).length = xs.length by rw [List.length_set]; exact HL.out)
        clear HV hp
        generalize xorI (zs.getD ((at_ + k) / 8) 0) ((2 ^ ((at_ + k) % 8) : Nat) : Int) = zz at *
        generalize zs.getD ((at_ + k) / 8) 0 = z at *
        have hi1 : (0 : Int) ≤ ((at_ : Int) + (k : Int)) / 8 := by omega
        have hi2 : ((at_ : Int) + (k : Int)) / 8 < (xs.length : Int) := by omega
        have hi3 : 0 ≤ ((at_ : Int) + (k : Int)) % 8 := by omega
        have hi4 : ((at_ : Int) + (k : Int)) % 8 < 8 := by omega
        go_wp2_with fail
        go_region
        go_wp2_with fail
        go_roundw
        case rel =>
          rw [HE.out]
          exact ⟨k + 1, _, by omega, by omega, by go_num, by rw [hd.out], HLL.out, HU.out, by rw [hm.out]; exact NS.out, HS.out, HBB.out⟩
        case measure => simp [intOf]; omega
    · have hend : ¬ ((k : Int) < 32 ∧ (at_ : Int) + (k : Int) < 8 * (xs.length : Int)) := by omega
      have hkk : ch % 2 ^ k < 4294967296 := Nat.lt_of_le_of_lt (Nat.mod_le _ _) hch
      have BU := burst 4294967295 xs zs (ch % 2 ^ k) at_ hzl.symm (by omega) hkk hnum
      have s1 := crcL_lt (s := 4294967295) (by decide) HX.out
      have s2 := crcL_lt (s := 4294967295) (by decide) hz8
      have E : ((((sumL xs : Nat) : Int) != ((sumL zs : Nat) : Int)) == difB ch k) = true := by
        unfold sumL difB
        by_cases h0 : ch % 2 ^ k = 0
        · have := BU.2 h0
          simp [this, h0]
        · have h1 : crcL 4294967295 xs ≠ crcL 4294967295 zs := fun h => h0 (BU.1 h)
          have h2 : ¬ (((4294967295 - crcL 4294967295 xs : Nat) : Int) = ((4294967295 - crcL 4294967295 zs : Nat) : Int)) := by omega
          simp [h2, h0]
      have SX := Lib.hid (SX.out.next hbel)
      have BB := Lib.hid hbel
      obtain ⟨A2, c2, e2, _, _, sl2⟩ := hown.sln hzl
      injection e2 with e3
      subst e3
      have SO := Lib.hid sl2
      have HZ := Lib.hid hz8
      have HL := Lib.hid hzl
      have HE := Lib.hid E
      clear E BU s1 s2 hnum hown hbel hzl hz8 sl2 hkk
      generalize difB ch k = dd at *
      generalize h5 : sumL xs = t1 at *
      generalize h6 : sumL zs = t2 at *
      have H5 := Lib.hid h5
      have H6 := Lib.hid h6
      have E := HE.out
      clear h5 h6 HE
      obtain ⟨w0, rfl⟩ : ∃ wo : World, wo = wr := ⟨_, rfl⟩
      have hcases : 32 ≤ (k : Int) ∨ ((k : Int) < 32 ∧ 8 * (xs.length : Int) ≤ (at_ : Int) + (k : Int)) := by omega
      clear hend hlt
      rcases hcases with hc1 | ⟨hc1, hc2⟩
      all_goals
        go_wp2_with fail
        refine (sum_v (v := (t1 : Int)) xs _ rfl (by omega) HX.out SX.out (by rw [H5.out])).mono ?_
        rintro e w1 ⟨rfl, bel1⟩
        have SX := Lib.hid (SX.out.next bel1)
        have SO := Lib.hid (SO.out.next bel1)
        have BB := Lib.hid (bel_next BB.out bel1)
        clear bel1
        go_wp2_with fail
        refine (sum_v (v := (t2 : Int)) zs _ HL.out (by omega) HZ.out SO.out (by rw [H6.out])).mono ?_
        rintro e w2 ⟨rfl, bel2⟩
        have SX := Lib.hid (SX.out.next bel2)
        have SO := Lib.hid (SO.out.next bel2)
        have BB := Lib.hid (bel_next BB.out bel2)
        clear bel2
        go_wp2_with fail
        refine (alive_any w2).mono ?_
        rintro e w3 ⟨rfl, bel3⟩
        have SX := Lib.hid (SX.out.next bel3)
        have SO := Lib.hid (SO.out.next bel3)
        have BB := Lib.hid (bel_next BB.out bel3)
        clear bel3
        go_wp2_with fail
        go_ret
        exact ⟨rfl, BB.out⟩

set_option maxRecDepth 100000 in
set_option maxHeartbeats 400000 in
theorem crc32Burst_walk (A : Option Addr) (c : Nat) (xs : List Int) (at_ ch : Int) (w : World) (hc : xs.length ≤ c) (hm : c ≤ 9223372036854775807) (hx : U8 xs) (hsl : Sl w w.heap.size .u8 A xs)
    (ha0 : -9223372036854775808 ≤ at_) (ha1 : at_ ≤ 9223372036854775807) (hc0 : 0 ≤ ch) (hc1 : ch ≤ 4294967295) :
    Calls Try.prog 5 #[.slice A xs.length c, .int .i64 at_, .int .u32 ch] w fun e w' => e = .returned (.bool true) ∧ Below w.heap.size w w' := by
  by_cases hl : xs.length ≤ 500
  · by_cases h0 : 0 ≤ at_
    · by_cases h1 : at_ < 8 * (xs.length : Int)
      · obtain ⟨a, rfl⟩ := Int.eq_ofNat_of_zero_le h0
        obtain ⟨b, rfl⟩ := Int.eq_ofNat_of_zero_le hc0
        exact crc32Burst_main A c xs a b w hx hsl hl (by omega) (by omega)
      · have BB := Lib.hid (bel_self w)
        clear hsl hx
        go_enter Try.func5, Try.ntmps5
        go_wp2_with fail
        refine (alive_any w).mono ?_
        rintro e w1 ⟨rfl, bel1⟩
        have BB := Lib.hid (bel_next BB.out bel1)
        clear bel1
        go_wp2_with fail
        go_ret
        exact ⟨rfl, BB.out⟩
    · have BB := Lib.hid (bel_self w)
      clear hsl hx
      go_enter Try.func5, Try.ntmps5
      go_wp2_with fail
      refine (alive_any w).mono ?_
      rintro e w1 ⟨rfl, bel1⟩
      have BB := Lib.hid (bel_next BB.out bel1)
      clear bel1
      go_wp2_with fail
      go_ret
      exact ⟨rfl, BB.out⟩
  · have BB := Lib.hid (bel_self w)
    clear hsl hx
    go_enter Try.func5, Try.ntmps5
    go_wp2_with fail
    refine (alive_any w).mono ?_
    rintro e w1 ⟨rfl, bel1⟩
    have BB := Lib.hid (bel_next BB.out bel1)
    clear bel1
    go_wp2_with fail
    go_ret
    exact ⟨rfl, BB.out⟩
end Go.Proofs.Ytfhodjdbbocpiaa

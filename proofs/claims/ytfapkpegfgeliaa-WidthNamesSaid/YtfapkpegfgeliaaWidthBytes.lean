/-
  What Bytes of package width computes. Conditions: numbers within their types.
-/
import Derived.Test.YtfapkpegfgeliaaWidthWalks
namespace Go.Proofs.Ytfapkpegfgeliaa
open Go.RowKit
set_option linter.unusedVariables false

set_option maxHeartbeats 1000000 in
theorem bytes8_ok (A : Option Addr) (n c : Nat) (xs : List Int) (w : World) (hn : xs.length = n) (hl : n ≤ 4000) (hx : I32 xs) (hs : Sl w w.heap.size .i32 A xs) (hck : ckE 8 xs = 0) (hin : inR 128 xs) :
    Calls Try.prog 16 #[.int .i64 8, .slice A n c] w fun e w' =>
      ∃ v, e = .returned (.tuple #[v, .int .i64 0]) ∧ Own w' w.heap.size 5 .u8 v (byL 8 xs) ∧ Below w.heap.size w w' := by
  subst hn
  have CK := wcheck_any 8 A xs.length c xs w rfl (by omega) hx hs (by decide) (by decide)
  rw [hck] at CK
  have CK := Lib.hid CK
  have HI := Lib.hid hin
  clear hck hin
  go_enter Try.func16, Try.ntmps16
  go_wp2_with fail
  refine CK.out.mono ?_
  rintro e w' ⟨rfl, rfl⟩
  clear CK
  go_wp2_with fail
  go_loopw [7, 19] (fun v i wr => ∃ k : Nat, k ≤ xs.length ∧ i = .int .i64 k ∧ Own wr w.heap.size 5 .u8 v (byL 8 (xs.take k)) ∧ Below w.heap.size w wr) (fun _ i _ => xs.length - (intOf i).toNat)
  case atStart => exact ⟨0, Nat.zero_le _, rfl, World.ownsRow_nil _ _ _ _, Below.refl _ _⟩
  case round =>
    obtain ⟨k, hk, rfl, hown, hbel⟩ := hrel
    by_cases hlt : k < xs.length
    · obtain ⟨b, o, rfl, hb, hc⟩ := hs (by omega)
      have hcell := (hbel.cell (p := ⟨b, o + k, none⟩) hb).trans (hc k hlt)
      have hbd := hx _ (mem_getD hlt)
      have hbd2 := HI.out _ (mem_getD hlt)
      have HT := Lib.hid ((congrArg (byL 8) (take_snoc xs k hlt)).trans (byL_snoc 8 (xs.take k) (xs.getD k 0)))
      have HLN := Lib.hid (show (byL 8 (xs.take k)).length ≤ 12000 by rw [byL_len (by decide), List.length_take]; simp [nB]; omega)
      have HO := Lib.hid hown
      have HB := Lib.hid hbel
      clear hc hs hown hbel
      generalize xs.getD k 0 = y at *
      have EV := Lib.hid (show oneB 8 y = [y + 128] from by simp [oneB]; omega)
      go_wp2_with fail
      refine wp_loop_rounds 2 ?_
      rw [rounds_succ]
      go_wp2_with (at_builtin; refine app1 elU8 _ _ rfl rfl rfl rfl HO.out (by have := HLN.out; simp; omega) (by have := HLN.out; simp; omega) HB.out.size ?_; intro v1 w1 own1 bel1; have O1 := Lib.hid own1; have B1 := Lib.hid (HB.out.trans bel1); clear own1 bel1)
      rw [rounds_succ]
      go_wp2_with fail
      go_roundw
      case rel => exact ⟨k + 1, by omega, by go_num, by rw [HT.out, EV.out]; simpa using O1.out, B1.out⟩
      case measure => simp [intOf]; omega
    · go_wp2_with fail
      go_ret2
      refine ⟨_, rfl, ?_, hbel⟩
      rw [List.take_of_length_le (by omega)] at hown
      exact hown

set_option maxHeartbeats 1000000 in
theorem bytes16_ok (A : Option Addr) (n c : Nat) (xs : List Int) (w : World) (hn : xs.length = n) (hl : n ≤ 4000) (hx : I32 xs) (hs : Sl w w.heap.size .i32 A xs) (hck : ckE 16 xs = 0) (hin : inR 32768 xs) :
    Calls Try.prog 16 #[.int .i64 16, .slice A n c] w fun e w' =>
      ∃ v, e = .returned (.tuple #[v, .int .i64 0]) ∧ Own w' w.heap.size 5 .u8 v (byL 16 xs) ∧ Below w.heap.size w w' := by
  subst hn
  have CK := wcheck_any 16 A xs.length c xs w rfl (by omega) hx hs (by decide) (by decide)
  rw [hck] at CK
  have CK := Lib.hid CK
  have HI := Lib.hid hin
  clear hck hin
  go_enter Try.func16, Try.ntmps16
  go_wp2_with fail
  refine CK.out.mono ?_
  rintro e w' ⟨rfl, rfl⟩
  clear CK
  go_wp2_with fail
  go_loopw [7, 19] (fun v i wr => ∃ k : Nat, k ≤ xs.length ∧ i = .int .i64 k ∧ Own wr w.heap.size 5 .u8 v (byL 16 (xs.take k)) ∧ Below w.heap.size w wr) (fun _ i _ => xs.length - (intOf i).toNat)
  case atStart => exact ⟨0, Nat.zero_le _, rfl, World.ownsRow_nil _ _ _ _, Below.refl _ _⟩
  case round =>
    obtain ⟨k, hk, rfl, hown, hbel⟩ := hrel
    by_cases hlt : k < xs.length
    · obtain ⟨b, o, rfl, hb, hc⟩ := hs (by omega)
      have hcell := (hbel.cell (p := ⟨b, o + k, none⟩) hb).trans (hc k hlt)
      have hbd := hx _ (mem_getD hlt)
      have hbd2 := HI.out _ (mem_getD hlt)
      have HT := Lib.hid ((congrArg (byL 16) (take_snoc xs k hlt)).trans (byL_snoc 16 (xs.take k) (xs.getD k 0)))
      have HLN := Lib.hid (show (byL 16 (xs.take k)).length ≤ 12000 by rw [byL_len (by decide), List.length_take]; simp [nB]; omega)
      have HO := Lib.hid hown
      have HB := Lib.hid hbel
      clear hc hs hown hbel
      generalize xs.getD k 0 = y at *
      have EV := Lib.hid (show oneB 16 y = [y % 256, y / 256 % 256] from rfl)
      go_wp2_with fail
      refine wp_loop_rounds 3 ?_
      rw [rounds_succ]
      go_wp2_with (at_builtin; refine app1 elU8 _ _ rfl rfl rfl rfl HO.out (by have := HLN.out; simp; omega) (by have := HLN.out; simp; omega) HB.out.size ?_; intro v1 w1 own1 bel1; have O1 := Lib.hid own1; have B1 := Lib.hid (HB.out.trans bel1); clear own1 bel1)
      rw [rounds_succ]
      go_wp2_with (at_builtin; refine app1 elU8 _ _ rfl rfl rfl rfl O1.out (by have := HLN.out; simp; omega) (by have := HLN.out; simp; omega) B1.out.size ?_; intro v2 w2 own2 bel2; have O2 := Lib.hid own2; have B2 := Lib.hid (B1.out.trans bel2); clear own2 bel2)
      rw [rounds_succ]
      go_wp2_with fail
      go_roundw
      case rel => exact ⟨k + 1, by omega, by go_num, by rw [HT.out, EV.out]; simpa using O2.out, B2.out⟩
      case measure => simp [intOf]; omega
    · go_wp2_with fail
      go_ret2
      refine ⟨_, rfl, ?_, hbel⟩
      rw [List.take_of_length_le (by omega)] at hown
      exact hown

set_option maxHeartbeats 1000000 in
theorem bytes24_ok (A : Option Addr) (n c : Nat) (xs : List Int) (w : World) (hn : xs.length = n) (hl : n ≤ 4000) (hx : I32 xs) (hs : Sl w w.heap.size .i32 A xs) (hck : ckE 24 xs = 0) (hin : inR 8388608 xs) :
    Calls Try.prog 16 #[.int .i64 24, .slice A n c] w fun e w' =>
      ∃ v, e = .returned (.tuple #[v, .int .i64 0]) ∧ Own w' w.heap.size 5 .u8 v (byL 24 xs) ∧ Below w.heap.size w w' := by
  subst hn
  have CK := wcheck_any 24 A xs.length c xs w rfl (by omega) hx hs (by decide) (by decide)
  rw [hck] at CK
  have CK := Lib.hid CK
  have HI := Lib.hid hin
  clear hck hin
  go_enter Try.func16, Try.ntmps16
  go_wp2_with fail
  refine CK.out.mono ?_
  rintro e w' ⟨rfl, rfl⟩
  clear CK
  go_wp2_with fail
  go_loopw [7, 19] (fun v i wr => ∃ k : Nat, k ≤ xs.length ∧ i = .int .i64 k ∧ Own wr w.heap.size 5 .u8 v (byL 24 (xs.take k)) ∧ Below w.heap.size w wr) (fun _ i _ => xs.length - (intOf i).toNat)
  case atStart => exact ⟨0, Nat.zero_le _, rfl, World.ownsRow_nil _ _ _ _, Below.refl _ _⟩
  case round =>
    obtain ⟨k, hk, rfl, hown, hbel⟩ := hrel
    by_cases hlt : k < xs.length
    · obtain ⟨b, o, rfl, hb, hc⟩ := hs (by omega)
      have hcell := (hbel.cell (p := ⟨b, o + k, none⟩) hb).trans (hc k hlt)
      have hbd := hx _ (mem_getD hlt)
      have hbd2 := HI.out _ (mem_getD hlt)
      have HT := Lib.hid ((congrArg (byL 24) (take_snoc xs k hlt)).trans (byL_snoc 24 (xs.take k) (xs.getD k 0)))
      have HLN := Lib.hid (show (byL 24 (xs.take k)).length ≤ 12000 by rw [byL_len (by decide), List.length_take]; simp [nB]; omega)
      have HO := Lib.hid hown
      have HB := Lib.hid hbel
      clear hc hs hown hbel
      generalize xs.getD k 0 = y at *
      have EV := Lib.hid (show oneB 24 y = [y % 256, y / 256 % 256, y / 65536 % 256] from rfl)
      go_wp2_with fail
      refine wp_loop_rounds 4 ?_
      rw [rounds_succ]
      go_wp2_with (at_builtin; refine app1 elU8 _ _ rfl rfl rfl rfl HO.out (by have := HLN.out; simp; omega) (by have := HLN.out; simp; omega) HB.out.size ?_; intro v1 w1 own1 bel1; have O1 := Lib.hid own1; have B1 := Lib.hid (HB.out.trans bel1); clear own1 bel1)
      rw [rounds_succ]
      go_wp2_with (at_builtin; refine app1 elU8 _ _ rfl rfl rfl rfl O1.out (by have := HLN.out; simp; omega) (by have := HLN.out; simp; omega) B1.out.size ?_; intro v2 w2 own2 bel2; have O2 := Lib.hid own2; have B2 := Lib.hid (B1.out.trans bel2); clear own2 bel2)
      rw [rounds_succ]
      go_wp2_with (at_builtin; refine app1 elU8 _ _ rfl rfl rfl rfl O2.out (by have := HLN.out; simp; omega) (by have := HLN.out; simp; omega) B2.out.size ?_; intro v3 w3 own3 bel3; have O3 := Lib.hid own3; have B3 := Lib.hid (B2.out.trans bel3); clear own3 bel3)
      rw [rounds_succ]
      go_wp2_with fail
      go_roundw
      case rel => exact ⟨k + 1, by omega, by go_num, by rw [HT.out, EV.out]; simpa using O3.out, B3.out⟩
      case measure => simp [intOf]; omega
    · go_wp2_with fail
      go_ret2
      refine ⟨_, rfl, ?_, hbel⟩
      rw [List.take_of_length_le (by omega)] at hown
      exact hown

theorem ckE_zero {b : Int} {xs : List Int} (h : ckE b xs = 0) : wdH b ≠ 0 ∧ xs.length ≤ 4000 ∧ inR (wdH b) xs := by
  unfold ckE at h
  split at h
  · omega
  · split at h
    · omega
    · split at h
      · exact ⟨by assumption, by omega, by assumption⟩
      · omega

set_option maxHeartbeats 400000 in
theorem bytes_bad (b : Int) (A : Option Addr) (n c : Nat) (xs : List Int) (w : World) (hn : xs.length = n) (hm : n ≤ 9223372036854775807) (hx : I32 xs) (hs : Sl w w.heap.size .i32 A xs) (hck : ckE b xs ≠ 0)
    (hb0 : -9223372036854775808 ≤ b) (hb1 : b ≤ 9223372036854775807) :
    Calls Try.prog 16 #[.int .i64 b, .slice A n c] w fun e w' => e = .returned (.tuple #[.slice none 0 0, .int .i64 (ckE b xs)]) ∧ w = w' := by
  have CK := Lib.hid (wcheck_any b A n c xs w hn hm hx hs hb0 hb1)
  have hne : (ckE b xs != 0) = true := by simp [hck]
  generalize ckE b xs = ce at *
  clear hck hs
  go_enter Try.func16, Try.ntmps16
  go_wp2_with fail
  refine CK.out.mono ?_
  rintro e w' ⟨rfl, rfl⟩
  clear CK
  go_wp2_with fail
  go_ret2
  exact ⟨rfl, rfl⟩

theorem bytes_any (b : Int) (A : Option Addr) (n c : Nat) (xs : List Int) (w : World) (hn : xs.length = n) (hm : n ≤ 9223372036854775807) (hx : I32 xs) (hs : Sl w w.heap.size .i32 A xs)
    (hb0 : -9223372036854775808 ≤ b) (hb1 : b ≤ 9223372036854775807) :
    Calls Try.prog 16 #[.int .i64 b, .slice A n c] w fun e w' =>
      ∃ v, e = .returned (.tuple #[v, .int .i64 (ckE b xs)]) ∧ Own w' w.heap.size 5 .u8 v (byR b xs) ∧ Below w.heap.size w w' := by
  by_cases h : ckE b xs = 0
  · obtain ⟨h1, h2, h3⟩ := ckE_zero h
    rw [h, show byR b xs = byL b xs from if_pos h]
    rcases ok_cases h1 with rfl | rfl | rfl
    · exact bytes8_ok A n c xs w hn (by omega) hx hs h h3
    · exact bytes16_ok A n c xs w hn (by omega) hx hs h h3
    · exact bytes24_ok A n c xs w hn (by omega) hx hs h h3
  · refine (bytes_bad b A n c xs w hn hm hx hs h hb0 hb1).mono ?_
    rintro e w' ⟨rfl, rfl⟩
    exact ⟨_, rfl, by rw [show byR b xs = [] from if_neg h]; exact World.ownsRow_nil _ _ _ _, bel_self _⟩
end Go.Proofs.Ytfapkpegfgeliaa

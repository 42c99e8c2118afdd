/-
  The walk of WidthBack. Conditions: numbers within their types.
-/
import Derived.Test.YtfapkpegfgeliaaLaw18B
import Derived.Test.YtfapkpegfgeliaaLaw18C
namespace Go.Proofs.Ytfapkpegfgeliaa
open Go.RowKit
set_option linter.unusedVariables false

theorem saE_zero {b : Int} {n : Nat} (h : saE b n = 0) : wdH b ≠ 0 ∧ n % nB b = 0 ∧ n / nB b ≤ 4000 := by
  unfold saE at h
  split at h
  · omega
  · split at h
    · omega
    · split at h
      · omega
      · exact ⟨by assumption, by omega, by omega⟩
theorem ckE_saL {b : Int} {ys : List Int} (h : saE b ys.length = 0) (hy : U8 ys) : ckE b (saL b ys) = 0 ∧ byL b (saL b ys) = ys := by
  obtain ⟨h1, h2, h3⟩ := saE_zero h
  have hm : nB b * (ys.length / nB b) = ys.length := by
    have := Nat.div_add_mod ys.length (nB b)
    omega
  rw [show saL b ys = _ from if_pos h]
  constructor
  · unfold ckE
    rw [if_neg h1, if_neg (by rw [sampTo_len]; omega), if_pos (sampTo_in h1 hy _ (by omega))]
  · rw [byL_sampTo h1 hy _ (by omega), hm, List.take_of_length_le (Nat.le_refl _)]
theorem samples_n (b : Int) (A : Option Addr) (n c : Nat) (xs : List Int) (w : World) (hn : xs.length = n) (hm : n ≤ 9223372036854775807) (hx : U8 xs) (hs : Sl w w.heap.size .u8 A xs)
    (hb0 : -9223372036854775808 ≤ b) (hb1 : b ≤ 9223372036854775807) :
    Calls Try.prog 10 #[.int .i64 b, .slice A n c] w fun e w' =>
      ∃ v, e = .returned (.tuple #[v, .int .i64 (saE b xs.length)]) ∧ Own w' w.heap.size 21 .i32 v (saL b xs) ∧ Below w.heap.size w w' := by
  subst hn
  exact samples_any b A _ c xs w rfl hm hx hs hb0 hb1

set_option maxRecDepth 100000 in
set_option maxHeartbeats 1000000 in
theorem back_yy8 (A : Option Addr) (c : Nat) (xs : List Int) (A' : Option Addr) (c' : Nat) (ys : List Int) (w : World) (hx : I32 xs) (hs : Sl w w.heap.size .i32 A xs) (hy : U8 ys) (hs' : Sl w w.heap.size .u8 A' ys)
    (h1 : xs.length ≤ 4000) (h2 : ys.length ≤ 12000) (hck : ckE 8 xs = 0) (hsa : saE 8 ys.length = 0) :
    Calls Try.prog 6 #[.int .i64 8, .slice A xs.length c, .slice A' ys.length c'] w fun e w' => e = .returned (.bool true) ∧ Below w.heap.size w w' := by
  have SX := Lib.hid hs
  have SY := Lib.hid hs'
  have BB := Lib.hid (bel_self w)
  have CK := Lib.hid (fun (A : Option Addr) (n c : Nat) (W : World) (hn : xs.length = n) (h : Sl W W.heap.size .i32 A xs) => wcheck_any 8 A n c xs W hn (by omega) hx h (by decide) (by decide))
  have DS := Lib.hid (fun (A : Option Addr) (n c : Nat) (W : World) (hn : ys.length = n) (h : Sl W W.heap.size .u8 A ys) => samples_n 8 A n c ys W hn (by omega) hy h (by decide) (by decide))
  obtain ⟨hw, hl, hin⟩ := ckE_zero hck
  have LB := Lib.hid (show (byL 8 xs).length = xs.length from (byL_len hw xs).trans (Nat.one_mul _))
  have CB := Lib.hid (fun (A : Option Addr) (n c : Nat) (W : World) (hn : xs.length = n) (h : Sl W W.heap.size .i32 A xs) => bytes_any 8 A n c xs W hn (by omega) hx h (by decide) (by decide))
  have CS := Lib.hid (fun (A : Option Addr) (n c : Nat) (W : World) (hn : (byL 8 xs).length = n) (h : Sl W W.heap.size .u8 A (byL 8 xs)) => samples_n 8 A n c (byL 8 xs) W hn (by have := LB.out; omega) (byL_u8 8 xs) h (by decide) (by decide))
  rw [hck, show byR 8 xs = byL 8 xs from if_pos hck] at CB
  rw [hck] at CK
  rw [(saE_byL hck).1, (saE_byL hck).2] at CS
  have d1 : (8 * ((xs.length : Nat) : Int) != 8 * (xs.length : Int)) = false := by simp <;> omega
  clear hw hl hin
  obtain ⟨e1, e2⟩ := ckE_saL hsa hy
  have hlz := saL_len 8 ys
  have hiz : I32 (saL 8 ys) := inR_i32 (ckE_zero e1).2.2
  have DB := Lib.hid (fun (A : Option Addr) (n c : Nat) (W : World) (hn : (saL 8 ys).length = n) (h : Sl W W.heap.size .i32 A (saL 8 ys)) => bytes_any 8 A n c (saL 8 ys) W hn (by omega) hiz h (by decide) (by decide))
  have DK := Lib.hid (fun (A : Option Addr) (n c : Nat) (W : World) (hn : (saL 8 ys).length = n) (h : Sl W W.heap.size .i32 A (saL 8 ys)) => wcheck_any 8 A n c (saL 8 ys) W hn (by omega) hiz h (by decide) (by decide))
  rw [e1, show byR 8 (saL 8 ys) = ys from (if_pos e1).trans e2] at DB
  rw [e1] at DK
  rw [hsa] at DS
  have KC := Lib.hid (fun (W : World) (A : Option Addr) (c : Nat) (h : Sl W W.heap.size .u8 A ys) => conv_sl (P := Try.prog) (c := c) Try.underlying22 Try.underlying5 Try.underlying9 h rfl)
  clear e1 e2 hiz
  clear hs hs' hx hy hck hsa
  go_enter Try.func6, Try.ntmps6
  go_wp2_with fail
  refine (alive_any w).mono ?_
  rintro e w1 ⟨rfl, bel1⟩
  have SX := Lib.hid (SX.out.next bel1)
  have SY := Lib.hid (SY.out.next bel1)
  have BB := Lib.hid (bel_next BB.out bel1)
  clear bel1
  go_wp2_with fail
  refine (CK.out A _ c _ rfl SX.out).mono ?_
  rintro e w' ⟨rfl, rfl⟩
  go_wp2_with fail
  refine (CB.out A _ c _ rfl SX.out).mono ?_
  rintro e w2 ⟨v2, rfl, own2, bel2⟩
  obtain ⟨Aa, ca, rfl, hca, hma, sl2⟩ := own2.sln (LB.out)
  have Sa := Lib.hid sl2
  have SX := Lib.hid (SX.out.next bel2)
  have SY := Lib.hid (SY.out.next bel2)
  have BB := Lib.hid (bel_next BB.out bel2)
  clear own2 bel2 sl2
  go_wp2_with fail
  refine (CS.out _ _ _ _ LB.out Sa.out).mono ?_
  rintro e w3 ⟨v3, rfl, own3, bel3⟩
  obtain ⟨Ab, cb, rfl, _, _, sl3⟩ := own3.sl
  have Sb := Lib.hid sl3
  have SX := Lib.hid (SX.out.next bel3)
  have SY := Lib.hid (SY.out.next bel3)
  have Sa := Lib.hid (Sa.out.next bel3)
  have BB := Lib.hid (bel_next BB.out bel3)
  clear own3 bel3 sl3
  go_wp2_with fail
  refine (same13 Ab A _ _ cb c xs _ rfl rfl (by omega) Sb.out SX.out).mono ?_
  rintro e w4 ⟨rfl, bel4⟩
  have SX := Lib.hid (SX.out.next bel4)
  have SY := Lib.hid (SY.out.next bel4)
  have Sa := Lib.hid (Sa.out.next bel4)
  have Sb := Lib.hid (Sb.out.next bel4)
  have BB := Lib.hid (bel_next BB.out bel4)
  clear bel4
  go_wp2_with fail
  refine (DS.out A' _ c' _ rfl SY.out).mono ?_
  rintro e w5 ⟨v5, rfl, own5, bel5⟩
  obtain ⟨Ad, cd, rfl, _, _, sl5⟩ := own5.sl
  have Sd := Lib.hid sl5
  have SX := Lib.hid (SX.out.next bel5)
  have SY := Lib.hid (SY.out.next bel5)
  have Sa := Lib.hid (Sa.out.next bel5)
  have Sb := Lib.hid (Sb.out.next bel5)
  have BB := Lib.hid (bel_next BB.out bel5)
  clear own5 bel5 sl5
  go_wp2_with fail
  refine (DB.out _ _ _ _ rfl Sd.out).mono ?_
  rintro e w6 ⟨v6, rfl, own6, bel6⟩
  obtain ⟨Ae, ce, rfl, _, _, sl6⟩ := own6.sl
  have Se := Lib.hid sl6
  have SX := Lib.hid (SX.out.next bel6)
  have SY := Lib.hid (SY.out.next bel6)
  have Sa := Lib.hid (Sa.out.next bel6)
  have Sb := Lib.hid (Sb.out.next bel6)
  have Sd := Lib.hid (Sd.out.next bel6)
  have BB := Lib.hid (bel_next BB.out bel6)
  clear own6 bel6 sl6
  go_wp2_with fail
  refine (DK.out _ _ _ _ rfl Sd.out).mono ?_
  rintro e w' ⟨rfl, rfl⟩
  have k1 := KC.out _ Ae ce Se.out
  have k2 := KC.out _ A' c' SY.out
  go_wp2_with fail
  go_ret
  exact ⟨rfl, BB.out⟩

set_option maxRecDepth 100000 in
set_option maxHeartbeats 1000000 in
theorem back_yn8 (A : Option Addr) (c : Nat) (xs : List Int) (A' : Option Addr) (c' : Nat) (ys : List Int) (w : World) (hx : I32 xs) (hs : Sl w w.heap.size .i32 A xs) (hy : U8 ys) (hs' : Sl w w.heap.size .u8 A' ys)
    (h1 : xs.length ≤ 4000) (h2 : ys.length ≤ 12000) (hck : ckE 8 xs = 0) (hsa : saE 8 ys.length ≠ 0) :
    Calls Try.prog 6 #[.int .i64 8, .slice A xs.length c, .slice A' ys.length c'] w fun e w' => e = .returned (.bool true) ∧ Below w.heap.size w w' := by
  have SX := Lib.hid hs
  have SY := Lib.hid hs'
  have BB := Lib.hid (bel_self w)
  have CK := Lib.hid (fun (A : Option Addr) (n c : Nat) (W : World) (hn : xs.length = n) (h : Sl W W.heap.size .i32 A xs) => wcheck_any 8 A n c xs W hn (by omega) hx h (by decide) (by decide))
  have DS := Lib.hid (fun (A : Option Addr) (n c : Nat) (W : World) (hn : ys.length = n) (h : Sl W W.heap.size .u8 A ys) => samples_n 8 A n c ys W hn (by omega) hy h (by decide) (by decide))
  obtain ⟨hw, hl, hin⟩ := ckE_zero hck
  have LB := Lib.hid (show (byL 8 xs).length = xs.length from (byL_len hw xs).trans (Nat.one_mul _))
  have CB := Lib.hid (fun (A : Option Addr) (n c : Nat) (W : World) (hn : xs.length = n) (h : Sl W W.heap.size .i32 A xs) => bytes_any 8 A n c xs W hn (by omega) hx h (by decide) (by decide))
  have CS := Lib.hid (fun (A : Option Addr) (n c : Nat) (W : World) (hn : (byL 8 xs).length = n) (h : Sl W W.heap.size .u8 A (byL 8 xs)) => samples_n 8 A n c (byL 8 xs) W hn (by have := LB.out; omega) (byL_u8 8 xs) h (by decide) (by decide))
  rw [hck, show byR 8 xs = byL 8 xs from if_pos hck] at CB
  rw [hck] at CK
  rw [(saE_byL hck).1, (saE_byL hck).2] at CS
  have d1 : (8 * ((xs.length : Nat) : Int) != 8 * (xs.length : Int)) = false := by simp <;> omega
  clear hw hl hin
  have hse : (saE 8 ys.length != 0) = true := by simp [hsa]
  rw [show saL 8 ys = [] from if_neg hsa] at DS
  generalize saE 8 ys.length = se at *
  clear hs hs' hx hy hck hsa
  go_enter Try.func6, Try.ntmps6
  go_wp2_with fail
  refine (alive_any w).mono ?_
  rintro e w1 ⟨rfl, bel1⟩
  have SX := Lib.hid (SX.out.next bel1)
  have SY := Lib.hid (SY.out.next bel1)
  have BB := Lib.hid (bel_next BB.out bel1)
  clear bel1
  go_wp2_with fail
  refine (CK.out A _ c _ rfl SX.out).mono ?_
  rintro e w' ⟨rfl, rfl⟩
  go_wp2_with fail
  refine (CB.out A _ c _ rfl SX.out).mono ?_
  rintro e w2 ⟨v2, rfl, own2, bel2⟩
  obtain ⟨Aa, ca, rfl, hca, hma, sl2⟩ := own2.sln (LB.out)
  have Sa := Lib.hid sl2
  have SX := Lib.hid (SX.out.next bel2)
  have SY := Lib.hid (SY.out.next bel2)
  have BB := Lib.hid (bel_next BB.out bel2)
  clear own2 bel2 sl2
  go_wp2_with fail
  refine (CS.out _ _ _ _ LB.out Sa.out).mono ?_
  rintro e w3 ⟨v3, rfl, own3, bel3⟩
  obtain ⟨Ab, cb, rfl, _, _, sl3⟩ := own3.sl
  have Sb := Lib.hid sl3
  have SX := Lib.hid (SX.out.next bel3)
  have SY := Lib.hid (SY.out.next bel3)
  have Sa := Lib.hid (Sa.out.next bel3)
  have BB := Lib.hid (bel_next BB.out bel3)
  clear own3 bel3 sl3
  go_wp2_with fail
  refine (same13 Ab A _ _ cb c xs _ rfl rfl (by omega) Sb.out SX.out).mono ?_
  rintro e w4 ⟨rfl, bel4⟩
  have SX := Lib.hid (SX.out.next bel4)
  have SY := Lib.hid (SY.out.next bel4)
  have Sa := Lib.hid (Sa.out.next bel4)
  have Sb := Lib.hid (Sb.out.next bel4)
  have BB := Lib.hid (bel_next BB.out bel4)
  clear bel4
  go_wp2_with fail
  refine (DS.out A' _ c' _ rfl SY.out).mono ?_
  rintro e w5 ⟨v5, rfl, own5, bel5⟩
  obtain ⟨Ad, cd, rfl, _, _, sl5⟩ := own5.sl
  have Sd := Lib.hid sl5
  have SX := Lib.hid (SX.out.next bel5)
  have SY := Lib.hid (SY.out.next bel5)
  have Sa := Lib.hid (Sa.out.next bel5)
  have Sb := Lib.hid (Sb.out.next bel5)
  have BB := Lib.hid (bel_next BB.out bel5)
  clear own5 bel5 sl5
  go_wp2_with fail
  go_ret
  exact ⟨rfl, BB.out⟩

set_option maxRecDepth 100000 in
set_option maxHeartbeats 1000000 in
theorem back_yy16 (A : Option Addr) (c : Nat) (xs : List Int) (A' : Option Addr) (c' : Nat) (ys : List Int) (w : World) (hx : I32 xs) (hs : Sl w w.heap.size .i32 A xs) (hy : U8 ys) (hs' : Sl w w.heap.size .u8 A' ys)
    (h1 : xs.length ≤ 4000) (h2 : ys.length ≤ 12000) (hck : ckE 16 xs = 0) (hsa : saE 16 ys.length = 0) :
    Calls Try.prog 6 #[.int .i64 16, .slice A xs.length c, .slice A' ys.length c'] w fun e w' => e = .returned (.bool true) ∧ Below w.heap.size w w' := by
  have SX := Lib.hid hs
  have SY := Lib.hid hs'
  have BB := Lib.hid (bel_self w)
  have CK := Lib.hid (fun (A : Option Addr) (n c : Nat) (W : World) (hn : xs.length = n) (h : Sl W W.heap.size .i32 A xs) => wcheck_any 16 A n c xs W hn (by omega) hx h (by decide) (by decide))
  have DS := Lib.hid (fun (A : Option Addr) (n c : Nat) (W : World) (hn : ys.length = n) (h : Sl W W.heap.size .u8 A ys) => samples_n 16 A n c ys W hn (by omega) hy h (by decide) (by decide))
  obtain ⟨hw, hl, hin⟩ := ckE_zero hck
  have LB := Lib.hid (show (byL 16 xs).length = 2 * xs.length from byL_len hw xs)
  have CB := Lib.hid (fun (A : Option Addr) (n c : Nat) (W : World) (hn : xs.length = n) (h : Sl W W.heap.size .i32 A xs) => bytes_any 16 A n c xs W hn (by omega) hx h (by decide) (by decide))
  have CS := Lib.hid (fun (A : Option Addr) (n c : Nat) (W : World) (hn : (byL 16 xs).length = n) (h : Sl W W.heap.size .u8 A (byL 16 xs)) => samples_n 16 A n c (byL 16 xs) W hn (by have := LB.out; omega) (byL_u8 16 xs) h (by decide) (by decide))
  rw [hck, show byR 16 xs = byL 16 xs from if_pos hck] at CB
  rw [hck] at CK
  rw [(saE_byL hck).1, (saE_byL hck).2] at CS
  have d1 : (8 * ((2 * xs.length : Nat) : Int) != 16 * (xs.length : Int)) = false := by simp <;> omega
  clear hw hl hin
  obtain ⟨e1, e2⟩ := ckE_saL hsa hy
  have hlz := saL_len 16 ys
  have hiz : I32 (saL 16 ys) := inR_i32 (ckE_zero e1).2.2
  have DB := Lib.hid (fun (A : Option Addr) (n c : Nat) (W : World) (hn : (saL 16 ys).length = n) (h : Sl W W.heap.size .i32 A (saL 16 ys)) => bytes_any 16 A n c (saL 16 ys) W hn (by omega) hiz h (by decide) (by decide))
  have DK := Lib.hid (fun (A : Option Addr) (n c : Nat) (W : World) (hn : (saL 16 ys).length = n) (h : Sl W W.heap.size .i32 A (saL 16 ys)) => wcheck_any 16 A n c (saL 16 ys) W hn (by omega) hiz h (by decide) (by decide))
  rw [e1, show byR 16 (saL 16 ys) = ys from (if_pos e1).trans e2] at DB
  rw [e1] at DK
  rw [hsa] at DS
  have KC := Lib.hid (fun (W : World) (A : Option Addr) (c : Nat) (h : Sl W W.heap.size .u8 A ys) => conv_sl (P := Try.prog) (c := c) Try.underlying22 Try.underlying5 Try.underlying9 h rfl)
  clear e1 e2 hiz
  clear hs hs' hx hy hck hsa
  go_enter Try.func6, Try.ntmps6
  go_wp2_with fail
  refine (alive_any w).mono ?_
  rintro e w1 ⟨rfl, bel1⟩
  have SX := Lib.hid (SX.out.next bel1)
  have SY := Lib.hid (SY.out.next bel1)
  have BB := Lib.hid (bel_next BB.out bel1)
  clear bel1
  go_wp2_with fail
  refine (CK.out A _ c _ rfl SX.out).mono ?_
  rintro e w' ⟨rfl, rfl⟩
  go_wp2_with fail
  refine (CB.out A _ c _ rfl SX.out).mono ?_
  rintro e w2 ⟨v2, rfl, own2, bel2⟩
  obtain ⟨Aa, ca, rfl, hca, hma, sl2⟩ := own2.sln (LB.out)
  have Sa := Lib.hid sl2
  have SX := Lib.hid (SX.out.next bel2)
  have SY := Lib.hid (SY.out.next bel2)
  have BB := Lib.hid (bel_next BB.out bel2)
  clear own2 bel2 sl2
  go_wp2_with fail
  refine (CS.out _ _ _ _ LB.out Sa.out).mono ?_
  rintro e w3 ⟨v3, rfl, own3, bel3⟩
  obtain ⟨Ab, cb, rfl, _, _, sl3⟩ := own3.sl
  have Sb := Lib.hid sl3
  have SX := Lib.hid (SX.out.next bel3)
  have SY := Lib.hid (SY.out.next bel3)
  have Sa := Lib.hid (Sa.out.next bel3)
  have BB := Lib.hid (bel_next BB.out bel3)
  clear own3 bel3 sl3
  go_wp2_with fail
  refine (same13 Ab A _ _ cb c xs _ rfl rfl (by omega) Sb.out SX.out).mono ?_
  rintro e w4 ⟨rfl, bel4⟩
  have SX := Lib.hid (SX.out.next bel4)
  have SY := Lib.hid (SY.out.next bel4)
  have Sa := Lib.hid (Sa.out.next bel4)
  have Sb := Lib.hid (Sb.out.next bel4)
  have BB := Lib.hid (bel_next BB.out bel4)
  clear bel4
  go_wp2_with fail
  refine (DS.out A' _ c' _ rfl SY.out).mono ?_
  rintro e w5 ⟨v5, rfl, own5, bel5⟩
  obtain ⟨Ad, cd, rfl, _, _, sl5⟩ := own5.sl
  have Sd := Lib.hid sl5
  have SX := Lib.hid (SX.out.next bel5)
  have SY := Lib.hid (SY.out.next bel5)
  have Sa := Lib.hid (Sa.out.next bel5)
  have Sb := Lib.hid (Sb.out.next bel5)
  have BB := Lib.hid (bel_next BB.out bel5)
  clear own5 bel5 sl5
  go_wp2_with fail
  refine (DB.out _ _ _ _ rfl Sd.out).mono ?_
  rintro e w6 ⟨v6, rfl, own6, bel6⟩
  obtain ⟨Ae, ce, rfl, _, _, sl6⟩ := own6.sl
  have Se := Lib.hid sl6
  have SX := Lib.hid (SX.out.next bel6)
  have SY := Lib.hid (SY.out.next bel6)
  have Sa := Lib.hid (Sa.out.next bel6)
  have Sb := Lib.hid (Sb.out.next bel6)
  have Sd := Lib.hid (Sd.out.next bel6)
  have BB := Lib.hid (bel_next BB.out bel6)
  clear own6 bel6 sl6
  go_wp2_with fail
  refine (DK.out _ _ _ _ rfl Sd.out).mono ?_
  rintro e w' ⟨rfl, rfl⟩
  have k1 := KC.out _ Ae ce Se.out
  have k2 := KC.out _ A' c' SY.out
  go_wp2_with fail
  go_ret
  exact ⟨rfl, BB.out⟩

set_option maxRecDepth 100000 in
set_option maxHeartbeats 1000000 in
theorem back_yn16 (A : Option Addr) (c : Nat) (xs : List Int) (A' : Option Addr) (c' : Nat) (ys : List Int) (w : World) (hx : I32 xs) (hs : Sl w w.heap.size .i32 A xs) (hy : U8 ys) (hs' : Sl w w.heap.size .u8 A' ys)
    (h1 : xs.length ≤ 4000) (h2 : ys.length ≤ 12000) (hck : ckE 16 xs = 0) (hsa : saE 16 ys.length ≠ 0) :
    Calls Try.prog 6 #[.int .i64 16, .slice A xs.length c, .slice A' ys.length c'] w fun e w' => e = .returned (.bool true) ∧ Below w.heap.size w w' := by
  have SX := Lib.hid hs
  have SY := Lib.hid hs'
  have BB := Lib.hid (bel_self w)
  have CK := Lib.hid (fun (A : Option Addr) (n c : Nat) (W : World) (hn : xs.length = n) (h : Sl W W.heap.size .i32 A xs) => wcheck_any 16 A n c xs W hn (by omega) hx h (by decide) (by decide))
  have DS := Lib.hid (fun (A : Option Addr) (n c : Nat) (W : World) (hn : ys.length = n) (h : Sl W W.heap.size .u8 A ys) => samples_n 16 A n c ys W hn (by omega) hy h (by decide) (by decide))
  obtain ⟨hw, hl, hin⟩ := ckE_zero hck
  have LB := Lib.hid (show (byL 16 xs).length = 2 * xs.length from byL_len hw xs)
  have CB := Lib.hid (fun (A : Option Addr) (n c : Nat) (W : World) (hn : xs.length = n) (h : Sl W W.heap.size .i32 A xs) => bytes_any 16 A n c xs W hn (by omega) hx h (by decide) (by decide))
  have CS := Lib.hid (fun (A : Option Addr) (n c : Nat) (W : World) (hn : (byL 16 xs).length = n) (h : Sl W W.heap.size .u8 A (byL 16 xs)) => samples_n 16 A n c (byL 16 xs) W hn (by have := LB.out; omega) (byL_u8 16 xs) h (by decide) (by decide))
  rw [hck, show byR 16 xs = byL 16 xs from if_pos hck] at CB
  rw [hck] at CK
  rw [(saE_byL hck).1, (saE_byL hck).2] at CS
  have d1 : (8 * ((2 * xs.length : Nat) : Int) != 16 * (xs.length : Int)) = false := by simp <;> omega
  clear hw hl hin
  have hse : (saE 16 ys.length != 0) = true := by simp [hsa]
  rw [show saL 16 ys = [] from if_neg hsa] at DS
  generalize saE 16 ys.length = se at *
  clear hs hs' hx hy hck hsa
  go_enter Try.func6, Try.ntmps6
  go_wp2_with fail
  refine (alive_any w).mono ?_
  rintro e w1 ⟨rfl, bel1⟩
  have SX := Lib.hid (SX.out.next bel1)
  have SY := Lib.hid (SY.out.next bel1)
  have BB := Lib.hid (bel_next BB.out bel1)
  clear bel1
  go_wp2_with fail
  refine (CK.out A _ c _ rfl SX.out).mono ?_
  rintro e w' ⟨rfl, rfl⟩
  go_wp2_with fail
  refine (CB.out A _ c _ rfl SX.out).mono ?_
  rintro e w2 ⟨v2, rfl, own2, bel2⟩
  obtain ⟨Aa, ca, rfl, hca, hma, sl2⟩ := own2.sln (LB.out)
  have Sa := Lib.hid sl2
  have SX := Lib.hid (SX.out.next bel2)
  have SY := Lib.hid (SY.out.next bel2)
  have BB := Lib.hid (bel_next BB.out bel2)
  clear own2 bel2 sl2
  go_wp2_with fail
  refine (CS.out _ _ _ _ LB.out Sa.out).mono ?_
  rintro e w3 ⟨v3, rfl, own3, bel3⟩
  obtain ⟨Ab, cb, rfl, _, _, sl3⟩ := own3.sl
  have Sb := Lib.hid sl3
  have SX := Lib.hid (SX.out.next bel3)
  have SY := Lib.hid (SY.out.next bel3)
  have Sa := Lib.hid (Sa.out.next bel3)
  have BB := Lib.hid (bel_next BB.out bel3)
  clear own3 bel3 sl3
  go_wp2_with fail
  refine (same13 Ab A _ _ cb c xs _ rfl rfl (by omega) Sb.out SX.out).mono ?_
  rintro e w4 ⟨rfl, bel4⟩
  have SX := Lib.hid (SX.out.next bel4)
  have SY := Lib.hid (SY.out.next bel4)
  have Sa := Lib.hid (Sa.out.next bel4)
  have Sb := Lib.hid (Sb.out.next bel4)
  have BB := Lib.hid (bel_next BB.out bel4)
  clear bel4
  go_wp2_with fail
  refine (DS.out A' _ c' _ rfl SY.out).mono ?_
  rintro e w5 ⟨v5, rfl, own5, bel5⟩
  obtain ⟨Ad, cd, rfl, _, _, sl5⟩ := own5.sl
  have Sd := Lib.hid sl5
  have SX := Lib.hid (SX.out.next bel5)
  have SY := Lib.hid (SY.out.next bel5)
  have Sa := Lib.hid (Sa.out.next bel5)
  have Sb := Lib.hid (Sb.out.next bel5)
  have BB := Lib.hid (bel_next BB.out bel5)
  clear own5 bel5 sl5
  go_wp2_with fail
  go_ret
  exact ⟨rfl, BB.out⟩

set_option maxRecDepth 100000 in
set_option maxHeartbeats 1000000 in
theorem back_yy24 (A : Option Addr) (c : Nat) (xs : List Int) (A' : Option Addr) (c' : Nat) (ys : List Int) (w : World) (hx : I32 xs) (hs : Sl w w.heap.size .i32 A xs) (hy : U8 ys) (hs' : Sl w w.heap.size .u8 A' ys)
    (h1 : xs.length ≤ 4000) (h2 : ys.length ≤ 12000) (hck : ckE 24 xs = 0) (hsa : saE 24 ys.length = 0) :
    Calls Try.prog 6 #[.int .i64 24, .slice A xs.length c, .slice A' ys.length c'] w fun e w' => e = .returned (.bool true) ∧ Below w.heap.size w w' := by
  have SX := Lib.hid hs
  have SY := Lib.hid hs'
  have BB := Lib.hid (bel_self w)
  have CK := Lib.hid (fun (A : Option Addr) (n c : Nat) (W : World) (hn : xs.length = n) (h : Sl W W.heap.size .i32 A xs) => wcheck_any 24 A n c xs W hn (by omega) hx h (by decide) (by decide))
  have DS := Lib.hid (fun (A : Option Addr) (n c : Nat) (W : World) (hn : ys.length = n) (h : Sl W W.heap.size .u8 A ys) => samples_n 24 A n c ys W hn (by omega) hy h (by decide) (by decide))
  obtain ⟨hw, hl, hin⟩ := ckE_zero hck
  have LB := Lib.hid (show (byL 24 xs).length = 3 * xs.length from byL_len hw xs)
  have CB := Lib.hid (fun (A : Option Addr) (n c : Nat) (W : World) (hn : xs.length = n) (h : Sl W W.heap.size .i32 A xs) => bytes_any 24 A n c xs W hn (by omega) hx h (by decide) (by decide))
  have CS := Lib.hid (fun (A : Option Addr) (n c : Nat) (W : World) (hn : (byL 24 xs).length = n) (h : Sl W W.heap.size .u8 A (byL 24 xs)) => samples_n 24 A n c (byL 24 xs) W hn (by have := LB.out; omega) (byL_u8 24 xs) h (by decide) (by decide))
  rw [hck, show byR 24 xs = byL 24 xs from if_pos hck] at CB
  rw [hck] at CK
  rw [(saE_byL hck).1, (saE_byL hck).2] at CS
  have d1 : (8 * ((3 * xs.length : Nat) : Int) != 24 * (xs.length : Int)) = false := by simp <;> omega
  clear hw hl hin
  obtain ⟨e1, e2⟩ := ckE_saL hsa hy
  have hlz := saL_len 24 ys
  have hiz : I32 (saL 24 ys) := inR_i32 (ckE_zero e1).2.2
  have DB := Lib.hid (fun (A : Option Addr) (n c : Nat) (W : World) (hn : (saL 24 ys).length = n) (h : Sl W W.heap.size .i32 A (saL 24 ys)) => bytes_any 24 A n c (saL 24 ys) W hn (by omega) hiz h (by decide) (by decide))
  have DK := Lib.hid (fun (A : Option Addr) (n c : Nat) (W : World) (hn : (saL 24 ys).length = n) (h : Sl W W.heap.size .i32 A (saL 24 ys)) => wcheck_any 24 A n c (saL 24 ys) W hn (by omega) hiz h (by decide) (by decide))
  rw [e1, show byR 24 (saL 24 ys) = ys from (if_pos e1).trans e2] at DB
  rw [e1] at DK
  rw [hsa] at DS
  have KC := Lib.hid (fun (W : World) (A : Option Addr) (c : Nat) (h : Sl W W.heap.size .u8 A ys) => conv_sl (P := Try.prog) (c := c) Try.underlying22 Try.underlying5 Try.underlying9 h rfl)
  clear e1 e2 hiz
  clear hs hs' hx hy hck hsa
  go_enter Try.func6, Try.ntmps6
  go_wp2_with fail
  refine (alive_any w).mono ?_
  rintro e w1 ⟨rfl, bel1⟩
  have SX := Lib.hid (SX.out.next bel1)
  have SY := Lib.hid (SY.out.next bel1)
  have BB := Lib.hid (bel_next BB.out bel1)
  clear bel1
  go_wp2_with fail
  refine (CK.out A _ c _ rfl SX.out).mono ?_
  rintro e w' ⟨rfl, rfl⟩
  go_wp2_with fail
  refine (CB.out A _ c _ rfl SX.out).mono ?_
  rintro e w2 ⟨v2, rfl, own2, bel2⟩
  obtain ⟨Aa, ca, rfl, hca, hma, sl2⟩ := own2.sln (LB.out)
  have Sa := Lib.hid sl2
  have SX := Lib.hid (SX.out.next bel2)
  have SY := Lib.hid (SY.out.next bel2)
  have BB := Lib.hid (bel_next BB.out bel2)
  clear own2 bel2 sl2
  go_wp2_with fail
  refine (CS.out _ _ _ _ LB.out Sa.out).mono ?_
  rintro e w3 ⟨v3, rfl, own3, bel3⟩
  obtain ⟨Ab, cb, rfl, _, _, sl3⟩ := own3.sl
  have Sb := Lib.hid sl3
  have SX := Lib.hid (SX.out.next bel3)
  have SY := Lib.hid (SY.out.next bel3)
  have Sa := Lib.hid (Sa.out.next bel3)
  have BB := Lib.hid (bel_next BB.out bel3)
  clear own3 bel3 sl3
  go_wp2_with fail
  refine (same13 Ab A _ _ cb c xs _ rfl rfl (by omega) Sb.out SX.out).mono ?_
  rintro e w4 ⟨rfl, bel4⟩
  have SX := Lib.hid (SX.out.next bel4)
  have SY := Lib.hid (SY.out.next bel4)
  have Sa := Lib.hid (Sa.out.next bel4)
  have Sb := Lib.hid (Sb.out.next bel4)
  have BB := Lib.hid (bel_next BB.out bel4)
  clear bel4
  go_wp2_with fail
  refine (DS.out A' _ c' _ rfl SY.out).mono ?_
  rintro e w5 ⟨v5, rfl, own5, bel5⟩
  obtain ⟨Ad, cd, rfl, _, _, sl5⟩ := own5.sl
  have Sd := Lib.hid sl5
  have SX := Lib.hid (SX.out.next bel5)
  have SY := Lib.hid (SY.out.next bel5)
  have Sa := Lib.hid (Sa.out.next bel5)
  have Sb := Lib.hid (Sb.out.next bel5)
  have BB := Lib.hid (bel_next BB.out bel5)
  clear own5 bel5 sl5
  go_wp2_with fail
  refine (DB.out _ _ _ _ rfl Sd.out).mono ?_
  rintro e w6 ⟨v6, rfl, own6, bel6⟩
  obtain ⟨Ae, ce, rfl, _, _, sl6⟩ := own6.sl
  have Se := Lib.hid sl6
  have SX := Lib.hid (SX.out.next bel6)
  have SY := Lib.hid (SY.out.next bel6)
  have Sa := Lib.hid (Sa.out.next bel6)
  have Sb := Lib.hid (Sb.out.next bel6)
  have Sd := Lib.hid (Sd.out.next bel6)
  have BB := Lib.hid (bel_next BB.out bel6)
  clear own6 bel6 sl6
  go_wp2_with fail
  refine (DK.out _ _ _ _ rfl Sd.out).mono ?_
  rintro e w' ⟨rfl, rfl⟩
  have k1 := KC.out _ Ae ce Se.out
  have k2 := KC.out _ A' c' SY.out
  go_wp2_with fail
  go_ret
  exact ⟨rfl, BB.out⟩

set_option maxRecDepth 100000 in
set_option maxHeartbeats 1000000 in
theorem back_yn24 (A : Option Addr) (c : Nat) (xs : List Int) (A' : Option Addr) (c' : Nat) (ys : List Int) (w : World) (hx : I32 xs) (hs : Sl w w.heap.size .i32 A xs) (hy : U8 ys) (hs' : Sl w w.heap.size .u8 A' ys)
    (h1 : xs.length ≤ 4000) (h2 : ys.length ≤ 12000) (hck : ckE 24 xs = 0) (hsa : saE 24 ys.length ≠ 0) :
    Calls Try.prog 6 #[.int .i64 24, .slice A xs.length c, .slice A' ys.length c'] w fun e w' => e = .returned (.bool true) ∧ Below w.heap.size w w' := by
  have SX := Lib.hid hs
  have SY := Lib.hid hs'
  have BB := Lib.hid (bel_self w)
  have CK := Lib.hid (fun (A : Option Addr) (n c : Nat) (W : World) (hn : xs.length = n) (h : Sl W W.heap.size .i32 A xs) => wcheck_any 24 A n c xs W hn (by omega) hx h (by decide) (by decide))
  have DS := Lib.hid (fun (A : Option Addr) (n c : Nat) (W : World) (hn : ys.length = n) (h : Sl W W.heap.size .u8 A ys) => samples_n 24 A n c ys W hn (by omega) hy h (by decide) (by decide))
  obtain ⟨hw, hl, hin⟩ := ckE_zero hck
  have LB := Lib.hid (show (byL 24 xs).length = 3 * xs.length from byL_len hw xs)
  have CB := Lib.hid (fun (A : Option Addr) (n c : Nat) (W : World) (hn : xs.length = n) (h : Sl W W.heap.size .i32 A xs) => bytes_any 24 A n c xs W hn (by omega) hx h (by decide) (by decide))
  have CS := Lib.hid (fun (A : Option Addr) (n c : Nat) (W : World) (hn : (byL 24 xs).length = n) (h : Sl W W.heap.size .u8 A (byL 24 xs)) => samples_n 24 A n c (byL 24 xs) W hn (by have := LB.out; omega) (byL_u8 24 xs) h (by decide) (by decide))
  rw [hck, show byR 24 xs = byL 24 xs from if_pos hck] at CB
  rw [hck] at CK
  rw [(saE_byL hck).1, (saE_byL hck).2] at CS
  have d1 : (8 * ((3 * xs.length : Nat) : Int) != 24 * (xs.length : Int)) = false := by simp <;> omega
  clear hw hl hin
  have hse : (saE 24 ys.length != 0) = true := by simp [hsa]
  rw [show saL 24 ys = [] from if_neg hsa] at DS
  generalize saE 24 ys.length = se at *
  clear hs hs' hx hy hck hsa
  go_enter Try.func6, Try.ntmps6
  go_wp2_with fail
  refine (alive_any w).mono ?_
  rintro e w1 ⟨rfl, bel1⟩
  have SX := Lib.hid (SX.out.next bel1)
  have SY := Lib.hid (SY.out.next bel1)
  have BB := Lib.hid (bel_next BB.out bel1)
  clear bel1
  go_wp2_with fail
  refine (CK.out A _ c _ rfl SX.out).mono ?_
  rintro e w' ⟨rfl, rfl⟩
  go_wp2_with fail
  refine (CB.out A _ c _ rfl SX.out).mono ?_
  rintro e w2 ⟨v2, rfl, own2, bel2⟩
  obtain ⟨Aa, ca, rfl, hca, hma, sl2⟩ := own2.sln (LB.out)
  have Sa := Lib.hid sl2
  have SX := Lib.hid (SX.out.next bel2)
  have SY := Lib.hid (SY.out.next bel2)
  have BB := Lib.hid (bel_next BB.out bel2)
  clear own2 bel2 sl2
  go_wp2_with fail
  refine (CS.out _ _ _ _ LB.out Sa.out).mono ?_
  rintro e w3 ⟨v3, rfl, own3, bel3⟩
  obtain ⟨Ab, cb, rfl, _, _, sl3⟩ := own3.sl
  have Sb := Lib.hid sl3
  have SX := Lib.hid (SX.out.next bel3)
  have SY := Lib.hid (SY.out.next bel3)
  have Sa := Lib.hid (Sa.out.next bel3)
  have BB := Lib.hid (bel_next BB.out bel3)
  clear own3 bel3 sl3
  go_wp2_with fail
  refine (same13 Ab A _ _ cb c xs _ rfl rfl (by omega) Sb.out SX.out).mono ?_
  rintro e w4 ⟨rfl, bel4⟩
  have SX := Lib.hid (SX.out.next bel4)
  have SY := Lib.hid (SY.out.next bel4)
  have Sa := Lib.hid (Sa.out.next bel4)
  have Sb := Lib.hid (Sb.out.next bel4)
  have BB := Lib.hid (bel_next BB.out bel4)
  clear bel4
  go_wp2_with fail
  refine (DS.out A' _ c' _ rfl SY.out).mono ?_
  rintro e w5 ⟨v5, rfl, own5, bel5⟩
  obtain ⟨Ad, cd, rfl, _, _, sl5⟩ := own5.sl
  have Sd := Lib.hid sl5
  have SX := Lib.hid (SX.out.next bel5)
  have SY := Lib.hid (SY.out.next bel5)
  have Sa := Lib.hid (Sa.out.next bel5)
  have Sb := Lib.hid (Sb.out.next bel5)
  have BB := Lib.hid (bel_next BB.out bel5)
  clear own5 bel5 sl5
  go_wp2_with fail
  go_ret
  exact ⟨rfl, BB.out⟩

set_option maxRecDepth 100000 in
set_option maxHeartbeats 1000000 in
theorem back_ny (b : Int) (A : Option Addr) (c : Nat) (xs : List Int) (A' : Option Addr) (c' : Nat) (ys : List Int) (w : World) (hb0 : -9223372036854775808 ≤ b) (hb1 : b ≤ 9223372036854775807) (hx : I32 xs) (hs : Sl w w.heap.size .i32 A xs) (hy : U8 ys) (hs' : Sl w w.heap.size .u8 A' ys)
    (h1 : xs.length ≤ 4000) (h2 : ys.length ≤ 12000) (hck : ckE b xs ≠ 0) (hsa : saE b ys.length = 0) :
    Calls Try.prog 6 #[.int .i64 b, .slice A xs.length c, .slice A' ys.length c'] w fun e w' => e = .returned (.bool true) ∧ Below w.heap.size w w' := by
  have SX := Lib.hid hs
  have SY := Lib.hid hs'
  have BB := Lib.hid (bel_self w)
  have CK := Lib.hid (fun (A : Option Addr) (n c : Nat) (W : World) (hn : xs.length = n) (h : Sl W W.heap.size .i32 A xs) => wcheck_any b A n c xs W hn (by omega) hx h hb0 hb1)
  have DS := Lib.hid (fun (A : Option Addr) (n c : Nat) (W : World) (hn : ys.length = n) (h : Sl W W.heap.size .u8 A ys) => samples_n b A n c ys W hn (by omega) hy h hb0 hb1)
  have hne : (ckE b xs == 0) = false := by simp [hck]
  generalize ckE b xs = ce at *
  obtain ⟨e1, e2⟩ := ckE_saL hsa hy
  have hlz := saL_len b ys
  have hiz : I32 (saL b ys) := inR_i32 (ckE_zero e1).2.2
  have DB := Lib.hid (fun (A : Option Addr) (n c : Nat) (W : World) (hn : (saL b ys).length = n) (h : Sl W W.heap.size .i32 A (saL b ys)) => bytes_any b A n c (saL b ys) W hn (by omega) hiz h hb0 hb1)
  have DK := Lib.hid (fun (A : Option Addr) (n c : Nat) (W : World) (hn : (saL b ys).length = n) (h : Sl W W.heap.size .i32 A (saL b ys)) => wcheck_any b A n c (saL b ys) W hn (by omega) hiz h hb0 hb1)
  rw [e1, show byR b (saL b ys) = ys from (if_pos e1).trans e2] at DB
  rw [e1] at DK
  rw [hsa] at DS
  have KC := Lib.hid (fun (W : World) (A : Option Addr) (c : Nat) (h : Sl W W.heap.size .u8 A ys) => conv_sl (P := Try.prog) (c := c) Try.underlying22 Try.underlying5 Try.underlying9 h rfl)
  clear e1 e2 hiz
  clear hs hs' hx hy hck hsa
  go_enter Try.func6, Try.ntmps6
  go_wp2_with fail
  refine (alive_any w).mono ?_
  rintro e w1 ⟨rfl, bel1⟩
  have SX := Lib.hid (SX.out.next bel1)
  have SY := Lib.hid (SY.out.next bel1)
  have BB := Lib.hid (bel_next BB.out bel1)
  clear bel1
  go_wp2_with fail
  refine (CK.out A _ c _ rfl SX.out).mono ?_
  rintro e w' ⟨rfl, rfl⟩
  go_wp2_with fail
  refine (DS.out A' _ c' _ rfl SY.out).mono ?_
  rintro e w2 ⟨v2, rfl, own2, bel2⟩
  obtain ⟨Ad, cd, rfl, _, _, sl2⟩ := own2.sl
  have Sd := Lib.hid sl2
  have SX := Lib.hid (SX.out.next bel2)
  have SY := Lib.hid (SY.out.next bel2)
  have BB := Lib.hid (bel_next BB.out bel2)
  clear own2 bel2 sl2
  go_wp2_with fail
  refine (DB.out _ _ _ _ rfl Sd.out).mono ?_
  rintro e w3 ⟨v3, rfl, own3, bel3⟩
  obtain ⟨Ae, ce, rfl, _, _, sl3⟩ := own3.sl
  have Se := Lib.hid sl3
  have SX := Lib.hid (SX.out.next bel3)
  have SY := Lib.hid (SY.out.next bel3)
  have Sd := Lib.hid (Sd.out.next bel3)
  have BB := Lib.hid (bel_next BB.out bel3)
  clear own3 bel3 sl3
  go_wp2_with fail
  refine (DK.out _ _ _ _ rfl Sd.out).mono ?_
  rintro e w' ⟨rfl, rfl⟩
  have k1 := KC.out _ Ae ce Se.out
  have k2 := KC.out _ A' c' SY.out
  go_wp2_with fail
  go_ret
  exact ⟨rfl, BB.out⟩

set_option maxRecDepth 100000 in
set_option maxHeartbeats 1000000 in
theorem back_nn (b : Int) (A : Option Addr) (c : Nat) (xs : List Int) (A' : Option Addr) (c' : Nat) (ys : List Int) (w : World) (hb0 : -9223372036854775808 ≤ b) (hb1 : b ≤ 9223372036854775807) (hx : I32 xs) (hs : Sl w w.heap.size .i32 A xs) (hy : U8 ys) (hs' : Sl w w.heap.size .u8 A' ys)
    (h1 : xs.length ≤ 4000) (h2 : ys.length ≤ 12000) (hck : ckE b xs ≠ 0) (hsa : saE b ys.length ≠ 0) :
    Calls Try.prog 6 #[.int .i64 b, .slice A xs.length c, .slice A' ys.length c'] w fun e w' => e = .returned (.bool true) ∧ Below w.heap.size w w' := by
  have SX := Lib.hid hs
  have SY := Lib.hid hs'
  have BB := Lib.hid (bel_self w)
  have CK := Lib.hid (fun (A : Option Addr) (n c : Nat) (W : World) (hn : xs.length = n) (h : Sl W W.heap.size .i32 A xs) => wcheck_any b A n c xs W hn (by omega) hx h hb0 hb1)
  have DS := Lib.hid (fun (A : Option Addr) (n c : Nat) (W : World) (hn : ys.length = n) (h : Sl W W.heap.size .u8 A ys) => samples_n b A n c ys W hn (by omega) hy h hb0 hb1)
  have hne : (ckE b xs == 0) = false := by simp [hck]
  generalize ckE b xs = ce at *
  have hse : (saE b ys.length != 0) = true := by simp [hsa]
  rw [show saL b ys = [] from if_neg hsa] at DS
  generalize saE b ys.length = se at *
  clear hs hs' hx hy hck hsa
  go_enter Try.func6, Try.ntmps6
  go_wp2_with fail
  refine (alive_any w).mono ?_
  rintro e w1 ⟨rfl, bel1⟩
  have SX := Lib.hid (SX.out.next bel1)
  have SY := Lib.hid (SY.out.next bel1)
  have BB := Lib.hid (bel_next BB.out bel1)
  clear bel1
  go_wp2_with fail
  refine (CK.out A _ c _ rfl SX.out).mono ?_
  rintro e w' ⟨rfl, rfl⟩
  go_wp2_with fail
  refine (DS.out A' _ c' _ rfl SY.out).mono ?_
  rintro e w2 ⟨v2, rfl, own2, bel2⟩
  obtain ⟨Ad, cd, rfl, _, _, sl2⟩ := own2.sl
  have Sd := Lib.hid sl2
  have SX := Lib.hid (SX.out.next bel2)
  have SY := Lib.hid (SY.out.next bel2)
  have BB := Lib.hid (bel_next BB.out bel2)
  clear own2 bel2 sl2
  go_wp2_with fail
  go_ret
  exact ⟨rfl, BB.out⟩

set_option maxRecDepth 100000 in
set_option maxHeartbeats 400000 in
theorem widthBack_walk (b : Int) (A : Option Addr) (c : Nat) (xs : List Int) (A' : Option Addr) (c' : Nat) (ys : List Int) (w : World) (hb0 : -9223372036854775808 ≤ b) (hb1 : b ≤ 9223372036854775807)
    (hc : xs.length ≤ c) (hm : c ≤ 9223372036854775807) (hx : I32 xs) (hs : Sl w w.heap.size .i32 A xs) (hc' : ys.length ≤ c') (hm' : c' ≤ 9223372036854775807) (hy : U8 ys) (hs' : Sl w w.heap.size .u8 A' ys) :
    Calls Try.prog 6 #[.int .i64 b, .slice A xs.length c, .slice A' ys.length c'] w fun e w' => e = .returned (.bool true) ∧ Below w.heap.size w w' := by
  by_cases h1 : xs.length ≤ 4000
  · by_cases h2 : ys.length ≤ 12000
    · by_cases hck : ckE b xs = 0
      · obtain ⟨hw, _, _⟩ := ckE_zero hck
        by_cases hsa : saE b ys.length = 0
        · rcases ok_cases hw with rfl | rfl | rfl
          · exact back_yy8 A c xs A' c' ys w hx hs hy hs' h1 h2 hck hsa
          · exact back_yy16 A c xs A' c' ys w hx hs hy hs' h1 h2 hck hsa
          · exact back_yy24 A c xs A' c' ys w hx hs hy hs' h1 h2 hck hsa
        · rcases ok_cases hw with rfl | rfl | rfl
          · exact back_yn8 A c xs A' c' ys w hx hs hy hs' h1 h2 hck hsa
          · exact back_yn16 A c xs A' c' ys w hx hs hy hs' h1 h2 hck hsa
          · exact back_yn24 A c xs A' c' ys w hx hs hy hs' h1 h2 hck hsa
      · by_cases hsa : saE b ys.length = 0
        · exact back_ny b A c xs A' c' ys w hb0 hb1 hx hs hy hs' h1 h2 hck hsa
        · exact back_nn b A c xs A' c' ys w hb0 hb1 hx hs hy hs' h1 h2 hck hsa
    · have BB := Lib.hid (bel_self w)
      clear hs hx hs' hy
      go_enter Try.func6, Try.ntmps6
      go_wp2_with fail
      refine (alive_any w).mono ?_
      rintro e w1 ⟨rfl, bel1⟩
      have BB := Lib.hid (bel_next BB.out bel1)
      clear bel1
      go_wp2_with fail
      go_ret
      exact ⟨rfl, BB.out⟩
  · have BB := Lib.hid (bel_self w)
    clear hs hx hs' hy
    go_enter Try.func6, Try.ntmps6
    go_wp2_with fail
    refine (alive_any w).mono ?_
    rintro e w1 ⟨rfl, bel1⟩
    have BB := Lib.hid (bel_next BB.out bel1)
    clear bel1
    go_wp2_with fail
    go_ret
    exact ⟨rfl, BB.out⟩
end Go.Proofs.Ytfapkpegfgeliaa

/-
  The walk of WidthOrder. Conditions: numbers within their types.
-/
import Derived.Test.YtfapkpegfgeliaaLaw18C
import Derived.Test.YtfapkpegfgeliaaKit4
namespace Go.Proofs.Ytfapkpegfgeliaa
open Go.RowKit
set_option linter.unusedVariables false

theorem sl_second {w : World} {B : Nat} {k : IntKind} {b o : Nat} {x y : Int} (h : Sl w B k (some ⟨b, o, none⟩) [x, y]) : Sl w B k (some ⟨b, o + 1, none⟩) [y] := fun _ => by
  obtain ⟨b', o', e, hb, hc⟩ := h (by simp)
  injection e with e
  injection e with e1 e2
  subst e1 e2
  refine ⟨b, o + 1, rfl, hb, fun i hi => ?_⟩
  have : i = 0 := by simpa using hi
  subst this
  exact hc 1 (by simp)

theorem ord_8 (x y : Int) (h1 : -128 ≤ x) (h2 : x < 128) (h3 : -128 ≤ y) (h4 : y < 128) :
    (x < y ↔ (x + 128) % 256 < (y + 128) % 256) ∧ (x = y ↔ (x + 128) % 256 = (y + 128) % 256) := by omega
theorem ord_16 (x y : Int) (h1 : -32768 ≤ x) (h2 : x < 32768) (h3 : -32768 ≤ y) (h4 : y < 32768) :
    (x < y ↔ 256 * ((x / 256 % 256 + 128) % 256) + x % 256 < 256 * ((y / 256 % 256 + 128) % 256) + y % 256) ∧ (x = y ↔ 256 * ((x / 256 % 256 + 128) % 256) + x % 256 = 256 * ((y / 256 % 256 + 128) % 256) + y % 256) := by omega
theorem ord_24 (x y : Int) (h1 : -8388608 ≤ x) (h2 : x < 8388608) (h3 : -8388608 ≤ y) (h4 : y < 8388608) :
    (x < y ↔ 256 * (256 * ((x / 65536 % 256 + 128) % 256) + x / 256 % 256) + x % 256 < 256 * (256 * ((y / 65536 % 256 + 128) % 256) + y / 256 % 256) + y % 256) ∧
    (x = y ↔ 256 * (256 * ((x / 65536 % 256 + 128) % 256) + x / 256 % 256) + x % 256 = 256 * (256 * ((y / 65536 % 256 + 128) % 256) + y / 256 % 256) + y % 256) := by omega

set_option maxRecDepth 100000 in
set_option maxHeartbeats 1000000 in
theorem order_no (b x y : Int) (w : World) (hb0 : -9223372036854775808 ≤ b) (hb1 : b ≤ 9223372036854775807) (hx : I32 [x, y]) (hck : ckE b [x, y] ≠ 0) :
    Calls Try.prog 8 #[.int .i64 b, .int .i32 x, .int .i32 y] w fun e w' => e = .returned (.bool true) ∧ Below w.heap.size w w' := by
  have BB := Lib.hid (bel_self w)
  have CK := Lib.hid (fun (W : World) A c (h : Sl W W.heap.size .i32 A [x, y]) => wcheck_any b A 2 c [x, y] W rfl (by omega) hx h hb0 hb1)
  have hne : (ckE b [x, y] != 0) = true := by simp [hck]
  generalize ckE b [x, y] = ce at *
  clear hck
  go_enter Try.func8, Try.ntmps8
  go_wp2_with fail
  refine (alive_any w).mono ?_
  rintro e w1 ⟨rfl, bel1⟩
  have BB := Lib.hid (bel_next BB.out bel1)
  clear bel1
  go_wp2_with fail
  refine (CK.out _ _ _ (Sl.lit' w1 .i32 _ [x, y] rfl)).mono ?_
  rintro e w' ⟨rfl, rfl⟩
  have BB := Lib.hid (bel_up BB.out (.cells #[.int .i32 x, .int .i32 y] 21))
  go_wp2_with fail
  go_ret
  exact ⟨rfl, BB.out⟩

set_option maxRecDepth 100000 in
set_option maxHeartbeats 4000000 in
theorem order_8 (x y : Int) (w : World) (h1 : -128 ≤ x) (h2 : x < 128) (h3 : -128 ≤ y) (h4 : y < 128) (hck : ckE 8 [x, y] = 0) (hkx : ckE 8 [x] = 0) (hky : ckE 8 [y] = 0) (hx : I32 [x, y]) :
    Calls Try.prog 8 #[.int .i64 8, .int .i32 x, .int .i32 y] w fun e w' => e = .returned (.bool true) ∧ Below w.heap.size w w' := by
  have BB := Lib.hid (bel_self w)
  have CK := Lib.hid (fun (W : World) A c (h : Sl W W.heap.size .i32 A [x, y]) => wcheck_any 8 A 2 c [x, y] W rfl (by omega) hx h (by decide) (by decide))
  have C1 := Lib.hid (fun (W : World) A c (h : Sl W W.heap.size .i32 A [x]) => bytes_any 8 A 1 c [x] W rfl (by omega) (fun z hz => hx z (by simp at hz; simp [hz])) h (by decide) (by decide))
  have C2 := Lib.hid (fun (W : World) A c (h : Sl W W.heap.size .i32 A [y]) => bytes_any 8 A 1 c [y] W rfl (by omega) (fun z hz => hx z (by simp at hz; simp [hz])) h (by decide) (by decide))
  rw [hck] at CK
  rw [hkx, show byR 8 [x] = [(x + 128) % 256] from (if_pos hkx).trans rfl] at C1
  rw [hky, show byR 8 [y] = [(y + 128) % 256] from (if_pos hky).trans rfl] at C2
  clear hck hkx hky hx
  obtain ⟨lt, eq⟩ := ord_8 x y h1 h2 h3 h4
  have bx0 : 0 ≤ (x + 128) % 256 ∧ (x + 128) % 256 < 256 := by omega
  generalize (x + 128) % 256 = x0 at *
  have by0 : 0 ≤ (y + 128) % 256 ∧ (y + 128) % 256 < 256 := by omega
  generalize (y + 128) % 256 = y0 at *
  have LT := Lib.hid lt
  have EQ := Lib.hid eq
  clear lt eq h1 h2 h3 h4
  go_enter Try.func8, Try.ntmps8
  go_wp2_with fail
  refine (alive_any w).mono ?_
  rintro e w1 ⟨rfl, bel1⟩
  have BB := Lib.hid (bel_next BB.out bel1)
  clear bel1
  go_wp2_with fail
  have SL := Lib.hid (Sl.lit' w1 .i32 21 [x, y] (cs := #[.int .i32 x, .int .i32 y]) rfl)
  have BB := Lib.hid (bel_up BB.out (.cells #[.int .i32 x, .int .i32 y] 21))
  generalize hW : w1.alloc (.cells #[.int .i32 x, .int .i32 y] 21) = w2 at *
  clear hW
  refine (CK.out _ _ _ SL.out).mono ?_
  rintro e w' ⟨rfl, rfl⟩
  go_wp2_with fail
  refine (C1.out w2 _ _ (SL.out.take 1)).mono ?_
  rintro e w3 ⟨v3, rfl, own3, bel3⟩
  obtain ⟨Aa, ca, rfl, _, _, sl3⟩ := own3.sl
  have Sa := Lib.hid sl3
  have SL := Lib.hid (SL.out.next bel3)
  have BB := Lib.hid (bel_next BB.out bel3)
  clear own3 bel3 sl3
  go_wp2_with fail
  refine (C2.out w3 _ _ (sl_second SL.out)).mono ?_
  rintro e w4 ⟨v4, rfl, own4, bel4⟩
  obtain ⟨Ab, cb, rfl, _, _, sl4⟩ := own4.sl
  have Sb := Lib.hid sl4
  have SL := Lib.hid (SL.out.next bel4)
  have Sa := Lib.hid (Sa.out.next bel4)
  have BB := Lib.hid (bel_next BB.out bel4)
  clear own4 bel4 sl4
  obtain ⟨q1, o1, rfl, hq1, hc1⟩ := Sa.out (by simp)
  obtain ⟨q2, o2, rfl, hq2, hc2⟩ := Sb.out (by simp)
  have c10 : w4.cell? ⟨q1, o1, none⟩ = some (.int .u8 x0) := hc1 0 (by simp)
  have c20 : w4.cell? ⟨q2, o2, none⟩ = some (.int .u8 y0) := hc2 0 (by simp)
  clear hc1 hc2 Sa Sb SL CK C1 C2
  go_wp2_with fail
  refine wp_loop_rounds 2 ?_
  rw [rounds_succ]
  go_wp2_with fail
  go_quiet (fail)
  go_wp2_with fail
  have z1 : (decide (x < y) == decide (x0 < y0)) = true := by rw [beq_iff_eq, decide_eq_decide]; exact LT.out
  have z2 : ((x == y) == (x0 == y0)) = true := by
    have := EQ.out
    rw [beq_iff_eq, Bool.eq_iff_iff, beq_iff_eq, beq_iff_eq]
    exact this
  rw [rounds_succ]
  go_wp2_with fail
  go_ret
  exact ⟨rfl, below_drewN BB.out _⟩

set_option maxRecDepth 100000 in
set_option maxHeartbeats 4000000 in
theorem order_16 (x y : Int) (w : World) (h1 : -32768 ≤ x) (h2 : x < 32768) (h3 : -32768 ≤ y) (h4 : y < 32768) (hck : ckE 16 [x, y] = 0) (hkx : ckE 16 [x] = 0) (hky : ckE 16 [y] = 0) (hx : I32 [x, y]) :
    Calls Try.prog 8 #[.int .i64 16, .int .i32 x, .int .i32 y] w fun e w' => e = .returned (.bool true) ∧ Below w.heap.size w w' := by
  have BB := Lib.hid (bel_self w)
  have CK := Lib.hid (fun (W : World) A c (h : Sl W W.heap.size .i32 A [x, y]) => wcheck_any 16 A 2 c [x, y] W rfl (by omega) hx h (by decide) (by decide))
  have C1 := Lib.hid (fun (W : World) A c (h : Sl W W.heap.size .i32 A [x]) => bytes_any 16 A 1 c [x] W rfl (by omega) (fun z hz => hx z (by simp at hz; simp [hz])) h (by decide) (by decide))
  have C2 := Lib.hid (fun (W : World) A c (h : Sl W W.heap.size .i32 A [y]) => bytes_any 16 A 1 c [y] W rfl (by omega) (fun z hz => hx z (by simp at hz; simp [hz])) h (by decide) (by decide))
  rw [hck] at CK
  rw [hkx, show byR 16 [x] = [x % 256, x / 256 % 256] from (if_pos hkx).trans rfl] at C1
  rw [hky, show byR 16 [y] = [y % 256, y / 256 % 256] from (if_pos hky).trans rfl] at C2
  clear hck hkx hky hx
  obtain ⟨lt, eq⟩ := ord_16 x y h1 h2 h3 h4
  have bx0 : 0 ≤ x % 256 ∧ x % 256 < 256 := by omega
  generalize x % 256 = x0 at *
  have bx1 : 0 ≤ x / 256 % 256 ∧ x / 256 % 256 < 256 := by omega
  generalize x / 256 % 256 = x1 at *
  have by0 : 0 ≤ y % 256 ∧ y % 256 < 256 := by omega
  generalize y % 256 = y0 at *
  have by1 : 0 ≤ y / 256 % 256 ∧ y / 256 % 256 < 256 := by omega
  generalize y / 256 % 256 = y1 at *
  have LT := Lib.hid lt
  have EQ := Lib.hid eq
  clear lt eq h1 h2 h3 h4
  go_enter Try.func8, Try.ntmps8
  go_wp2_with fail
  refine (alive_any w).mono ?_
  rintro e w1 ⟨rfl, bel1⟩
  have BB := Lib.hid (bel_next BB.out bel1)
  clear bel1
  go_wp2_with fail
  have SL := Lib.hid (Sl.lit' w1 .i32 21 [x, y] (cs := #[.int .i32 x, .int .i32 y]) rfl)
  have BB := Lib.hid (bel_up BB.out (.cells #[.int .i32 x, .int .i32 y] 21))
  generalize hW : w1.alloc (.cells #[.int .i32 x, .int .i32 y] 21) = w2 at *
  clear hW
  refine (CK.out _ _ _ SL.out).mono ?_
  rintro e w' ⟨rfl, rfl⟩
  go_wp2_with fail
  refine (C1.out w2 _ _ (SL.out.take 1)).mono ?_
  rintro e w3 ⟨v3, rfl, own3, bel3⟩
  obtain ⟨Aa, ca, rfl, _, _, sl3⟩ := own3.sl
  have Sa := Lib.hid sl3
  have SL := Lib.hid (SL.out.next bel3)
  have BB := Lib.hid (bel_next BB.out bel3)
  clear own3 bel3 sl3
  go_wp2_with fail
  refine (C2.out w3 _ _ (sl_second SL.out)).mono ?_
  rintro e w4 ⟨v4, rfl, own4, bel4⟩
  obtain ⟨Ab, cb, rfl, _, _, sl4⟩ := own4.sl
  have Sb := Lib.hid sl4
  have SL := Lib.hid (SL.out.next bel4)
  have Sa := Lib.hid (Sa.out.next bel4)
  have BB := Lib.hid (bel_next BB.out bel4)
  clear own4 bel4 sl4
  obtain ⟨q1, o1, rfl, hq1, hc1⟩ := Sa.out (by simp)
  obtain ⟨q2, o2, rfl, hq2, hc2⟩ := Sb.out (by simp)
  have c10 : w4.cell? ⟨q1, o1, none⟩ = some (.int .u8 x0) := hc1 0 (by simp)
  have c20 : w4.cell? ⟨q2, o2, none⟩ = some (.int .u8 y0) := hc2 0 (by simp)
  have c11 : w4.cell? ⟨q1, o1 + 1, none⟩ = some (.int .u8 x1) := hc1 1 (by simp)
  have c21 : w4.cell? ⟨q2, o2 + 1, none⟩ = some (.int .u8 y1) := hc2 1 (by simp)
  clear hc1 hc2 Sa Sb SL CK C1 C2
  go_wp2_with fail
  refine wp_loop_rounds 3 ?_
  rw [rounds_succ]
  go_wp2_with fail
  go_quiet (fail)
  go_wp2_with fail
  rw [rounds_succ]
  go_wp2_with fail
  go_quiet (fail)
  go_wp2_with fail
  have z1 : (decide (x < y) == decide (256 * ((x1 + 128) % 256) + x0 < 256 * ((y1 + 128) % 256) + y0)) = true := by rw [beq_iff_eq, decide_eq_decide]; exact LT.out
  have z2 : ((x == y) == (256 * ((x1 + 128) % 256) + x0 == 256 * ((y1 + 128) % 256) + y0)) = true := by
    have := EQ.out
    rw [beq_iff_eq, Bool.eq_iff_iff, beq_iff_eq, beq_iff_eq]
    exact this
  rw [rounds_succ]
  go_wp2_with fail
  go_ret
  exact ⟨rfl, below_drewN BB.out _⟩

set_option maxRecDepth 100000 in
set_option maxHeartbeats 4000000 in
theorem order_24 (x y : Int) (w : World) (h1 : -8388608 ≤ x) (h2 : x < 8388608) (h3 : -8388608 ≤ y) (h4 : y < 8388608) (hck : ckE 24 [x, y] = 0) (hkx : ckE 24 [x] = 0) (hky : ckE 24 [y] = 0) (hx : I32 [x, y]) :
    Calls Try.prog 8 #[.int .i64 24, .int .i32 x, .int .i32 y] w fun e w' => e = .returned (.bool true) ∧ Below w.heap.size w w' := by
  have BB := Lib.hid (bel_self w)
  have CK := Lib.hid (fun (W : World) A c (h : Sl W W.heap.size .i32 A [x, y]) => wcheck_any 24 A 2 c [x, y] W rfl (by omega) hx h (by decide) (by decide))
  have C1 := Lib.hid (fun (W : World) A c (h : Sl W W.heap.size .i32 A [x]) => bytes_any 24 A 1 c [x] W rfl (by omega) (fun z hz => hx z (by simp at hz; simp [hz])) h (by decide) (by decide))
  have C2 := Lib.hid (fun (W : World) A c (h : Sl W W.heap.size .i32 A [y]) => bytes_any 24 A 1 c [y] W rfl (by omega) (fun z hz => hx z (by simp at hz; simp [hz])) h (by decide) (by decide))
  rw [hck] at CK
  rw [hkx, show byR 24 [x] = [x % 256, x / 256 % 256, x / 65536 % 256] from (if_pos hkx).trans rfl] at C1
  rw [hky, show byR 24 [y] = [y % 256, y / 256 % 256, y / 65536 % 256] from (if_pos hky).trans rfl] at C2
  clear hck hkx hky hx
  obtain ⟨lt, eq⟩ := ord_24 x y h1 h2 h3 h4
  have bx0 : 0 ≤ x % 256 ∧ x % 256 < 256 := by omega
  generalize x % 256 = x0 at *
  have bx1 : 0 ≤ x / 256 % 256 ∧ x / 256 % 256 < 256 := by omega
  generalize x / 256 % 256 = x1 at *
  have bx2 : 0 ≤ x / 65536 % 256 ∧ x / 65536 % 256 < 256 := by omega
  generalize x / 65536 % 256 = x2 at *
  have by0 : 0 ≤ y % 256 ∧ y % 256 < 256 := by omega
  generalize y % 256 = y0 at *
  have by1 : 0 ≤ y / 256 % 256 ∧ y / 256 % 256 < 256 := by omega
  generalize y / 256 % 256 = y1 at *
  have by2 : 0 ≤ y / 65536 % 256 ∧ y / 65536 % 256 < 256 := by omega
  generalize y / 65536 % 256 = y2 at *
  have LT := Lib.hid lt
  have EQ := Lib.hid eq
  clear lt eq h1 h2 h3 h4
  go_enter Try.func8, Try.ntmps8
  go_wp2_with fail
  refine (alive_any w).mono ?_
  rintro e w1 ⟨rfl, bel1⟩
  have BB := Lib.hid (bel_next BB.out bel1)
  clear bel1
  go_wp2_with fail
  have SL := Lib.hid (Sl.lit' w1 .i32 21 [x, y] (cs := #[.int .i32 x, .int .i32 y]) rfl)
  have BB := Lib.hid (bel_up BB.out (.cells #[.int .i32 x, .int .i32 y] 21))
  generalize hW : w1.alloc (.cells #[.int .i32 x, .int .i32 y] 21) = w2 at *
  clear hW
  refine (CK.out _ _ _ SL.out).mono ?_
  rintro e w' ⟨rfl, rfl⟩
  go_wp2_with fail
  refine (C1.out w2 _ _ (SL.out.take 1)).mono ?_
  rintro e w3 ⟨v3, rfl, own3, bel3⟩
  obtain ⟨Aa, ca, rfl, _, _, sl3⟩ := own3.sl
  have Sa := Lib.hid sl3
  have SL := Lib.hid (SL.out.next bel3)
  have BB := Lib.hid (bel_next BB.out bel3)
  clear own3 bel3 sl3
  go_wp2_with fail
  refine (C2.out w3 _ _ (sl_second SL.out)).mono ?_
  rintro e w4 ⟨v4, rfl, own4, bel4⟩
  obtain ⟨Ab, cb, rfl, _, _, sl4⟩ := own4.sl
  have Sb := Lib.hid sl4
  have SL := Lib.hid (SL.out.next bel4)
  have Sa := Lib.hid (Sa.out.next bel4)
  have BB := Lib.hid (bel_next BB.out bel4)
  clear own4 bel4 sl4
  obtain ⟨q1, o1, rfl, hq1, hc1⟩ := Sa.out (by simp)
  obtain ⟨q2, o2, rfl, hq2, hc2⟩ := Sb.out (by simp)
  have c10 : w4.cell? ⟨q1, o1, none⟩ = some (.int .u8 x0) := hc1 0 (by simp)
  have c20 : w4.cell? ⟨q2, o2, none⟩ = some (.int .u8 y0) := hc2 0 (by simp)
  have c11 : w4.cell? ⟨q1, o1 + 1, none⟩ = some (.int .u8 x1) := hc1 1 (by simp)
  have c21 : w4.cell? ⟨q2, o2 + 1, none⟩ = some (.int .u8 y1) := hc2 1 (by simp)
  have c12 : w4.cell? ⟨q1, o1 + 2, none⟩ = some (.int .u8 x2) := hc1 2 (by simp)
  have c22 : w4.cell? ⟨q2, o2 + 2, none⟩ = some (.int .u8 y2) := hc2 2 (by simp)
  clear hc1 hc2 Sa Sb SL CK C1 C2
  go_wp2_with fail
  refine wp_loop_rounds 4 ?_
  rw [rounds_succ]
  go_wp2_with fail
  go_quiet (fail)
  go_wp2_with fail
  rw [rounds_succ]
  go_wp2_with fail
  go_quiet (fail)
  go_wp2_with fail
  rw [rounds_succ]
  go_wp2_with fail
  go_quiet (fail)
  go_wp2_with fail
  have z1 : (decide (x < y) == decide (256 * (256 * ((x2 + 128) % 256) + x1) + x0 < 256 * (256 * ((y2 + 128) % 256) + y1) + y0)) = true := by rw [beq_iff_eq, decide_eq_decide]; exact LT.out
  have z2 : ((x == y) == (256 * (256 * ((x2 + 128) % 256) + x1) + x0 == 256 * (256 * ((y2 + 128) % 256) + y1) + y0)) = true := by
    have := EQ.out
    rw [beq_iff_eq, Bool.eq_iff_iff, beq_iff_eq, beq_iff_eq]
    exact this
  rw [rounds_succ]
  go_wp2_with fail
  go_ret
  exact ⟨rfl, below_drewN BB.out _⟩

theorem widthOrder_walk (b x y : Int) (w : World) (hb0 : -9223372036854775808 ≤ b) (hb1 : b ≤ 9223372036854775807) (hx0 : -2147483648 ≤ x) (hx1 : x ≤ 2147483647) (hy0 : -2147483648 ≤ y) (hy1 : y ≤ 2147483647) :
    Calls Try.prog 8 #[.int .i64 b, .int .i32 x, .int .i32 y] w fun e w' => e = .returned (.bool true) ∧ Below w.heap.size w w' := by
  have hx : I32 [x, y] := fun z hz => by
    simp at hz
    rcases hz with rfl | rfl
    · exact ⟨hx0, hx1⟩
    · exact ⟨hy0, hy1⟩
  by_cases h : ckE b [x, y] = 0
  · obtain ⟨hw, _, hin⟩ := ckE_zero h
    have h1 := hin x (by simp)
    have h2 := hin y (by simp)
    have hkx : ckE b [x] = 0 := by
      unfold ckE; rw [if_neg hw, if_neg (by simp), if_pos (show inR (wdH b) [x] from fun z hz => by simp at hz; rw [hz]; exact h1)]
    have hky : ckE b [y] = 0 := by
      unfold ckE; rw [if_neg hw, if_neg (by simp), if_pos (show inR (wdH b) [y] from fun z hz => by simp at hz; rw [hz]; exact h2)]
    rcases ok_cases hw with rfl | rfl | rfl
    · exact order_8 x y w h1.1 h1.2 h2.1 h2.2 h hkx hky hx
    · exact order_16 x y w h1.1 h1.2 h2.1 h2.2 h hkx hky hx
    · exact order_24 x y w h1.1 h1.2 h2.1 h2.2 h hkx hky hx
  · exact order_no b x y w hb0 hb1 hx h
end Go.Proofs.Ytfapkpegfgeliaa

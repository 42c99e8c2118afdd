/-
  The walk of HeaderTells. Conditions: numbers within their types; the package variable widths as the text lays it.
-/
import Derived.Test.YtgfibgnolmogkaaDoorRef25B
import Derived.Test.YtgfibgnolmogkaaDoorSince
namespace Go.Proofs.YtgfibgnolmogkaaDoor
open Go.RowKit
set_option linter.unusedVariables false

theorem hdWR_len (f c b r n : Int) : (hdWR f c b r n).length ≤ 22 := by
  unfold hdWR
  split
  · rw [hdW_len]; decide
  · simp
theorem hdL_len (f c b r n : Int) : (hdL f c b r n).length ≤ 4000 := by
  unfold hdL
  split
  · obtain ⟨_, _, _, _, h5, h6, h7, h8, h9⟩ := hdE_ok (by assumption)
    have b1 := (lgV_bd (lg_ok h5 h6).1).1
    rw [alL_len b1 h7]
    have := frN_le b1 h7
    omega
  · simp

set_option maxRecDepth 100000 in
set_option maxHeartbeats 1000000 in
theorem headerTells_walk (f c b r n : Int) (w : World) (hn1 : n ≤ 9223372036854775807) (hW : WdAt w) :
    Calls Tryd.prog 6 #[.agg #[.int .i64 f, .int .i64 c, .int .i64 b, .int .i64 r, .int .i64 n]] w fun e w' => e = .returned (.bool true) ∧ Below w.heap.size w w' := by
  have e1 : (hdE f c b r n == hdE f c b r n) = true := by simp
  have BB := Lib.hid (bel_up (bel_self w) (.cells #[.int .i64 f, .int .i64 c, .int .i64 b, .int .i64 r, .int .i64 n] 23))
  have WD := Lib.hid (hW.up (.cells #[.int .i64 f, .int .i64 c, .int .i64 b, .int .i64 r, .int .i64 n] 23))
  have CS := Lib.hid (show HdC (w.alloc (.cells #[.int .i64 f, .int .i64 c, .int .i64 b, .int .i64 r, .int .i64 n] 23)) w.heap.size f c b r n from ⟨by simp, cells5 (W := w) (T := 23) (bel_self _)⟩)
  have lw := hdWR_len f c b r n
  have ll := hdL_len f c b r n
  clear hW
  go_enter Tryd.func6, Tryd.ntmps6
  go_wp2_with fail
  generalize w.alloc (.cells #[.int .i64 f, .int .i64 c, .int .i64 b, .int .i64 r, .int .i64 n] 23) = wb at *
  go_wp2_with fail
  refine (hdWrite f c b r n _ hn1 WD.out).mono ?_
  rintro e w1 ⟨v1, rfl, own1, bel1⟩
  obtain ⟨Aa, ca, rfl, _, _, sl1⟩ := own1.sl
  have Sa := Lib.hid sl1
  have CS := Lib.hid (CS.out.next bel1)
  have WD := Lib.hid (WD.out.next bel1)
  have BB := Lib.hid (bel_next BB.out bel1)
  clear own1 bel1 sl1
  obtain ⟨_, k0, k1, k2, k3, k4⟩ := CS.out
  go_wp2_with fail
  refine (re25Write f c b r n _ hn1).mono ?_
  rintro e w2 ⟨v2, rfl, own2, bel2⟩
  obtain ⟨Ab, cb, rfl, _, _, sl2⟩ := own2.sl
  have Sb := Lib.hid sl2
  have CS := Lib.hid (CS.out.next bel2)
  have WD := Lib.hid (WD.out.next bel2)
  have Sa := Lib.hid (Sa.out.next bel2)
  have BB := Lib.hid (bel_next BB.out bel2)
  clear own2 bel2 sl2
  clear k0 k1 k2 k3 k4
  obtain ⟨_, k0, k1, k2, k3, k4⟩ := CS.out
  go_wp2_with fail
  refine (hdFrames f c b r n _ hn1).mono ?_
  rintro e w3 ⟨v3, rfl, own3, bel3⟩
  obtain ⟨Ax, cx, rfl, _, _, sl3⟩ := own3.sl
  have Sx := Lib.hid sl3
  have CS := Lib.hid (CS.out.next bel3)
  have WD := Lib.hid (WD.out.next bel3)
  have Sa := Lib.hid (Sa.out.next bel3)
  have Sb := Lib.hid (Sb.out.next bel3)
  have BB := Lib.hid (bel_next BB.out bel3)
  clear own3 bel3 sl3
  clear k0 k1 k2 k3 k4
  obtain ⟨_, k0, k1, k2, k3, k4⟩ := CS.out
  go_wp2_with fail
  refine (re25Frames f c b r n _ hn1).mono ?_
  rintro e w4 ⟨v4, rfl, own4, bel4⟩
  obtain ⟨Ay, cy, rfl, _, _, sl4⟩ := own4.sl
  have Sy := Lib.hid sl4
  have CS := Lib.hid (CS.out.next bel4)
  have WD := Lib.hid (WD.out.next bel4)
  have Sa := Lib.hid (Sa.out.next bel4)
  have Sb := Lib.hid (Sb.out.next bel4)
  have Sx := Lib.hid (Sx.out.next bel4)
  have BB := Lib.hid (bel_next BB.out bel4)
  clear own4 bel4 sl4
  clear k0 k1 k2 k3 k4
  have K1 := Lib.hid (fun W (h : Since w4 W) => conv_sl (P := Tryd.prog) (W := W) (c := ca) Tryd.underlying24 Tryd.underlying5 Tryd.underlying9 (Sa.out.next h) rfl)
  have K2 := Lib.hid (fun W (h : Since w4 W) => conv_sl (P := Tryd.prog) (W := W) (c := cb) Tryd.underlying24 Tryd.underlying5 Tryd.underlying9 (Sb.out.next h) rfl)
  generalize strOfNums (hdWR f c b r n) = str at *
  go_wp2_with fail
  refine wp_region_since (by kernel_rfl) (by kernel_rfl) ?_
  refine qb_val (o := ⟨some 31, _, _, _, _, _⟩) (by go_simp) (fun W hW => (by go_simp <;> rfl)) (by go_simp <;> rfl) ?_
  refine qb_val (o := ⟨some 32, _, _, _, _, _⟩) (by go_simp) (fun W hW => (by have s1 := K1.out W hW; go_simp <;> rfl)) (by go_simp <;> rfl) ?_
  refine qb_val (o := ⟨some 33, _, _, _, _, _⟩) (by go_simp) (fun W hW => (by go_simp <;> rfl)) (by go_simp <;> rfl) ?_
  refine qb_val (o := ⟨some 34, _, _, _, _, _⟩) (by go_simp) (fun W hW => (by have s1 := K2.out W hW; go_simp <;> rfl)) (by go_simp <;> rfl) ?_
  refine qb_val (o := ⟨some 35, _, _, _, _, _⟩) (by go_simp) (fun W hW => (by go_simp <;> rfl)) (by go_simp <;> rfl) ?_
  refine qb_val (o := ⟨some 36, _, _, _, _, _⟩) (by go_simp) (fun W hW => (by go_simp <;> rfl)) (by go_simp <;> rfl) ?_
  refine qb_val (o := ⟨some 37, _, _, _, _, _⟩) (by go_simp) (fun W hW => (by go_simp <;> rfl)) (by go_simp <;> rfl) ?_
  refine qb_val (o := ⟨some 38, _, _, _, _, _⟩) (by go_simp) (fun W hW => (by go_simp <;> rfl)) (by go_simp <;> rfl) ?_
  refine qb_val (o := ⟨some 39, _, _, _, _, _⟩) (by go_simp) (fun W hW => (by go_simp <;> rfl)) (by go_simp <;> rfl) ?_
  refine qb_val (o := ⟨some 40, _, _, _, _, _⟩) (by go_simp) (fun W hW => (by go_simp <;> rfl)) (by go_simp <;> rfl) ?_
  refine qb_val (o := ⟨some 41, _, _, _, _, _⟩) (by go_simp) (fun W hW => (by go_simp <;> rfl)) (by go_simp <;> rfl) ?_
  refine qb_val (o := ⟨some 42, _, _, _, _, _⟩) (by go_simp) (fun W hW => (by go_simp <;> rfl)) (by go_simp <;> rfl) ?_
  refine qb_val (o := ⟨some 43, _, _, _, _, _⟩) (by go_simp) (fun W hW => (by go_simp <;> rfl)) (by go_simp <;> rfl) ?_
  refine qb_call (o := ⟨some 44, _, _, _, _, _⟩) (by go_simp) (fun W => by go_simp <;> rfl) (fun W hW => same22 Ax Ay _ _ cx cy (hdL f c b r n) _ rfl rfl (by omega) (Sx.out.next hW) (Sy.out.next hW)) (by go_simp <;> rfl) ?_
  refine qb_val (o := ⟨some 45, _, _, _, _, _⟩) (by go_simp) (fun W hW => (by go_simp <;> rfl)) (by go_simp <;> rfl) ?_
  refine qb_val (o := ⟨some 46, _, _, _, _, _⟩) (by go_simp) (fun W hW => (by go_simp <;> rfl)) (by go_simp <;> rfl) ?_
  refine qb_val (o := ⟨some 47, _, _, _, _, _⟩) (by go_simp) (fun W hW => (by go_simp <;> rfl)) (by go_simp <;> rfl) ?_
  refine qb_val (o := ⟨some 48, _, _, _, _, _⟩) (by go_simp) (fun W hW => (by go_simp <;> rfl)) (by go_simp <;> rfl) ?_
  refine qb_val (o := ⟨some 49, _, _, _, _, _⟩) (by go_simp) (fun W hW => (by go_simp <;> rfl)) (by go_simp <;> rfl) ?_
  refine qb_val (o := ⟨some 50, _, _, _, _, _⟩) (by go_simp) (fun W hW => (by go_simp <;> rfl)) (by go_simp <;> rfl) ?_
  refine qb_val (o := ⟨some 51, _, _, _, _, _⟩) (by go_simp) (fun W hW => (by go_simp <;> rfl)) (by go_simp <;> rfl) ?_
  refine qb_val (o := ⟨some 52, _, _, _, _, _⟩) (by go_simp) (fun W hW => (by obtain ⟨_, k0, k1, k2, k3, k4⟩ := CS.out.next hW; go_simp <;> rfl)) (by go_simp <;> rfl) ?_
  refine qb_call (o := ⟨some 53, _, _, _, _, _⟩) (by go_simp) (fun W => by go_simp <;> rfl) (fun W hW => hdCheck f c b r n _ hn1) (by go_simp <;> rfl) ?_
  refine qb_val (o := ⟨some 54, _, _, _, _, _⟩) (by go_simp) (fun W hW => (by obtain ⟨_, k0, k1, k2, k3, k4⟩ := CS.out.next hW; go_simp <;> rfl)) (by go_simp <;> rfl) ?_
  refine qb_call (o := ⟨some 55, _, _, _, _, _⟩) (by go_simp) (fun W => by go_simp <;> rfl) (fun W hW => re25Check f c b r n _ hn1) (by go_simp <;> rfl) ?_
  refine qb_val (o := ⟨some 56, _, _, _, _, _⟩) (by go_simp) (fun W hW => (by go_simp <;> rfl)) (by go_simp <;> rfl) ?_
  refine qb_val (o := ⟨some 57, _, _, _, _, _⟩) (by go_simp) (fun W hW => (by go_simp <;> rfl)) (by go_simp <;> rfl) ?_
  refine qb_val (o := ⟨some 2, _, _, _, _, _⟩) (by go_simp) (fun W hW => (by go_simp <;> rfl)) (by go_simp <;> rfl) ?_
  refine wpQuiet_nil ?_
  intro w5 bel5
  have bel5 : Below w4.heap.size w4 w5 := bel5
  have CS := Lib.hid (CS.out.next bel5)
  have WD := Lib.hid (WD.out.next bel5)
  have Sa := Lib.hid (Sa.out.next bel5)
  have Sb := Lib.hid (Sb.out.next bel5)
  have Sx := Lib.hid (Sx.out.next bel5)
  have Sy := Lib.hid (Sy.out.next bel5)
  have BB := Lib.hid (bel_next BB.out bel5)
  clear bel5
  go_wp2_with fail
  go_ret
  exact ⟨rfl, BB.out⟩

theorem headerTells_full (f c b r n : Int) (w : World) (lf : -9223372036854775808 ≤ f) (uf : f ≤ 9223372036854775807) (lc : -9223372036854775808 ≤ c) (uc : c ≤ 9223372036854775807) (lb : -9223372036854775808 ≤ b) (ub : b ≤ 9223372036854775807)
    (lr : -9223372036854775808 ≤ r) (ur : r ≤ 9223372036854775807) (ln : -9223372036854775808 ≤ n) (un : n ≤ 9223372036854775807) (hW : WdAt w) :
    Calls Tryd.prog 6 #[.agg #[.int .i64 f, .int .i64 c, .int .i64 b, .int .i64 r, .int .i64 n]] w fun e w' => e = .returned (.bool true) ∧ Below w.heap.size w w' := headerTells_walk f c b r n w un hW
end Go.Proofs.YtgfibgnolmogkaaDoor

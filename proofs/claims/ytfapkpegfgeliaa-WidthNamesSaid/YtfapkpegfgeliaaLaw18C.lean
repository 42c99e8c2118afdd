/-
  The walks of the chapter's examples of layer 18. Conditions: numbers within their types.
-/
import Derived.Test.YtfapkpegfgeliaaWidthSamples
import Derived.Test.YtfapkpegfgeliaaSame13
import Derived.Test.YtfapkpegfgeliaaStr
namespace Go.Proofs.Ytfapkpegfgeliaa
open Go.RowKit
set_option linter.unusedVariables false

theorem saE_byL {b : Int} {xs : List Int} (h : ckE b xs = 0) : saE b (byL b xs).length = 0 ∧ saL b (byL b xs) = xs := by
  obtain ⟨h1, h2, h3⟩ := ckE_zero h
  have hl := byL_len h1 xs
  have hp := nB_pos b
  have e1 : (byL b xs).length % nB b = 0 := by rw [hl]; exact Nat.mul_mod_right _ _
  have e2 : (byL b xs).length / nB b = xs.length := by rw [hl]; exact Nat.mul_div_cancel_left _ hp
  have e : saE b (byL b xs).length = 0 := by
    unfold saE
    rw [if_neg h1, if_neg (by simpa using e1), if_neg (by omega)]
  refine ⟨e, ?_⟩
  rw [show saL b (byL b xs) = _ from if_pos e, e2]
  exact sampTo_byL h1 h3

set_option maxHeartbeats 1000000 in
theorem has_any (b : Int) (A : Option Addr) (n c : Nat) (xs : List Int) (s : ByteArray) (w : World) (hn : xs.length = n) (hck : ckE b xs = 0) (hst : s = strOfNums (byL b xs)) (hx : I32 xs) (hs : Sl w w.heap.size .i32 A xs)
    (hb0 : -9223372036854775808 ≤ b) (hb1 : b ≤ 9223372036854775807) :
    Calls Try.prog 20 #[.int .i64 b, .slice A n c, .string s] w fun e w' => e = .returned (.bool true) ∧ Below w.heap.size w w' := by
  subst hn
  obtain ⟨hw, hl, hin⟩ := ckE_zero hck
  have SX := Lib.hid hs
  have HX := Lib.hid hx
  have BB := Lib.hid (bel_self w)
  have hu8 := byL_u8 b xs
  have HU := Lib.hid hu8
  have W1 := Lib.hid (fun W => bytesWorld_sl W 5 (byL b xs) hu8)
  have W2 := Lib.hid (fun W => bytesWorld_below W 5 (strOfNums (byL b xs)))
  have CB := Lib.hid (fun W => Lib.run_convert_string_bytes (P := Try.prog) W 9 22 5 (strOfNums (byL b xs)) Try.underlying9 Try.underlying22 Try.underlying5)
  have HZ := Lib.hid (strOfNums_size (byL b xs))
  have HLN := Lib.hid (show (byL b xs).length ≤ 12000 by
    rw [byL_len hw]
    have h3 : nB b ≤ 3 := by
      unfold nB; split
      · omega
      · split <;> omega
    have := Nat.mul_le_mul h3 hl
    omega)
  obtain ⟨e5, e6⟩ := saE_byL hck
  have E5 := Lib.hid e5
  have E6 := Lib.hid e6
  have CA := Lib.hid (fun (A : Option Addr) (n c : Nat) (W : World) (hn : xs.length = n) (h : Sl W W.heap.size .i32 A xs) => bytes_any b A n c xs W hn (by omega) hx h hb0 hb1)
  have CS := Lib.hid (fun (A : Option Addr) (n c : Nat) (W : World) (hn : (byL b xs).length = n) (h : Sl W W.heap.size .u8 A (byL b xs)) => samples_any b A n c (byL b xs) W hn (by have := HLN.out; omega) hu8 h hb0 hb1)
  rw [hck, show byR b xs = byL b xs from if_pos hck] at CA
  have K0 := Lib.hid (fun (W : World) (A : Option Addr) (c : Nat) (h : Sl W W.heap.size .u8 A (byL b xs)) => conv_sl (P := Try.prog) (c := c) Try.underlying22 Try.underlying5 Try.underlying9 h rfl)
  rw [← hst] at W1 W2 CB HZ K0
  clear hs hx hst hck hw hin hu8 e5 e6
  go_enter Try.func20, Try.ntmps20
  go_wp2_with fail
  refine (CA.out A _ c _ rfl SX.out).mono ?_
  rintro e w1 ⟨v1, rfl, own1, bel1⟩
  obtain ⟨Aa, ca, rfl, _, _, sl1⟩ := own1.sl
  have Sa := Lib.hid sl1
  have SX := Lib.hid (SX.out.next bel1)
  have BB := Lib.hid (bel_next BB.out bel1)
  clear own1 bel1 sl1
  have kcb := CB.out w1
  rw [HZ.out] at kcb
  have SB := Lib.hid (W1.out w1)
  have BW := Lib.hid (W2.out w1)
  have SX := Lib.hid (SX.out.next BW.out)
  have Sa := Lib.hid (Sa.out.next BW.out)
  have BB := Lib.hid (bel_next BB.out BW.out)
  generalize hW : Lib.bytesWorld w1 5 s = w2 at *
  clear hW W1 W2 BW
  go_wp2_with fail
  have q2 := CS.out _ _ (grownCap w1 (byL b xs).length 0 5) w2 rfl SB.out
  rw [E5.out, E6.out] at q2
  go_wp2_with fail
  refine (q2).mono ?_
  rintro e w3 ⟨v3, rfl, own3, bel3⟩
  obtain ⟨Ab, cb, rfl, _, _, sl3⟩ := own3.sl
  have Sb := Lib.hid sl3
  have SX := Lib.hid (SX.out.next bel3)
  have Sa := Lib.hid (Sa.out.next bel3)
  have SB := Lib.hid (SB.out.next bel3)
  have BB := Lib.hid (bel_next BB.out bel3)
  clear own3 bel3 sl3
  clear kcb q2
  have k2 := K0.out w3 Aa ca Sa.out
  go_wp2_with fail
  refine (same13 Ab A _ _ cb c xs _ rfl rfl (by omega) Sb.out SX.out).mono ?_
  rintro e w4 ⟨rfl, bel4⟩
  have SX := Lib.hid (SX.out.next bel4)
  have Sa := Lib.hid (Sa.out.next bel4)
  have SB := Lib.hid (SB.out.next bel4)
  have Sb := Lib.hid (Sb.out.next bel4)
  have BB := Lib.hid (bel_next BB.out bel4)
  clear bel4
  go_wp2_with fail
  go_ret
  exact ⟨rfl, BB.out⟩

theorem str_eq {s : ByteArray} {l : List Int} (h : s.data = (l.map fun n => UInt8.ofNat n.toNat).toArray) : s = strOfNums l := by
  cases s
  unfold strOfNums
  rw [← h]

set_option maxHeartbeats 1000000 in
theorem alive_any (w : World) : Calls Try.prog 21 #[] w fun e w' => e = .returned (.bool true) ∧ Below w.heap.size w w' := by
  have BB := Lib.hid (bel_self w)
  go_enter Try.func21, Try.ntmps21
  go_wp2_with fail
  go_wp2_with fail
  refine (has_any 8 _ 3 3 [-128, 0, 127] _ _ rfl (by decide) (by decide) (by unfold I32; decide) (Sl.lit' w .i32 _ [-128, 0, 127] rfl) (by decide) (by decide)).mono ?_
  rintro e w1 ⟨rfl, bel1⟩
  have BB := Lib.hid (bel_next (bel_up BB.out _) bel1)
  clear bel1
  go_wp2_with fail
  refine (has_any 16 _ 1 1 [-2] _ _ rfl (by decide) (by decide) (by unfold I32; decide) (Sl.lit' w1 .i32 _ [-2] rfl) (by decide) (by decide)).mono ?_
  rintro e w2 ⟨rfl, bel2⟩
  have BB := Lib.hid (bel_next (bel_up BB.out _) bel2)
  clear bel2
  go_wp2_with fail
  refine (has_any 24 _ 1 1 [65536] _ _ rfl (by decide) (by decide) (by unfold I32; decide) (Sl.lit' w2 .i32 _ [65536] rfl) (by decide) (by decide)).mono ?_
  rintro e w3 ⟨rfl, bel3⟩
  have BB := Lib.hid (bel_next (bel_up BB.out _) bel3)
  clear bel3
  go_wp2_with fail
  go_ret
  exact ⟨rfl, BB.out⟩
end Go.Proofs.Ytfapkpegfgeliaa

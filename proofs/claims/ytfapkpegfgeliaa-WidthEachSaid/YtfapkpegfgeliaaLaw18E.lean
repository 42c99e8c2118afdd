/-
  The walk of WidthEach. Conditions: numbers within their types.
-/
import Derived.Test.YtfapkpegfgeliaaKit4
import Derived.Test.YtfapkpegfgeliaaLaw18C
namespace Go.Proofs.Ytfapkpegfgeliaa
open Go.RowKit
set_option linter.unusedVariables false

def inB (h : Int) (l : List Int) : Bool := decide (inR h l)
theorem inB_yes {h : Int} {xs : List Int} {k : Nat} (hk : k < xs.length) (h1 : inB h (xs.take k) = true) (h2 : -h ≤ xs.getD k 0 ∧ xs.getD k 0 < h) : inB h (xs.take (k + 1)) = true := by
  unfold inB at *
  exact decide_eq_true (inR_take_snoc hk (of_decide_eq_true h1) h2)
theorem inB_no {h : Int} {xs : List Int} {k : Nat} (hk : k < xs.length) (h2 : ¬ (-h ≤ xs.getD k 0 ∧ xs.getD k 0 < h)) : inB h (xs.take (k + 1)) = false := by
  unfold inB
  refine decide_eq_false (fun hall => h2 (hall _ ?_))
  rw [take_snoc xs k hk]
  simp
theorem inB_stay {h : Int} {xs : List Int} {k : Nat} (hk : k < xs.length) (h1 : inB h (xs.take k) = false) : inB h (xs.take (k + 1)) = false := by
  unfold inB at *
  refine decide_eq_false (fun hall => of_decide_eq_false h1 (fun x hx => hall x ?_))
  rw [take_snoc xs k hk]
  exact List.mem_append_left _ hx
theorem inR_append {h : Int} {l m : List Int} : inR h (l ++ m) ↔ inR h l ∧ inR h m := by
  unfold inR
  constructor
  · intro hh
    exact ⟨fun x hx => hh x (List.mem_append_left _ hx), fun x hx => hh x (List.mem_append_right _ hx)⟩
  · rintro ⟨h1, h2⟩ x hx
    rcases List.mem_append.1 hx with h' | h'
    · exact h1 x h'
    · exact h2 x h'
theorem ckE_in {b : Int} {xs : List Int} (hw : wdH b ≠ 0) (hl : xs.length ≤ 4000) (h : inR (wdH b) xs) : ckE b xs = 0 := by
  unfold ckE; rw [if_neg hw, if_neg (by omega), if_pos h]
theorem ckE_out {b : Int} {xs : List Int} (hw : wdH b ≠ 0) (hl : xs.length ≤ 4000) (h : ¬ inR (wdH b) xs) : ckE b xs = 16 := by
  unfold ckE; rw [if_neg hw, if_neg (by omega), if_neg h]
theorem ckE_arg {b : Int} {xs : List Int} (hw : wdH b = 0) : ckE b xs = 2 := if_pos hw

theorem str_append (l m : List Int) : strOfNums (l ++ m) = strOfNums l ++ strOfNums m := by
  have e : (strOfNums (l ++ m)).data = (strOfNums l ++ strOfNums m).data := by
    rw [ByteArray.data_append]
    unfold strOfNums
    simp
  cases h : strOfNums (l ++ m)
  cases h' : strOfNums l ++ strOfNums m
  rw [h, h'] at e
  simpa using e

set_option maxRecDepth 100000 in
set_option maxHeartbeats 1000000 in
theorem each_arg (b : Int) (A : Option Addr) (c n : Nat) (xs : List Int) (w : World) (hb0 : -9223372036854775808 ≤ b) (hb1 : b ≤ 9223372036854775807) (hc : xs.length ≤ c) (hm : c ≤ 9223372036854775807)
    (hx : I32 xs) (hs : Sl w w.heap.size .i32 A xs) (hl : xs.length ≤ 300) (hn : n ≤ xs.length) (hw : wdH b = 0) :
    Calls Try.prog 7 #[.int .i64 b, .slice A xs.length c, .int .i64 n] w fun e w' => e = .returned (.bool true) ∧ Below w.heap.size w w' := by
  have SX := Lib.hid hs
  have BB := Lib.hid (bel_self w)
  obtain ⟨A3, rs, hs3⟩ := from_ex (P := Try.prog) elI32 A c n xs hn hc
  have C1 := Lib.hid (fun (W : World) (h : Sl W W.heap.size .i32 A xs) => bytes_any b A xs.length c xs W rfl (by omega) hx h hb0 hb1)
  have C2 := Lib.hid (fun (W : World) (h : Sl W W.heap.size .i32 A xs) => bytes_any b A n c (xs.take n) W (by rw [List.length_take]; omega) (by omega) (fun x hx' => hx x (List.mem_of_mem_take hx')) (h.take n) hb0 hb1)
  have C3 := Lib.hid (fun (W : World) (h : Sl W W.heap.size .i32 A xs) => bytes_any b A3 (xs.length - n) (c - n) (xs.drop n) W (by rw [List.length_drop]) (by omega) (fun x hx' => hx x (List.mem_of_mem_drop hx')) (hs3 W _ h) hb0 hb1)
  have CR := Lib.hid (fun (W : World) => range_any b W hb0 hb1)
  have d1 : decide ((300 : Int) < (xs.length : Int)) = false := by simp; omega
  have d2 : decide ((n : Int) < 0) = false := by simp
  have d3 : decide (xs.length < n) = false := by simp; omega
  rw [ckE_arg hw] at C1 C2 C3
  rw [show wdE b = 2 from if_pos hw] at CR
  generalize wdH b = hh at *
  generalize wdHi b = hi at *
  clear hs hx hw hs3
  go_enter Try.func7, Try.ntmps7
  go_wp2_with fail
  refine (alive_any w).mono ?_
  rintro e w1 ⟨rfl, bel1⟩
  have SX := Lib.hid (SX.out.next bel1)
  have BB := Lib.hid (bel_next BB.out bel1)
  clear bel1
  go_wp2_with fail
  refine (C1.out w1 SX.out).mono ?_
  rintro e w2 ⟨v2, rfl, own2, bel2⟩
  obtain ⟨Aa, ca, rfl, _, _, sl2⟩ := own2.sl
  have Sa := Lib.hid sl2
  have SX := Lib.hid (SX.out.next bel2)
  have BB := Lib.hid (bel_next BB.out bel2)
  clear own2 bel2 sl2
  go_wp2_with fail
  refine (C2.out w2 SX.out).mono ?_
  rintro e w3 ⟨v3, rfl, own3, bel3⟩
  obtain ⟨Ab, cb, rfl, _, _, sl3⟩ := own3.sl
  have Sb := Lib.hid sl3
  have SX := Lib.hid (SX.out.next bel3)
  have Sa := Lib.hid (Sa.out.next bel3)
  have BB := Lib.hid (bel_next BB.out bel3)
  clear own3 bel3 sl3
  go_wp2_with fail
  refine (C3.out w3 SX.out).mono ?_
  rintro e w4 ⟨v4, rfl, own4, bel4⟩
  obtain ⟨Ac, cc, rfl, _, _, sl4⟩ := own4.sl
  have Sc := Lib.hid sl4
  have SX := Lib.hid (SX.out.next bel4)
  have Sa := Lib.hid (Sa.out.next bel4)
  have Sb := Lib.hid (Sb.out.next bel4)
  have BB := Lib.hid (bel_next BB.out bel4)
  clear own4 bel4 sl4
  go_wp2_with fail
  refine (CR.out w4).mono ?_
  rintro e w' ⟨rfl, rfl⟩
  go_wp2_with fail
  go_ret
  exact ⟨rfl, BB.out⟩

set_option maxRecDepth 100000 in
set_option maxHeartbeats 1000000 in
theorem each_out1 (b : Int) (A : Option Addr) (c n : Nat) (xs : List Int) (w : World) (hb0 : -9223372036854775808 ≤ b) (hb1 : b ≤ 9223372036854775807) (hc : xs.length ≤ c) (hm : c ≤ 9223372036854775807)
    (hx : I32 xs) (hs : Sl w w.heap.size .i32 A xs) (hl : xs.length ≤ 300) (hn : n ≤ xs.length) (hw : wdH b ≠ 0) (h1 : ¬ inR (wdH b) xs) (h2 : ¬ inR (wdH b) (xs.take n)) :
    Calls Try.prog 7 #[.int .i64 b, .slice A xs.length c, .int .i64 n] w fun e w' => e = .returned (.bool true) ∧ Below w.heap.size w w' := by
  have SX := Lib.hid hs
  have BB := Lib.hid (bel_self w)
  obtain ⟨A3, rs, hs3⟩ := from_ex (P := Try.prog) elI32 A c n xs hn hc
  have C1 := Lib.hid (fun (W : World) (h : Sl W W.heap.size .i32 A xs) => bytes_any b A xs.length c xs W rfl (by omega) hx h hb0 hb1)
  have C2 := Lib.hid (fun (W : World) (h : Sl W W.heap.size .i32 A xs) => bytes_any b A n c (xs.take n) W (by rw [List.length_take]; omega) (by omega) (fun x hx' => hx x (List.mem_of_mem_take hx')) (h.take n) hb0 hb1)
  have C3 := Lib.hid (fun (W : World) (h : Sl W W.heap.size .i32 A xs) => bytes_any b A3 (xs.length - n) (c - n) (xs.drop n) W (by rw [List.length_drop]) (by omega) (fun x hx' => hx x (List.mem_of_mem_drop hx')) (hs3 W _ h) hb0 hb1)
  have CR := Lib.hid (fun (W : World) => range_any b W hb0 hb1)
  have d1 : decide ((300 : Int) < (xs.length : Int)) = false := by simp; omega
  have d2 : decide ((n : Int) < 0) = false := by simp
  have d3 : decide (xs.length < n) = false := by simp; omega
  have hbd := wdH_bd hw
  rw [show wdE b = 0 from if_neg hw, show wdHi b = wdH b - 1 from if_neg hw] at CR
  rw [ckE_out hw (by omega) h1] at C1
  rw [ckE_out hw (by rw [List.length_take]; omega) h2] at C2
  rw [show ckE b (xs.drop n) = ckE b (xs.drop n) from rfl] at C3
  have HI := Lib.hid (show inB (wdH b) xs = false from decide_eq_false h1)
  clear h1 h2
  generalize wdH b = hh at *
  generalize ckE b (xs.drop n) = e3 at *
  clear hs3
  go_enter Try.func7, Try.ntmps7
  go_wp2_with fail
  refine (alive_any w).mono ?_
  rintro e w1 ⟨rfl, bel1⟩
  have SX := Lib.hid (SX.out.next bel1)
  have BB := Lib.hid (bel_next BB.out bel1)
  clear bel1
  go_wp2_with fail
  refine (C1.out w1 SX.out).mono ?_
  rintro e w2 ⟨v2, rfl, own2, bel2⟩
  obtain ⟨Aa, ca, rfl, _, _, sl2⟩ := own2.sl
  have Sa := Lib.hid sl2
  have SX := Lib.hid (SX.out.next bel2)
  have BB := Lib.hid (bel_next BB.out bel2)
  clear own2 bel2 sl2
  go_wp2_with fail
  refine (C2.out w2 SX.out).mono ?_
  rintro e w3 ⟨v3, rfl, own3, bel3⟩
  obtain ⟨Ab, cb, rfl, _, _, sl3⟩ := own3.sl
  have Sb := Lib.hid sl3
  have SX := Lib.hid (SX.out.next bel3)
  have Sa := Lib.hid (Sa.out.next bel3)
  have BB := Lib.hid (bel_next BB.out bel3)
  clear own3 bel3 sl3
  go_wp2_with fail
  refine (C3.out w3 SX.out).mono ?_
  rintro e w4 ⟨v4, rfl, own4, bel4⟩
  obtain ⟨Ac, cc, rfl, _, _, sl4⟩ := own4.sl
  have Sc := Lib.hid sl4
  have SX := Lib.hid (SX.out.next bel4)
  have Sa := Lib.hid (Sa.out.next bel4)
  have Sb := Lib.hid (Sb.out.next bel4)
  have BB := Lib.hid (bel_next BB.out bel4)
  clear own4 bel4 sl4
  go_wp2_with fail
  refine (CR.out w4).mono ?_
  rintro e w' ⟨rfl, rfl⟩
  clear C1 C2 C3 CR rs
  go_wp2_with fail
  go_loop [17, 18] (fun t i => ∃ k : Nat, k ≤ xs.length ∧ i = .int .i64 k ∧ t = .bool (inB hh (xs.take k))) (fun _ i => xs.length - (intOf i).toNat)
  case atStart => exact ⟨0, by omega, rfl, by simp [inB, inR]⟩
  case round =>
    obtain ⟨k, hk, rfl, rfl⟩ := hrel
    by_cases hlt : k < xs.length
    · obtain ⟨bb, o, rfl, hbb, hcl⟩ := SX.out (by omega)
      have hcell := hcl k hlt
      have H1 := Lib.hid (fun h1 h2 => inB_yes (h := hh) hlt h1 h2)
      have H2 := Lib.hid (fun h2 => inB_no (h := hh) hlt h2)
      have H3 := Lib.hid (fun h2 => inB_stay (h := hh) hlt h2)
      have hyb := hx _ (mem_getD hlt)
      generalize xs.getD k 0 = y at *
      generalize inB hh (xs.take k) = bb0 at *
      clear hcl hs hx
      cases bb0
      · have H4 := Lib.hid (H3.out rfl)
        go_wp2_with fail
        go_round
        case rel => exact ⟨k + 1, by omega, by go_num, by rw [H4.out]⟩
        case measure => simp [intOf]; omega
      · by_cases h1 : -hh ≤ y
        · by_cases h2 : y ≤ hh - 1
          · have H4 := Lib.hid (H1.out rfl ⟨h1, by omega⟩)
            have q1 : decide (-hh ≤ y) = true := by simp; omega
            have q2 : decide (y ≤ hh - 1) = true := by simp; omega
            go_wp2_with fail
            go_round
            case rel => exact ⟨k + 1, by omega, by go_num, by rw [H4.out]⟩
            case measure => simp [intOf]; omega
          · have H4 := Lib.hid (H2.out (by omega))
            have q1 : decide (-hh ≤ y) = true := by simp; omega
            have q2 : decide (y ≤ hh - 1) = false := by simp; omega
            go_wp2_with fail
            go_round
            case rel => exact ⟨k + 1, by omega, by go_num, by rw [H4.out]⟩
            case measure => simp [intOf]; omega
        · have H4 := Lib.hid (H2.out (by omega))
          have q1 : decide (-hh ≤ y) = false := by simp; omega
          go_wp2_with fail
          go_round
          case rel => exact ⟨k + 1, by omega, by go_num, by rw [H4.out]⟩
          case measure => simp [intOf]; omega
    · rw [show xs.take k = xs from List.take_of_length_le (by omega)]
      rw [HI.out]
      go_wp2_with fail
      go_ret
      exact ⟨rfl, BB.out⟩

set_option maxRecDepth 100000 in
set_option maxHeartbeats 1000000 in
theorem each_out2 (b : Int) (A : Option Addr) (c n : Nat) (xs : List Int) (w : World) (hb0 : -9223372036854775808 ≤ b) (hb1 : b ≤ 9223372036854775807) (hc : xs.length ≤ c) (hm : c ≤ 9223372036854775807)
    (hx : I32 xs) (hs : Sl w w.heap.size .i32 A xs) (hl : xs.length ≤ 300) (hn : n ≤ xs.length) (hw : wdH b ≠ 0) (h1 : ¬ inR (wdH b) xs) (h2 : inR (wdH b) (xs.take n)) (h3 : ¬ inR (wdH b) (xs.drop n)) :
    Calls Try.prog 7 #[.int .i64 b, .slice A xs.length c, .int .i64 n] w fun e w' => e = .returned (.bool true) ∧ Below w.heap.size w w' := by
  have SX := Lib.hid hs
  have BB := Lib.hid (bel_self w)
  obtain ⟨A3, rs, hs3⟩ := from_ex (P := Try.prog) elI32 A c n xs hn hc
  have C1 := Lib.hid (fun (W : World) (h : Sl W W.heap.size .i32 A xs) => bytes_any b A xs.length c xs W rfl (by omega) hx h hb0 hb1)
  have C2 := Lib.hid (fun (W : World) (h : Sl W W.heap.size .i32 A xs) => bytes_any b A n c (xs.take n) W (by rw [List.length_take]; omega) (by omega) (fun x hx' => hx x (List.mem_of_mem_take hx')) (h.take n) hb0 hb1)
  have C3 := Lib.hid (fun (W : World) (h : Sl W W.heap.size .i32 A xs) => bytes_any b A3 (xs.length - n) (c - n) (xs.drop n) W (by rw [List.length_drop]) (by omega) (fun x hx' => hx x (List.mem_of_mem_drop hx')) (hs3 W _ h) hb0 hb1)
  have CR := Lib.hid (fun (W : World) => range_any b W hb0 hb1)
  have d1 : decide ((300 : Int) < (xs.length : Int)) = false := by simp; omega
  have d2 : decide ((n : Int) < 0) = false := by simp
  have d3 : decide (xs.length < n) = false := by simp; omega
  have hbd := wdH_bd hw
  rw [show wdE b = 0 from if_neg hw, show wdHi b = wdH b - 1 from if_neg hw] at CR
  rw [ckE_out hw (by omega) h1] at C1
  rw [ckE_in hw (by rw [List.length_take]; omega) h2] at C2
  rw [ckE_out hw (by rw [List.length_drop]; omega) h3] at C3
  have HI := Lib.hid (show inB (wdH b) xs = false from decide_eq_false h1)
  clear h1 h2
  generalize wdH b = hh at *
  clear h3
  clear hs3
  go_enter Try.func7, Try.ntmps7
  go_wp2_with fail
  refine (alive_any w).mono ?_
  rintro e w1 ⟨rfl, bel1⟩
  have SX := Lib.hid (SX.out.next bel1)
  have BB := Lib.hid (bel_next BB.out bel1)
  clear bel1
  go_wp2_with fail
  refine (C1.out w1 SX.out).mono ?_
  rintro e w2 ⟨v2, rfl, own2, bel2⟩
  obtain ⟨Aa, ca, rfl, _, _, sl2⟩ := own2.sl
  have Sa := Lib.hid sl2
  have SX := Lib.hid (SX.out.next bel2)
  have BB := Lib.hid (bel_next BB.out bel2)
  clear own2 bel2 sl2
  go_wp2_with fail
  refine (C2.out w2 SX.out).mono ?_
  rintro e w3 ⟨v3, rfl, own3, bel3⟩
  obtain ⟨Ab, cb, rfl, _, _, sl3⟩ := own3.sl
  have Sb := Lib.hid sl3
  have SX := Lib.hid (SX.out.next bel3)
  have Sa := Lib.hid (Sa.out.next bel3)
  have BB := Lib.hid (bel_next BB.out bel3)
  clear own3 bel3 sl3
  go_wp2_with fail
  refine (C3.out w3 SX.out).mono ?_
  rintro e w4 ⟨v4, rfl, own4, bel4⟩
  obtain ⟨Ac, cc, rfl, _, _, sl4⟩ := own4.sl
  have Sc := Lib.hid sl4
  have SX := Lib.hid (SX.out.next bel4)
  have Sa := Lib.hid (Sa.out.next bel4)
  have Sb := Lib.hid (Sb.out.next bel4)
  have BB := Lib.hid (bel_next BB.out bel4)
  clear own4 bel4 sl4
  go_wp2_with fail
  refine (CR.out w4).mono ?_
  rintro e w' ⟨rfl, rfl⟩
  clear C1 C2 C3 CR rs
  go_wp2_with fail
  go_loop [17, 18] (fun t i => ∃ k : Nat, k ≤ xs.length ∧ i = .int .i64 k ∧ t = .bool (inB hh (xs.take k))) (fun _ i => xs.length - (intOf i).toNat)
  case atStart => exact ⟨0, by omega, rfl, by simp [inB, inR]⟩
  case round =>
    obtain ⟨k, hk, rfl, rfl⟩ := hrel
    by_cases hlt : k < xs.length
    · obtain ⟨bb, o, rfl, hbb, hcl⟩ := SX.out (by omega)
      have hcell := hcl k hlt
      have H1 := Lib.hid (fun h1 h2 => inB_yes (h := hh) hlt h1 h2)
      have H2 := Lib.hid (fun h2 => inB_no (h := hh) hlt h2)
      have H3 := Lib.hid (fun h2 => inB_stay (h := hh) hlt h2)
      have hyb := hx _ (mem_getD hlt)
      generalize xs.getD k 0 = y at *
      generalize inB hh (xs.take k) = bb0 at *
      clear hcl hs hx
      cases bb0
      · have H4 := Lib.hid (H3.out rfl)
        go_wp2_with fail
        go_round
        case rel => exact ⟨k + 1, by omega, by go_num, by rw [H4.out]⟩
        case measure => simp [intOf]; omega
      · by_cases h1 : -hh ≤ y
        · by_cases h2 : y ≤ hh - 1
          · have H4 := Lib.hid (H1.out rfl ⟨h1, by omega⟩)
            have q1 : decide (-hh ≤ y) = true := by simp; omega
            have q2 : decide (y ≤ hh - 1) = true := by simp; omega
            go_wp2_with fail
            go_round
            case rel => exact ⟨k + 1, by omega, by go_num, by rw [H4.out]⟩
            case measure => simp [intOf]; omega
          · have H4 := Lib.hid (H2.out (by omega))
            have q1 : decide (-hh ≤ y) = true := by simp; omega
            have q2 : decide (y ≤ hh - 1) = false := by simp; omega
            go_wp2_with fail
            go_round
            case rel => exact ⟨k + 1, by omega, by go_num, by rw [H4.out]⟩
            case measure => simp [intOf]; omega
        · have H4 := Lib.hid (H2.out (by omega))
          have q1 : decide (-hh ≤ y) = false := by simp; omega
          go_wp2_with fail
          go_round
          case rel => exact ⟨k + 1, by omega, by go_num, by rw [H4.out]⟩
          case measure => simp [intOf]; omega
    · rw [show xs.take k = xs from List.take_of_length_le (by omega)]
      rw [HI.out]
      go_wp2_with fail
      go_ret
      exact ⟨rfl, BB.out⟩

set_option maxRecDepth 100000 in
set_option maxHeartbeats 1000000 in
theorem each_in (b : Int) (A : Option Addr) (c n : Nat) (xs : List Int) (w : World) (hb0 : -9223372036854775808 ≤ b) (hb1 : b ≤ 9223372036854775807) (hc : xs.length ≤ c) (hm : c ≤ 9223372036854775807)
    (hx : I32 xs) (hs : Sl w w.heap.size .i32 A xs) (hl : xs.length ≤ 300) (hn : n ≤ xs.length) (hw : wdH b ≠ 0) (h1 : inR (wdH b) xs) :
    Calls Try.prog 7 #[.int .i64 b, .slice A xs.length c, .int .i64 n] w fun e w' => e = .returned (.bool true) ∧ Below w.heap.size w w' := by
  have SX := Lib.hid hs
  have BB := Lib.hid (bel_self w)
  obtain ⟨A3, rs, hs3⟩ := from_ex (P := Try.prog) elI32 A c n xs hn hc
  have C1 := Lib.hid (fun (W : World) (h : Sl W W.heap.size .i32 A xs) => bytes_any b A xs.length c xs W rfl (by omega) hx h hb0 hb1)
  have C2 := Lib.hid (fun (W : World) (h : Sl W W.heap.size .i32 A xs) => bytes_any b A n c (xs.take n) W (by rw [List.length_take]; omega) (by omega) (fun x hx' => hx x (List.mem_of_mem_take hx')) (h.take n) hb0 hb1)
  have C3 := Lib.hid (fun (W : World) (h : Sl W W.heap.size .i32 A xs) => bytes_any b A3 (xs.length - n) (c - n) (xs.drop n) W (by rw [List.length_drop]) (by omega) (fun x hx' => hx x (List.mem_of_mem_drop hx')) (hs3 W _ h) hb0 hb1)
  have CR := Lib.hid (fun (W : World) => range_any b W hb0 hb1)
  have d1 : decide ((300 : Int) < (xs.length : Int)) = false := by simp; omega
  have d2 : decide ((n : Int) < 0) = false := by simp
  have d3 : decide (xs.length < n) = false := by simp; omega
  have hbd := wdH_bd hw
  rw [show wdE b = 0 from if_neg hw, show wdHi b = wdH b - 1 from if_neg hw] at CR
  obtain ⟨h2, h3⟩ := inR_append.1 (show inR (wdH b) (xs.take n ++ xs.drop n) by rw [List.take_append_drop]; exact h1)
  have HJ := Lib.hid (show byL b xs = byL b (xs.take n) ++ byL b (xs.drop n) by rw [← byL_append, List.take_append_drop])
  have HL := Lib.hid (show (byL b (xs.take n)).length + (byL b (xs.drop n)).length ≤ 12000 by
    rw [byL_len hw, byL_len hw, ← Nat.mul_add, List.length_take, List.length_drop]
    have h3 : nB b ≤ 3 := by
      unfold nB; split
      · omega
      · split <;> omega
    have := Nat.mul_le_mul h3 (show min n xs.length + (xs.length - n) ≤ 300 by omega)
    omega)
  have E1 := ckE_in hw (show xs.length ≤ 4000 by omega) h1
  have E2 := ckE_in hw (show (xs.take n).length ≤ 4000 by rw [List.length_take]; omega) h2
  have E3 := ckE_in hw (show (xs.drop n).length ≤ 4000 by rw [List.length_drop]; omega) h3
  rw [E1, show byR b xs = byL b xs from if_pos E1] at C1
  rw [E2, show byR b (xs.take n) = byL b (xs.take n) from if_pos E2] at C2
  rw [E3, show byR b (xs.drop n) = byL b (xs.drop n) from if_pos E3] at C3
  have HI := Lib.hid (show inB (wdH b) xs = true from decide_eq_true h1)
  clear h1 h2 h3 E1 E2 E3
  generalize wdH b = hh at *
  generalize byL b xs = l1 at *
  generalize byL b (xs.take n) = l2 at *
  generalize byL b (xs.drop n) = l3 at *
  clear hs3
  go_enter Try.func7, Try.ntmps7
  go_wp2_with fail
  refine (alive_any w).mono ?_
  rintro e w1 ⟨rfl, bel1⟩
  have SX := Lib.hid (SX.out.next bel1)
  have BB := Lib.hid (bel_next BB.out bel1)
  clear bel1
  go_wp2_with fail
  refine (C1.out w1 SX.out).mono ?_
  rintro e w2 ⟨v2, rfl, own2, bel2⟩
  obtain ⟨Aa, ca, rfl, _, _, sl2⟩ := own2.sl
  have Sa := Lib.hid sl2
  have SX := Lib.hid (SX.out.next bel2)
  have BB := Lib.hid (bel_next BB.out bel2)
  clear own2 bel2 sl2
  go_wp2_with fail
  refine (C2.out w2 SX.out).mono ?_
  rintro e w3 ⟨v3, rfl, own3, bel3⟩
  obtain ⟨Ab, cb, rfl, _, _, sl3⟩ := own3.sl
  have Sb := Lib.hid sl3
  have SX := Lib.hid (SX.out.next bel3)
  have Sa := Lib.hid (Sa.out.next bel3)
  have BB := Lib.hid (bel_next BB.out bel3)
  clear own3 bel3 sl3
  go_wp2_with fail
  refine (C3.out w3 SX.out).mono ?_
  rintro e w4 ⟨v4, rfl, own4, bel4⟩
  obtain ⟨Ac, cc, rfl, _, _, sl4⟩ := own4.sl
  have Sc := Lib.hid sl4
  have SX := Lib.hid (SX.out.next bel4)
  have Sa := Lib.hid (Sa.out.next bel4)
  have Sb := Lib.hid (Sb.out.next bel4)
  have BB := Lib.hid (bel_next BB.out bel4)
  clear own4 bel4 sl4
  go_wp2_with fail
  refine (CR.out w4).mono ?_
  rintro e w' ⟨rfl, rfl⟩
  clear C1 C2 C3 CR rs
  go_wp2_with fail
  go_loop [17, 18] (fun t i => ∃ k : Nat, k ≤ xs.length ∧ i = .int .i64 k ∧ t = .bool (inB hh (xs.take k))) (fun _ i => xs.length - (intOf i).toNat)
  case atStart => exact ⟨0, by omega, rfl, by simp [inB, inR]⟩
  case round =>
    obtain ⟨k, hk, rfl, rfl⟩ := hrel
    by_cases hlt : k < xs.length
    · obtain ⟨bb, o, rfl, hbb, hcl⟩ := SX.out (by omega)
      have hcell := hcl k hlt
      have H1 := Lib.hid (fun h1 h2 => inB_yes (h := hh) hlt h1 h2)
      have H2 := Lib.hid (fun h2 => inB_no (h := hh) hlt h2)
      have H3 := Lib.hid (fun h2 => inB_stay (h := hh) hlt h2)
      have hyb := hx _ (mem_getD hlt)
      generalize xs.getD k 0 = y at *
      generalize inB hh (xs.take k) = bb0 at *
      clear hcl hs hx
      cases bb0
      · have H4 := Lib.hid (H3.out rfl)
        go_wp2_with fail
        go_round
        case rel => exact ⟨k + 1, by omega, by go_num, by rw [H4.out]⟩
        case measure => simp [intOf]; omega
      · by_cases h1 : -hh ≤ y
        · by_cases h2 : y ≤ hh - 1
          · have H4 := Lib.hid (H1.out rfl ⟨h1, by omega⟩)
            have q1 : decide (-hh ≤ y) = true := by simp; omega
            have q2 : decide (y ≤ hh - 1) = true := by simp; omega
            go_wp2_with fail
            go_round
            case rel => exact ⟨k + 1, by omega, by go_num, by rw [H4.out]⟩
            case measure => simp [intOf]; omega
          · have H4 := Lib.hid (H2.out (by omega))
            have q1 : decide (-hh ≤ y) = true := by simp; omega
            have q2 : decide (y ≤ hh - 1) = false := by simp; omega
            go_wp2_with fail
            go_round
            case rel => exact ⟨k + 1, by omega, by go_num, by rw [H4.out]⟩
            case measure => simp [intOf]; omega
        · have H4 := Lib.hid (H2.out (by omega))
          have q1 : decide (-hh ≤ y) = false := by simp; omega
          go_wp2_with fail
          go_round
          case rel => exact ⟨k + 1, by omega, by go_num, by rw [H4.out]⟩
          case measure => simp [intOf]; omega
    · rw [show xs.take k = xs from List.take_of_length_le (by omega)]
      rw [HI.out]
      have k1 := conv_sl (P := Try.prog) (c := ca) Try.underlying22 Try.underlying5 Try.underlying9 Sa.out rfl
      have k2 := conv_sl (P := Try.prog) (c := cb) Try.underlying22 Try.underlying5 Try.underlying9 Sb.out rfl
      have k3 := conv_sl (P := Try.prog) (c := cc) Try.underlying22 Try.underlying5 Try.underlying9 Sc.out rfl
      have hz : ¬ 9223372036854775807 < (strOfNums l2).size + (strOfNums l3).size := by rw [strOfNums_size, strOfNums_size]; have := HL.out; omega
      have ht : (strOfNums l1).toList = (strOfNums l2 ++ strOfNums l3).toList := by rw [HJ.out, str_append]
      have hq : (-hh == -(hh - 1) - 1) = true := by rw [beq_iff_eq]; omega
      generalize strOfNums l1 = s1 at *
      generalize strOfNums l2 = s2 at *
      generalize strOfNums l3 = s3 at *
      go_wp2_with fail
      go_ret
      exact ⟨rfl, BB.out⟩

set_option maxRecDepth 100000 in
set_option maxHeartbeats 1000000 in
theorem each_early (b : Int) (A : Option Addr) (c : Nat) (n : Int) (xs : List Int) (w : World) (hm : xs.length ≤ 9223372036854775807) (h : 300 < xs.length ∨ n < 0 ∨ (xs.length : Int) < n) :
    Calls Try.prog 7 #[.int .i64 b, .slice A xs.length c, .int .i64 n] w fun e w' => e = .returned (.bool true) ∧ Below w.heap.size w w' := by
  have BB := Lib.hid (bel_self w)
  by_cases h1 : 300 < xs.length
  · have d1 : decide ((300 : Int) < (xs.length : Int)) = true := by simp; omega
    go_enter Try.func7, Try.ntmps7
    go_wp2_with fail
    refine (alive_any w).mono ?_
    rintro e w1 ⟨rfl, bel1⟩
    have BB := Lib.hid (bel_next BB.out bel1)
    clear bel1
    go_wp2_with fail
    go_ret
    exact ⟨rfl, BB.out⟩
  · have d1 : decide ((300 : Int) < (xs.length : Int)) = false := by simp; omega
    by_cases h2 : n < 0
    · have d2 : decide (n < 0) = true := by simp; omega
      go_enter Try.func7, Try.ntmps7
      go_wp2_with fail
      refine (alive_any w).mono ?_
      rintro e w1 ⟨rfl, bel1⟩
      have BB := Lib.hid (bel_next BB.out bel1)
      clear bel1
      go_wp2_with fail
      go_ret
      exact ⟨rfl, BB.out⟩
    · have d2 : decide (n < 0) = false := by simp; omega
      have d3 : decide ((xs.length : Int) < n) = true := by simp; omega
      go_enter Try.func7, Try.ntmps7
      go_wp2_with fail
      refine (alive_any w).mono ?_
      rintro e w1 ⟨rfl, bel1⟩
      have BB := Lib.hid (bel_next BB.out bel1)
      clear bel1
      go_wp2_with fail
      go_ret
      exact ⟨rfl, BB.out⟩

theorem widthEach_walk (b : Int) (A : Option Addr) (c : Nat) (xs : List Int) (n : Int) (w : World) (hb0 : -9223372036854775808 ≤ b) (hb1 : b ≤ 9223372036854775807) (hc : xs.length ≤ c) (hm : c ≤ 9223372036854775807)
    (hx : I32 xs) (hs : Sl w w.heap.size .i32 A xs) (hn0 : -9223372036854775808 ≤ n) (hn1 : n ≤ 9223372036854775807) :
    Calls Try.prog 7 #[.int .i64 b, .slice A xs.length c, .int .i64 n] w fun e w' => e = .returned (.bool true) ∧ Below w.heap.size w w' := by
  by_cases h : 300 < xs.length ∨ n < 0 ∨ (xs.length : Int) < n
  · exact each_early b A c n xs w (by omega) h
  · obtain ⟨m, rfl⟩ := Int.eq_ofNat_of_zero_le (show 0 ≤ n by omega)
    have hl : xs.length ≤ 300 := by omega
    have hn : m ≤ xs.length := by omega
    by_cases hw : wdH b = 0
    · exact each_arg b A c m xs w hb0 hb1 hc hm hx hs hl hn hw
    · by_cases h1 : inR (wdH b) xs
      · exact each_in b A c m xs w hb0 hb1 hc hm hx hs hl hn hw h1
      · by_cases h2 : inR (wdH b) (xs.take m)
        · refine each_out2 b A c m xs w hb0 hb1 hc hm hx hs hl hn hw h1 h2 (fun h3 => h1 ?_)
          have := inR_append.2 ⟨h2, h3⟩
          rwa [List.take_append_drop] at this
        · exact each_out1 b A c m xs w hb0 hb1 hc hm hx hs hl hn hw h1 h2
end Go.Proofs.Ytfapkpegfgeliaa

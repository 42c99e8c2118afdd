/-
  The walk of Crc32Names. No conditions.
-/
import Derived.Test.YtfhodjdbbocpiaaLaw03C
namespace Go.Proofs.Ytfhodjdbbocpiaa
open Go.RowKit
set_option linter.unusedVariables false

theorem crcL_zeros (n : Nat) : crcL 0 (List.replicate n 0) = 0 := by
  induction n with
  | zero => rfl
  | succ n ih => rw [List.replicate_succ, crcL_cons, show crcByte 0 (0 : Int).toNat = 0 from by decide +kernel, ih]
theorem u8_zeros (n : Nat) : U8 (List.replicate n 0) := fun x hx => by have := List.eq_of_mem_replicate hx; omega
theorem sum_a : sumL [97] = 3904355907 ∧ sumL [0] = 3523407757 := by decide +kernel

set_option maxRecDepth 100000 in
set_option maxHeartbeats 1000000 in
theorem crc32Names_walk (w : World) : Calls Try.prog 4 #[] w fun e w' => e = .returned (.bool true) ∧ Below w.heap.size w w' := by
  have kc := fun (w : World) (C : Array Value) (n c : Nat) => Lib.run_convert_bytes_const (P := Try.prog) w 23 5 C n c Try.underlying23 Try.underlying5
  have mk1 : ∀ W, (Instr.makeSlice 23 (.int .i64 100001) (.int .i64 100001)).run Try.prog W = .ok (.slice (some ⟨W.heap.size, 0, none⟩) 100001 100001) (W.alloc (.cells (zerosA .u8 100001) 5)) := run_make_ints elU8 100001 rfl (by decide) (by decide)
  have mk2 : ∀ W, (Instr.makeSlice 23 (.int .i64 100000) (.int .i64 100000)).run Try.prog W = .ok (.slice (some ⟨W.heap.size, 0, none⟩) 100000 100000) (W.alloc (.cells (zerosA .u8 100000) 5)) := run_make_ints elU8 100000 rfl (by decide) (by decide)
  go_enter Try.func4, Try.ntmps4
  go_wp2_with fail
  refine (Table_any _).mono ?_
  rintro e w1 ⟨v, rfl, own1, bel1⟩
  obtain ⟨A, c, rfl, hc, hm, _⟩ := own1.sln (tabL_len 256)
  obtain ⟨g, rfl, hg, _⟩ := own1.addr (by rw [tabL_len]; decide)
  have O1 := Lib.hid own1
  have B1 := Lib.hid bel1
  clear own1 bel1
  go_wp2_with fail
  go_loopw [2] (fun i wr => ∃ (k : Nat) (ls : List Int), k ≤ 256 ∧ i = .int .i64 k ∧ ls.length = 256 ∧ Own wr w.heap.size 45 .u32 (.slice (some ⟨g, 0, none⟩) 256 c) ls ∧ Below w.heap.size w wr) (fun i _ => 256 - (intOf i).toNat)
  case atStart => exact ⟨0, _, by omega, rfl, tabL_len 256, O1.out, B1.out⟩
  case round =>
    obtain ⟨k, ls, hk, rfl, hl, hown, hbel⟩ := hrel
    by_cases hlt : k < 256
    · have hcell := hown.cell k (by omega)
      have hfr := hown.frozen k
      have HO := Lib.hid (hown.set k 7)
      have HB := Lib.hid (hbel.setCell (p := ⟨g, k, none⟩) hg (.int .u32 7))
      have HL := Lib.hid (show (ls.set k 7).length = 256 by rw [List.length_set]; exact hl)
      have hlt' : (k : Int) < 256 := by omega
      clear hown hbel hl
      generalize ls.getD k 0 = y at *
      go_wp2_with fail
      go_roundw
      case rel => exact ⟨k + 1, _, by omega, by go_num, HL.out, HO.out, HB.out⟩
      case measure => simp [intOf]; omega
    · have BB := Lib.hid hbel
      clear hbel hown hl O1 B1
      obtain ⟨w0, rfl⟩ : ∃ wo : World, wo = wr := ⟨_, rfl⟩
      go_wp2_with fail
      refine (Table_any _).mono ?_
      rintro e w1 ⟨v, rfl, own1, bel1⟩
      obtain ⟨Au, cu, rfl, _, _, sl1⟩ := own1.sln (tabL_len 256)
      have SU := Lib.hid sl1
      have BB := Lib.hid (bel_next BB.out bel1)
      clear sl1 own1 bel1
      go_wp2_with fail
      refine (sum_many _ _ _ _ (by decide) (by decide)).mono ?_
      rintro e w' ⟨rfl, rfl⟩
      go_wp2_with fail
      refine (next_many _ _ _ _ _ (by decide) (by decide)).mono ?_
      rintro e w' ⟨rfl, rfl⟩
      have SU := Lib.hid (SU.out.up (.cells (zerosA .u8 100001) 5))
      have SU := Lib.hid (SU.out.up (.cells (zerosA .u8 100001) 5))
      have BB := Lib.hid (bel_up BB.out (.cells (zerosA .u8 100001) 5))
      have BB := Lib.hid (bel_up BB.out (.cells (zerosA .u8 100001) 5))
      generalize (w1.alloc (.cells (zerosA .u8 100001) 5)).alloc (.cells (zerosA .u8 100001) 5) = w2 at *
      go_wp2_with fail
      refine (next_v (s := 0) (v := 0) (List.replicate 100000 0) _ (by decide) (by rw [List.length_replicate]) (by decide) (u8_zeros _) (Sl.zeros' w2 .u8 5 100000) (crcL_zeros _)).mono ?_
      rintro e w3 ⟨rfl, bel3⟩
      have SU := Lib.hid ((SU.out.up _).next bel3)
      have BB := Lib.hid (bel_next (bel_up BB.out _) bel3)
      clear bel3
      clear mk1 mk2
      go_wp2_with fail
      refine (sum_v (v := 3904355907) [97] _ rfl (by decide) (by unfold U8; decide) (Sl.marked w3 .u8 _ [97] rfl) (by rw [sum_a.1]; rfl)).mono ?_
      rintro e w4 ⟨rfl, bel4⟩
      have SU := Lib.hid ((SU.out.up _).next bel4)
      have BB := Lib.hid (bel_next (bel_up BB.out _) bel4)
      clear bel4
      clear kc
      go_wp2_with fail
      refine (sum_v (v := 3523407757) [0] _ rfl (by decide) (by unfold U8; decide) (Sl.lit' w4 .u8 _ [0] rfl) (by rw [sum_a.2]; rfl)).mono ?_
      rintro e w5 ⟨rfl, bel5⟩
      have SU := Lib.hid ((SU.out.up _).next bel5)
      have BB := Lib.hid (bel_next (bel_up BB.out _) bel5)
      clear bel5
      go_wp2_with fail
      refine (next_v (s := 5) (v := 5) [] _ (by decide) rfl (by decide) (by unfold U8; simp) Sl.nil_ rfl).mono ?_
      rintro e w6 ⟨rfl, bel6⟩
      have SU := Lib.hid (SU.out.next bel6)
      have BB := Lib.hid (bel_next BB.out bel6)
      clear bel6
      obtain ⟨bb, o, rfl, _, hcell⟩ := SU.out (by rw [tabL_len]; decide)
      have c0 := hcell 0 (by rw [tabL_len]; decide)
      have c1 := hcell 255 (by rw [tabL_len]; decide)
      rw [tabL_get _ (by decide), tab_some.1, Nat.add_zero] at c0
      rw [tabL_get _ (by decide), tab_some.2.2.2] at c1
      clear hcell SU
      go_wp2_with fail
      refine (alive_any w6).mono ?_
      rintro e w7 ⟨rfl, bel7⟩
      have BB := Lib.hid (bel_next BB.out bel7)
      clear bel7
      go_wp2_with fail
      go_ret
      exact ⟨rfl, BB.out⟩
end Go.Proofs.Ytfhodjdbbocpiaa

/-
  The walk of FoldBack. Conditions: numbers within their types.
-/
import Derived.Test.YtacclloligomeaaLaw05A
import Derived.Deep.DeepCutAuto
namespace Go.Proofs.Ytacclloligomeaa
open Go.RowKit

theorem quiet_add_left {P : Program} {f : FuncId} {args : Array Value} {w : World} {a n : Nat} {v : Value}
    (h : Calls P f args (w.drewN (a + n)) fun e w' => e = .returned v ∧ w.drewN (a + n) = w') :
    Calls P f args (w.drewN (a + n)) fun e w'' => e = .returned v ∧ ∃ m, w'' = w.drewN (a + m) :=
  h.mono fun _ _ ⟨he, hm⟩ => ⟨he, n, hm.symm⟩
theorem quiet_left {P : Program} {f : FuncId} {args : Array Value} {w : World} {n : Nat} {v : Value}
    (h : Calls P f args (w.drewN n) fun e w' => e = .returned v ∧ w.drewN n = w') : Calls P f args (w.drewN n) fun e w'' => e = .returned v ∧ ∃ m, w'' = w.drewN m :=
  h.mono fun _ _ ⟨he, hm⟩ => ⟨he, n, hm.symm⟩

theorem map_fold_bd {xs : List Int} (h : I32 xs) : U32 (xs.map foldF) := fun y hy => by
  obtain ⟨x, hx, rfl⟩ := List.mem_map.1 hy
  exact foldF_bd (h x hx).1 (h x hx).2
theorem map_back_bd {xs : List Int} (h : U32 xs) : I32 (xs.map backF) := fun y hy => by
  obtain ⟨x, hx, rfl⟩ := List.mem_map.1 hy
  exact backF_bd (h x hx).1 (h x hx).2
theorem map_back_fold (xs : List Int) : (xs.map foldF).map backF = xs := by
  rw [List.map_map]
  exact (List.map_congr_left (fun x _ => back_fold x)).trans (List.map_id _)
theorem map_fold_back {xs : List Int} (h : U32 xs) : (xs.map backF).map foldF = xs := by
  rw [List.map_map]
  exact (List.map_congr_left (fun x hx => fold_back (h x hx).1)).trans (List.map_id _)

set_option maxRecDepth 100000 in
set_option maxHeartbeats 1000000 in
theorem foldBack_main (A : Option Addr) (c : Nat) (xs : List Int) (A' : Option Addr) (c' : Nat) (ys : List Int) (w : World)
    (hx : I32 xs) (hs : Sl w w.heap.size .i32 A xs) (hy : U32 ys) (hs' : Sl w w.heap.size .u32 A' ys) (h1 : xs.length ≤ 500) (h2 : ys.length ≤ 500) :
    Calls Try.prog 8 #[.slice A xs.length c, .slice A' ys.length c'] w fun e w' => e = .returned (.bool true) ∧ Below w.heap.size w w' := by
  have HS := Lib.hid hs
  have HS' := Lib.hid hs'
  have HX := Lib.hid hx
  have HY := Lib.hid hy
  clear hs hs' hx hy
  have d1 : decide ((500 : Int) < (xs.length : Int)) = false := by simp; omega
  have d2 : decide ((500 : Int) < (ys.length : Int)) = false := by simp; omega
  go_enter Try.func8, Try.ntmps8
  go_wp2_with fail
  go_loopw [5] (fun i wr => ∃ k : Nat, k ≤ xs.length ∧ i = .int .i64 k ∧ Below w.heap.size w wr) (fun i _ => xs.length - (intOf i).toNat)
  case atStart => exact ⟨0, Nat.zero_le _, rfl, Below.refl _ _⟩
  case round =>
    obtain ⟨k, hk, rfl, hbel⟩ := hrel
    by_cases hlt : k < xs.length
    · obtain ⟨b, o, rfl, hb, hc⟩ := HS.out (by omega)
      have hcell := (hbel.cell (p := ⟨b, o + k, none⟩) hb).trans (hc k hlt)
      have hbd := HX.out _ (mem_getD hlt)
      have HB := Lib.hid hbel
      clear hc HS hbel
      generalize xs.getD k 0 = y at *
      have hlt' : (k : Int) < (xs.length : Int) := by omega
      have fb := foldF_bd hbd.1 hbd.2
      have hy : (backF (foldF y) != y) = false := by simp [back_fold]
      go_wp2_with fail
      go_quiet (first | (go_at_call 9; exact quiet_left (fold_any y _ hbd.1 hbd.2)) | (go_at_call 11; exact quiet_left (back_any _ _ fb.1 fb.2)))
      go_wp2_with fail
      go_roundw
      case rel => exact ⟨k + 1, by omega, by go_num, below_drewN HB.out _⟩
      case measure => simp [intOf]; omega
    · have HB := Lib.hid hbel
      clear hbel
      obtain ⟨wo, rfl⟩ : ∃ wo : World, wo = wr := ⟨_, rfl⟩
      go_wp2_with fail
      go_loopw [6] (fun i wr => ∃ k : Nat, k ≤ ys.length ∧ i = .int .i64 k ∧ Below w.heap.size w wr) (fun i _ => ys.length - (intOf i).toNat)
      case atStart => exact ⟨0, Nat.zero_le _, rfl, HB.out⟩
      case round =>
        obtain ⟨k', hk', rfl, hbel'⟩ := hrel
        by_cases hlt' : k' < ys.length
        · obtain ⟨b, o, rfl, hb, hc⟩ := HS'.out (by omega)
          have hcell := (hbel'.cell (p := ⟨b, o + k', none⟩) hb).trans (hc k' hlt')
          have hbd := HY.out _ (mem_getD hlt')
          have HB' := Lib.hid hbel'
          clear hc HS' hbel'
          generalize ys.getD k' 0 = y at *
          have hlt'' : (k' : Int) < (ys.length : Int) := by omega
          have fb := backF_bd hbd.1 hbd.2
          have hy : (foldF (backF y) != y) = false := by simp [fold_back hbd.1]
          go_wp2_with fail
          go_quiet (first | (go_at_call 11; exact quiet_left (back_any y _ hbd.1 hbd.2)) | (go_at_call 9; exact quiet_left (fold_any _ _ fb.1 fb.2)))
          go_wp2_with fail
          go_roundw
          case rel => exact ⟨k' + 1, by omega, by go_num, below_drewN HB'.out _⟩
          case measure => simp [intOf]; omega
        · have BB := Lib.hid hbel'
          have SX := Lib.hid (HS.out.below BB.out)
          have SX := Lib.hid (SX.out.more BB.out.size)
          have SY := Lib.hid ((HS'.out.below BB.out).more BB.out.size)
          clear hbel' HB HS HS' hlt hk
          obtain ⟨w2, rfl⟩ : ∃ wo : World, wo = wr := ⟨_, rfl⟩
          go_wp2_with fail
          refine (all_any A c xs _ (by omega) HX.out SX.out).mono ?_
          rintro e w3 ⟨v3, rfl, own3, bel3⟩
          obtain ⟨A3, c3, rfl, _, _, sl3⟩ := own3.sl
          have S3 := Lib.hid sl3
          have SX := Lib.hid (SX.out.next bel3)
          have SY := Lib.hid (SY.out.next bel3)
          have BB := Lib.hid (bel_next BB.out bel3)
          clear own3 bel3 sl3
          go_wp2_with fail
          have q4 := undo_any A3 c3 (xs.map foldF) _ (by simp; omega) (map_fold_bd HX.out) S3.out
          rw [List.length_map] at q4
          refine q4.mono ?_
          clear q4
          rintro e w4 ⟨v4, rfl, own4, bel4⟩
          rw [map_back_fold] at own4
          obtain ⟨A4, c4, rfl, _, _, sl4⟩ := own4.sl
          have S4 := Lib.hid sl4
          have SX := Lib.hid (SX.out.next bel4)
          have SY := Lib.hid (SY.out.next bel4)
          have BB := Lib.hid (bel_next BB.out bel4)
          clear own4 bel4 sl4 S3
          go_wp2_with fail
          refine (undo_any A' c' ys _ (by omega) HY.out SY.out).mono ?_
          rintro e w5 ⟨v5, rfl, own5, bel5⟩
          obtain ⟨A5, c5, rfl, _, _, sl5⟩ := own5.sl
          have S5 := Lib.hid sl5
          have S4 := Lib.hid (S4.out.next bel5)
          have SX := Lib.hid (SX.out.next bel5)
          have SY := Lib.hid (SY.out.next bel5)
          have BB := Lib.hid (bel_next BB.out bel5)
          clear own5 bel5 sl5
          go_wp2_with fail
          have q6 := all_any A5 c5 (ys.map backF) _ (by simp; omega) (map_back_bd HY.out) S5.out
          rw [List.length_map] at q6
          refine q6.mono ?_
          clear q6
          rintro e w6 ⟨v6, rfl, own6, bel6⟩
          rw [map_fold_back HY.out] at own6
          obtain ⟨A6, c6, rfl, _, _, sl6⟩ := own6.sl
          have S6 := Lib.hid sl6
          have S4 := Lib.hid (S4.out.next bel6)
          have SX := Lib.hid (SX.out.next bel6)
          have SY := Lib.hid (SY.out.next bel6)
          have BB := Lib.hid (bel_next BB.out bel6)
          clear own6 bel6 sl6 S5
          go_wp2_with fail
          refine (sameS_any A4 A c4 c xs _ (by omega) S4.out SX.out).mono ?_
          rintro e w7 ⟨rfl, bel7⟩
          have S6 := Lib.hid (S6.out.next bel7)
          have SY := Lib.hid (SY.out.next bel7)
          have BB := Lib.hid (bel_next BB.out bel7)
          clear bel7 S4 SX
          go_wp2_with fail
          refine (same_any A6 A' c6 c' ys _ (by omega) S6.out SY.out).mono ?_
          rintro e w8 ⟨rfl, bel8⟩
          have BB := Lib.hid (bel_next BB.out bel8)
          clear bel8 S6 SY
          go_wp2_with fail
          refine (alive_any _).mono ?_
          rintro e w9 ⟨rfl, bel9⟩
          have BB := Lib.hid (bel_next BB.out bel9)
          clear bel9
          go_wp2_with fail
          go_ret
          exact ⟨rfl, BB.out⟩

set_option maxRecDepth 100000 in
set_option maxHeartbeats 400000 in
theorem foldBack_skip (A : Option Addr) (c n : Nat) (A' : Option Addr) (c' m : Nat) (w : World) (hn : n ≤ 9223372036854775807) (hm : m ≤ 9223372036854775807) (h : 500 < n ∨ (n ≤ 500 ∧ 500 < m)) :
    Calls Try.prog 8 #[.slice A n c, .slice A' m c'] w fun e w' => e = .returned (.bool true) ∧ Below w.heap.size w w' := by
  rcases h with h1 | ⟨h1, h2⟩
  all_goals
    go_enter Try.func8, Try.ntmps8
    go_wp2_with fail
    refine (alive_any _).mono ?_
    rintro e w1 ⟨rfl, hb⟩
    go_wp2_with fail
    go_ret
    exact ⟨rfl, hb⟩

theorem foldBack_walk (A : Option Addr) (c : Nat) (xs : List Int) (A' : Option Addr) (c' : Nat) (ys : List Int) (w : World)
    (h1 : xs.length ≤ c) (h2 : c ≤ 9223372036854775807) (hx : I32 xs) (hs : Sl w w.heap.size .i32 A xs)
    (h3 : ys.length ≤ c') (h4 : c' ≤ 9223372036854775807) (hy : U32 ys) (hs' : Sl w w.heap.size .u32 A' ys) :
    Calls Try.prog 8 #[.slice A xs.length c, .slice A' ys.length c'] w fun e w' => e = .returned (.bool true) ∧ Below w.heap.size w w' := by
  by_cases h : xs.length ≤ 500 ∧ ys.length ≤ 500
  · exact foldBack_main A c xs A' c' ys w hx hs hy hs' h.1 h.2
  · exact foldBack_skip A c _ A' c' _ w (by omega) (by omega) (by omega)
end Go.Proofs.Ytacclloligomeaa

/-
  What the functions of package fold and of its reference compute. Conditions: numbers within their types, lists of at most 4,000 numbers (longer ones are refused).
-/
import Derived.Test.YtacclloligomeaaFoldPlain
namespace Go.Proofs.Ytacclloligomeaa
open Go.RowKit

set_option maxHeartbeats 400000 in
theorem fold_any (x : Int) (w : World) (h0 : -2147483648 ≤ x) (h1 : x ≤ 2147483647) :
    Calls Try.prog 9 #[.int .i32 x] w fun e w' => e = .returned (.int .u32 (foldF x)) ∧ w = w' := by
  go_enter Try.func9, Try.ntmps9
  go_wp2
  go_ret
  exact ⟨ret_int (fold_xor h0 h1), rfl⟩

set_option maxHeartbeats 400000 in
theorem back_any (x : Int) (w : World) (h0 : 0 ≤ x) (h1 : x ≤ 4294967295) :
    Calls Try.prog 11 #[.int .u32 x] w fun e w' => e = .returned (.int .i32 (backF x)) ∧ w = w' := by
  go_enter Try.func11, Try.ntmps11
  go_wp2
  go_ret
  exact ⟨ret_int (back_xor h0 h1), rfl⟩

set_option maxHeartbeats 400000 in
theorem refold_any (x : Int) (w : World) (h0 : -2147483648 ≤ x) (h1 : x ≤ 2147483647) :
    Calls Try.prog 10 #[.int .i32 x] w fun e w' => e = .returned (.int .u32 (foldF x)) ∧ w = w' := by
  by_cases hx : 0 ≤ x
  · go_enter Try.func10, Try.ntmps10
    go_wp2
    go_ret
    exact ⟨ret_int (foldF_pos hx).symm, rfl⟩
  · go_enter Try.func10, Try.ntmps10
    go_wp2
    go_ret
    exact ⟨ret_int (foldF_neg (by omega)).symm, rfl⟩

set_option maxHeartbeats 400000 in
theorem reback_any (x : Int) (w : World) (h0 : 0 ≤ x) (h1 : x ≤ 4294967295) :
    Calls Try.prog 12 #[.int .u32 x] w fun e w' => e = .returned (.int .i32 (backF x)) ∧ w = w' := by
  by_cases hx : x % 2 = 0
  · have H := Lib.hid (backF_even hx)
    have hb : (x % 2 == 0) = true := by simp [hx]
    clear hx
    go_enter Try.func12, Try.ntmps12
    go_wp2
    go_ret
    exact ⟨ret_int H.out.symm, rfl⟩
  · have H := Lib.hid (backF_odd hx)
    have hb : (x % 2 == 0) = false := by simp [hx]
    have hq : x % 2 = 1 := by omega
    have E : Hid (wrap32 (wrap64 (-(x + 1).tdiv 2)) = -((x + 1) / 2)) := by
      show wrap32 (wrap64 (-(x + 1).tdiv 2)) = -((x + 1) / 2)
      rw [Int.tdiv_eq_ediv_of_nonneg (by omega)]
      simp only [wrap32, wrap64]
      omega
    clear hx hq
    go_enter Try.func12, Try.ntmps12
    go_wp2
    go_ret
    exact ⟨ret_int (E.out.trans H.out.symm), rfl⟩

theorem elU32 : Elem Try.prog 31 22 .u32 4 := Elem.mk' Try.underlying31 (by kernel_rfl)
theorem elI32 : Elem Try.prog 35 21 .i32 4 := Elem.mk' Try.underlying35 (by kernel_rfl)

set_option maxHeartbeats 1000000 in
theorem eachF_any (A : Option Addr) (c : Nat) (xs : List Int) (w : World) (hl : xs.length ≤ 4000) (hx : I32 xs) (hs : Sl w w.heap.size .i32 A xs) :
    Calls Try.prog 21 #[.slice A xs.length c, .func (.func 9) #[] #[]] w fun e w' =>
      ∃ v, e = .returned (.tuple #[v, .int .i64 0]) ∧ Own w' w.heap.size 22 .u32 v (xs.map foldF) ∧ Below w.heap.size w w' := by
  have hd : decide ((4000 : Int) < (xs.length : Int)) = false := by simp; omega
  go_enter Try.func21, Try.ntmps21
  go_wp2_with fail
  go_loopw [6, 14] (fun v i wr => ∃ k : Nat, k ≤ xs.length ∧ i = .int .i64 k ∧ Own wr w.heap.size 22 .u32 v ((xs.take k).map foldF) ∧ Below w.heap.size w wr) (fun _ i _ => xs.length - (intOf i).toNat)
  case atStart => exact ⟨0, Nat.zero_le _, rfl, World.ownsRow_nil _ _ _ _, Below.refl _ _⟩
  case round =>
    obtain ⟨k, hk, rfl, hown, hbel⟩ := hrel
    by_cases hlt : k < xs.length
    · obtain ⟨b, o, rfl, hb, hc⟩ := hs (by omega)
      have hcell := (hbel.cell (p := ⟨b, o + k, none⟩) hb).trans (hc k hlt)
      have hbd := hx _ (mem_getD hlt)
      have HT := Lib.hid (map_take_snoc foldF xs k hlt)
      have HO := Lib.hid hown
      have HB := Lib.hid hbel
      clear hc hs hown hbel
      generalize xs.getD k 0 = y at *
      go_wp2_with fail
      refine (fold_any y _ hbd.1 hbd.2).mono ?_
      rintro e w' ⟨rfl, rfl⟩
      go_wp2_with (at_builtin; refine app1 elU32 _ _ rfl rfl rfl rfl HO.out (by simp; omega) (by simp; omega) HB.out.size ?_; intro v' w' hown' hbel')
      go_roundw
      case rel => exact ⟨k + 1, by omega, by go_num, by rw [HT.out]; exact hown', HB.out.trans hbel'⟩
      case measure => simp [intOf]; omega
    · go_wp2_with fail
      go_ret2
      refine ⟨_, rfl, ?_, hbel⟩
      rw [List.take_of_length_le (by omega)] at hown
      exact hown

theorem eachF_many (A : Option Addr) (c n : Nat) (g : Value) (w : World) (hl : 4000 < n) (hm : n ≤ 9223372036854775807) :
    Calls Try.prog 21 #[.slice A n c, g] w fun e w' => e = .returned (.tuple #[.slice none 0 0, .int .i64 4]) ∧ w = w' := by
  go_enter Try.func21, Try.ntmps21
  go_wp2_with fail
  go_ret2
  exact ⟨rfl, rfl⟩

set_option maxHeartbeats 1000000 in
theorem eachB_any (A : Option Addr) (c : Nat) (xs : List Int) (w : World) (hl : xs.length ≤ 4000) (hx : U32 xs) (hs : Sl w w.heap.size .u32 A xs) :
    Calls Try.prog 22 #[.slice A xs.length c, .func (.func 11) #[] #[]] w fun e w' =>
      ∃ v, e = .returned (.tuple #[v, .int .i64 0]) ∧ Own w' w.heap.size 21 .i32 v (xs.map backF) ∧ Below w.heap.size w w' := by
  have hd : decide ((4000 : Int) < (xs.length : Int)) = false := by simp; omega
  go_enter Try.func22, Try.ntmps22
  go_wp2_with fail
  go_loopw [6, 14] (fun v i wr => ∃ k : Nat, k ≤ xs.length ∧ i = .int .i64 k ∧ Own wr w.heap.size 21 .i32 v ((xs.take k).map backF) ∧ Below w.heap.size w wr) (fun _ i _ => xs.length - (intOf i).toNat)
  case atStart => exact ⟨0, Nat.zero_le _, rfl, World.ownsRow_nil _ _ _ _, Below.refl _ _⟩
  case round =>
    obtain ⟨k, hk, rfl, hown, hbel⟩ := hrel
    by_cases hlt : k < xs.length
    · obtain ⟨b, o, rfl, hb, hc⟩ := hs (by omega)
      have hcell := (hbel.cell (p := ⟨b, o + k, none⟩) hb).trans (hc k hlt)
      have hbd := hx _ (mem_getD hlt)
      have HT := Lib.hid (map_take_snoc backF xs k hlt)
      have HO := Lib.hid hown
      have HB := Lib.hid hbel
      clear hc hs hown hbel
      generalize xs.getD k 0 = y at *
      go_wp2_with fail
      refine (back_any y _ hbd.1 hbd.2).mono ?_
      rintro e w' ⟨rfl, rfl⟩
      go_wp2_with (at_builtin; refine app1 elI32 _ _ rfl rfl rfl rfl HO.out (by simp; omega) (by simp; omega) HB.out.size ?_; intro v' w' hown' hbel')
      go_roundw
      case rel => exact ⟨k + 1, by omega, by go_num, by rw [HT.out]; exact hown', HB.out.trans hbel'⟩
      case measure => simp [intOf]; omega
    · go_wp2_with fail
      go_ret2
      refine ⟨_, rfl, ?_, hbel⟩
      rw [List.take_of_length_le (by omega)] at hown
      exact hown

theorem eachB_many (A : Option Addr) (c n : Nat) (g : Value) (w : World) (hl : 4000 < n) (hm : n ≤ 9223372036854775807) :
    Calls Try.prog 22 #[.slice A n c, g] w fun e w' => e = .returned (.tuple #[.slice none 0 0, .int .i64 4]) ∧ w = w' := by
  go_enter Try.func22, Try.ntmps22
  go_wp2_with fail
  go_ret2
  exact ⟨rfl, rfl⟩

set_option maxHeartbeats 400000 in
theorem all_any (A : Option Addr) (c : Nat) (xs : List Int) (w : World) (hl : xs.length ≤ 4000) (hx : I32 xs) (hs : Sl w w.heap.size .i32 A xs) :
    Calls Try.prog 15 #[.slice A xs.length c] w fun e w' =>
      ∃ v, e = .returned (.tuple #[v, .int .i64 0]) ∧ Own w' w.heap.size 22 .u32 v (xs.map foldF) ∧ Below w.heap.size w w' := by
  go_enter Try.func15, Try.ntmps15
  go_wp2_with fail
  refine (eachF_any A c xs _ hl hx hs).mono ?_
  rintro e w' ⟨v, rfl, hown, hbel⟩
  go_wp2_with fail
  go_ret2
  exact ⟨_, rfl, hown, hbel⟩

theorem all_many (A : Option Addr) (c n : Nat) (w : World) (hl : 4000 < n) (hm : n ≤ 9223372036854775807) :
    Calls Try.prog 15 #[.slice A n c] w fun e w' => e = .returned (.tuple #[.slice none 0 0, .int .i64 4]) ∧ w = w' := by
  go_enter Try.func15, Try.ntmps15
  go_wp2_with fail
  refine (eachF_many A c n _ _ hl hm).mono ?_
  rintro e w' ⟨rfl, rfl⟩
  go_wp2_with fail
  go_ret2
  exact ⟨rfl, rfl⟩

set_option maxHeartbeats 400000 in
theorem undo_any (A : Option Addr) (c : Nat) (xs : List Int) (w : World) (hl : xs.length ≤ 4000) (hx : U32 xs) (hs : Sl w w.heap.size .u32 A xs) :
    Calls Try.prog 16 #[.slice A xs.length c] w fun e w' =>
      ∃ v, e = .returned (.tuple #[v, .int .i64 0]) ∧ Own w' w.heap.size 21 .i32 v (xs.map backF) ∧ Below w.heap.size w w' := by
  go_enter Try.func16, Try.ntmps16
  go_wp2_with fail
  refine (eachB_any A c xs _ hl hx hs).mono ?_
  rintro e w' ⟨v, rfl, hown, hbel⟩
  go_wp2_with fail
  go_ret2
  exact ⟨_, rfl, hown, hbel⟩

theorem undo_many (A : Option Addr) (c n : Nat) (w : World) (hl : 4000 < n) (hm : n ≤ 9223372036854775807) :
    Calls Try.prog 16 #[.slice A n c] w fun e w' => e = .returned (.tuple #[.slice none 0 0, .int .i64 4]) ∧ w = w' := by
  go_enter Try.func16, Try.ntmps16
  go_wp2_with fail
  refine (eachB_many A c n _ _ hl hm).mono ?_
  rintro e w' ⟨rfl, rfl⟩
  go_wp2_with fail
  go_ret2
  exact ⟨rfl, rfl⟩

set_option maxHeartbeats 1000000 in
theorem refall_any (A : Option Addr) (c : Nat) (xs : List Int) (w : World) (hl : xs.length ≤ 4000) (hx : I32 xs) (hs : Sl w w.heap.size .i32 A xs) :
    Calls Try.prog 18 #[.slice A xs.length c] w fun e w' =>
      ∃ v, e = .returned (.tuple #[v, .int .i64 0]) ∧ Own w' w.heap.size 22 .u32 v (xs.map foldF) ∧ Below w.heap.size w w' := by
  have hd : decide ((4000 : Int) < (xs.length : Int)) = false := by simp; omega
  go_enter Try.func18, Try.ntmps18
  go_wp2_with fail
  go_loopw [4, 5] (fun v i wr => ∃ k : Nat, k ≤ xs.length ∧ i = .int .i64 k ∧ Own wr w.heap.size 22 .u32 v ((xs.take k).map foldF) ∧ Below w.heap.size w wr) (fun _ i _ => xs.length - (intOf i).toNat)
  case atStart => exact ⟨0, Nat.zero_le _, rfl, World.ownsRow_nil _ _ _ _, Below.refl _ _⟩
  case round =>
    obtain ⟨k, hk, rfl, hown, hbel⟩ := hrel
    by_cases hlt : k < xs.length
    · obtain ⟨b, o, rfl, hb, hc⟩ := hs (by omega)
      have hcell := (hbel.cell (p := ⟨b, o + k, none⟩) hb).trans (hc k hlt)
      have hbd := hx _ (mem_getD hlt)
      have HT := Lib.hid (map_take_snoc foldF xs k hlt)
      have HO := Lib.hid hown
      have HB := Lib.hid hbel
      clear hc hs hown hbel
      generalize xs.getD k 0 = y at *
      go_wp2_with fail
      refine (refold_any y _ hbd.1 hbd.2).mono ?_
      rintro e w' ⟨rfl, rfl⟩
      go_wp2_with (at_builtin; refine app1 elU32 _ _ rfl rfl rfl rfl HO.out (by simp; omega) (by simp; omega) HB.out.size ?_; intro v' w' hown' hbel')
      go_roundw
      case rel => exact ⟨k + 1, by omega, by go_num, by rw [HT.out]; exact hown', HB.out.trans hbel'⟩
      case measure => simp [intOf]; omega
    · go_wp2_with fail
      go_ret2
      refine ⟨_, rfl, ?_, hbel⟩
      rw [List.take_of_length_le (by omega)] at hown
      exact hown

theorem refall_many (A : Option Addr) (c n : Nat) (w : World) (hl : 4000 < n) (hm : n ≤ 9223372036854775807) :
    Calls Try.prog 18 #[.slice A n c] w fun e w' => e = .returned (.tuple #[.slice none 0 0, .int .i64 4]) ∧ w = w' := by
  go_enter Try.func18, Try.ntmps18
  go_wp2_with fail
  go_ret2
  exact ⟨rfl, rfl⟩

set_option maxHeartbeats 1000000 in
theorem refundo_any (A : Option Addr) (c : Nat) (xs : List Int) (w : World) (hl : xs.length ≤ 4000) (hx : U32 xs) (hs : Sl w w.heap.size .u32 A xs) :
    Calls Try.prog 19 #[.slice A xs.length c] w fun e w' =>
      ∃ v, e = .returned (.tuple #[v, .int .i64 0]) ∧ Own w' w.heap.size 21 .i32 v (xs.map backF) ∧ Below w.heap.size w w' := by
  have hd : decide ((4000 : Int) < (xs.length : Int)) = false := by simp; omega
  go_enter Try.func19, Try.ntmps19
  go_wp2_with fail
  go_loopw [4, 5] (fun v i wr => ∃ k : Nat, k ≤ xs.length ∧ i = .int .i64 k ∧ Own wr w.heap.size 21 .i32 v ((xs.take k).map backF) ∧ Below w.heap.size w wr) (fun _ i _ => xs.length - (intOf i).toNat)
  case atStart => exact ⟨0, Nat.zero_le _, rfl, World.ownsRow_nil _ _ _ _, Below.refl _ _⟩
  case round =>
    obtain ⟨k, hk, rfl, hown, hbel⟩ := hrel
    by_cases hlt : k < xs.length
    · obtain ⟨b, o, rfl, hb, hc⟩ := hs (by omega)
      have hcell := (hbel.cell (p := ⟨b, o + k, none⟩) hb).trans (hc k hlt)
      have hbd := hx _ (mem_getD hlt)
      have HT := Lib.hid (map_take_snoc backF xs k hlt)
      have HO := Lib.hid hown
      have HB := Lib.hid hbel
      clear hc hs hown hbel
      generalize xs.getD k 0 = y at *
      go_wp2_with fail
      refine (reback_any y _ hbd.1 hbd.2).mono ?_
      rintro e w' ⟨rfl, rfl⟩
      go_wp2_with (at_builtin; refine app1 elI32 _ _ rfl rfl rfl rfl HO.out (by simp; omega) (by simp; omega) HB.out.size ?_; intro v' w' hown' hbel')
      go_roundw
      case rel => exact ⟨k + 1, by omega, by go_num, by rw [HT.out]; exact hown', HB.out.trans hbel'⟩
      case measure => simp [intOf]; omega
    · go_wp2_with fail
      go_ret2
      refine ⟨_, rfl, ?_, hbel⟩
      rw [List.take_of_length_le (by omega)] at hown
      exact hown

theorem refundo_many (A : Option Addr) (c n : Nat) (w : World) (hl : 4000 < n) (hm : n ≤ 9223372036854775807) :
    Calls Try.prog 19 #[.slice A n c] w fun e w' => e = .returned (.tuple #[.slice none 0 0, .int .i64 4]) ∧ w = w' := by
  go_enter Try.func19, Try.ntmps19
  go_wp2_with fail
  go_ret2
  exact ⟨rfl, rfl⟩

set_option maxHeartbeats 1000000 in
theorem same_any (A A' : Option Addr) (c c' : Nat) (xs : List Int) (w : World) (hl : xs.length ≤ 140737488355328) (hs : Sl w w.heap.size .u32 A xs) (hs' : Sl w w.heap.size .u32 A' xs) :
    Calls Try.prog 20 #[.slice A xs.length c, .slice A' xs.length c'] w fun e w' =>
      e = .returned (.bool true) ∧ Below w.heap.size w w' := by
  have hd : ((xs.length : Int) != (xs.length : Int)) = false := by simp
  go_enter Try.func20, Try.ntmps20
  go_wp2_with fail
  go_loopw [5] (fun i wr => ∃ k : Nat, k ≤ xs.length ∧ i = .int .i64 k ∧ Below w.heap.size w wr) (fun i _ => xs.length - (intOf i).toNat)
  case atStart => exact ⟨0, Nat.zero_le _, rfl, Below.refl _ _⟩
  case round =>
    obtain ⟨k, hk, rfl, hbel⟩ := hrel
    by_cases hlt : k < xs.length
    · obtain ⟨b, o, rfl, hb, hc⟩ := hs (by omega)
      obtain ⟨b', o', rfl, hb', hc'⟩ := hs' (by omega)
      have hcell := (hbel.cell (p := ⟨b, o + k, none⟩) hb).trans (hc k hlt)
      have hcell' := (hbel.cell (p := ⟨b', o' + k, none⟩) hb').trans (hc' k hlt)
      have HB := Lib.hid hbel
      clear hc hs hc' hs' hbel
      generalize xs.getD k 0 = y at *
      have hlt' : (k : Int) < (xs.length : Int) := by omega
      have hy : (y != y) = false := by simp
      go_wp2_with fail
      go_quiet (fail)
      go_wp2_with fail
      go_roundw
      case rel => exact ⟨k + 1, by omega, by go_num, below_drewN HB.out _⟩
      case measure => simp [intOf]; omega
    · go_wp2_with fail
      go_ret
      exact ⟨rfl, hbel⟩

set_option maxHeartbeats 1000000 in
theorem sameS_any (A A' : Option Addr) (c c' : Nat) (xs : List Int) (w : World) (hl : xs.length ≤ 140737488355328) (hs : Sl w w.heap.size .i32 A xs) (hs' : Sl w w.heap.size .i32 A' xs) :
    Calls Try.prog 17 #[.slice A xs.length c, .slice A' xs.length c'] w fun e w' =>
      e = .returned (.bool true) ∧ Below w.heap.size w w' := by
  have hd : ((xs.length : Int) != (xs.length : Int)) = false := by simp
  go_enter Try.func17, Try.ntmps17
  go_wp2_with fail
  go_loopw [5] (fun i wr => ∃ k : Nat, k ≤ xs.length ∧ i = .int .i64 k ∧ Below w.heap.size w wr) (fun i _ => xs.length - (intOf i).toNat)
  case atStart => exact ⟨0, Nat.zero_le _, rfl, Below.refl _ _⟩
  case round =>
    obtain ⟨k, hk, rfl, hbel⟩ := hrel
    by_cases hlt : k < xs.length
    · obtain ⟨b, o, rfl, hb, hc⟩ := hs (by omega)
      obtain ⟨b', o', rfl, hb', hc'⟩ := hs' (by omega)
      have hcell := (hbel.cell (p := ⟨b, o + k, none⟩) hb).trans (hc k hlt)
      have hcell' := (hbel.cell (p := ⟨b', o' + k, none⟩) hb').trans (hc' k hlt)
      have HB := Lib.hid hbel
      clear hc hs hc' hs' hbel
      generalize xs.getD k 0 = y at *
      have hlt' : (k : Int) < (xs.length : Int) := by omega
      have hy : (y != y) = false := by simp
      go_wp2_with fail
      go_quiet (fail)
      go_wp2_with fail
      go_roundw
      case rel => exact ⟨k + 1, by omega, by go_num, below_drewN HB.out _⟩
      case measure => simp [intOf]; omega
    · go_wp2_with fail
      go_ret
      exact ⟨rfl, hbel⟩

end Go.Proofs.Ytacclloligomeaa

/-
  The walk of FoldLists. Conditions: numbers within their types.
-/
import Derived.Test.YtacclloligomeaaLaw05A
import Derived.Deep.DeepCutAuto
namespace Go.Proofs.Ytacclloligomeaa
open Go.RowKit

def allE (xs : List Int) : Int := if xs.length ≤ 4000 then 0 else 4
def allL (xs : List Int) : List Int := if xs.length ≤ 4000 then xs.map foldF else []
def undoL (xs : List Int) : List Int := if xs.length ≤ 4000 then xs.map backF else []
theorem allL_len (xs : List Int) : (allL xs).length ≤ 4000 := by unfold allL; split <;> simp <;> omega
theorem undoL_len (xs : List Int) : (undoL xs).length ≤ 4000 := by unfold undoL; split <;> simp <;> omega

theorem all_comb (A : Option Addr) (c : Nat) (xs : List Int) (w : World) (hm : xs.length ≤ 9223372036854775807) (hx : I32 xs) (hs : Sl w w.heap.size .i32 A xs) :
    Calls Try.prog 15 #[.slice A xs.length c] w fun e w' =>
      ∃ v, e = .returned (.tuple #[v, .int .i64 (allE xs)]) ∧ Own w' w.heap.size 22 .u32 v (allL xs) ∧ Below w.heap.size w w' := by
  by_cases hl : xs.length ≤ 4000
  · refine (all_any A c xs w hl hx hs).mono ?_
    rintro e w' ⟨v, rfl, hown, hbel⟩
    exact ⟨v, by rw [show allE xs = 0 from if_pos hl], by rw [show allL xs = _ from if_pos hl]; exact hown, hbel⟩
  · refine (all_many A c xs.length w (by omega) hm).mono ?_
    rintro e w' ⟨rfl, rfl⟩
    exact ⟨_, by rw [show allE xs = 4 from if_neg hl], by rw [show allL xs = _ from if_neg hl]; exact World.ownsRow_nil _ _ _ _, bel_self _⟩

theorem undo_comb (A : Option Addr) (c : Nat) (xs : List Int) (w : World) (hm : xs.length ≤ 9223372036854775807) (hx : U32 xs) (hs : Sl w w.heap.size .u32 A xs) :
    Calls Try.prog 16 #[.slice A xs.length c] w fun e w' =>
      ∃ v, e = .returned (.tuple #[v, .int .i64 (allE xs)]) ∧ Own w' w.heap.size 21 .i32 v (undoL xs) ∧ Below w.heap.size w w' := by
  by_cases hl : xs.length ≤ 4000
  · refine (undo_any A c xs w hl hx hs).mono ?_
    rintro e w' ⟨v, rfl, hown, hbel⟩
    exact ⟨v, by rw [show allE xs = 0 from if_pos hl], by rw [show undoL xs = _ from if_pos hl]; exact hown, hbel⟩
  · refine (undo_many A c xs.length w (by omega) hm).mono ?_
    rintro e w' ⟨rfl, rfl⟩
    exact ⟨_, by rw [show allE xs = 4 from if_neg hl], by rw [show undoL xs = _ from if_neg hl]; exact World.ownsRow_nil _ _ _ _, bel_self _⟩

theorem refall_comb (A : Option Addr) (c : Nat) (xs : List Int) (w : World) (hm : xs.length ≤ 9223372036854775807) (hx : I32 xs) (hs : Sl w w.heap.size .i32 A xs) :
    Calls Try.prog 18 #[.slice A xs.length c] w fun e w' =>
      ∃ v, e = .returned (.tuple #[v, .int .i64 (allE xs)]) ∧ Own w' w.heap.size 22 .u32 v (allL xs) ∧ Below w.heap.size w w' := by
  by_cases hl : xs.length ≤ 4000
  · refine (refall_any A c xs w hl hx hs).mono ?_
    rintro e w' ⟨v, rfl, hown, hbel⟩
    exact ⟨v, by rw [show allE xs = 0 from if_pos hl], by rw [show allL xs = _ from if_pos hl]; exact hown, hbel⟩
  · refine (refall_many A c xs.length w (by omega) hm).mono ?_
    rintro e w' ⟨rfl, rfl⟩
    exact ⟨_, by rw [show allE xs = 4 from if_neg hl], by rw [show allL xs = _ from if_neg hl]; exact World.ownsRow_nil _ _ _ _, bel_self _⟩

theorem refundo_comb (A : Option Addr) (c : Nat) (xs : List Int) (w : World) (hm : xs.length ≤ 9223372036854775807) (hx : U32 xs) (hs : Sl w w.heap.size .u32 A xs) :
    Calls Try.prog 19 #[.slice A xs.length c] w fun e w' =>
      ∃ v, e = .returned (.tuple #[v, .int .i64 (allE xs)]) ∧ Own w' w.heap.size 21 .i32 v (undoL xs) ∧ Below w.heap.size w w' := by
  by_cases hl : xs.length ≤ 4000
  · refine (refundo_any A c xs w hl hx hs).mono ?_
    rintro e w' ⟨v, rfl, hown, hbel⟩
    exact ⟨v, by rw [show allE xs = 0 from if_pos hl], by rw [show undoL xs = _ from if_pos hl]; exact hown, hbel⟩
  · refine (refundo_many A c xs.length w (by omega) hm).mono ?_
    rintro e w' ⟨rfl, rfl⟩
    exact ⟨_, by rw [show allE xs = 4 from if_neg hl], by rw [show undoL xs = _ from if_neg hl]; exact World.ownsRow_nil _ _ _ _, bel_self _⟩

set_option maxRecDepth 100000 in
set_option maxHeartbeats 1000000 in
theorem foldLists_main (A : Option Addr) (c : Nat) (xs : List Int) (A' : Option Addr) (c' : Nat) (ys : List Int) (w : World)
    (hx : I32 xs) (hs : Sl w w.heap.size .i32 A xs) (hy : U32 ys) (hs' : Sl w w.heap.size .u32 A' ys)
    (h1 : xs.length ≤ 500 ∨ 4000 < xs.length) (h2 : xs.length ≤ 4100) (h3 : ys.length ≤ 500 ∨ 4000 < ys.length) (h4 : ys.length ≤ 4100) :
    Calls Try.prog 7 #[.slice A xs.length c, .slice A' ys.length c'] w fun e w' => e = .returned (.bool true) ∧ Below w.heap.size w w' := by
  have HS := Lib.hid hs
  have HS' := Lib.hid hs'
  have HX := Lib.hid hx
  have HY := Lib.hid hy
  clear hs hs' hx hy
  go_enter Try.func7, Try.ntmps7
  go_upto_region 1 with fail
  go_cut [42] (fun t wx => t = .bool false ∧ w = wx)
  case first =>
    rcases h1 with h1 | h1 <;> rcases h3 with h3 | h3 <;> (go_wp2_with fail; go_meet; exact ⟨congrArg Value.bool (by simp; omega), rfl⟩)
  case rest =>
    obtain ⟨rfl, rfl⟩ := hcut
    have B0 := Lib.hid (bel_up (bel_self w) (.cells #[] 21))
    go_wp2_with (first
      | (at_builtin; refine appN (xs := []) (ys := xs) elI32 (.tmp 43) (.tmp 44) rfl rfl rfl rfl (Own.lit w w.heap.size .i32 21 [] rfl rfl (Nat.le_refl _) (by decide)) (HS.out.alloc (Nat.le_refl _) _) (by simp; omega) (by simp; omega) B0.out.size ?_; intro v1 w1 own1 bel1; have B1 := Lib.hid (B0.out.trans (bel1.mono (by simp))); have O1 := Lib.hid own1; clear own1 bel1 B0)
      | (at_builtin; refine appN (xs := []) (ys := ys) elU32 (.tmp 46) (.tmp 47) rfl rfl rfl rfl (Own.lit w1 w1.heap.size .u32 22 [] rfl rfl (Nat.le_refl _) (by decide)) ((HS'.out.below B1.out).alloc B1.out.size _) (by simp; omega) (by simp; omega) (by simp) ?_; intro v2 w2 own2 bel2))
    have B2 : Below w1.heap.size w1 w2 := (bel_up (bel_self w1) _).trans bel2
    obtain ⟨A1, c1, rfl, _, _, sl1⟩ := O1.out.sl
    obtain ⟨A2, c2, rfl, _, _, sl2⟩ := own2.sl
    have SA := Lib.hid (sl1.next B2)
    have SB := Lib.hid sl2
    have SX := Lib.hid ((HS.out.next B1.out).next B2)
    have SY := Lib.hid ((HS'.out.next B1.out).next B2)
    have BB := Lib.hid (bel_next B1.out B2)
    clear own2 bel2 sl1 sl2 O1 B1 B2 HS HS'
    simp only [List.nil_append]
    go_wp2_with fail
    refine (all_comb A1 c1 xs _ (by omega) HX.out SA.out).mono ?_
    rintro e w3 ⟨v3, rfl, own3, bel3⟩
    obtain ⟨A3, c3, rfl, _, _, sl3⟩ := own3.sl
    have S3 := Lib.hid sl3
    have SA := Lib.hid (SA.out.next bel3)
    have SB := Lib.hid (SB.out.next bel3)
    have SX := Lib.hid (SX.out.next bel3)
    have SY := Lib.hid (SY.out.next bel3)
    have BB := Lib.hid (bel_next BB.out bel3)
    clear own3 bel3 sl3
    go_wp2_with fail
    refine (refall_comb A c xs _ (by omega) HX.out SX.out).mono ?_
    rintro e w4 ⟨v4, rfl, own4, bel4⟩
    obtain ⟨A4, c4, rfl, _, _, sl4⟩ := own4.sl
    have S4 := Lib.hid sl4
    have S3 := Lib.hid (S3.out.next bel4)
    have SA := Lib.hid (SA.out.next bel4)
    have SB := Lib.hid (SB.out.next bel4)
    have SX := Lib.hid (SX.out.next bel4)
    have SY := Lib.hid (SY.out.next bel4)
    have BB := Lib.hid (bel_next BB.out bel4)
    clear own4 bel4 sl4
    go_wp2_with fail
    refine (undo_comb A2 c2 ys _ (by omega) HY.out SB.out).mono ?_
    rintro e w5 ⟨v5, rfl, own5, bel5⟩
    obtain ⟨A5, c5, rfl, _, _, sl5⟩ := own5.sl
    have S5 := Lib.hid sl5
    have S4 := Lib.hid (S4.out.next bel5)
    have S3 := Lib.hid (S3.out.next bel5)
    have SA := Lib.hid (SA.out.next bel5)
    have SB := Lib.hid (SB.out.next bel5)
    have SX := Lib.hid (SX.out.next bel5)
    have SY := Lib.hid (SY.out.next bel5)
    have BB := Lib.hid (bel_next BB.out bel5)
    clear own5 bel5 sl5
    go_wp2_with fail
    refine (refundo_comb A' c' ys _ (by omega) HY.out SY.out).mono ?_
    rintro e w6 ⟨v6, rfl, own6, bel6⟩
    obtain ⟨A6, c6, rfl, _, _, sl6⟩ := own6.sl
    have S6 := Lib.hid sl6
    have S5 := Lib.hid (S5.out.next bel6)
    have S4 := Lib.hid (S4.out.next bel6)
    have S3 := Lib.hid (S3.out.next bel6)
    have SA := Lib.hid (SA.out.next bel6)
    have SB := Lib.hid (SB.out.next bel6)
    have SX := Lib.hid (SX.out.next bel6)
    have SY := Lib.hid (SY.out.next bel6)
    have BB := Lib.hid (bel_next BB.out bel6)
    clear own6 bel6 sl6
    have le1 := allL_len xs
    have le2 := undoL_len ys
    go_wp2_with fail
    refine (same_any A3 A4 c3 c4 (allL xs) _ (by omega) S3.out S4.out).mono ?_
    rintro e w7 ⟨rfl, bel7⟩
    have S6 := Lib.hid (S6.out.next bel7)
    have S5 := Lib.hid (S5.out.next bel7)
    have SA := Lib.hid (SA.out.next bel7)
    have SB := Lib.hid (SB.out.next bel7)
    have SX := Lib.hid (SX.out.next bel7)
    have SY := Lib.hid (SY.out.next bel7)
    have BB := Lib.hid (bel_next BB.out bel7)
    clear bel7 S3 S4
    go_wp2_with fail
    refine (sameS_any A5 A6 c5 c6 (undoL ys) _ (by omega) S5.out S6.out).mono ?_
    rintro e w8 ⟨rfl, bel8⟩
    have SA := Lib.hid (SA.out.next bel8)
    have SB := Lib.hid (SB.out.next bel8)
    have SX := Lib.hid (SX.out.next bel8)
    have SY := Lib.hid (SY.out.next bel8)
    have BB := Lib.hid (bel_next BB.out bel8)
    clear bel8 S5 S6
    go_wp2_with fail
    refine (sameS_any A1 A c1 c xs _ (by omega) SA.out SX.out).mono ?_
    rintro e w9 ⟨rfl, bel9⟩
    have SB := Lib.hid (SB.out.next bel9)
    have SY := Lib.hid (SY.out.next bel9)
    have BB := Lib.hid (bel_next BB.out bel9)
    clear bel9 SA SX
    go_wp2_with fail
    refine (same_any A2 A' c2 c' ys _ (by omega) SB.out SY.out).mono ?_
    rintro e w10 ⟨rfl, bel10⟩
    have BB := Lib.hid (bel_next BB.out bel10)
    clear bel10 SB SY
    go_wp2_with fail
    go_ret
    exact ⟨rfl, BB.out⟩

set_option maxRecDepth 100000 in
set_option maxHeartbeats 1000000 in
theorem foldLists_skip (A : Option Addr) (c n : Nat) (A' : Option Addr) (c' m : Nat) (w : World) (hn : n ≤ 9223372036854775807) (hm : m ≤ 9223372036854775807)
    (h : (500 < n ∧ n ≤ 4000) ∨ 4100 < n ∨ ((n ≤ 500 ∨ (4000 < n ∧ n ≤ 4100)) ∧ ((500 < m ∧ m ≤ 4000) ∨ 4100 < m))) :
    Calls Try.prog 7 #[.slice A n c, .slice A' m c'] w fun e w' => e = .returned (.bool true) ∧ Below w.heap.size w w' := by
  rcases h with ⟨h1, h2⟩ | h1 | ⟨h1 | ⟨h1, h1'⟩, ⟨h2, h3⟩ | h2⟩
  all_goals
    go_enter Try.func7, Try.ntmps7
    go_wp2_with fail
    go_ret
    exact ⟨rfl, bel_self _⟩

theorem foldLists_walk (A : Option Addr) (c : Nat) (xs : List Int) (A' : Option Addr) (c' : Nat) (ys : List Int) (w : World)
    (h1 : xs.length ≤ c) (h2 : c ≤ 9223372036854775807) (hx : I32 xs) (hs : Sl w w.heap.size .i32 A xs)
    (h3 : ys.length ≤ c') (h4 : c' ≤ 9223372036854775807) (hy : U32 ys) (hs' : Sl w w.heap.size .u32 A' ys) :
    Calls Try.prog 7 #[.slice A xs.length c, .slice A' ys.length c'] w fun e w' => e = .returned (.bool true) ∧ Below w.heap.size w w' := by
  by_cases h : (xs.length ≤ 500 ∨ 4000 < xs.length) ∧ xs.length ≤ 4100 ∧ (ys.length ≤ 500 ∨ 4000 < ys.length) ∧ ys.length ≤ 4100
  · exact foldLists_main A c xs A' c' ys w hx hs hy hs' h.1 h.2.1 h.2.2.1 h.2.2.2
  · exact foldLists_skip A c _ A' c' _ w (by omega) (by omega) (by omega)
end Go.Proofs.Ytacclloligomeaa

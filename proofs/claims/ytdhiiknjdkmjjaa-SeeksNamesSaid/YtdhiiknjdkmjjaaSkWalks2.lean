/-
  What Offsets and Find of package seeks compute. Conditions: numbers within their types.
-/
import Derived.Test.YtdhiiknjdkmjjaaSkWalks
import Derived.WalkMore
import Derived.ScopeJumps
namespace Go.Proofs.Ytdhiiknjdkmjjaa
open Go.RowKit
set_option linter.unusedVariables false

/-- the offsets up to k -/
def skO (xs : List Int) (k : Nat) : List Int := (List.range (k + 1)).map (fun j => sumI (xs.take j))
theorem skO_zero (xs : List Int) : skO xs 0 = [0] := by simp [skO, sumI_nil]
theorem skO_snoc (xs : List Int) (k : Nat) : skO xs (k + 1) = skO xs k ++ [sumI (xs.take (k + 1))] := by
  unfold skO
  rw [List.range_succ, List.map_append]; rfl
theorem skO_len (xs : List Int) (k : Nat) : (skO xs k).length = k + 1 := by simp [skO]
theorem skO_get (xs : List Int) (k j : Nat) (h : j ≤ k) : (skO xs k).getD j 0 = sumI (xs.take j) := by
  unfold skO
  rw [List.getD_eq_getElem?_getD, List.getElem?_map, List.getElem?_range (by omega)]; rfl
def skOR (xs : List Int) : List Int := if skE xs = 0 then skO xs xs.length else []
theorem skOR_ok {xs : List Int} (h : skE xs = 0) : skOR xs = skO xs xs.length := by unfold skOR; rw [if_pos h]
theorem skOR_bad {xs : List Int} (h : skE xs ≠ 0) : skOR xs = [] := by unfold skOR; rw [if_neg h]

set_option maxHeartbeats 400000 in
/-- next: the captured sum grows -/
theorem skNext (g : Nat) (s n : Int) (w : World) (hs0 : 0 ≤ s) (hs1 : s ≤ 100000) (h0 : 0 ≤ n) (h1 : n ≤ 100000) (hg : CellIs w g 3 (.int .i64 s)) :
    Calls Try.prog 32 #[.int .i64 n, .pointer (some ⟨g, 0, none⟩)] w fun e w' =>
      e = .returned (.int .i64 (s + n)) ∧ w' = w.setCell ⟨g, 0, none⟩ (.int .i64 (s + n)) := by
  have c1 := hg.cell
  have f1 := hg.free
  have c2 := (hg.set (.int .i64 (s + n))).cell
  clear hg
  go_enter Try.func32, Try.ntmps32
  go_wp2_with fail
  go_ret
  exact ⟨rfl, rfl⟩

set_option maxHeartbeats 1000000 in
theorem skOffsets (A : Option Addr) (n c : Nat) (xs : List Int) (w : World) (hn : xs.length = n) (hm : n ≤ 9223372036854775807) (hx : I64 xs) (hs : Sl w w.heap.size .i64 A xs) :
    Calls Try.prog 16 #[.slice A n c] w fun e w' =>
      ∃ v, e = .returned (.tuple #[v, .int .i64 (skE xs)]) ∧ Own w' w.heap.size 3 .i64 v (skOR xs) ∧ Below w.heap.size w w' := by
  have CK := Lib.hid (skCheck A n c xs w hn hm hx hs)
  by_cases h0 : skE xs = 0
  · have R := Lib.hid ((skOR_ok h0).trans (by rw [hn]))
    have K := Lib.hid h0
    rw [h0] at CK ⊢
    have hlen := (skE_ok h0).2.1
    have N := Lib.hid hn
    rw [hn] at hlen
    clear hn h0
    go_enter Try.func16, Try.ntmps16
    go_wp2_with fail
    refine CK.out.mono ?_
    rintro e w' ⟨rfl, rfl⟩
    go_wp2_with fail
    have hG := Lib.hid ((CellIs.new w 3 (.int .i64 0)).up (.cells #[.int .i64 0] 3))
    have hO := Lib.hid (Own.lit (w.alloc (.cells #[.int .i64 0] 3)) (w.heap.size + 1) .i64 3 [0] (n := 1) rfl (cs := #[.int .i64 0]) rfl (by simp) (by decide))
    rw [show (w.alloc (.cells #[.int .i64 0] 3)).heap.size = w.heap.size + 1 from by simp] at hO
    have hB := Lib.hid (bel_up (bel_up (bel_self w) (.cells #[.int .i64 0] 3)) (.cells #[.int .i64 0] 3))
    go_loopw [7, 19] (fun v i wr => ∃ k : Nat, k ≤ n ∧ i = .int .i64 k ∧ CellIs wr w.heap.size 3 (.int .i64 (sumI (xs.take k))) ∧ Own wr (w.heap.size + 1) 3 .i64 v (skO xs k) ∧ Below w.heap.size w wr) (fun _ i _ => n - (intOf i).toNat)
    case atStart => exact ⟨0, by omega, rfl, by rw [List.take_zero, sumI_nil]; exact hG.out, by rw [skO_zero]; exact hO.out, hB.out⟩
    case round =>
      obtain ⟨k, hk, rfl, hcell, hown, hbel⟩ := hrel
      have HC := Lib.hid hcell
      have HO := Lib.hid hown
      have HB := Lib.hid hbel
      clear hcell hown hbel hG hB hO
      by_cases hlt : k < n
      · obtain ⟨b, o, rfl, hb, hc⟩ := hs (by rw [N.out]; omega)
        have hcell := (HB.out.cell (p := ⟨b, o + k, none⟩) hb).trans (hc k (by rw [N.out]; omega))
        obtain ⟨p1, p2, p3, p4⟩ := skE_part K.out k (by rw [N.out]; omega)
        have T := Lib.hid (skO_snoc xs k)
        have P4 := Lib.hid p4
        have L := Lib.hid (skO_len xs k)
        obtain ⟨Av, cv, rfl, _, _, _⟩ := HO.out.sln L.out
        have NE := Lib.hid (show some w.heap.size ≠ (Value.slice Av (k + 1) cv).ownBlock from fun he => by have := HO.out.block_ge' _ he.symm; omega)
        have LT := HC.out.lt
        clear hc hs p4
        generalize xs.getD k 0 = y at *
        generalize sumI (xs.take k) = s at *
        have hlt' : (k : Int) < (n : Int) := by omega
        go_wp2_with fail
        refine (skNext w.heap.size s y _ p2 (by omega) (by omega) (by omega) HC.out).mono ?_
        rintro e w1 ⟨rfl, hw1⟩
        have C1 := Lib.hid (show CellIs w1 w.heap.size 3 (.int .i64 (s + y)) from hw1 ▸ HC.out.set _)
        have O1 := Lib.hid (show Own w1 (w.heap.size + 1) 3 .i64 (.slice Av (k + 1) cv) (skO xs k) from hw1 ▸ HO.out.far NE.out _)
        have B1 := Lib.hid (show Below w.heap.size w w1 from hw1 ▸ HB.out.setCell (p := ⟨w.heap.size, 0, none⟩) (Nat.le_refl _) _)
        have hl1 := C1.out.lt
        clear hw1 hcell LT
        go_wp2_with ((at_builtin; refine app1 (v := .slice Av (k + 1) cv) skElI _ _ rfl rfl rfl rfl O1.out (by rw [L.out]; omega) (by rw [L.out]; omega) (by omega) ?_; intro v2 w2 ho2 hb2; have C2 := Lib.hid (show CellIs w2 w.heap.size 3 (.int .i64 (s + y)) from (hb2.block _ (by omega)).trans C1.out); have O2 := Lib.hid ho2; have B2 := Lib.hid (B1.out.trans (hb2.mono (by omega))); clear ho2 hb2))
        go_roundw
        case rel => exact ⟨k + 1, by omega, by go_num, by rw [P4.out]; exact C2.out, by rw [T.out, P4.out]; exact O2.out, B2.out⟩
        case measure => simp [intOf]; omega
      · obtain rfl : k = n := by omega
        obtain ⟨Av, cv, rfl, _, _, _⟩ := HO.out.sln (skO_len xs k)
        clear hs
        go_wp2_with fail
        go_ret2
        exact ⟨_, rfl, by rw [R.out]; exact HO.out.rebase (by omega), HB.out⟩
  · have R := Lib.hid (skOR_bad h0)
    have e1 := skE_bad h0
    rw [e1] at CK ⊢
    clear h0 hn
    go_enter Try.func16, Try.ntmps16
    go_wp2_with fail
    refine CK.out.mono ?_
    rintro e w' ⟨rfl, rfl⟩
    go_wp2_with fail
    go_ret2
    exact ⟨_, rfl, by rw [R.out]; exact World.ownsRow_nil _ _ _ _, bel_self _⟩

def fdI : List Int → Int → Nat
  | [], _ => 0
  | x :: r, a => if a < x then 0 else fdI r (a - x) + 1
theorem fdI_le (l : List Int) (a : Int) : fdI l a ≤ l.length := by
  induction l generalizing a with
  | nil => exact Nat.le_refl _
  | cons x r ih => unfold fdI; split; omega; (have := ih (a - x); simp; omega)
def fdE (l : List Int) (a : Int) : Int := if skE l = 0 then (if a < 0 ∨ fdI l a = l.length then 2 else 0) else 8
def fdV (l : List Int) (a : Int) : Int := if fdE l a = 0 then (fdI l a : Int) else 0
theorem fd_at (l : List Int) (a : Int) (k : Nat) (hk : k < l.length) : fdI (l.drop k) a = if a < l.getD k 0 then 0 else fdI (l.drop (k + 1)) (a - l.getD k 0) + 1 := by
  rw [List.drop_eq_getElem_cons hk, fdI, List.getD_eq_getElem?_getD, List.getElem?_eq_getElem hk]
  rfl

set_option maxHeartbeats 1000000 in
theorem skFind (A : Option Addr) (n c : Nat) (xs : List Int) (a : Int) (w : World) (hn : xs.length = n) (hm : n ≤ 9223372036854775807) (hx : I64 xs) (hs : Sl w w.heap.size .i64 A xs) (ha : a ≤ 9223372036854775807) :
    Calls Try.prog 18 #[.slice A n c, .int .i64 a] w fun e w' => e = .returned (.tuple #[.int .i64 (fdV xs a), .int .i64 (fdE xs a)]) ∧ w = w' := by
  have CK := Lib.hid (skCheck A n c xs w hn hm hx hs)
  by_cases h0 : skE xs = 0
  · by_cases h1 : a < 0
    · have e1 := Lib.hid (show fdE xs a = 2 by unfold fdE; rw [if_pos h0, if_pos (.inl h1)])
      have e2 := Lib.hid (show fdV xs a = 0 by unfold fdV; rw [e1.out, if_neg (by decide)])
      rw [h0] at CK
      clear h0 hn
      go_enter Try.func18, Try.ntmps18
      go_wp2_with fail
      go_step3
      go_wp2_with fail
      refine CK.out.mono ?_
      rintro e w' ⟨rfl, rfl⟩
      go_wp2_with fail
      rw [Exit.noGoto_ret]
      go_ret2
      exact ⟨by rw [e1.out, e2.out]; rfl, rfl⟩
    · have K := Lib.hid h0
      rw [h0] at CK
      have N := Lib.hid hn
      have Q := Lib.hid (fdI_le xs a)
      have hd : decide (a < 0) = false := by simpa using h1
      have EV := Lib.hid (show (fdI xs a = n → fdE xs a = 2 ∧ fdV xs a = 0) ∧ (fdI xs a ≠ n → fdE xs a = 0 ∧ fdV xs a = fdI xs a) by
        refine ⟨fun h => ?_, fun h => ?_⟩
        · have : fdE xs a = 2 := by unfold fdE; rw [if_pos h0, if_pos (.inr (by rw [hn]; exact h))]
          exact ⟨this, by unfold fdV; rw [this, if_neg (by decide)]⟩
        · have : fdE xs a = 0 := by unfold fdE; rw [if_pos h0, if_neg (by rw [hn]; omega)]
          exact ⟨this, by unfold fdV; rw [this, if_pos rfl]⟩)
      have hn1 := (skE_ok h0).1
      have hn2 := (skE_ok h0).2.1
      have STEP := Lib.hid (fun k (hk : k < n) => skE_part h0 k (by omega))
      rw [hn] at hn1 hn2
      clear h0 hn hx
      have D0 := Lib.hid (show fdI xs a = 0 + fdI (xs.drop 0) (a - sumI (xs.take 0)) by simp [sumI_nil])
      go_enter Try.func18, Try.ntmps18
      go_wp2_with fail
      refine wp_scope_jumps 0 (fun a' w' => w' = w ∧ ∃ (k : Nat) (u8 u9 u10 u11 u12 u13 u14 u15 u16 u17 u18 u19 u20 u21 u22 u23 u24 u25 u26 u27 u28 u29 u30 u31 u32 : Value), a' = { tmps := #[.slice A n c, .int .i64 (a - sumI (xs.take k)), undef, undef, .int .i64 0, .int .i64 0, .int .i64 0, .int .i64 k, u8, u9, u10, u11, u12, u13, u14, u15, u16, u17, u18, u19, u20, u21, u22, u23, u24, u25, u26, u27, u28, u29, u30, u31, u32, undef], defers := [] } ∧ k ≤ n ∧ 0 ≤ a - sumI (xs.take k) ∧ fdI xs a = k + fdI (xs.drop k) (a - sumI (xs.take k))) (fun a' _ => n - (intOf (a'.tmps.getD 7 undef)).toNat) rfl ?_ ?_
      · go_wp2_with fail
        refine CK.out.mono ?_
        rintro e w' ⟨rfl, rfl⟩
        clear CK
        go_wp2_with fail
        go_step3
        obtain ⟨b, o, rfl, hb, hc⟩ := hs (by rw [N.out]; omega)
        have hcell := hc 0 (by rw [N.out]; omega)
        rw [Nat.add_zero] at hcell
        obtain ⟨p1, p2, p3, p4⟩ := STEP.out 0 (by omega)
        have F := fd_at xs (a - sumI (xs.take 0)) 0 (by rw [N.out]; omega)
        rw [List.take_zero, sumI_nil] at p3 p4 F D0
        have HF2 := Lib.hid F
        have P4 := Lib.hid p4
        have HD := Lib.hid D0
        clear F p4 D0 hc hs
        generalize hy : xs.getD 0 0 = y at *
        clear hy
        have z1 : ((0 : Int) == (n : Int)) = false := by simp; omega
        have z2 : (0 : Int) < (n : Int) := by omega
        by_cases hq : a < y
        · have hv := Lib.hid (EV.out.2 (by have h1 := HD.out.out; have h2 := HF2.out; rw [Int.sub_zero, if_pos hq] at h2; rw [Int.sub_zero, h2] at h1; omega))
          have hz := Lib.hid (show fdI xs a = 0 by have h1 := HD.out.out; have h2 := HF2.out; rw [Int.sub_zero, if_pos hq] at h2; rw [Int.sub_zero, h2] at h1; omega)
          go_wp2_with fail
          simp only [Exit.jump]
          go_ret2
          exact ⟨by rw [hv.out.1, hv.out.2, hz.out]; rfl, rfl⟩
        · go_wp2_with fail
          go_step3
          have e1 : a - y = a - sumI (xs.take (0 + 1)) := by rw [P4.out]; omega
          have h2 := HF2.out
          rw [Int.sub_zero, if_neg (by omega)] at h2
          have h1 := HD.out.out
          rw [Int.sub_zero, h2] at h1
          rw [e1]
          exact ⟨rfl, rfl, 0 + 1, _, _, _, _, _, _, _, _, _, _, _, _, _, _, _, _, _, _, _, _, _, _, _, _, _, rfl, by omega, by omega, by rw [h1, e1]; omega⟩
      · rintro a' w' ⟨rfl, k, u8, u9, u10, u11, u12, u13, u14, u15, u16, u17, u18, u19, u20, u21, u22, u23, u24, u25, u26, u27, u28, u29, u30, u31, u32, rfl, hk, ha0, hf⟩
        by_cases hlt : k < n
        · obtain ⟨b, o, rfl, hb, hc⟩ := hs (by rw [N.out]; omega)
          have hcell := hc k (by rw [N.out]; omega)
          obtain ⟨p1, p2, p3, p4⟩ := STEP.out k (by omega)
          have F := fd_at xs (a - sumI (xs.take k)) k (by rw [N.out]; omega)
          have HF := Lib.hid hf
          have HF2 := Lib.hid F
          have P4 := Lib.hid p4
          clear hf F p4 hc hs
          generalize hy : xs.getD k 0 = y at *
          clear hy
          have z1 : ((k : Int) == (n : Int)) = false := by simp; omega
          have z2 : (k : Int) < (n : Int) := by omega
          generalize hs' : sumI (xs.take k) = s at *
          have HS := Lib.hid hs'
          clear hs'
          by_cases hq : a - s < y
          · have hz := Lib.hid (show fdI xs a = k by have h1 := HF.out; have h2 := HF2.out; rw [if_pos hq] at h2; rw [h2] at h1; omega)
            have hv := Lib.hid (EV.out.2 (by rw [hz.out]; omega))
            go_wp2_with fail
            simp only [Exit.jump]
            go_ret2
            exact ⟨by rw [hv.out.1, hv.out.2, hz.out]; rfl, rfl⟩
          · go_wp2_with fail
            go_step3
            have e1 : a - s - y = a - sumI (xs.take (k + 1)) := by rw [P4.out]; omega
            have e2 : (k : Int) + 1 = ((k + 1 : Nat) : Int) := by omega
            have h1 := HF.out
            have h2 := HF2.out
            rw [if_neg (by omega)] at h2
            rw [h2] at h1
            rw [e1, e2]
            exact ⟨rfl, ⟨rfl, k + 1, _, _, _, _, _, _, _, _, _, _, _, _, _, _, _, _, _, _, _, _, _, _, _, _, _, rfl, by omega, by omega, by rw [h1, e1]; omega⟩, by simp [intOf]; omega⟩
        · obtain rfl : k = n := by omega
          have hz := Lib.hid (show fdI xs a = k by rw [hf, List.drop_of_length_le (by rw [N.out]; omega)]; rfl)
          have hv := Lib.hid (EV.out.1 hz.out)
          have z1 : ((k : Int) == (k : Int)) = true := by simp
          clear hf hs
          go_wp2_with fail
          simp only [Exit.jump]
          go_ret2
          exact ⟨by rw [hv.out.1, hv.out.2]; rfl, rfl⟩
  · have e0 := skE_bad h0
    have e1 := Lib.hid (show fdE xs a = 8 by unfold fdE; rw [if_neg h0])
    have e2 := Lib.hid (show fdV xs a = 0 by unfold fdV; rw [e1.out, if_neg (by decide)])
    rw [e0] at CK
    clear h0 hn e0
    go_enter Try.func18, Try.ntmps18
    go_wp2_with fail
    go_step3
    go_wp2_with fail
    refine CK.out.mono ?_
    rintro e w' ⟨rfl, rfl⟩
    go_wp2_with fail
    rw [Exit.noGoto_ret]
    go_ret2
    exact ⟨by rw [e1.out, e2.out]; rfl, rfl⟩
end Go.Proofs.Ytdhiiknjdkmjjaa

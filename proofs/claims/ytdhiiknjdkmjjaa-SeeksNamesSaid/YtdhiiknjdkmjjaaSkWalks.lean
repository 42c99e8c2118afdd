/-
  What the functions of package seeks compute. Conditions: numbers within their types.
-/
import Derived.Test.YtdhiiknjdkmjjaaSkPlain
import Derived.Test.YtdhiiknjdkmjjaaCap
import Derived.Test.YtdhiiknjdkmjjaaCrcA
namespace Go.Proofs.Ytdhiiknjdkmjjaa
open Go.RowKit
set_option linter.unusedVariables false

theorem skElI : Elem Try.prog 24 3 .i64 8 := Elem.mk' Try.underlying24 (by kernel_rfl)

set_option maxHeartbeats 1000000 in
theorem skCheck (A : Option Addr) (n c : Nat) (xs : List Int) (w : World) (hn : xs.length = n) (hm : n ≤ 9223372036854775807) (hx : I64 xs) (hs : Sl w w.heap.size .i64 A xs) :
    Calls Try.prog 20 #[.slice A n c] w fun e w' => e = .returned (.int .i64 (skE xs)) ∧ w = w' := by
  by_cases h0 : n = 0
  · have e := Lib.hid (skE_len (l := xs) (by omega))
    subst h0
    clear hn
    go_enter Try.func20, Try.ntmps20
    go_wp2_with fail
    go_ret
    exact ⟨by rw [e.out]; rfl, rfl⟩
  have f0 : ((n : Int) == 0) = false := by simp; omega
  by_cases h1 : 1000 < n
  · have e := Lib.hid (skE_len (l := xs) (by omega))
    clear hn
    go_enter Try.func20, Try.ntmps20
    go_wp2_with fail
    go_ret
    exact ⟨by rw [e.out]; rfl, rfl⟩
  have f1 : decide ((1000 : Int) < (n : Int)) = false := by simp; omega
  have N := Lib.hid hn
  have h2 : ¬ (1000 : Int) < (n : Int) := by omega
  clear hn
  go_enter Try.func20, Try.ntmps20
  go_wp2_with fail
  go_loop [3, 16] (fun t i => ∃ k : Nat, k ≤ n ∧ i = .int .i64 k ∧ t = .int .i64 (100000 - sumI (xs.take k)) ∧ (∀ x ∈ xs.take k, 5 ≤ x) ∧ sumI (xs.take k) ≤ 100000) (fun _ i => n - (intOf i).toNat)
  case atStart => exact ⟨0, by omega, rfl, by simp [sumI_nil], by simp, by simp [sumI_nil]⟩
  case round =>
    obtain ⟨k, hk, rfl, rfl, hall, hsum⟩ := hrel
    by_cases hlt : k < n
    · obtain ⟨b, o, rfl, hb, hc⟩ := hs (by rw [N.out]; omega)
      have hcell := hc k (by rw [N.out]; omega)
      have hbd := hx _ (mem_getD (show k < xs.length by rw [N.out]; omega))
      have hT := take_snoc xs k (by rw [N.out]; omega)
      have SM := Lib.hid (fun h => skE_small (l := xs) k (by rw [N.out]; omega) h)
      have GR := Lib.hid (fun h => skE_great (l := xs) k (by rw [N.out]; omega) h)
      have ST := Lib.hid (show sumI (xs.take (k + 1)) = sumI (xs.take k) + xs.getD k 0 by rw [hT, sumI_snoc])
      have h0 := sumI_ge hall
      have hS0 : 0 ≤ sumI (xs.take k) := by omega
      have AL := Lib.hid (show 5 ≤ xs.getD k 0 → ∀ x ∈ xs.take (k + 1), 5 ≤ x by
        intro h5 x hx'
        rw [hT] at hx'
        rcases List.mem_append.1 hx' with h | h
        · exact hall x h
        · rw [List.mem_singleton.1 h]; exact h5)
      clear hc hs hT hall h0
      generalize xs.getD k 0 = y at *
      generalize sumI (xs.take k) = t at *
      have hlt' : (k : Int) < (n : Int) := by omega
      by_cases h5 : y < 5
      · have e := Lib.hid (SM.out h5)
        clear SM GR AL
        go_wp2_with fail
        go_ret
        exact ⟨by rw [e.out]; rfl, rfl⟩
      · by_cases hg : 100000 - t < y
        · have e := Lib.hid (GR.out (by omega))
          clear SM GR AL
          go_wp2_with fail
          go_ret
          exact ⟨by rw [e.out]; rfl, rfl⟩
        · have AL2 := Lib.hid (AL.out (by omega))
          clear SM GR AL
          go_wp2_with fail
          go_round
          case rel => exact ⟨k + 1, by omega, by go_num, by rw [ST.out]; go_num, AL2.out, by rw [ST.out]; omega⟩
          case measure => simp [intOf]; omega
    · obtain rfl : k = n := by omega
      rw [List.take_of_length_le (by rw [N.out]; omega)] at hall hsum
      have e := Lib.hid (skE_mk (by rw [N.out]; omega) (by rw [N.out]; omega) hall hsum)
      clear hall hsum hs hx
      go_wp2_with fail
      go_ret
      exact ⟨by rw [e.out]; rfl, rfl⟩

set_option maxHeartbeats 1000000 in
/-- put: four bytes more in the captured slice -/
theorem skPut (g B : Nat) (n : Int) (v : Value) (xs : List Int) (w : World) (h0 : 0 ≤ n) (h1 : n ≤ 4294967295) (hB : B ≤ g) (hg : CellIs w g 22 v) (ho : Own w B 5 .u8 v xs) (hl : xs.length ≤ 100000) :
    Calls Try.prog 29 #[.int .u64 n, .pointer (some ⟨g, 0, none⟩)] w fun e w' =>
      e = .returned (.tuple #[]) ∧ ∃ v', CellIs w' g 22 v' ∧ Own w' B 5 .u8 v' (xs ++ le4 n) ∧ Below B w w' := by
  have hglt := hg.lt
  go_enter Try.func29, Try.ntmps29
  go_wp2_with fail
  refine (leBytes4 n _ h0 h1).mono ?_
  rintro e w1 ⟨v1, rfl, own1, bel1⟩
  obtain ⟨A1, c1, rfl, _, _, sl1⟩ := own1.sln (n := 4) rfl
  have G1 := Lib.hid (hg.next bel1)
  have O1 := Lib.hid (ho.below bel1)
  have S1 := Lib.hid sl1
  have B1 := Lib.hid (show Below B w w1 from bel1.mono (by omega))
  have cell1 := G1.out.cell
  obtain ⟨Av, cv, hv, _, _, _⟩ := O1.out.sl
  have NE := Lib.hid (O1.out.ne_cell G1.out (by decide))
  clear own1 bel1 sl1 hg ho
  subst hv
  have hl1 : B ≤ w1.heap.size := by have := B1.out.size; omega
  go_wp2_with ((at_builtin; refine appNg (v := .slice Av xs.length cv) leElU8 _ _ rfl rfl rfl rfl rfl O1.out S1.out (by simp; omega) (by simp; omega) hl1 ?_; intro v2 w2 ho2 hg2; obtain ⟨A2, c2, rfl, _, _, _⟩ := ho2.sln (n := xs.length + 4) (by simp [le4]); have G2 := Lib.hid (G1.out.grown hg2 NE.out); have cell2 := G2.out.cell; have free2 := G2.out.free; have O2 := Lib.hid ho2; have B2 := Lib.hid (B1.out.grown hg2 hl1 O1.out.block_ge'); clear ho2 hg2))
  have NE2 := O2.out.ne_cell G2.out (by decide)
  go_end0
  exact ⟨rfl, _, G2.out.set _, O2.out.far NE2 _, B2.out.setCell hB _⟩

def skW (xs : List Int) : List Int := skB xs ++ le4 ((sumL (skB xs) : Nat) : Int)
def skWR (xs : List Int) : List Int := if skE xs = 0 then skW xs else []
theorem skWR_ok {xs : List Int} (h : skE xs = 0) : skWR xs = skW xs := by unfold skWR; rw [if_pos h]
theorem skWR_bad {xs : List Int} (h : skE xs ≠ 0) : skWR xs = [] := by unfold skWR; rw [if_neg h]

set_option maxHeartbeats 1000000 in
theorem skWrite (A : Option Addr) (n c : Nat) (xs : List Int) (w : World) (hn : xs.length = n) (hm : n ≤ 9223372036854775807) (hx : I64 xs) (hs : Sl w w.heap.size .i64 A xs) :
    Calls Try.prog 14 #[.slice A n c] w fun e w' =>
      ∃ v, e = .returned (.tuple #[v, .int .i64 (skE xs)]) ∧ Own w' w.heap.size 5 .u8 v (skWR xs) ∧ Below w.heap.size w w' := by
  have CK := Lib.hid (skCheck A n c xs w hn hm hx hs)
  by_cases h0 : skE xs = 0
  · have R := Lib.hid (skWR_ok h0)
    have K := Lib.hid h0
    rw [h0] at CK ⊢
    have hlen := (skE_ok h0).2.1
    have N := Lib.hid hn
    rw [hn] at hlen
    clear hn h0
    go_enter Try.func14, Try.ntmps14
    go_wp2_with fail
    refine CK.out.mono ?_
    rintro e w' ⟨rfl, rfl⟩
    go_wp2_with fail
    have hG := Lib.hid (CellIs.new w 22 (.slice none 0 0))
    have hB := Lib.hid (bel_up (bel_self w) (.cells #[.slice none 0 0] 22))
    go_loopw [19] (fun i wr => ∃ k : Nat, k ≤ n ∧ i = .int .i64 k ∧ ∃ v, CellIs wr w.heap.size 22 v ∧ Own wr w.heap.size 5 .u8 v (skB (xs.take k)) ∧ Below w.heap.size w wr) (fun i _ => n - (intOf i).toNat)
    case atStart => exact ⟨0, by omega, rfl, _, hG.out, World.ownsRow_nil _ _ _ _, hB.out⟩
    case round =>
      obtain ⟨k, hk, rfl, v, hcell, hown, hbel⟩ := hrel
      have HC := Lib.hid hcell
      have HO := Lib.hid hown
      have HB := Lib.hid hbel
      clear hcell hown hbel hG hB
      by_cases hlt : k < n
      · obtain ⟨b, o, rfl, hb, hc⟩ := hs (by rw [N.out]; omega)
        have hcell := (HB.out.cell (p := ⟨b, o + k, none⟩) hb).trans (hc k (by rw [N.out]; omega))
        obtain ⟨p1, p2, p3, _⟩ := skE_part K.out k (by rw [N.out]; omega)
        have T := Lib.hid ((congrArg skB (take_snoc xs k (by rw [N.out]; omega))).trans (skB_snoc _ _))
        have L := Lib.hid (show (skB (xs.take k)).length ≤ 100000 by rw [skB_len, List.length_take]; omega)
        have q : xs.getD k 0 ≤ 100000 := by omega
        clear hc hs p2 p3
        generalize xs.getD k 0 = y at *
        have hlt' : (k : Int) < (n : Int) := by omega
        go_wp2_with fail
        refine (skPut w.heap.size w.heap.size y v (skB (xs.take k)) _ (by omega) (by omega) (Nat.le_refl _) HC.out HO.out L.out).mono ?_
        rintro e w1 ⟨rfl, v', hc1, ho1, hb1⟩
        have HC1 := Lib.hid hc1
        have HO1 := Lib.hid ho1
        have HB1 := Lib.hid (HB.out.trans hb1)
        clear hc1 ho1 hb1 hcell
        go_wp2_with fail
        go_roundw
        case rel => exact ⟨k + 1, by omega, by go_num, v', HC1.out, by rw [T.out]; exact HO1.out, HB1.out⟩
        case measure => simp [intOf]; omega
      · obtain rfl : k = n := by omega
        rw [List.take_of_length_le (by rw [N.out]; omega)] at HO
        have L := Lib.hid (show (skB xs).length = 4 * k by rw [skB_len, N.out])
        have cell0 := HC.out.cell
        obtain ⟨Av, cv, hv, _, _, slv⟩ := HO.out.sln L.out
        subst hv
        have S := Lib.hid slv
        have lt0 := HC.out.lt
        clear slv hs
        go_wp2_with fail
        refine (sum_ok Av (4 * k) cv (skB xs) _ L.out (by omega) (skB_u8 xs) S.out).mono ?_
        rintro e w1 ⟨rfl, bel1⟩
        have HC1 := Lib.hid (HC.out.next bel1)
        have HO1 := Lib.hid (HO.out.below bel1)
        have HB1 := Lib.hid (bel_next HB.out bel1)
        have z := sumL_lt (skB xs)
        have W := Lib.hid (show skW xs = skB xs ++ le4 ((sumL (skB xs) : Nat) : Int) from rfl)
        clear bel1 cell0
        generalize sumL (skB xs) = t at *
        go_wp2_with fail
        refine (skPut w.heap.size w.heap.size (t : Int) _ (skB xs) _ (by omega) (by omega) (Nat.le_refl _) HC1.out HO1.out (by rw [L.out]; omega)).mono ?_
        rintro e w2 ⟨rfl, v', hc2, ho2, hb2⟩
        have cell2 := hc2.cell
        have HO2 := Lib.hid ho2
        have HB2 := Lib.hid (HB1.out.trans hb2)
        clear hc2 ho2 hb2
        go_wp2_with fail
        go_ret2
        exact ⟨_, rfl, by rw [R.out, W.out]; exact HO2.out, HB2.out⟩
  · have R := Lib.hid (skWR_bad h0)
    have e1 := skE_bad h0
    rw [e1] at CK ⊢
    clear h0 hn
    go_enter Try.func14, Try.ntmps14
    go_wp2_with fail
    refine CK.out.mono ?_
    rintro e w' ⟨rfl, rfl⟩
    go_wp2_with fail
    go_ret2
    exact ⟨_, rfl, by rw [R.out]; exact World.ownsRow_nil _ _ _ _, bel_self _⟩
end Go.Proofs.Ytdhiiknjdkmjjaa

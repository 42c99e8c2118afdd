/-
  The walk of SeeksAgain. Conditions: numbers within their types.
-/
import Derived.Test.YtdhiiknjdkmjjaaLaw26B
namespace Go.Proofs.Ytdhiiknjdkmjjaa
open Go.RowKit
set_option linter.unusedVariables false

theorem le4_va4 {b : List Int} (h : U8 b) {i : Nat} (hi : i + 4 ≤ b.length) : le4 (va4 b i) = (b.drop i).take 4 := by
  have b0 := h _ (mem_getD (show i < b.length by omega))
  have b1 := h _ (mem_getD (show i + 1 < b.length by omega))
  have b2 := h _ (mem_getD (show i + 2 < b.length by omega))
  have b3 := h _ (mem_getD (show i + 3 < b.length by omega))
  have e : (b.drop i).take 4 = [b.getD i 0, b.getD (i + 1) 0, b.getD (i + 2) 0, b.getD (i + 3) 0] := by
    apply List.ext_getElem
    · simp; omega
    · intro j h1 h2
      simp only [List.length_cons, List.length_nil] at h2
      have : ((b.drop i).take 4)[j] = b.getD (i + j) 0 := by
        rw [List.getElem_take, List.getElem_drop, List.getD_eq_getElem?_getD, List.getElem?_eq_getElem (by omega)]; rfl
      rw [this]
      obtain rfl | rfl | rfl | rfl : j = 0 ∨ j = 1 ∨ j = 2 ∨ j = 3 := by omega
      all_goals rfl
  rw [e]
  unfold le4 va4
  generalize b.getD i 0 = x0 at *
  generalize b.getD (i + 1) 0 = x1 at *
  generalize b.getD (i + 2) 0 = x2 at *
  generalize b.getD (i + 3) 0 = x3 at *
  simp only [List.cons.injEq, and_true]
  refine ⟨by omega, by omega, by omega, by omega⟩
theorem skB_rdL {b : List Int} (h : U8 b) {k : Nat} (hk : 4 * k ≤ b.length) : skB (rdL b k) = b.take (4 * k) := by
  induction k with
  | zero => simp [rdL, skB]
  | succ k ih =>
    rw [rdL_snoc, skB_snoc, ih (by omega), le4_va4 h (by omega), show 4 * (k + 1) = 4 * k + 4 by omega, List.take_add]
theorem again_rd {b : List Int} (hb : U8 b) {m : Int} (h : rdE b m = 0) : ∃ k : Nat, m = k ∧ 1 ≤ k ∧ k ≤ 1000 ∧ 4 * k + 4 ≤ b.length ∧ skE (rdR b m) = 0 ∧ (rdR b m).length = k ∧ skWR (rdR b m) = b.take (4 * k + 4) := by
  rcases rdE_cases b m with ⟨h0, _⟩ | ⟨k, rfl, h1, h2, ⟨h3, _⟩ | ⟨h3, ⟨h4, _⟩ | ⟨h4, ⟨h5, _⟩ | ⟨_, h5, h6⟩⟩⟩⟩
  · omega
  · omega
  · omega
  · omega
  · refine ⟨k, rfl, h1, h2, h3, by rw [h6]; exact h5, by rw [h6, rdL_len], ?_⟩
    rw [h6, skWR_ok h5]
    unfold skW
    rw [skB_rdL hb (by omega), h4, le4_va4 hb (by omega), List.take_add]

set_option maxRecDepth 100000 in
set_option maxHeartbeats 2000000 in
theorem again_main (A : Option Addr) (n c : Nat) (xs : List Int) (m : Int) (w : World) (hn : xs.length = n) (hc : n ≤ c) (hm : c ≤ 9223372036854775807) (hx : U8 xs) (hs : Sl w w.heap.size .u8 A xs) (hl : laB n = false) (h0 : rdE xs m = 0) :
    Calls Try.prog 8 #[.slice A n c, .int .i64 m] w fun e w' => e = .returned (.bool true) ∧ Below w.heap.size w w' := by
  obtain ⟨k, rfl, k1, k2, k3, k4, k5, k6⟩ := again_rd hx h0
  have hk := laB_no hl
  have SX := Lib.hid hs
  have HX := Lib.hid hx
  have N := Lib.hid hn
  have LA := Lib.hid hl
  have Z := Lib.hid h0
  have BB := Lib.hid (bel_self w)
  have IL := Lib.hid (show I64 (rdR xs k) from fun x h => by
    have := skE_each k4 x h; omega)
  have LR := Lib.hid k5
  have KR := Lib.hid k4
  have WR := Lib.hid k6
  obtain ⟨q, hq⟩ : ∃ q, q = 4 * k + 4 := ⟨_, rfl⟩
  have LW := Lib.hid (show (skWR (rdR xs k)).length = q by rw [k6, List.length_take]; omega)
  rw [hn] at k3
  have Q := Lib.hid hq
  clear hs hx hn hl h0 k4 k5 k6 hq
  go_enter Try.func8, Try.ntmps8
  go_wp2_with fail
  refine (alive_any w).mono ?_
  rintro e w1 ⟨rfl, bel1⟩
  have SX := Lib.hid (SX.out.next bel1)
  have BB := Lib.hid (bel_next BB.out bel1)
  clear bel1
  go_wp2_with fail
  refine (large_v false _ LA.out).mono ?_
  rintro e w' ⟨rfl, rfl⟩
  go_wp2_with fail
  refine (skRead_v xs (rdR xs k) _ N.out hc hm HX.out SX.out Z.out rfl).mono ?_
  rintro e w2 ⟨v2, rfl, own2, bel2⟩
  obtain ⟨Aa, ca, rfl, hca, hma, sl2⟩ := own2.sln (LR.out)
  have Sa := Lib.hid sl2
  have SX := Lib.hid (SX.out.next bel2)
  have BB := Lib.hid (bel_next BB.out bel2)
  clear own2 bel2 sl2
  go_wp2_with fail
  refine (skWrite_v (rdR xs k) (skWR (rdR xs k)) _ LR.out (by omega) IL.out Sa.out KR.out rfl).mono ?_
  rintro e w3 ⟨v3, rfl, own3, bel3⟩
  obtain ⟨Ab, cb, rfl, hcb, hmb, sl3⟩ := own3.sln (LW.out)
  have Sb := Lib.hid sl3
  have SX := Lib.hid (SX.out.next bel3)
  have Sa := Lib.hid (Sa.out.next bel3)
  have BB := Lib.hid (bel_next BB.out bel3)
  clear own3 bel3 sl3
  have r1 : ∀ W, (Instr.slice 22 (.slice A n c) none (some (.int .i64 (q : Int))) none).run Try.prog W = .ok (.slice A q c) W := run_upto leElU8 A n c q rfl (by have := Q.out; omega)
  have s1 : ∀ d, (convert 22 9 (.slice Ab q cb)).run Try.prog (w3.drewN d) = .ok (.string (strOfNums (xs.take q))) (w3.drewN d) := fun d => by
    have := conv_sl (P := Try.prog) (W := w3.drewN d) (c := cb) Try.underlying22 Try.underlying5 Try.underlying9 (Sb.out.drewN d) LW.out
    rwa [WR.out, ← Q.out] at this
  have s2 : ∀ d, (convert 22 9 (.slice A q c)).run Try.prog (w3.drewN d) = .ok (.string (strOfNums (xs.take q))) (w3.drewN d) := fun d =>
    conv_sl (P := Try.prog) (W := w3.drewN d) (c := c) Try.underlying22 Try.underlying5 Try.underlying9 ((SX.out.take q).drewN d) (by rw [List.length_take, N.out]; have := Q.out; omega)
  have CK := Lib.hid (fun d => skCheck_v (rdR xs k) (w3.drewN d) (c := ca) LR.out (by omega) IL.out (Sa.out.drewN d) KR.out)
  generalize strOfNums (xs.take q) = str at *
  have e1 : ((k : Int) == (k : Int)) = true := by simp
  have e2 : (q : Int) ≤ (n : Int) := by have := Q.out; omega
  have e3 : decide (q ≤ n) = true := by have := Q.out; simp; omega
  go_wp2_with fail
  go_quiet ((go_at_call 20; with_reducible exact quiet_left5 (CK.out _)))
  clear r1 s1 s2
  go_wp2_with fail
  go_ret
  exact ⟨rfl, below_drewN BB.out _⟩

set_option maxRecDepth 100000 in
set_option maxHeartbeats 400000 in
theorem seeksAgain_walk (A : Option Addr) (c : Nat) (xs : List Int) (m : Int) (w : World) (hc : xs.length ≤ c) (hm : c ≤ 9223372036854775807) (hx : U8 xs) (hs : Sl w w.heap.size .u8 A xs) (hm0 : -9223372036854775808 ≤ m) (hm1 : m ≤ 9223372036854775807) :
    Calls Try.prog 8 #[.slice A xs.length c, .int .i64 m] w fun e w' => e = .returned (.bool true) ∧ Below w.heap.size w w' := by
  by_cases h : laB xs.length = false
  · by_cases h0 : rdE xs m = 0
    · exact again_main A _ c xs m w rfl hc hm hx hs h h0
    · have LA := Lib.hid h
      have R := Lib.hid (rdR_bad h0)
      have BB := Lib.hid (bel_self w)
      have SX := Lib.hid hs
      obtain ⟨E, hE⟩ : ∃ E, rdE xs m = E := ⟨_, rfl⟩
      rw [hE] at h0
      have Z := Lib.hid hE
      have e1 : (E != 0) = true := by simp; exact h0
      clear hs h h0 hE
      go_enter Try.func8, Try.ntmps8
      go_wp2_with fail
      refine (alive_any w).mono ?_
      rintro e w1 ⟨rfl, bel1⟩
      have SX := Lib.hid (SX.out.next bel1)
      have BB := Lib.hid (bel_next BB.out bel1)
      clear bel1
      go_wp2_with fail
      refine (large_v false _ LA.out).mono ?_
      rintro e w' ⟨rfl, rfl⟩
      go_wp2_with fail
      refine (skRead_v xs [] _ rfl hc hm hx SX.out Z.out R.out).mono ?_
      rintro e w2 ⟨v2, rfl, own2, bel2⟩
      obtain ⟨Aa, ca, rfl, _, _, sl2⟩ := own2.sl
      have Sa := Lib.hid sl2
      have SX := Lib.hid (SX.out.next bel2)
      have BB := Lib.hid (bel_next BB.out bel2)
      clear own2 bel2 sl2
      go_wp2_with fail
      go_ret
      exact ⟨rfl, BB.out⟩
  · have LA := Lib.hid (show laB xs.length = true by simpa using h)
    have BB := Lib.hid (bel_self w)
    clear hs hx h
    go_enter Try.func8, Try.ntmps8
    go_wp2_with fail
    refine (alive_any w).mono ?_
    rintro e w1 ⟨rfl, bel1⟩
    have BB := Lib.hid (bel_next BB.out bel1)
    clear bel1
    go_wp2_with fail
    refine (large_v true _ LA.out).mono ?_
    rintro e w' ⟨rfl, rfl⟩
    go_wp2_with fail
    go_ret
    exact ⟨rfl, BB.out⟩
end Go.Proofs.Ytdhiiknjdkmjjaa

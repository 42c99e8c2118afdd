/-
  The walks of the chapter's example of layer 26, and of SeeksTells and SeeksReads. Conditions: numbers within their types.
-/
import Derived.Test.YtdhiiknjdkmjjaaRef26C
import Derived.Test.YtdhiiknjdkmjjaaStr
namespace Go.Proofs.Ytdhiiknjdkmjjaa
open Go.RowKit
set_option linter.unusedVariables false

theorem str_eq {s : ByteArray} {l : List Int} (h : s.data = (l.map fun n => UInt8.ofNat n.toNat).toArray) : s = strOfNums l := by
  cases s
  unfold strOfNums
  rw [← h]

set_option maxHeartbeats 400000 in
theorem found_yes (A : Option Addr) (n c : Nat) (xs : List Int) (a k : Int) (w : World) (hn : xs.length = n) (hm : n ≤ 9223372036854775807) (hx : I64 xs) (hs : Sl w w.heap.size .i64 A xs) (ha : a ≤ 9223372036854775807) (he : fdE xs a = 0) (hv : fdV xs a = k) :
    Calls Try.prog 23 #[.slice A n c, .int .i64 a, .int .i64 k] w fun e w' => e = .returned (.bool true) ∧ w = w' := by
  have F := skFind A n c xs a w hn hm hx hs ha
  rw [he, hv] at F
  have F := Lib.hid F
  have q : (k == k) = true := by simp
  clear hs he hv hn
  go_enter Try.func23, Try.ntmps23
  go_wp2_with fail
  refine F.out.mono ?_
  rintro e w' ⟨rfl, rfl⟩
  go_wp2_with fail
  go_ret
  exact ⟨rfl, rfl⟩

theorem skWrite_v {A : Option Addr} {n c : Nat} {e : Int} (xs ys : List Int) (w : World) (hn : xs.length = n) (hm : n ≤ 9223372036854775807) (hx : I64 xs) (hs : Sl w w.heap.size .i64 A xs) (he : skE xs = e) (hy : skWR xs = ys) :
    Calls Try.prog 14 #[.slice A n c] w fun e' w' => ∃ v, e' = .returned (.tuple #[v, .int .i64 e]) ∧ Own w' w.heap.size 5 .u8 v ys ∧ Below w.heap.size w w' := by
  subst he hy
  exact skWrite A n c xs w hn hm hx hs
theorem skOffsets_v {A : Option Addr} {n c : Nat} {e : Int} (xs ys : List Int) (w : World) (hn : xs.length = n) (hm : n ≤ 9223372036854775807) (hx : I64 xs) (hs : Sl w w.heap.size .i64 A xs) (he : skE xs = e) (hy : skOR xs = ys) :
    Calls Try.prog 16 #[.slice A n c] w fun e' w' => ∃ v, e' = .returned (.tuple #[v, .int .i64 e]) ∧ Own w' w.heap.size 3 .i64 v ys ∧ Below w.heap.size w w' := by
  subst he hy
  exact skOffsets A n c xs w hn hm hx hs
theorem skFind_v {A : Option Addr} {n c : Nat} {e v : Int} (xs : List Int) (a : Int) (w : World) (hn : xs.length = n) (hm : n ≤ 9223372036854775807) (hx : I64 xs) (hs : Sl w w.heap.size .i64 A xs) (ha : a ≤ 9223372036854775807) (he : fdE xs a = e) (hv : fdV xs a = v) :
    Calls Try.prog 18 #[.slice A n c, .int .i64 a] w fun e' w' => e' = .returned (.tuple #[.int .i64 v, .int .i64 e]) ∧ w = w' := by
  subst he hv
  exact skFind A n c xs a w hn hm hx hs ha
theorem skRead_v {A : Option Addr} {n c : Nat} {e m : Int} (b ys : List Int) (w : World) (hn : b.length = n) (hc : n ≤ c) (hm : c ≤ 9223372036854775807) (hx : U8 b) (hs : Sl w w.heap.size .u8 A b) (he : rdE b m = e) (hy : rdR b m = ys) :
    Calls Try.prog 10 #[.slice A n c, .int .i64 m] w fun e' w' => ∃ v, e' = .returned (.tuple #[v, .int .i64 e]) ∧ Own w' w.heap.size 3 .i64 v ys ∧ Below w.heap.size w w' := by
  subst he hy
  exact skRead A n c b m w hn hc hm hx hs
theorem skCheck_v {A : Option Addr} {n c : Nat} {e : Int} (xs : List Int) (w : World) (hn : xs.length = n) (hm : n ≤ 9223372036854775807) (hx : I64 xs) (hs : Sl w w.heap.size .i64 A xs) (he : skE xs = e) :
    Calls Try.prog 20 #[.slice A n c] w fun e' w' => e' = .returned (.int .i64 e) ∧ w = w' := by
  subst he
  exact skCheck A n c xs w hn hm hx hs

theorem skOR_len (xs : List Int) : (skOR xs).length ≤ 9223372036854775807 := by
  unfold skOR
  split
  · have := skE_ok (by assumption); rw [skO_len]; omega
  · simp

theorem ex26 : (skW [5, 300]).take 8 = [5, 0, 0, 0, 44, 1, 0, 0] := by
  have h : skW [5, 300] = skB [5, 300] ++ le4 ((sumL (skB [5, 300]) : Nat) : Int) := rfl
  rw [h, List.take_append_of_le_length (by decide)]
  decide

set_option maxRecDepth 100000 in
set_option maxHeartbeats 1000000 in
theorem alive_any (w : World) : Calls Try.prog 22 #[] w fun e w' => e = .returned (.bool true) ∧ Below w.heap.size w w' := by
  have SX := Lib.hid (Sl.lit' w .i64 3 [5, 300] (cs := #[.int .i64 5, .int .i64 300]) rfl)
  have BB := Lib.hid (bel_up (bel_self w) (.cells #[.int .i64 5, .int .i64 300] 3))
  have LW := Lib.hid (show (skW [5, 300]).length = 12 from skW_len _)
  go_enter Try.func22, Try.ntmps22
  go_wp2_with fail
  go_wp2_with fail
  refine (skWrite_v (e := 0) [5, 300] (skW [5, 300]) _ rfl (by decide) (by unfold I64; decide) SX.out (by decide +kernel) (skWR_ok (by decide +kernel))).mono ?_
  rintro e w1 ⟨v1, rfl, own1, bel1⟩
  obtain ⟨Aa, ca, rfl, hca, hma, sl1⟩ := own1.sln (LW.out)
  have Sa := Lib.hid sl1
  have SX := Lib.hid (SX.out.next bel1)
  have BB := Lib.hid (bel_next BB.out bel1)
  clear own1 bel1 sl1
  go_wp2_with fail
  refine (skOffsets_v (e := 0) [5, 300] [0, 5, 305] _ rfl (by decide) (by unfold I64; decide) SX.out (by decide +kernel) (by decide +kernel)).mono ?_
  rintro e w2 ⟨v2, rfl, own2, bel2⟩
  obtain ⟨Ab, cb, rfl, _, _, sl2⟩ := own2.sl
  have Sb := Lib.hid sl2
  have SX := Lib.hid (SX.out.next bel2)
  have Sa := Lib.hid (Sa.out.next bel2)
  have BB := Lib.hid (bel_next BB.out bel2)
  clear own2 bel2 sl2
  have r1 : ∀ W, (Instr.slice 22 (.slice Aa 12 ca) none (some (.int .i64 8)) none).run Try.prog W = .ok (.slice Aa 8 ca) W := run_upto leElU8 Aa 12 ca 8 rfl (by omega)
  have k1 := conv_sl (P := Try.prog) (n := 8) (c := ca) Try.underlying22 Try.underlying5 Try.underlying9 (Sa.out.take 8) (by rw [ex26]; rfl)
  rw [ex26, ← str_eq (s := ⟨#[5, 0, 0, 0, 44, 1, 0, 0]⟩) (by decide)] at k1
  go_wp2_with fail
  refine (sameI Ab _ 3 3 cb 3 [0, 5, 305] _ rfl rfl (by decide) (Sb.out.up _) (Sl.lit' w2 .i64 _ [0, 5, 305] rfl)).mono ?_
  rintro e w3 ⟨rfl, bel3⟩
  have SX := Lib.hid ((SX.out.up _).next bel3)
  have Sa := Lib.hid ((Sa.out.up _).next bel3)
  have Sb := Lib.hid ((Sb.out.up _).next bel3)
  have BB := Lib.hid (bel_next (bel_up BB.out _) bel3)
  clear bel3
  go_wp2_with fail
  refine (found_yes _ 2 2 [5, 300] 4 0 _ rfl (by decide) (by unfold I64; decide) SX.out (by decide) (by decide +kernel) (by decide +kernel)).mono ?_
  rintro e w' ⟨rfl, rfl⟩
  go_wp2_with fail
  refine (found_yes _ 2 2 [5, 300] 5 1 _ rfl (by decide) (by unfold I64; decide) SX.out (by decide) (by decide +kernel) (by decide +kernel)).mono ?_
  rintro e w' ⟨rfl, rfl⟩
  go_wp2_with fail
  go_ret
  exact ⟨rfl, BB.out⟩
end Go.Proofs.Ytdhiiknjdkmjjaa

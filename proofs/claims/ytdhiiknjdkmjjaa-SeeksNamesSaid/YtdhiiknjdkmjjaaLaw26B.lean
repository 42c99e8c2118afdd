/-
  The walks of SeeksTells and SeeksReads. Conditions: numbers within their types.
-/
import Derived.Test.YtdhiiknjdkmjjaaLaw26A
namespace Go.Proofs.Ytdhiiknjdkmjjaa
open Go.RowKit
set_option linter.unusedVariables false

theorem long_v {n c : Nat} {A : Option Addr} (r : Bool) (w : World) (h : lgB n = r) : Calls Try.prog 13 #[.slice A n c] w fun e w' => e = .returned (.bool r) ∧ w = w' := by
  subst h; exact long26_any A n c w
theorem large_v {n c : Nat} {A : Option Addr} (r : Bool) (w : World) (h : laB n = r) : Calls Try.prog 9 #[.slice A n c] w fun e w' => e = .returned (.bool r) ∧ w = w' := by
  subst h; exact large26_any A n c w
theorem lgB_no {n : Nat} (h : lgB n = false) : n ≤ 1002 := by simp [lgB] at h; omega
theorem laB_no {n : Nat} (h : laB n = false) : n ≤ 4100 := by simp [laB] at h; omega
theorem skWR_len (xs : List Int) : (skWR xs).length ≤ 4004 := by
  unfold skWR
  split
  · have := skE_ok (by assumption); rw [skW_len]; omega
  · simp
theorem rdR_len (b : List Int) (m : Int) : (rdR b m).length ≤ 1000 := by
  rcases rdE_cases b m with ⟨h, h0⟩ | ⟨k, rfl, h1, h2, ⟨h, h3⟩ | ⟨h3, ⟨h, h4⟩ | ⟨h4, ⟨h, h5⟩ | ⟨h, h5, h6⟩⟩⟩⟩
  · rw [rdR_bad (by omega)]; simp
  · rw [rdR_bad (by omega)]; simp
  · rw [rdR_bad (by omega)]; simp
  · rw [rdR_bad (by omega)]; simp
  · rw [h6, rdL_len]; exact h2

set_option maxRecDepth 100000 in
set_option maxHeartbeats 1000000 in
theorem tells_main (A : Option Addr) (n c : Nat) (xs : List Int) (a : Int) (w : World) (hn : xs.length = n) (hx : I64 xs) (hs : Sl w w.heap.size .i64 A xs) (ha1 : a ≤ 9223372036854775807) (hl : lgB n = false) :
    Calls Try.prog 4 #[.slice A n c, .int .i64 a] w fun e w' => e = .returned (.bool true) ∧ Below w.heap.size w w' := by
  have hm := lgB_no hl
  have SX := Lib.hid hs
  have HX := Lib.hid hx
  have N := Lib.hid hn
  have LG := Lib.hid hl
  have e1 : (skE xs == skE xs) = true := by simp
  have e2 : (fdV xs a == fdV xs a) = true := by simp
  have e3 : (fdE xs a == fdE xs a) = true := by simp
  have B0 := Lib.hid (bel_up (bel_self w) (.cells #[] 3))
  clear hs hx hn hl
  go_enter Try.func4, Try.ntmps4
  go_wp2_with fail
  refine (long_v false _ LG.out).mono ?_
  rintro e w' ⟨rfl, rfl⟩
  go_wp2_with (at_builtin; refine appNh (xs := []) (ys := xs) skElI _ _ rfl rfl rfl rfl N.out (Own.lit w w.heap.size .i64 3 [] rfl rfl (Nat.le_refl _) (by decide)) (SX.out.alloc (Nat.le_refl _) _) (by simp; omega) (by simp; omega) B0.out.size ?_; intro v1 w1 own1 bel1; have BB := Lib.hid (B0.out.trans bel1); have O1 := Lib.hid own1; clear own1 bel1 B0)
  obtain ⟨Ao, co, rfl, _, _, sl1⟩ := O1.out.sln (n := n) (by simpa using N.out)
  have SO := Lib.hid sl1
  have SX := Lib.hid (SX.out.next BB.out)
  clear sl1 O1
  simp only [List.nil_append] at SO
  have lw := skWR_len xs
  have lo := skOR_len xs
  go_wp2_with fail
  refine (skWrite A n c xs _ N.out (by omega) HX.out SX.out).mono ?_
  rintro e w2 ⟨v2, rfl, own2, bel2⟩
  obtain ⟨Aa, ca, rfl, _, _, sl2⟩ := own2.sl
  have Sa := Lib.hid sl2
  have SO := Lib.hid (SO.out.next bel2)
  have SX := Lib.hid (SX.out.next bel2)
  have BB := Lib.hid (bel_next BB.out bel2)
  clear own2 bel2 sl2
  go_wp2_with fail
  refine (reskWrite A n c xs _ N.out (by omega) HX.out SX.out).mono ?_
  rintro e w3 ⟨v3, rfl, own3, bel3⟩
  obtain ⟨Ab, cb, rfl, _, _, sl3⟩ := own3.sl
  have Sb := Lib.hid sl3
  have SO := Lib.hid (SO.out.next bel3)
  have SX := Lib.hid (SX.out.next bel3)
  have Sa := Lib.hid (Sa.out.next bel3)
  have BB := Lib.hid (bel_next BB.out bel3)
  clear own3 bel3 sl3
  go_wp2_with fail
  refine (skOffsets A n c xs _ N.out (by omega) HX.out SX.out).mono ?_
  rintro e w4 ⟨v4, rfl, own4, bel4⟩
  obtain ⟨Ax, cx, rfl, _, _, sl4⟩ := own4.sl
  have Sx := Lib.hid sl4
  have SO := Lib.hid (SO.out.next bel4)
  have SX := Lib.hid (SX.out.next bel4)
  have Sa := Lib.hid (Sa.out.next bel4)
  have Sb := Lib.hid (Sb.out.next bel4)
  have BB := Lib.hid (bel_next BB.out bel4)
  clear own4 bel4 sl4
  go_wp2_with fail
  refine (reskOffsets A n c xs _ N.out (by omega) HX.out SX.out).mono ?_
  rintro e w5 ⟨v5, rfl, own5, bel5⟩
  obtain ⟨Ay, cy, rfl, _, _, sl5⟩ := own5.sl
  have Sy := Lib.hid sl5
  have SO := Lib.hid (SO.out.next bel5)
  have SX := Lib.hid (SX.out.next bel5)
  have Sa := Lib.hid (Sa.out.next bel5)
  have Sb := Lib.hid (Sb.out.next bel5)
  have Sx := Lib.hid (Sx.out.next bel5)
  have BB := Lib.hid (bel_next BB.out bel5)
  clear own5 bel5 sl5
  go_wp2_with fail
  refine (skFind A n c xs a _ N.out (by omega) HX.out SX.out ha1).mono ?_
  rintro e w' ⟨rfl, rfl⟩
  go_wp2_with fail
  refine (reskFind A n c xs a _ N.out (by omega) HX.out SX.out ha1).mono ?_
  rintro e w' ⟨rfl, rfl⟩
  have k1 := conv_sl (P := Try.prog) (c := ca) Try.underlying22 Try.underlying5 Try.underlying9 Sa.out rfl
  have k2 := conv_sl (P := Try.prog) (c := cb) Try.underlying22 Try.underlying5 Try.underlying9 Sb.out rfl
  generalize strOfNums (skWR xs) = str at *
  go_wp2_with fail
  refine (sameI Ax Ay _ _ cx cy (skOR xs) _ rfl rfl lo Sx.out Sy.out).mono ?_
  rintro e w6 ⟨rfl, bel6⟩
  have SO := Lib.hid (SO.out.next bel6)
  have SX := Lib.hid (SX.out.next bel6)
  have Sa := Lib.hid (Sa.out.next bel6)
  have Sb := Lib.hid (Sb.out.next bel6)
  have Sx := Lib.hid (Sx.out.next bel6)
  have Sy := Lib.hid (Sy.out.next bel6)
  have BB := Lib.hid (bel_next BB.out bel6)
  clear bel6
  go_wp2_with fail
  refine (skCheck A n c xs _ N.out (by omega) HX.out SX.out).mono ?_
  rintro e w' ⟨rfl, rfl⟩
  go_wp2_with fail
  refine (reskCheck A n c xs _ N.out (by omega) HX.out SX.out).mono ?_
  rintro e w' ⟨rfl, rfl⟩
  go_wp2_with fail
  refine (sameI A Ao _ _ c co xs _ N.out N.out (by rw [N.out]; omega) SX.out SO.out).mono ?_
  rintro e w7 ⟨rfl, bel7⟩
  have SO := Lib.hid (SO.out.next bel7)
  have SX := Lib.hid (SX.out.next bel7)
  have Sa := Lib.hid (Sa.out.next bel7)
  have Sb := Lib.hid (Sb.out.next bel7)
  have Sx := Lib.hid (Sx.out.next bel7)
  have Sy := Lib.hid (Sy.out.next bel7)
  have BB := Lib.hid (bel_next BB.out bel7)
  clear bel7
  go_wp2_with fail
  go_ret
  exact ⟨rfl, BB.out⟩

set_option maxRecDepth 100000 in
set_option maxHeartbeats 400000 in
theorem seeksTells_walk (A : Option Addr) (c : Nat) (xs : List Int) (a : Int) (w : World) (hc : xs.length ≤ c) (hm : c ≤ 9223372036854775807) (hx : I64 xs) (hs : Sl w w.heap.size .i64 A xs) (ha0 : -9223372036854775808 ≤ a) (ha1 : a ≤ 9223372036854775807) :
    Calls Try.prog 4 #[.slice A xs.length c, .int .i64 a] w fun e w' => e = .returned (.bool true) ∧ Below w.heap.size w w' := by
  by_cases h : lgB xs.length = false
  · exact tells_main A _ c xs a w rfl hx hs ha1 h
  · have LG := Lib.hid (show lgB xs.length = true by simpa using h)
    have BB := Lib.hid (bel_self w)
    clear hs hx h
    go_enter Try.func4, Try.ntmps4
    go_wp2_with fail
    refine (long_v true _ LG.out).mono ?_
    rintro e w' ⟨rfl, rfl⟩
    go_wp2_with fail
    go_ret
    exact ⟨rfl, BB.out⟩

set_option maxRecDepth 100000 in
set_option maxHeartbeats 1000000 in
theorem reads_main (A : Option Addr) (n c : Nat) (xs : List Int) (m : Int) (w : World) (hn : xs.length = n) (hc : n ≤ c) (hm : c ≤ 9223372036854775807) (hx : U8 xs) (hs : Sl w w.heap.size .u8 A xs) (hl : laB n = false) :
    Calls Try.prog 3 #[.slice A n c, .int .i64 m] w fun e w' => e = .returned (.bool true) ∧ Below w.heap.size w w' := by
  have hk := laB_no hl
  have SX := Lib.hid hs
  have HX := Lib.hid hx
  have N := Lib.hid hn
  have LG := Lib.hid hl
  have e1 : (rdE xs m == rdE xs m) = true := by simp
  have k0 := conv_sl (P := Try.prog) (c := c) Try.underlying22 Try.underlying5 Try.underlying9 hs hn
  have K0 := Lib.hid (fun (W : World) (h : Sl W W.heap.size .u8 A xs) => conv_sl (P := Try.prog) (c := c) Try.underlying22 Try.underlying5 Try.underlying9 h hn)
  have lr := rdR_len xs m
  have BB := Lib.hid (bel_self w)
  generalize strOfNums xs = str at *
  clear hs hx hn hl
  go_enter Try.func3, Try.ntmps3
  go_wp2_with fail
  refine (large_v false _ LG.out).mono ?_
  rintro e w' ⟨rfl, rfl⟩
  go_wp2_with fail
  refine (skRead A n c xs m _ N.out hc hm HX.out SX.out).mono ?_
  rintro e w1 ⟨v1, rfl, own1, bel1⟩
  obtain ⟨Aa, ca, rfl, _, _, sl1⟩ := own1.sl
  have Sa := Lib.hid sl1
  have SX := Lib.hid (SX.out.next bel1)
  have BB := Lib.hid (bel_next BB.out bel1)
  clear own1 bel1 sl1
  go_wp2_with fail
  refine (reskRead A n c xs m _ N.out hc hm HX.out SX.out).mono ?_
  rintro e w2 ⟨v2, rfl, own2, bel2⟩
  obtain ⟨Ab, cb, rfl, _, _, sl2⟩ := own2.sl
  have Sb := Lib.hid sl2
  have SX := Lib.hid (SX.out.next bel2)
  have Sa := Lib.hid (Sa.out.next bel2)
  have BB := Lib.hid (bel_next BB.out bel2)
  clear own2 bel2 sl2
  go_wp2_with fail
  refine (sameI Aa Ab _ _ ca cb (rdR xs m) _ rfl rfl (by omega) Sa.out Sb.out).mono ?_
  rintro e w3 ⟨rfl, bel3⟩
  have SX := Lib.hid (SX.out.next bel3)
  have Sa := Lib.hid (Sa.out.next bel3)
  have Sb := Lib.hid (Sb.out.next bel3)
  have BB := Lib.hid (bel_next BB.out bel3)
  clear bel3
  have k1 := K0.out _ SX.out
  go_wp2_with fail
  go_ret
  exact ⟨rfl, BB.out⟩

set_option maxRecDepth 100000 in
set_option maxHeartbeats 400000 in
theorem seeksReads_walk (A : Option Addr) (c : Nat) (xs : List Int) (m : Int) (w : World) (hc : xs.length ≤ c) (hm : c ≤ 9223372036854775807) (hx : U8 xs) (hs : Sl w w.heap.size .u8 A xs) (hm0 : -9223372036854775808 ≤ m) (hm1 : m ≤ 9223372036854775807) :
    Calls Try.prog 3 #[.slice A xs.length c, .int .i64 m] w fun e w' => e = .returned (.bool true) ∧ Below w.heap.size w w' := by
  by_cases h : laB xs.length = false
  · exact reads_main A _ c xs m w rfl hc hm hx hs h
  · have LG := Lib.hid (show laB xs.length = true by simpa using h)
    have BB := Lib.hid (bel_self w)
    clear hs hx h
    go_enter Try.func3, Try.ntmps3
    go_wp2_with fail
    refine (large_v true _ LG.out).mono ?_
    rintro e w' ⟨rfl, rfl⟩
    go_wp2_with fail
    go_ret
    exact ⟨rfl, BB.out⟩
end Go.Proofs.Ytdhiiknjdkmjjaa

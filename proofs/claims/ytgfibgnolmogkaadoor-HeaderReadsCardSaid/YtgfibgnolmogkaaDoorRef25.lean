/-
  What Long, Split and many of the reference of layer 25 compute. Conditions: numbers within their types.
-/
import Derived.Test.YtgfibgnolmogkaaDoorHdWrite
import Derived.Test.YtgfibgnolmogkaaDoorRef22C
import Derived.Deep.RegionWith
import Derived.Deep.DeepCutAuto
namespace Go.Proofs.YtgfibgnolmogkaaDoor
open Go.RowKit
set_option linter.unusedVariables false

set_option maxHeartbeats 400000 in
theorem re25Long (r : Int) (w : World) (h1 : 1 ≤ r) (h2 : r ≤ 1048576) :
    Calls Tryd.prog 58 #[.int .i64 r] w fun e w' => e = .returned (.int .i64 (lgV r)) ∧ w = w' := by
  have e := Lib.hid (lg_ok h1 h2).2
  go_enter Tryd.func58, Tryd.ntmps58
  go_wp2_with fail
  all_goals
    go_ret
    exact ⟨ret_int (by rw [e.out]; omega), rfl⟩

set_option maxHeartbeats 1000000 in
theorem re25Split (r n : Int) (w : World) (h1 : 1 ≤ r) (h2 : r ≤ 1048576) (n1 : 1 ≤ n) (n2 : n ≤ 4000) :
    Calls Tryd.prog 42 #[.int .i64 r, .int .i64 n] w fun e w' =>
      ∃ v, e = .returned v ∧ Own w' w.heap.size 3 .i64 v (alL (lgV r) n) ∧ Below w.heap.size w w' := by
  have LG := Lib.hid (fun W => re25Long r W h1 h2)
  obtain ⟨b1, b2, _, _⟩ := lgV_bd (r := r) (lg_ok h1 h2).1
  have hq := (frN_spec b1 n1).1
  have hq2 := frN_le b1 n1
  obtain ⟨m, hm⟩ : ∃ m : Nat, frN (lgV r) n = (m : Int) + 1 := ⟨(frN (lgV r) n - 1).toNat, by omega⟩
  have HM := Lib.hid hm
  rw [hm] at hq hq2
  clear hm
  generalize lgV r = L at *
  go_enter Tryd.func42, Tryd.ntmps42
  go_wp2_with fail
  go_loopw [5, 6] (fun v i wr => ∃ k : Nat, k ≤ m + 1 ∧ (∃ t : Int, i = .int .i64 t ∧ max 0 t = lfK L n k ∧ -1095654 ≤ t) ∧ Own wr w.heap.size 3 .i64 v ((alL L n).take k) ∧ Below w.heap.size w wr) (fun _ i _ => (intOf i).toNat)
  case atStart => exact ⟨0, by omega, ⟨n, rfl, by rw [lfK_zero L n n1]; omega, by omega⟩, own_nil5 _ _ _ _, bel_self _⟩
  case round =>
    obtain ⟨k, hk, ⟨t, rfl, ht, ht2⟩, hown, hbel⟩ := hrel
    have hB := hbel.size
    have HO := Lib.hid hown
    have HB := Lib.hid hbel
    clear hown hbel
    by_cases hlt : k < m + 1
    · obtain ⟨s1, s2, s3⟩ := alL_step b1 n1 HM.out hlt
      have s4 := lfK_bd L n k b1
      have T := Lib.hid (take_snoc (alL L n) k (by rw [alL_length HM.out]; exact hlt))
      rw [s3] at T
      have hlen := Lib.hid (show ((alL L n).take k).length ≤ 4000 by rw [List.length_take, alL_length HM.out]; omega)
      have S2 := Lib.hid s2
      have ht' : lfK L n k = t := by omega
      rw [ht'] at T S2 s4
      have t0 : 0 < t := by omega
      have t1 : t ≤ 4000 := by omega
      clear s2 s3 s1 ht ht' ht2
      generalize (alL L n).take k = vs at *
      by_cases hc : L < t
      · have e := Lib.hid (show min t L = L by omega)
        go_wp2_with fail
        refine (LG.out _).mono ?_
        rintro e w' ⟨rfl, rfl⟩
        go_wp2_with ((at_builtin; refine app1 elI64 _ _ rfl rfl rfl rfl HO.out (by have := hlen.out; omega) (by have := hlen.out; omega) hB ?_; intro v2 w2 ho2 hb2; have HO2 := Lib.hid ho2; have HB2 := Lib.hid (HB.out.trans hb2); clear ho2 hb2))
        refine (LG.out _).mono ?_
        rintro e w' ⟨rfl, rfl⟩
        go_wp2_with fail
        go_roundw
        case rel => exact ⟨k + 1, by omega, ⟨_, rfl, by rw [S2.out]; omega, by omega⟩, by rw [T.out, e.out]; exact HO2.out, HB2.out⟩
        case measure => simp [intOf]; omega
      · have e := Lib.hid (show min t L = t by omega)
        go_wp2_with fail
        refine (LG.out _).mono ?_
        rintro e w' ⟨rfl, rfl⟩
        go_wp2_with ((at_builtin; refine app1 elI64 _ _ rfl rfl rfl rfl HO.out (by have := hlen.out; omega) (by have := hlen.out; omega) hB ?_; intro v2 w2 ho2 hb2; have HO2 := Lib.hid ho2; have HB2 := Lib.hid (HB.out.trans hb2); clear ho2 hb2))
        refine (LG.out _).mono ?_
        rintro e w' ⟨rfl, rfl⟩
        go_wp2_with fail
        go_roundw
        case rel => exact ⟨k + 1, by omega, ⟨_, rfl, by rw [S2.out]; omega, by omega⟩, by rw [T.out, e.out]; exact HO2.out, HB2.out⟩
        case measure => simp [intOf]; omega
    · obtain rfl : k = m + 1 := by omega
      have Z := lfK_last b1 n1 HM.out
      have t0 : t ≤ 0 := by omega
      rw [List.take_of_length_le (by rw [alL_length HM.out]; omega)] at HO
      clear Z ht
      go_wp2_with fail
      go_ret
      exact ⟨_, rfl, HO.out, HB.out⟩
end Go.Proofs.YtgfibgnolmogkaaDoor

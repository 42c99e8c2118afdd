/-
  The walk of HeaderOne. Conditions: numbers within their types; the samples lie below; the package variable widths as the text lays it.
-/
import Derived.Test.YtgfibgnolmogkaaDoorLaw25C
import Derived.Test.YtgfibgnolmogkaaDoorRef24B
namespace Go.Proofs.YtgfibgnolmogkaaDoor
open Go.RowKit
set_option linter.unusedVariables false

theorem BlkH.nx {w w' : World} {g : Nat} {T : TypeId} {cs : Array Value} (h : BlkH w g T cs) (hb : Below w.heap.size w w') : BlkH w' g T cs := h.next hb
theorem WdAt.nxo {w w' : World} (h : WdAt w) (hb : Below w.heap.size w w') : WdAt w' := h.next hb
theorem mkE_ok {ch b r : Int} {xs : List Int} {m : Nat} (h : clE ch b r xs = 0) (hm : m ≤ 64) : mkE ch b r xs m = 0 := by
  unfold mkE; rw [if_neg (by omega), if_neg (by omega)]
/-- the header of a valid clip is valid, and has as many samples -/
theorem mk_valid {ch b r : Int} {xs : List Int} (m : Nat) (h : clE ch b r xs = 0) : hdE (mkF m) ch b r ((xs.length : Int) / ch) = 0 ∧ (xs.length : Int) / ch * ch = (xs.length : Int) ∧ 1 ≤ ch ∧ (xs.length : Int) / ch ≤ 4000 ∧ 1 ≤ (xs.length : Int) / ch := by
  obtain ⟨h1, h2, h3, h4⟩ := clE_ok h
  have hq : ¬ (ecE b ch ≠ 0 ∨ (xs.length : Int) / ch < 1 ∨ 4000 / ch < (xs.length : Int) / ch ∨ cnE r ((xs.length : Int) / ch) ≠ 0) := fun hh => by
    unfold heE at h3; rw [if_pos hh] at h3; omega
  simp only [not_or, Decidable.not_not] at hq
  obtain ⟨q1, q2, q3, q4⟩ := hq
  obtain ⟨g1, g2, g3⟩ := ecE_ok q1
  obtain ⟨_, _, _, g4, g5, g6, g7, _⟩ := cnE_ok q4
  refine ⟨?_, Int.ediv_mul_cancel (Int.dvd_of_emod_eq_zero h2), h1, g7, by omega⟩
  unfold hdE
  rw [if_pos ⟨decide_eq_true ⟨g1, by unfold mkF; split <;> simp, g2, g3, g4, g5, by omega⟩, decide_eq_true ⟨by omega, q4⟩⟩]
theorem hdW_inj {f c b r n f' c' b' r' n' : Int} (h : hdE f c b r n = 0) (h' : hdE f' c' b' r' n' = 0) (he : hdW f c b r n = hdW f' c' b' r' n') : f = f' ∧ c = c' ∧ b = b' ∧ r = r' ∧ n = n' := by
  obtain ⟨e1, e2, e3, e4, e5, _⟩ := hdW_vals h []
  obtain ⟨k1, k2, k3, k4, k5, _⟩ := hdW_vals h' []
  rw [he] at e1 e2 e3 e4 e5
  exact ⟨e1.symm.trans k1, e2.symm.trans k2, e3.symm.trans k3, e4.symm.trans k4, e5.symm.trans k5⟩
theorem toList_inj {s t : ByteArray} (h : s.toList = t.toList) : s = t := by
  rw [Lib.toList_data, Lib.toList_data] at h
  cases s
  cases t
  congr
  exact Array.ext' h
/-- the bytes of two valid headers, compared -/
theorem hdW_cmp {f c b r n f' c' b' r' n' : Int} (h : hdE f c b r n = 0) (h' : hdE f' c' b' r' n' = 0) :
    ((strOfNums (hdW f c b r n)).toList == (strOfNums (hdW f' c' b' r' n')).toList) = ((f == f') && (c == c') && (b == b') && (r == r') && (n == n')) := by
  by_cases he : f = f' ∧ c = c' ∧ b = b' ∧ r = r' ∧ n = n'
  · obtain ⟨rfl, rfl, rfl, rfl, rfl⟩ := he
    simp
  · have h1 : ((strOfNums (hdW f c b r n)).toList == (strOfNums (hdW f' c' b' r' n')).toList) = false := by
      rw [Bool.eq_false_iff]
      intro hh
      exact he (hdW_inj h h' (str_inj (hdW_u8 _ _ _ _ _) (hdW_u8 _ _ _ _ _) (toList_inj (eq_of_beq hh))))
    rw [h1]
    symm
    rw [Bool.eq_false_iff]
    intro hh
    simp only [Bool.and_eq_true, beq_iff_eq] at hh
    exact he ⟨hh.1.1.1.1, hh.1.1.1.2, hh.1.1.2, hh.1.2, hh.2⟩
def oneS (c b r : Int) (l : Nat) (m : Nat) (c' b' r' : Int) (l' : Nat) (m' : Nat) : Bool := decide (c = c' ∧ b = b' ∧ r = r' ∧ l = l' ∧ (m = 0 ↔ m' = 0))
/-- two headers are the same just if the clips' shapes are -/
theorem one_same {c b r : Int} {l m : Nat} {c' b' r' : Int} {l' m' : Nat} (h1 : 1 ≤ c) (h2 : (l : Int) / c * c = (l : Int)) (h2' : (l' : Int) / c' * c' = (l' : Int)) :
    ((mkF m == mkF m') && (c == c') && (b == b') && (r == r') && (((l : Int) / c) == ((l' : Int) / c'))) = oneS c b r l m c' b' r' l' m' := by
  have hF : mkF m = mkF m' ↔ (m = 0 ↔ m' = 0) := by
    unfold mkF
    by_cases a : m = 0 <;> by_cases a' : m' = 0 <;> simp [a, a']
  by_cases hs : c = c' ∧ b = b' ∧ r = r' ∧ l = l' ∧ (m = 0 ↔ m' = 0)
  · unfold oneS
    rw [decide_eq_true hs]
    obtain ⟨rfl, rfl, rfl, rfl, hm⟩ := hs
    simp [hF.2 hm]
  · unfold oneS
    rw [decide_eq_false hs, Bool.eq_false_iff]
    intro hh
    simp only [Bool.and_eq_true, beq_iff_eq] at hh
    obtain ⟨⟨⟨⟨a1, a2⟩, a3⟩, a4⟩, a5⟩ := hh
    subst a2
    refine hs ⟨rfl, a3, a4, ?_, hF.1 a1⟩
    rw [a5, h2'] at h2
    omega

set_option maxRecDepth 100000 in
set_option maxHeartbeats 4000000 in
theorem headerOne_walk (c b r : Int) (A : Option Addr) (k : Nat) (xs : List Int) (c' b' r' : Int) (A' : Option Addr) (k' : Nat) (xs' : List Int) (p q : ByteArray) (w : World)
    (hc0 : -9223372036854775808 ≤ c) (hc1 : c ≤ 9223372036854775807) (hb0 : -9223372036854775808 ≤ b) (hb1 : b ≤ 9223372036854775807) (hr0 : -9223372036854775808 ≤ r) (hr1 : r ≤ 9223372036854775807) (hk : xs.length ≤ k) (hk1 : k ≤ 9223372036854775807) (hx : I32 xs) (hs : Sl w w.heap.size .i32 A xs)
    (hc0' : -9223372036854775808 ≤ c') (hc1' : c' ≤ 9223372036854775807) (hb0' : -9223372036854775808 ≤ b') (hb1' : b' ≤ 9223372036854775807) (hr0' : -9223372036854775808 ≤ r') (hr1' : r' ≤ 9223372036854775807) (hk' : xs'.length ≤ k') (hk1' : k' ≤ 9223372036854775807) (hx' : I32 xs') (hs' : Sl w w.heap.size .i32 A' xs')
    (hp : p.size ≤ 9223372036854775807) (hq : q.size ≤ 9223372036854775807) (hW : WdAt w) :
    Calls Tryd.prog 7 #[.agg #[.int .i64 c, .int .i64 b, .int .i64 r, .slice A xs.length k], .agg #[.int .i64 c', .int .i64 b', .int .i64 r', .slice A' xs'.length k'], .string p, .string q] w fun e w' => e = .returned (.bool true) ∧ Below w.heap.size w w' := by
  have BC := Lib.hid ((BlkH.new w 40 #[.int .i64 c, .int .i64 b, .int .i64 r, .slice A xs.length k]).up (.cells #[.int .i64 c', .int .i64 b', .int .i64 r', .slice A' xs'.length k'] 40))
  have BD := BlkH.new (w.alloc (.cells #[.int .i64 c, .int .i64 b, .int .i64 r, .slice A xs.length k] 40)) 40 #[.int .i64 c', .int .i64 b', .int .i64 r', .slice A' xs'.length k']
  rw [size_alloc w] at BD
  have BD := Lib.hid BD
  have BB := Lib.hid (bel_up (bel_up (bel_self w) (.cells #[.int .i64 c, .int .i64 b, .int .i64 r, .slice A xs.length k] 40)) (.cells #[.int .i64 c', .int .i64 b', .int .i64 r', .slice A' xs'.length k'] 40))
  have WD := Lib.hid ((hW.up (.cells #[.int .i64 c, .int .i64 b, .int .i64 r, .slice A xs.length k] 40)).up (.cells #[.int .i64 c', .int .i64 b', .int .i64 r', .slice A' xs'.length k'] 40))
  have SX := Lib.hid ((hs.up (.cells #[.int .i64 c, .int .i64 b, .int .i64 r, .slice A xs.length k] 40)).up (.cells #[.int .i64 c', .int .i64 b', .int .i64 r', .slice A' xs'.length k'] 40))
  have SY := Lib.hid ((hs'.up (.cells #[.int .i64 c, .int .i64 b, .int .i64 r, .slice A xs.length k] 40)).up (.cells #[.int .i64 c', .int .i64 b', .int .i64 r', .slice A' xs'.length k'] 40))
  have hl := Nat.le_trans hk hk1
  have hl' := Nat.le_trans hk' hk1'
  obtain ⟨v1, hv1⟩ : ∃ v, decide ((300 < xs.length ∧ xs.length ≤ 4000) ∨ 4010 < xs.length) = v := ⟨_, rfl⟩
  obtain ⟨v2, hv2⟩ : ∃ v, decide ((300 < xs'.length ∧ xs'.length ≤ 4000) ∨ 4010 < xs'.length) = v := ⟨_, rfl⟩
  have L1 := Lib.hid (fun W => re25Large v1 c b r A xs.length k W hv1)
  have L2 := Lib.hid (fun W => re25Large v2 c' b' r' A' xs'.length k' W hv2)
  have K1 := Lib.hid (fun W hq => re24Check c b r A xs.length k xs W rfl hl hx hq hc0 hc1 hb0 hb1 hr0 hr1)
  have K2 := Lib.hid (fun W hq => re24Check c' b' r' A' xs'.length k' xs' W rfl hl' hx' hq hc0' hc1' hb0' hb1' hr0' hr1')
  have M1 := Lib.hid (fun W hq => hdMake c b r A xs.length k xs p W rfl hl hp hx hq hc0 hc1 hb0 hb1 hr0 hr1)
  have M2 := Lib.hid (fun W hq' => hdMake c' b' r' A' xs'.length k' xs' q W rfl hl' hq hx' hq' hc0' hc1' hb0' hb1' hr0' hr1')
  have F1 := Lib.hid (fun (h : clE c b r xs = 0) => mk_valid p.size h)
  have F2 := Lib.hid (fun (h : clE c' b' r' xs' = 0) => mk_valid q.size h)
  have G1 := Lib.hid (fun (h : clE c b r xs = 0) (hm : p.size ≤ 64) => mkE_ok h hm)
  have G2 := Lib.hid (fun (h : clE c' b' r' xs' = 0) (hm : q.size ≤ 64) => mkE_ok h hm)
  have I1 := Lib.hid (clE_cases c b r xs)
  have I2 := Lib.hid (clE_cases c' b' r' xs')
  have V1 := Lib.hid (show mkE c b r xs p.size = 0 → mkV c b r xs p.size = _ from fun h => if_pos h)
  have V2 := Lib.hid (show mkE c' b' r' xs' q.size = 0 → mkV c' b' r' xs' q.size = _ from fun h => if_pos h)
  clear hv1 hv2 hW hs hs' hx hx' hk hk'
  generalize clE c b r xs = e1 at *
  generalize clE c' b' r' xs' = e2 at *
  generalize mkE c b r xs p.size = m1 at *
  generalize mkE c' b' r' xs' q.size = m2 at *
  generalize mkV c b r xs p.size = x1 at *
  generalize mkV c' b' r' xs' q.size = x2 at *
  generalize xs.length = l at *
  generalize xs'.length = l' at *
  go_enter Tryd.func7, Tryd.ntmps7
  go_wp2_with fail
  generalize hw0 : (w.alloc (.cells #[.int .i64 c, .int .i64 b, .int .i64 r, .slice A l k] 40)).alloc (.cells #[.int .i64 c', .int .i64 b', .int .i64 r', .slice A' l' k'] 40) = wb at *
  clear hw0
  go_wp2_with fail
  refine (hdAlive _ WD.out).mono ?_
  rintro e w1 ⟨rfl, bel1⟩
  have BC := Lib.hid (BC.out.next bel1)
  have BD := Lib.hid (BD.out.next bel1)
  have WD := Lib.hid (WD.out.next bel1)
  have SX := Lib.hid (SX.out.next bel1)
  have SY := Lib.hid (SY.out.next bel1)
  have BB := Lib.hid (bel_next BB.out bel1)
  clear bel1
  have c0 := BC.out.cell 0
  have c1 := BC.out.cell 1
  have c2 := BC.out.cell 2
  have c3 := BC.out.cell 3
  go_wp2_with fail
  refine (L1.out _).mono ?_
  rintro e w2 ⟨rfl, bel2⟩
  have BC := Lib.hid (BC.out.next bel2)
  have BD := Lib.hid (BD.out.next bel2)
  have WD := Lib.hid (WD.out.next bel2)
  have SX := Lib.hid (SX.out.next bel2)
  have SY := Lib.hid (SY.out.next bel2)
  have BB := Lib.hid (bel_next BB.out bel2)
  clear bel2
  cases v1
  case true =>
    go_wp2_with fail
    go_ret
    exact ⟨rfl, BB.out⟩
  clear c0 c1 c2 c3
  have c0 := BD.out.cell 0
  have c1 := BD.out.cell 1
  have c2 := BD.out.cell 2
  have c3 := BD.out.cell 3
  go_wp2_with fail
  refine (L2.out _).mono ?_
  rintro e w3 ⟨rfl, bel3⟩
  have BC := Lib.hid (BC.out.next bel3)
  have BD := Lib.hid (BD.out.next bel3)
  have WD := Lib.hid (WD.out.next bel3)
  have SX := Lib.hid (SX.out.next bel3)
  have SY := Lib.hid (SY.out.next bel3)
  have BB := Lib.hid (bel_next BB.out bel3)
  clear bel3
  cases v2
  case true =>
    go_wp2_with fail
    go_ret
    exact ⟨rfl, BB.out⟩
  clear c0 c1 c2 c3
  have c0 := BC.out.cell 0
  have c1 := BC.out.cell 1
  have c2 := BC.out.cell 2
  have c3 := BC.out.cell 3
  go_wp2_with fail
  refine (K1.out _ SX.out).mono ?_
  rintro e w4 ⟨rfl, bel4⟩
  have BC := Lib.hid (BC.out.next bel4)
  have BD := Lib.hid (BD.out.next bel4)
  have WD := Lib.hid (WD.out.next bel4)
  have SX := Lib.hid (SX.out.next bel4)
  have SY := Lib.hid (SY.out.next bel4)
  have BB := Lib.hid (bel_next BB.out bel4)
  clear bel4
  rcases I1.out with rfl | rfl
  case inr =>
    go_wp2_with fail
    go_ret
    exact ⟨rfl, BB.out⟩
  clear c0 c1 c2 c3
  have c0 := BD.out.cell 0
  have c1 := BD.out.cell 1
  have c2 := BD.out.cell 2
  have c3 := BD.out.cell 3
  go_wp2_with fail
  refine (K2.out _ SY.out).mono ?_
  rintro e w5 ⟨rfl, bel5⟩
  have BC := Lib.hid (BC.out.next bel5)
  have BD := Lib.hid (BD.out.next bel5)
  have WD := Lib.hid (WD.out.next bel5)
  have SX := Lib.hid (SX.out.next bel5)
  have SY := Lib.hid (SY.out.next bel5)
  have BB := Lib.hid (bel_next BB.out bel5)
  clear bel5
  rcases I2.out with rfl | rfl
  case inr =>
    go_wp2_with fail
    go_ret
    exact ⟨rfl, BB.out⟩
  clear c0 c1 c2 c3
  by_cases hp64 : 64 < p.size
  · have hp' : (64 : Int) < (p.size : Int) := by omega
    go_wp2_with fail
    go_ret
    exact ⟨rfl, BB.out⟩
  have hp' : ¬ (64 : Int) < (p.size : Int) := by omega
  by_cases hq64 : 64 < q.size
  · have hq' : (64 : Int) < (q.size : Int) := by omega
    go_wp2_with fail
    go_ret
    exact ⟨rfl, BB.out⟩
  have hq' : ¬ (64 : Int) < (q.size : Int) := by omega
  obtain rfl := G1.out (by simp) (by omega)
  obtain rfl := G2.out (by simp) (by omega)
  obtain rfl := V1.out (by simp)
  obtain rfl := V2.out (by simp)
  obtain ⟨f1, f2, f3, f4, f5⟩ := F1.out (by simp)
  obtain ⟨g1, g2, g3, g4, g5⟩ := F2.out (by simp)
  have ON := Lib.hid (one_same (m := p.size) (m' := q.size) (b := b) (r := r) (b' := b') (r' := r') f3 f2 g2)
  have CM := Lib.hid (hdW_cmp f1 g1)
  clear F1 F2 G1 G2 V1 V2 I1 I2 K1 K2 L1 L2 hp64 hq64
  have CK1 := Lib.hid (fun W => hdCheck (mkF p.size) c b r ((l : Int) / c) W (by omega))
  have CK2 := Lib.hid (fun W => hdCheck (mkF q.size) c' b' r' ((l' : Int) / c') W (by omega))
  have CW1 := Lib.hid (fun W hq => hdWrite (mkF p.size) c b r ((l : Int) / c) W (by omega) hq)
  have CW2 := Lib.hid (fun W hq => hdWrite (mkF q.size) c' b' r' ((l' : Int) / c') W (by omega) hq)
  rw [f1] at CK1
  rw [g1] at CK2
  rw [f1, hdWR_ok f1] at CW1
  rw [g1, hdWR_ok g1] at CW2
  have W1 := Lib.hid (hdW_len (mkF p.size) c b r ((l : Int) / c))
  have W2 := Lib.hid (hdW_len (mkF q.size) c' b' r' ((l' : Int) / c'))
  have HE := Lib.hid (fun W => hd_eq (mkF p.size) c b r ((l : Int) / c) (mkF q.size) c' b' r' ((l' : Int) / c') W)
  rw [ON.out] at HE CM
  clear f1 g1 ON
  generalize hdW (mkF p.size) c b r ((l : Int) / c) = a1 at *
  generalize hdW (mkF q.size) c' b' r' ((l' : Int) / c') = a2 at *
  generalize mkF p.size = fp at *
  generalize mkF q.size = fq at *
  generalize (l : Int) / c = n1 at *
  generalize (l' : Int) / c' = n2 at *
  have hS : oneS c b r l p.size c' b' r' l' q.size = true ∨ oneS c b r l p.size c' b' r' l' q.size = false := by cases oneS c b r l p.size c' b' r' l' q.size <;> simp
  have DS := Lib.hid (show oneS c b r l p.size c' b' r' l' q.size = decide (c = c' ∧ b = b' ∧ r = r' ∧ l = l' ∧ (p.size = 0 ↔ q.size = 0)) from rfl)
  generalize oneS c b r l p.size c' b' r' l' q.size = S at *
  have c0 := BC.out.cell 0
  have c1 := BC.out.cell 1
  have c2 := BC.out.cell 2
  have c3 := BC.out.cell 3
  go_wp2_with fail
  refine (M1.out _ SX.out).mono ?_
  rintro e w6 ⟨rfl, bel6⟩
  have BC := Lib.hid ((BC.out.nx bel6).up (.cells #[.int .i64 fp, .int .i64 c, .int .i64 b, .int .i64 r, .int .i64 n1] 23))
  have BD := Lib.hid ((BD.out.nx bel6).up (.cells #[.int .i64 fp, .int .i64 c, .int .i64 b, .int .i64 r, .int .i64 n1] 23))
  have WD := Lib.hid ((WD.out.nxo bel6).up (.cells #[.int .i64 fp, .int .i64 c, .int .i64 b, .int .i64 r, .int .i64 n1] 23))
  have SY := Lib.hid ((SY.out.next bel6).up (.cells #[.int .i64 fp, .int .i64 c, .int .i64 b, .int .i64 r, .int .i64 n1] 23))
  have BH := Lib.hid (BlkH.new w6 23 #[.int .i64 fp, .int .i64 c, .int .i64 b, .int .i64 r, .int .i64 n1])
  have BB := Lib.hid (bel_up (bel_next BB.out bel6) (.cells #[.int .i64 fp, .int .i64 c, .int .i64 b, .int .i64 r, .int .i64 n1] 23))
  clear bel6 c0 c1 c2 c3 M1 SX
  have c0 := BD.out.cell 0
  have c1 := BD.out.cell 1
  have c2 := BD.out.cell 2
  have c3 := BD.out.cell 3
  go_wp2_with fail
  clear c0 c1 c2 c3
  refine (M2.out _ SY.out).mono ?_
  generalize w6.alloc (.cells #[.int .i64 fp, .int .i64 c, .int .i64 b, .int .i64 r, .int .i64 n1] 23) = w7 at *
  rintro e w8 ⟨rfl, bel8⟩
  have BC := Lib.hid ((BC.out.nx bel8).up (.cells #[.int .i64 fq, .int .i64 c', .int .i64 b', .int .i64 r', .int .i64 n2] 23))
  have BD := Lib.hid ((BD.out.nx bel8).up (.cells #[.int .i64 fq, .int .i64 c', .int .i64 b', .int .i64 r', .int .i64 n2] 23))
  have BH := Lib.hid ((BH.out.nx bel8).up (.cells #[.int .i64 fq, .int .i64 c', .int .i64 b', .int .i64 r', .int .i64 n2] 23))
  have WD := Lib.hid ((WD.out.nxo bel8).up (.cells #[.int .i64 fq, .int .i64 c', .int .i64 b', .int .i64 r', .int .i64 n2] 23))
  have BK := Lib.hid (BlkH.new w8 23 #[.int .i64 fq, .int .i64 c', .int .i64 b', .int .i64 r', .int .i64 n2])
  have BB := Lib.hid (bel_up (bel_next BB.out bel8) (.cells #[.int .i64 fq, .int .i64 c', .int .i64 b', .int .i64 r', .int .i64 n2] 23))
  clear bel8 M2 SY
  have c0 := BH.out.cell 0
  have c1 := BH.out.cell 1
  have c2 := BH.out.cell 2
  have c3 := BH.out.cell 3
  have c4 := BH.out.cell 4
  go_wp2_with fail
  clear c0 c1 c2 c3 c4
  refine (CK1.out _).mono ?_
  generalize w8.alloc (.cells #[.int .i64 fq, .int .i64 c', .int .i64 b', .int .i64 r', .int .i64 n2] 23) = w9 at *
  rintro e w10 ⟨rfl, bel10⟩
  have BC := Lib.hid (BC.out.nx bel10)
  have BD := Lib.hid (BD.out.nx bel10)
  have BH := Lib.hid (BH.out.nx bel10)
  have BK := Lib.hid (BK.out.nx bel10)
  have WD := Lib.hid (WD.out.nxo bel10)
  have BB := Lib.hid (bel_next BB.out bel10)
  clear bel10
  have c0 := BK.out.cell 0
  have c1 := BK.out.cell 1
  have c2 := BK.out.cell 2
  have c3 := BK.out.cell 3
  have c4 := BK.out.cell 4
  go_wp2_with fail
  clear c0 c1 c2 c3 c4
  refine (CK2.out _).mono ?_
  rintro e w11 ⟨rfl, bel11⟩
  have BC := Lib.hid (BC.out.nx bel11)
  have BD := Lib.hid (BD.out.nx bel11)
  have BH := Lib.hid (BH.out.nx bel11)
  have BK := Lib.hid (BK.out.nx bel11)
  have WD := Lib.hid (WD.out.nxo bel11)
  have BB := Lib.hid (bel_next BB.out bel11)
  clear bel11 CK1 CK2
  have h1 := BH.out.cell 1
  have h4 := BH.out.cell 4
  have d3 := BC.out.cell 3
  go_upto_region 8 with fail
  clear h1 h4 d3
  go_cut [14] (fun s14 wx => s14 = .bool S ∧ w11 = wx)
  case first =>
    have d0 := BC.out.cell 0
    have d1 := BC.out.cell 1
    have d2 := BC.out.cell 2
    have d3 := BC.out.cell 3
    have e0 := BD.out.cell 0
    have e1 := BD.out.cell 1
    have e2 := BD.out.cell 2
    have e3 := BD.out.cell 3
    by_cases z0 : c = c'
    · have y0 : (c == c') = true := by simp; exact z0
      by_cases z1 : b = b'
      · have y1 : (b == b') = true := by simp; exact z1
        by_cases z2 : r = r'
        · have y2 : (r == r') = true := by simp; exact z2
          by_cases z3 : l = l'
          · have y3 : ((l : Int) == (l' : Int)) = true := by simp only [beq_iff_eq]; omega
            by_cases z4 : p.size = 0 <;> by_cases z5 : q.size = 0
            · have x4 := str_none z4
              have x5 := str_none z5
              have E := Lib.hid (show S = true by rw [DS.out]; exact decide_eq_true ⟨z0, z1, z2, z3, by simp [z4, z5]⟩)
              clear z0 z1 z2 z3 z4 z5
              go_wp2_with fail
              go_meet
              exact ⟨by rw [E.out], rfl⟩
            · have x4 := str_none z4
              have x5 := str_some z5
              have E := Lib.hid (show S = false by rw [DS.out]; exact decide_eq_false (fun h => by have := h.2.2.2.2; omega))
              clear z0 z1 z2 z3 z4 z5
              go_wp2_with fail
              go_meet
              exact ⟨by rw [E.out], rfl⟩
            · have x4 := str_some z4
              have x5 := str_none z5
              have E := Lib.hid (show S = false by rw [DS.out]; exact decide_eq_false (fun h => by have := h.2.2.2.2; omega))
              clear z0 z1 z2 z3 z4 z5
              go_wp2_with fail
              go_meet
              exact ⟨by rw [E.out], rfl⟩
            · have x4 := str_some z4
              have x5 := str_some z5
              have E := Lib.hid (show S = true by rw [DS.out]; exact decide_eq_true ⟨z0, z1, z2, z3, by simp [z4, z5]⟩)
              clear z0 z1 z2 z3 z4 z5
              go_wp2_with fail
              go_meet
              exact ⟨by rw [E.out], rfl⟩
          · have y3 : ((l : Int) == (l' : Int)) = false := by rw [beq_eq_false_iff_ne]; omega
            have E := Lib.hid (show S = false by rw [DS.out]; exact decide_eq_false (fun h => z3 h.2.2.2.1))
            clear z0 z1 z2 z3
            go_wp2_with fail
            go_meet
            exact ⟨by rw [E.out], rfl⟩
        · have y2 : (r == r') = false := by simp; exact z2
          have E := Lib.hid (show S = false by rw [DS.out]; exact decide_eq_false (fun h => z2 h.2.2.1))
          clear z0 z1 z2
          go_wp2_with fail
          go_meet
          exact ⟨by rw [E.out], rfl⟩
      · have y1 : (b == b') = false := by simp; exact z1
        have E := Lib.hid (show S = false by rw [DS.out]; exact decide_eq_false (fun h => z1 h.2.1))
        clear z0 z1
        go_wp2_with fail
        go_meet
        exact ⟨by rw [E.out], rfl⟩
    · have y0 : (c == c') = false := by simp; exact z0
      have E := Lib.hid (show S = false by rw [DS.out]; exact decide_eq_false (fun h => z0 h.1))
      clear z0
      go_wp2_with fail
      go_meet
      exact ⟨by rw [E.out], rfl⟩
  case rest =>
    obtain ⟨rfl, rfl⟩ := hcut
    have h0 := BH.out.cell 0
    have h1 := BH.out.cell 1
    have h2 := BH.out.cell 2
    have h3 := BH.out.cell 3
    have h4 := BH.out.cell 4
    go_wp2_with fail
    refine (CW1.out _ WD.out).mono ?_
    rintro e w12 ⟨v12, rfl, own12, bel12⟩
    obtain ⟨A1, k1, rfl, hk1, hm1, sl1⟩ := own12.sln W1.out
    have S1 := Lib.hid sl1
    have BH := Lib.hid (BH.out.nx bel12)
    have BK := Lib.hid (BK.out.nx bel12)
    have WD := Lib.hid (WD.out.nxo bel12)
    have BB := Lib.hid (bel_next BB.out bel12)
    clear bel12 own12 sl1 h0 h1 h2 h3 h4
    have h0 := BK.out.cell 0
    have h1 := BK.out.cell 1
    have h2 := BK.out.cell 2
    have h3 := BK.out.cell 3
    have h4 := BK.out.cell 4
    go_wp2_with fail
    refine (CW2.out _ WD.out).mono ?_
    rintro e w13 ⟨v13, rfl, own13, bel13⟩
    obtain ⟨A2, k2, rfl, hk2, hm2, sl2⟩ := own13.sln W2.out
    have S1 := Lib.hid (S1.out.next bel13)
    have S2 := Lib.hid sl2
    have BH := Lib.hid (BH.out.nx bel13)
    have BK := Lib.hid (BK.out.nx bel13)
    have BB := Lib.hid (bel_next BB.out bel13)
    clear bel13 own13 sl2 h0 h1 h2 h3 h4 WD
    have h0 := BK.out.cell 0
    have h1 := BK.out.cell 1
    have h2 := BK.out.cell 2
    have h3 := BK.out.cell 3
    have h4 := BK.out.cell 4
    have i0 := BH.out.cell 0
    have i1 := BH.out.cell 1
    have i2 := BH.out.cell 2
    have i3 := BH.out.cell 3
    have i4 := BH.out.cell 4
    have he := HE.out
    have v1 := conv_sl (P := Tryd.prog) (n := 22) (c := k1) Tryd.underlying24 Tryd.underlying5 Tryd.underlying9 S1.out W1.out
    have v2 := conv_sl (P := Tryd.prog) (n := 22) (c := k2) Tryd.underlying24 Tryd.underlying5 Tryd.underlying9 S2.out W2.out
    have cm := CM.out
    generalize strOfNums a1 = t1 at *
    generalize strOfNums a2 = t2 at *
    rcases hS with rfl | rfl
    · go_wp2_with fail
      go_ret
      exact ⟨rfl, BB.out⟩
    · go_wp2_with fail
      go_ret
      exact ⟨rfl, BB.out⟩
end Go.Proofs.YtgfibgnolmogkaaDoor

/-
  The sum of a long table, chunk by chunk; what is read of numbers with their sum; the walk of summed. No conditions.
-/
import Derived.Test.YtdhiiknjdkmjjaaLaw26D
namespace Go.Proofs.Ytdhiiknjdkmjjaa
open Go.RowKit
set_option linter.unusedVariables false

theorem ck0 : crcL 4294967295 (skB (List.replicate 37 100)) = 4074203546 := by decide +kernel
theorem ck1 : crcL 4074203546 (skB (List.replicate 37 100)) = 1782597382 := by decide +kernel
theorem ck2 : crcL 1782597382 (skB (List.replicate 37 100)) = 3816117418 := by decide +kernel
theorem ck3 : crcL 3816117418 (skB (List.replicate 37 100)) = 3284198294 := by decide +kernel
theorem ck4 : crcL 3284198294 (skB (List.replicate 37 100)) = 2050423931 := by decide +kernel
theorem ck5 : crcL 2050423931 (skB (List.replicate 37 100)) = 1591770628 := by decide +kernel
theorem ck6 : crcL 1591770628 (skB (List.replicate 37 100)) = 2049027195 := by decide +kernel
theorem ck7 : crcL 2049027195 (skB (List.replicate 37 100)) = 3865600652 := by decide +kernel
theorem ck8 : crcL 3865600652 (skB (List.replicate 37 100)) = 2616889246 := by decide +kernel
theorem ck9 : crcL 2616889246 (skB (List.replicate 37 100)) = 1238770209 := by decide +kernel
theorem ck10 : crcL 1238770209 (skB (List.replicate 37 100)) = 3043256395 := by decide +kernel
theorem ck11 : crcL 3043256395 (skB (List.replicate 37 100)) = 672602983 := by decide +kernel
theorem ck12 : crcL 672602983 (skB (List.replicate 37 100)) = 594792508 := by decide +kernel
theorem ck13 : crcL 594792508 (skB (List.replicate 37 100)) = 3730394731 := by decide +kernel
theorem ck14 : crcL 3730394731 (skB (List.replicate 37 100)) = 1836554951 := by decide +kernel
theorem ck15 : crcL 1836554951 (skB (List.replicate 37 100)) = 218095659 := by decide +kernel
theorem ck16 : crcL 218095659 (skB (List.replicate 37 100)) = 1256291029 := by decide +kernel
theorem ck17 : crcL 1256291029 (skB (List.replicate 37 100)) = 1160399597 := by decide +kernel
theorem ck18 : crcL 1160399597 (skB (List.replicate 37 100)) = 3058539353 := by decide +kernel
theorem ck19 : crcL 3058539353 (skB (List.replicate 37 100)) = 1346942823 := by decide +kernel
theorem ck20 : crcL 1346942823 (skB (List.replicate 37 100)) = 2925875669 := by decide +kernel
theorem ck21 : crcL 2925875669 (skB (List.replicate 37 100)) = 4211759067 := by decide +kernel
theorem ck22 : crcL 4211759067 (skB (List.replicate 37 100)) = 1180381058 := by decide +kernel
theorem ck23 : crcL 1180381058 (skB (List.replicate 37 100)) = 1169235081 := by decide +kernel
theorem ck24 : crcL 1169235081 (skB (List.replicate 37 100)) = 4024291779 := by decide +kernel
theorem ck25 : crcL 4024291779 (skB (List.replicate 37 100)) = 1809879075 := by decide +kernel
theorem ck26 : crcL 1809879075 (skB (List.replicate 37 100)) = 4216648107 := by decide +kernel
theorem skB_rep (a b : Nat) (x : Int) : skB (List.replicate (a + b) x) = skB (List.replicate a x) ++ skB (List.replicate b x) := by
  unfold skB; rw [← List.replicate_append_replicate, List.flatMap_append]
theorem crc999 : sumL (skB (List.replicate 999 100)) = 78319188 := by
  have h : crcL 4294967295 (skB (List.replicate 999 100)) = 4216648107 := by
    rw [show (999 : Nat) = 37 + 37 + 37 + 37 + 37 + 37 + 37 + 37 + 37 + 37 + 37 + 37 + 37 + 37 + 37 + 37 + 37 + 37 + 37 + 37 + 37 + 37 + 37 + 37 + 37 + 37 + 37 from rfl]
    simp only [skB_rep, crcL_append, ck0, ck1, ck2, ck3, ck4, ck5, ck6, ck7, ck8, ck9, ck10, ck11, ck12, ck13, ck14, ck15, ck16, ck17, ck18, ck19, ck20, ck21, ck22, ck23, ck24, ck25, ck26]
  unfold sumL; rw [h]

/-- what is read of numbers with their sum -/
theorem va4_skB' {l : List Int} (h : ∀ x ∈ l, 0 ≤ x ∧ x ≤ 4294967295) (t : List Int) {k : Nat} (hk : k < l.length) : va4 (skB l ++ t) (4 * k) = l.getD k 0 := by
  induction l generalizing k with
  | nil => simp at hk
  | cons x r ih =>
    rw [skB_cons, List.append_assoc]
    have hx := h x (by simp)
    cases k with
    | zero => rw [va4_app_l _ _ _ (by simp [le4]), va4_le4 (by omega) (by omega)]; rfl
    | succ k =>
      have e : 4 * (k + 1) = (le4 x).length + 4 * k := by simp [le4]; omega
      rw [e, va4_app, ih (fun y hy => h y (by simp [hy])) (by simpa using hk)]; rfl
theorem rdL_skW' {l : List Int} (h : ∀ x ∈ l, 0 ≤ x ∧ x ≤ 4294967295) (t : List Int) : rdL (skW l ++ t) l.length = l := by
  apply List.ext_getElem
  · rw [rdL_len]
  · intro i h1 h2
    have : (rdL (skW l ++ t) l.length)[i] = va4 (skW l ++ t) (4 * i) := by simp [rdL]
    rw [this]
    unfold skW
    rw [List.append_assoc, va4_skB' h _ h2, List.getD_eq_getElem?_getD, List.getElem?_eq_getElem h2]
    rfl
theorem rd_form {l : List Int} (h : ∀ x ∈ l, 0 ≤ x ∧ x ≤ 4294967295) (h1 : 1 ≤ l.length) (h2 : l.length ≤ 1000) (h0 : skE l ≠ 0) : rdE (skW l) l.length = 12 := by
  have hs : ((sumL ((skW l).take (4 * l.length)) : Nat) : Int) = va4 (skW l) (4 * l.length) := by
    have e0 := take_skW l []
    rw [List.append_nil] at e0
    rw [e0, ← skB_len l]
    unfold skW
    have := sumL_lt (skB l)
    have e := va4_app (skB l) (le4 ((sumL (skB l) : Nat) : Int)) 0
    rw [Nat.add_zero] at e
    rw [e, va4_le4 (by omega) (by omega)]
  have hr := rdL_skW' h []
  rw [List.append_nil] at hr
  have hl := skW_len l
  rcases rdE_cases (skW l) l.length with ⟨_, h0⟩ | ⟨k, hk, _, _, h3⟩
  · omega
  · obtain rfl : l.length = k := by omega
    rcases h3 with ⟨_, h3⟩ | ⟨_, ⟨_, h4⟩ | ⟨_, ⟨h5, _⟩ | ⟨_, h6, _⟩⟩⟩
    · omega
    · exact absurd hs h4
    · exact h5
    · rw [hr] at h6; exact absurd h6 h0

def many (k : Nat) : List Int := List.replicate k 100
theorem many_len (k : Nat) : (many k).length = k := List.length_replicate
theorem sum_many_ (k : Nat) : sumI (many k) = 100 * k := by
  induction k with
  | zero => rfl
  | succ k ih =>
    have : many (k + 1) = 100 :: many k := rfl
    rw [this, sumI_cons, ih]; omega
theorem many_ok : skE (many 1000) = 0 := skE_mk (by rw [many_len]; decide) (by rw [many_len]; decide) (fun x hx => by rw [List.eq_of_mem_replicate hx]; decide) (by rw [sum_many_]; decide)
theorem many_bad : skE (many 1001) = 8 := skE_len (by rw [many_len]; decide)
theorem many_i64 (k : Nat) : I64 (many k) := fun x hx => by rw [List.eq_of_mem_replicate hx]; decide
theorem many_take (k m : Nat) (h : k ≤ m) : (many m).take k = many k := by simp [many, List.take_replicate, Nat.min_eq_left h]
/-- the number of frames is another one: the sum is wrong -/
theorem rd_999 : rdE (skW (many 1000)) 999 = 22 := by
  have e1 : skW (many 1000) = skB (many 999) ++ (le4 100 ++ le4 ((sumL (skB (many 1000)) : Nat) : Int)) := by
    unfold skW
    rw [show many 1000 = many 999 ++ [100] from by unfold many; rw [show (1000 : Nat) = 999 + 1 from rfl, List.replicate_succ'], skB_snoc, List.append_assoc]
  have l1 : (skB (many 999)).length = 4 * 999 := by rw [skB_len, many_len]
  have e2 : (skW (many 1000)).take (4 * 999) = skB (many 999) := by rw [e1, ← l1, List.take_left']; rfl
  have e3 : va4 (skW (many 1000)) (4 * 999) = 100 := by
    rw [e1, ← l1]
    have e := va4_app (skB (many 999)) (le4 100 ++ le4 ((sumL (skB (many 1000)) : Nat) : Int)) 0
    rw [Nat.add_zero] at e
    rw [e, va4_app_l _ _ _ (by simp [le4]), va4_le4 (by decide) (by decide)]
  have hl : (skW (many 1000)).length = 4 * 1000 + 4 := by rw [skW_len, many_len]
  rcases rdE_cases (skW (many 1000)) 999 with ⟨_, h0⟩ | ⟨k, hk, _, _, h3⟩
  · omega
  · obtain rfl : k = 999 := by omega
    rcases h3 with ⟨_, h3⟩ | ⟨_, ⟨h4, _⟩ | ⟨h4, _⟩⟩
    · omega
    · exact h4
    · rw [e2, e3, show skB (many 999) = skB (List.replicate 999 100) from rfl, crc999] at h4
      exact absurd h4 (by decide)

set_option maxHeartbeats 1000000 in
theorem summed_any (A : Option Addr) (n c : Nat) (xs : List Int) (w : World) (hn : xs.length = n) (hm : n ≤ 1000) (hx : ∀ x ∈ xs, 0 ≤ x ∧ x ≤ 4294967295) (hs : Sl w w.heap.size .u64 A xs) :
    Calls Try.prog 24 #[.slice A n c] w fun e w' => ∃ v, e = .returned v ∧ Own w' w.heap.size 5 .u8 v (skW xs) ∧ Below w.heap.size w w' := by
  have N := Lib.hid hn
  clear hn
  go_enter Try.func24, Try.ntmps24
  go_wp2_with fail
  go_loopw [3, 4] (fun v i wr => ∃ k : Nat, k ≤ n ∧ i = .int .i64 k ∧ Own wr w.heap.size 5 .u8 v (skB (xs.take k)) ∧ Below w.heap.size w wr) (fun _ i _ => n - (intOf i).toNat)
  case atStart => exact ⟨0, by omega, rfl, own_nil5 _ _ _ _, bel_self _⟩
  case round =>
    obtain ⟨k, hk, rfl, hown, hbel⟩ := hrel
    have HO := Lib.hid hown
    have HB := Lib.hid hbel
    clear hown hbel
    by_cases hlt : k < n
    · obtain ⟨b, o, rfl, hb, hc⟩ := hs (by rw [N.out]; omega)
      have hcell := (HB.out.cell (p := ⟨b, o + k, none⟩) hb).trans (hc k (by rw [N.out]; omega))
      have hbd := hx _ (mem_getD (show k < xs.length by rw [N.out]; omega))
      have T := Lib.hid ((congrArg skB (take_snoc xs k (by rw [N.out]; omega))).trans (skB_snoc _ _))
      have L := Lib.hid (show (skB (xs.take k)).length ≤ 4000 by rw [skB_len, List.length_take]; omega)
      clear hc hs
      generalize xs.getD k 0 = y at *
      have hlt' : (k : Int) < (n : Int) := by omega
      go_wp2_with fail
      refine (leBytes4 y _ (by omega) (by omega)).mono ?_
      rintro e w1 ⟨v1, rfl, own1, bel1⟩
      obtain ⟨A1, c1, rfl, _, _, sl1⟩ := own1.sln (n := 4) rfl
      have S1 := Lib.hid sl1
      have O1 := Lib.hid (HO.out.below bel1)
      have B1 := Lib.hid (bel_next HB.out bel1)
      clear own1 sl1 bel1 hcell
      go_wp2_with ((at_builtin; refine appN (ys := le4 y) leElU8 _ _ rfl rfl rfl rfl O1.out S1.out (by have := L.out; simp [le4]; omega) (by have := L.out; simp [le4]; omega) B1.out.size ?_; intro v2 w2 ho2 hb2; have O2 := Lib.hid ho2; have B2 := Lib.hid (B1.out.trans hb2); clear ho2 hb2))
      go_roundw
      case rel => exact ⟨k + 1, by omega, by go_num, by rw [T.out]; exact O2.out, B2.out⟩
      case measure => simp [intOf]; omega
    · obtain rfl : k = n := by omega
      rw [List.take_of_length_le (by rw [N.out]; omega)] at HO
      have L := Lib.hid (show (skB xs).length = 4 * k by rw [skB_len, N.out])
      obtain ⟨Av, cv, rfl, _, _, slv⟩ := HO.out.sln L.out
      have S := Lib.hid slv
      have z := sumL_lt (skB xs)
      have W := Lib.hid (show skW xs = skB xs ++ le4 ((sumL (skB xs) : Nat) : Int) from rfl)
      have OF := Lib.hid (fun W hW => sum_ok Av (4 * k) cv (skB xs) W L.out (by omega) (skB_u8 xs) hW)
      clear slv hs
      generalize sumL (skB xs) = t at *
      go_wp2_with fail
      refine (OF.out _ S.out).mono ?_
      rintro e w1 ⟨rfl, bel0⟩
      have HO := Lib.hid (HO.out.below bel0)
      have HB := Lib.hid (bel_next HB.out bel0)
      clear bel0 S
      go_wp2_with fail
      refine (leBytes4 (t : Int) _ (by omega) (by omega)).mono ?_
      rintro e w2 ⟨v1, rfl, own1, bel1⟩
      obtain ⟨A1, c1, rfl, _, _, sl1⟩ := own1.sln (n := 4) rfl
      have S1 := Lib.hid sl1
      have O1 := Lib.hid (HO.out.below bel1)
      have B1 := Lib.hid (bel_next HB.out bel1)
      clear own1 sl1 bel1
      go_wp2_with ((at_builtin; refine appN (v := .slice Av (4 * k) cv) (ys := le4 t) leElU8 _ _ rfl rfl rfl rfl O1.out S1.out (by rw [L.out]; simp [le4]; omega) (by rw [L.out]; simp [le4]; omega) B1.out.size ?_; intro v2 w3 ho2 hb2; have O2 := Lib.hid ho2; have B2 := Lib.hid (B1.out.trans hb2); clear ho2 hb2))
      go_ret
      exact ⟨_, rfl, by rw [W.out]; exact O2.out, B2.out⟩
end Go.Proofs.Ytdhiiknjdkmjjaa

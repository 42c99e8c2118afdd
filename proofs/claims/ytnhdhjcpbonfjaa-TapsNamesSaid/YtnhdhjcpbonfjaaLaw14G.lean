/-
  The walk of TapsNames. No conditions.
-/
import Derived.Test.YtnhdhjcpbonfjaaLaw14C
import Derived.Test.YtnhdhjcpbonfjaaHeld2
import Derived.Test.YtnhdhjcpbonfjaaKit2
import Derived.Deep.DeepCutAuto
namespace Go.Proofs.Ytnhdhjcpbonfjaa
open Go.RowKit
set_option linter.unusedVariables false

theorem wl_norm {P : Program} {ops : Array Oper} {l l' : List Oper} {a : Act} {Q : Exit → Act → World → Prop} {w : World} (e : l = l') (h : wpList P ops Q l' a w) : wpList P ops Q l a w := by subst e; exact h
theorem flt_runT {w : World} {b : Nat} {sh : Int} {ts ps : List Int} (h : FB w b 24 sh ts ps) : (Instr.loadAt 22 (.pointer (some ⟨b, 1, none⟩))).run Try.prog w = .ok (.agg (aA ts)) w := by
  have hr : w.rangeAt b 1 (aA ts).toList := by
    have := World.rangeAt_of_block h.1 1 16
    have e := fA_ext_t (sh := sh) (ps := ps) h.2.1
    rw [aA_size, h.2.1] at e
    rw [← e]
    simpa using this
  have := run_loadAt_mid (P := Try.prog) w b 1 22 (aA ts).toList _ hr flt.arr rfl (by simpa [aA_size, h.2.1] using flt.asize)
  simpa using this
theorem y_loadT {ops : Array Oper} {S : World → Prop} {a : Act} {o : Oper} {b : Nat} {sh : Int} {ts ps : List Int} (hg : o.guard = none) (x : Operand) (ho : o.op = .load 22 x) (hx : a.eval x = .pointer (some ⟨b, 1, none⟩)) (hb : ∀ W, S W → FB W b 24 sh ts ps) : YieldsIf Try.prog ops S o (.agg (aA ts)) a :=
  y_pure hg fun W hW => by
    simp only [execOp, ho, hx, Sem.run_bind, flt_runT (hb W hW), Result.andThen_ok, Sem.run_pure]
def pN (x : Int) : List Int := [x, 0, 0, 0, 0, 0, 0, 0, 0, 0, 0, 0, 0, 0, 0, 0]
theorem pN_0 (x : Int) : (pN x).getD 0 0 = x := rfl
theorem pN_z (x : Int) : z16.set 0 x = pN x := rfl
theorem pN_s (x y : Int) : (pN x).set 0 y = pN y := rfl
theorem pN_F (x y : Int) : F16 (pN x) (pN y) := ⟨rfl, rfl⟩
theorem pN_I {x : Int} (h : -2147483648 ≤ x ∧ x ≤ 2147483647) : I32 (pN x) := fun y hy => by
  simp only [pN, List.mem_cons, List.not_mem_nil, or_false] at hy
  have h0 : (-2147483648 : Int) ≤ 0 ∧ (0 : Int) ≤ 2147483647 := by decide
  rcases hy with rfl | rfl | rfl | rfl | rfl | rfl | rfl | rfl | rfl | rfl | rfl | rfl | rfl | rfl | rfl | rfl <;> first | exact h | exact h0
theorem p1_built (W : World) : (Instr.build 22 #[(0, .int .i32 1)]).run Try.prog W = .ok (.agg (aA (pN 1))) W := run_build W _ _ _ (by kernel_rfl)
theorem nm_g1 : gsV 10 (pN 1) (pN 511) = 0 := by decide +kernel
theorem nm_g2 : gsV 10 (pN 1) (pN 512) = 1 := by decide +kernel
theorem nm_g3 : gsV 10 (pN 1) (pN (-513)) = -1 := by decide +kernel
theorem nm_g4 : gsV 10 (pN 1) (pN 2147483647) = -2097152 := by decide +kernel
theorem nm_g5 : gsV 10 (pN 65536) (pN 65536) = 0 := by decide +kernel
def shL : List Int := [0, 8, 11, -9, 64]
theorem sh_cell {W : World} {B b : Nat} {xs : List Int} {k : Nat} {s : Int} (h : SA W B .i64 (some ⟨b, 0, none⟩) xs) (hk : k < xs.length) (e : xs.getD k 0 = s) : W.cell? ⟨b, k, none⟩ = some (.int .i64 s) := by
  obtain ⟨bb, o, e2, hbb, hc⟩ := h.1 (by omega)
  injection e2 with e2
  injection e2 with e3 e4
  subst e3 e4
  have := hc k hk
  rw [Nat.zero_add, e] at this
  exact this
theorem sh_bad {k : Nat} (h : k < 5) : ckF (shL.getD k 0) = 8 ∧ nwE (shL.getD k 0 + 1) = 2 ∧ -9 ≤ shL.getD k 0 ∧ shL.getD k 0 ≤ 64 := by
  match k, h with
  | 0, _ => decide
  | 1, _ => decide
  | 2, _ => decide
  | 3, _ => decide
  | 4, _ => decide

set_option maxRecDepth 100000 in
set_option maxHeartbeats 4000000 in
theorem tapsNames_walk (w : World) : Calls Try.prog 7 #[] w fun e w' => e = .returned (.bool true) ∧ Below w.heap.size w w' := by
  have BB := Lib.hid (bel_self w)
  have CN := Lib.hid (fun b W (h : nwE b = 2) => by have := tnew_any b z16 W rfl; rw [show nwF b z16 = fA 0 z16 z16 by unfold nwF; rw [if_neg (by rw [h]; decide)], h] at this; exact this)
  have C1 := Lib.hid (fun W => tnew_any 8 (pN 1) W rfl)
  rw [show nwF 8 (pN 1) = fA 10 (pN 1) z16 by unfold nwF; rw [if_pos (by decide)]; rfl, show nwE 8 = 0 by decide] at C1
  have C2 := Lib.hid (fun W => tnew_any 24 z16 W rfl)
  rw [show nwF 24 z16 = fA 10 z16 z16 by unfold nwF; rw [if_pos (by decide)]; rfl, show nwE 24 = 0 by decide] at C2
  have G1 := Lib.hid (fun W => tguess_10 (pN 1) (pN 511) W (pN_F _ _) (pN_I (by decide)) (pN_I (by decide)))
  rw [nm_g1] at G1
  have G2 := Lib.hid (fun W => tguess_10 (pN 1) (pN 512) W (pN_F _ _) (pN_I (by decide)) (pN_I (by decide)))
  rw [nm_g2] at G2
  have G3 := Lib.hid (fun W => tguess_10 (pN 1) (pN (-513)) W (pN_F _ _) (pN_I (by decide)) (pN_I (by decide)))
  rw [nm_g3] at G3
  have G4 := Lib.hid (fun W => tguess_10 (pN 1) (pN 2147483647) W (pN_F _ _) (pN_I (by decide)) (pN_I (by decide)))
  rw [nm_g4] at G4
  have G5 := Lib.hid (fun W => tguess_10 (pN 65536) (pN 65536) W (pN_F _ _) (pN_I (by decide)) (pN_I (by decide)))
  rw [nm_g5] at G5
  have HF := Lib.hid f16z
  have HT := Lib.hid (show F16 (pN 1) z16 from ⟨rfl, rfl⟩)
  have T1 := Lib.hid p1_built
  go_enter Try.func7, Try.ntmps7
  go_wp2_with fail
  have SX := Lib.hid (SA.of (show Sl (w.alloc (.cells #[.int .i64 0, .int .i64 8, .int .i64 11, .int .i64 (-9), .int .i64 64] 3)) (w.alloc (.cells #[.int .i64 0, .int .i64 8, .int .i64 11, .int .i64 (-9), .int .i64 64] 3)).heap.size .i64 (some ⟨w.heap.size, 0, none⟩) shL from Sl.lit' w .i64 3 shL rfl))
  have BB := Lib.hid (bel_up BB.out (.cells #[.int .i64 0, .int .i64 8, .int .i64 11, .int .i64 (-9), .int .i64 64] 3))
  generalize hW : w.alloc (.cells #[.int .i64 0, .int .i64 8, .int .i64 11, .int .i64 (-9), .int .i64 64] 3) = w1 at *
  clear hW
  go_loopw [2] (fun i wr => ∃ k : Nat, k ≤ 5 ∧ i = .int .i64 k ∧ SA wr w1.heap.size .i64 (some ⟨w.heap.size, 0, none⟩) shL ∧ Below w.heap.size w wr) (fun i _ => 5 - (intOf i).toNat)
  case atStart => exact ⟨0, by omega, rfl, SX.out, BB.out⟩
  case round =>
    obtain ⟨k, hk, rfl, hs, hb⟩ := hrel
    by_cases hlt : k < 5
    · as_aux_lemma =>
      have hkz : (k : Int) < 5 := by omega
      obtain ⟨hk8, hkN, hl, hu⟩ := sh_bad hlt
      have SX := Lib.hid hs
      have BB := Lib.hid hb
      have SC := Lib.hid (fun (s : Int) (e : shL.getD k 0 = s) (W : World) (B : Nat) (h : SA W B .i64 (some ⟨w.heap.size, 0, none⟩) shL) => sh_cell h hlt e)
      generalize hse : shL.getD k 0 = s at *
      have SE := Lib.hid (SC.out s rfl)
      have CG := Lib.hid (fun W => tguess_bad s z16 z16 W f16z (by rw [hk8]; decide))
      have CL := Lib.hid (fun W => learn_bad s z16 z16 1 W f16z (by rw [hk8]; decide))
      have CP := Lib.hid (fun W => push_bad s z16 z16 1 W f16z (by rw [hk8]; decide))
      have CC := Lib.hid (fun W => tcheck_any s z16 z16 W f16z)
      rw [hk8] at CG CL CP CC
      have CN := Lib.hid (fun W => CN.out (s + 1) W hkN)
      have hcell := SE.out wr _ SX.out
      have ws : IntKind.i64.wrap (s + 1) = s + 1 := IntWalk.i64_in _ (by omega)
      clear hs hb hk8 hkN hse SC C1 C2 G1 G2 G3 G4 G5 T1 HT
      obtain ⟨w10, rfl⟩ : ∃ wq, wq = wr := ⟨_, rfl⟩
      go_wp2_with (first
        | (with_reducible refine flt_bld1 (o := ⟨some 38, _, _, _, _, _⟩) flt fltI rfl _ rfl rfl ?_)
        | ((with_reducible refine flt_alloc (o := ⟨some 3, _, _, _, _, _⟩) flt rfl rfl ?_); intro w11 bf hbf hBf bel11; have q_SX_f := Nat.le_trans SX.out.2 hbf; have of := Nat.le_trans BB.out.size hbf; have SX := Lib.hid (SX.out.next bel11); have BB := Lib.hid (bel_next BB.out bel11); have Xf := Lib.hid hBf; clear bel11 hBf hbf)
        | ((with_reducible refine flt_store flt rfl (.tmp 3) (.tmp 38) rfl rfl rfl Xf.out HF.out ?_); intro w12 hB12 onl12; have SX := Lib.hid (SX.out.only (by omega) onl12); have BB := Lib.hid (onl12.bel of BB.out); have Xf := Lib.hid hB12; clear onl12 hB12)
        | (with_reducible refine flt_load (o := ⟨some 40, _, _, _, _, _⟩) flt rfl _ rfl rfl Xf.out ?_))
      refine (CG.out _).mono ?_
      rintro e w13 ⟨rfl, bel13⟩
      have SX := Lib.hid (SX.out.next bel13)
      have Xf := Lib.hid (Xf.out.next bel13)
      have BB := Lib.hid (bel_next BB.out bel13)
      clear bel13
      go_wp2_with (first
        | (with_reducible refine flt_load (o := ⟨some 45, _, _, _, _, _⟩) flt rfl _ rfl rfl Xf.out ?_))
      refine (CL.out _).mono ?_
      rintro e w14 ⟨rfl, bel14⟩
      have SX := Lib.hid (SX.out.next bel14)
      have Xf := Lib.hid (Xf.out.next bel14)
      have BB := Lib.hid (bel_next BB.out bel14)
      clear bel14
      go_wp2_with (first
        | ((with_reducible refine flt_alloc (o := ⟨some 6, _, _, _, _, _⟩) flt rfl rfl ?_); intro w15 bx hbx hBx bel15; have q_f_x : bf < bx := Nat.lt_of_lt_of_le Xf.out.lt hbx; have q_SX_x := Nat.le_trans SX.out.2 hbx; have ox := Nat.le_trans BB.out.size hbx; have SX := Lib.hid (SX.out.next bel15); have Xf := Lib.hid (Xf.out.next bel15); have BB := Lib.hid (bel_next BB.out bel15); have Xx := Lib.hid hBx; clear bel15 hBx hbx)
        | ((with_reducible refine flt_store flt rfl (.tmp 6) (.tmp 47) rfl rfl rfl Xx.out HF.out ?_); intro w16 hB16 onl16; have SX := Lib.hid (SX.out.only (by omega) onl16); have Xf := Lib.hid (Xf.out.only (by omega) onl16); have BB := Lib.hid (onl16.bel ox BB.out); have Xx := Lib.hid hB16; clear onl16 hB16)
        | (with_reducible refine flt_load (o := ⟨some 50, _, _, _, _, _⟩) flt rfl _ rfl rfl Xf.out ?_))
      refine (CP.out _).mono ?_
      rintro e w17 ⟨rfl, bel17⟩
      have SX := Lib.hid (SX.out.next bel17)
      have Xf := Lib.hid (Xf.out.next bel17)
      have Xx := Lib.hid (Xx.out.next bel17)
      have BB := Lib.hid (bel_next BB.out bel17)
      clear bel17
      go_upto_region 9 with (first
        | ((with_reducible refine flt_alloc (o := ⟨some 8, _, _, _, _, _⟩) flt rfl rfl ?_); intro w18 bu hbu hBu bel18; have q_f_u : bf < bu := Nat.lt_of_lt_of_le Xf.out.lt hbu; have q_x_u : bx < bu := Nat.lt_of_lt_of_le Xx.out.lt hbu; have q_SX_u := Nat.le_trans SX.out.2 hbu; have ou := Nat.le_trans BB.out.size hbu; have SX := Lib.hid (SX.out.next bel18); have Xf := Lib.hid (Xf.out.next bel18); have Xx := Lib.hid (Xx.out.next bel18); have BB := Lib.hid (bel_next BB.out bel18); have Xu := Lib.hid hBu; clear bel18 hBu hbu)
        | ((with_reducible refine flt_store flt rfl (.tmp 8) (.tmp 52) rfl rfl rfl Xu.out HF.out ?_); intro w19 hB19 onl19; have SX := Lib.hid (SX.out.only (by omega) onl19); have Xf := Lib.hid (Xf.out.only (by omega) onl19); have Xx := Lib.hid (Xx.out.only (by omega) onl19); have BB := Lib.hid (onl19.bel ou BB.out); have Xu := Lib.hid hB19; clear onl19 hB19))
      go_cut [10, 11] (fun s10 s11 wx => ∃ bz, s10 = .pointer (some ⟨bz, 0, none⟩) ∧ s11 = .int .i64 2 ∧ w19.heap.size ≤ bz ∧ FB wx bz 24 0 z16 z16 ∧ Below w19.heap.size w19 wx)
      case first =>
        refine h_begin (S := SinceH w19) (by kernel_rfl) rfl ?_
        have S0 : Below w19.heap.size w19 { w19 with drawn := w19.drawn + 1 } := (bel_self w19).drew
        generalize ({ w19 with drawn := w19.drawn + 1 } : World) = wd at *
        refine h_take 0 rfl (by kernel_rfl) (by kernel_rfl) (by kernel_rfl) (fun _ _ _ h => h) (y_pure rfl (fun W hW => by go_simp <;> rfl)) S0 rfl (by go_simp <;> rfl) ?_
        refine h_take 1 rfl (by kernel_rfl) (by kernel_rfl) (by kernel_rfl) (fun _ _ _ h => h) (y_pure rfl (fun W hW => by go_simp <;> rfl)) S0 rfl (by go_simp <;> rfl) ?_
        refine h_take 2 rfl (by kernel_rfl) (by kernel_rfl) (by kernel_rfl) (fun _ _ _ h => h) (y_pure rfl (fun W hW => by go_simp <;> rfl)) S0 rfl (by go_simp <;> rfl) ?_
        refine h_take 3 rfl (by kernel_rfl) (by kernel_rfl) (by kernel_rfl) (fun _ _ _ h => h) (y_pure rfl (fun W hW => by have := SE.out W _ (SX.out.next hW); go_simp <;> rfl)) S0 rfl (by go_simp <;> rfl) ?_
        refine h_take 4 rfl (by kernel_rfl) (by kernel_rfl) (by kernel_rfl) (fun _ _ _ h => h) (y_pure rfl (fun W hW => by go_simp <;> rfl)) S0 rfl (by go_simp <;> rfl) ?_
        refine h_take 5 rfl (by kernel_rfl) (by kernel_rfl) (by kernel_rfl) (fun _ _ _ h => h) (y_pure rfl (fun W hW => by go_simp <;> rfl)) S0 rfl (by go_simp <;> rfl) ?_
        refine h_take 6 rfl (by kernel_rfl) (by kernel_rfl) (by kernel_rfl) (fun _ _ _ h => h) (y_loadT rfl _ rfl rfl (fun W hW => Xf.out.next hW)) S0 rfl (by go_simp <;> rfl) ?_
        refine h_two 7 11 (by kernel_rfl) rfl rfl rfl rfl rfl rfl ?_ ?_
        · refine wp_call (by go_simp <;> rfl) (CN.out _) (by go_simp <;> rfl) ?_
          intro v1 belc
          have S1 : Below w19.heap.size w19 v1 := bel_next S0 belc
          refine ⟨S1, ?_⟩
          refine h_take 8 rfl (by kernel_rfl) (by kernel_rfl) (by kernel_rfl) (fun _ _ _ h => h) (y_pure rfl (fun W hW => by go_simp <;> rfl)) S1 rfl (by go_simp <;> rfl) ?_
          refine h_take 9 rfl (by kernel_rfl) (by kernel_rfl) (by kernel_rfl) (fun _ _ _ h => h) (y_pure rfl (fun W hW => by go_simp <;> rfl)) S1 rfl (by go_simp <;> rfl) ?_
          refine h_take 10 rfl (by kernel_rfl) (by kernel_rfl) (by kernel_rfl) (fun _ _ _ h => h) (y_pure rfl (fun W hW => by go_simp <;> rfl)) S1 rfl (by go_simp <;> rfl) ?_
          refine h_one 11 (by kernel_rfl) rfl rfl rfl ?_
          refine wp_flt_alloc flt rfl (fun b => by go_simp <;> rfl) ?_
          intro v2 bz hb8 hB8 bela
          have S2 : Below w19.heap.size w19 v2 := bel_next S1 bela
          refine ⟨S2, ?_⟩
          have o8 : w19.heap.size ≤ bz := Nat.le_trans S1.size hb8
          refine h_one 12 (by kernel_rfl) rfl rfl rfl ?_
          refine wp_flt_store flt _ _ rfl rfl rfl hB8 HF.out (by go_simp <;> rfl) ?_
          intro v3 hB3 onl3
          have S3 : Below w19.heap.size w19 v3 := onl3.bel o8 S2
          refine ⟨S3, ?_⟩
          refine h_take 13 rfl (by kernel_rfl) (by kernel_rfl) (by kernel_rfl) (fun _ _ _ h => h) (y_pure rfl (fun W hW => by go_simp <;> rfl)) S3 rfl (by go_simp <;> rfl) ?_
          refine h_done (by kernel_rfl) ?_
          go_wp2_with fail
          go_meet
          exact ⟨bz, rfl, rfl, o8, hB3, S3⟩
        · refine wp_flt_alloc flt rfl (fun b => by go_simp <;> rfl) ?_
          intro v1 bz hb8 hB8 bela
          have S1 : Below w19.heap.size w19 v1 := bel_next S0 bela
          refine ⟨S1, ?_⟩
          have o8 : w19.heap.size ≤ bz := Nat.le_trans S0.size hb8
          refine h_one 7 (by kernel_rfl) rfl rfl rfl ?_
          refine wp_call (by go_simp <;> rfl) (CN.out _) (by go_simp <;> rfl) ?_
          intro v2 belc
          have S2 : Below w19.heap.size w19 v2 := bel_next S1 belc
          refine ⟨S2, ?_⟩
          have hB8 := hB8.next belc
          refine h_take 8 rfl (by kernel_rfl) (by kernel_rfl) (by kernel_rfl) (fun _ _ _ h => h) (y_pure rfl (fun W hW => by go_simp <;> rfl)) S2 rfl (by go_simp <;> rfl) ?_
          refine h_take 9 rfl (by kernel_rfl) (by kernel_rfl) (by kernel_rfl) (fun _ _ _ h => h) (y_pure rfl (fun W hW => by go_simp <;> rfl)) S2 rfl (by go_simp <;> rfl) ?_
          refine h_take 10 rfl (by kernel_rfl) (by kernel_rfl) (by kernel_rfl) (fun _ _ _ h => h) (y_pure rfl (fun W hW => by go_simp <;> rfl)) S2 rfl (by go_simp <;> rfl) ?_
          refine h_one 12 (by kernel_rfl) rfl rfl rfl ?_
          refine wp_flt_store flt _ _ rfl rfl rfl hB8 HF.out (by go_simp <;> rfl) ?_
          intro v3 hB3 onl3
          have S3 : Below w19.heap.size w19 v3 := onl3.bel o8 S2
          refine ⟨S3, ?_⟩
          refine h_take 13 rfl (by kernel_rfl) (by kernel_rfl) (by kernel_rfl) (fun _ _ _ h => h) (y_pure rfl (fun W hW => by go_simp <;> rfl)) S3 rfl (by go_simp <;> rfl) ?_
          refine h_done (by kernel_rfl) ?_
          go_wp2_with fail
          go_meet
          exact ⟨bz, rfl, rfl, o8, hB3, S3⟩
      case rest =>
        obtain ⟨bz, rfl, rfl, hbz, hBz, bel20⟩ := hcut
        obtain ⟨w20, rfl⟩ : ∃ wq, wq = wc := ⟨_, rfl⟩
        have q_f_z : bf < bz := Nat.lt_of_lt_of_le Xf.out.lt hbz
        have q_x_z : bx < bz := Nat.lt_of_lt_of_le Xx.out.lt hbz
        have q_u_z : bu < bz := Nat.lt_of_lt_of_le Xu.out.lt hbz
        have q_SX_z := Nat.le_trans SX.out.2 hbz
        have oz := Nat.le_trans BB.out.size hbz
        have SX := Lib.hid (SX.out.next bel20)
        have Xf := Lib.hid (Xf.out.next bel20)
        have Xx := Lib.hid (Xx.out.next bel20)
        have Xu := Lib.hid (Xu.out.next bel20)
        have BB := Lib.hid (bel_next BB.out bel20)
        have Xz := Lib.hid hBz
        clear bel20 hBz hbz
        go_wp2_with (first
          | (with_reducible refine flt_load (o := ⟨some 65, _, _, _, _, _⟩) flt rfl _ rfl rfl Xf.out ?_))
        refine (CC.out _).mono ?_
        rintro e w21 ⟨rfl, bel21⟩
        have SX := Lib.hid (SX.out.next bel21)
        have Xf := Lib.hid (Xf.out.next bel21)
        have Xx := Lib.hid (Xx.out.next bel21)
        have Xu := Lib.hid (Xu.out.next bel21)
        have Xz := Lib.hid (Xz.out.next bel21)
        have BB := Lib.hid (bel_next BB.out bel21)
        clear bel21
        go_wp2_with fail
        go_roundw
        case rel => exact ⟨k + 1, by omega, by go_num, SX.out, BB.out⟩
        case measure => simp [intOf]; omega
    · as_aux_lemma =>
      obtain rfl : k = 5 := by omega
      have BB := Lib.hid hb
      clear hs hb CN SX
      obtain ⟨w10, rfl⟩ : ∃ wq, wq = wr := ⟨_, rfl⟩
      go_wp2_with (first
        | (with_reducible refine wpl_build1 (d := some 85) (T1.out _) ?_))
      refine (C1.out _).mono ?_
      rintro e w11 ⟨rfl, bel11⟩
      have BB := Lib.hid (bel_next BB.out bel11)
      clear bel11
      go_wp2_with (first
        | ((with_reducible refine flt_alloc (o := ⟨some 12, _, _, _, _, _⟩) flt rfl rfl ?_); intro w12 be hbe hBe bel12; have oe := Nat.le_trans BB.out.size hbe; have BB := Lib.hid (bel_next BB.out bel12); have Xe := Lib.hid hBe; clear bel12 hBe hbe)
        | ((with_reducible refine flt_store flt rfl (.tmp 12) (.tmp 87) rfl rfl rfl Xe.out HT.out ?_); intro w13 hB13 onl13; have BB := Lib.hid (onl13.bel oe BB.out); have Xe := Lib.hid hB13; clear onl13 hB13)
        | (with_reducible refine arr_bld0 (o := ⟨some 90, _, _, _, _, _⟩) flt rfl rfl ?_))
      refine (C2.out _).mono ?_
      rintro e w14 ⟨rfl, bel14⟩
      have Xe := Lib.hid (Xe.out.next bel14)
      have BB := Lib.hid (bel_next BB.out bel14)
      clear bel14
      go_wp2_with (first
        | ((with_reducible refine flt_alloc (o := ⟨some 14, _, _, _, _, _⟩) flt rfl rfl ?_); intro w15 bm hbm hBm bel15; have q_e_m : be < bm := Nat.lt_of_lt_of_le Xe.out.lt hbm; have om := Nat.le_trans BB.out.size hbm; have Xe := Lib.hid (Xe.out.next bel15); have BB := Lib.hid (bel_next BB.out bel15); have Xm := Lib.hid hBm; clear bel15 hBm hbm)
        | ((with_reducible refine flt_store flt rfl (.tmp 14) (.tmp 92) rfl rfl rfl Xm.out HF.out ?_); intro w16 hB16 onl16; have Xe := Lib.hid (Xe.out.only (by omega) onl16); have BB := Lib.hid (onl16.bel om BB.out); have Xm := Lib.hid hB16; clear onl16 hB16)
        | (with_reducible refine flt_bld1 (o := ⟨some 94, _, _, _, _, _⟩) flt fltI rfl _ rfl rfl ?_)
        | ((with_reducible refine flt_alloc (o := ⟨some 16, _, _, _, _, _⟩) flt rfl rfl ?_); intro w17 bf hbf hBf bel17; have q_e_f : be < bf := Nat.lt_of_lt_of_le Xe.out.lt hbf; have q_m_f : bm < bf := Nat.lt_of_lt_of_le Xm.out.lt hbf; have of := Nat.le_trans BB.out.size hbf; have Xe := Lib.hid (Xe.out.next bel17); have Xm := Lib.hid (Xm.out.next bel17); have BB := Lib.hid (bel_next BB.out bel17); have Xf := Lib.hid hBf; clear bel17 hBf hbf)
        | ((with_reducible refine flt_store flt rfl (.tmp 16) (.tmp 94) rfl rfl rfl Xf.out HF.out ?_); intro w18 hB18 onl18; have Xe := Lib.hid (Xe.out.only (by omega) onl18); have Xm := Lib.hid (Xm.out.only (by omega) onl18); have BB := Lib.hid (onl18.bel of BB.out); have Xf := Lib.hid hB18; clear onl18 hB18)
        | ((with_reducible refine flt_setT flt rfl (.tmp 96) (.const (.int .i32 1)) rfl (k := 0) (rfl) rfl rfl Xf.out ((by decide)) ?_); intro w19 hB19 onl19; rw [pN_z] at hB19; have Xe := Lib.hid (Xe.out.only (by omega) onl19); have Xm := Lib.hid (Xm.out.only (by omega) onl19); have BB := Lib.hid (onl19.bel of BB.out); have Xf := Lib.hid hB19; clear onl19 hB19)
        | ((with_reducible refine flt_setP flt rfl (.tmp 98) (.const (.int .i32 511)) rfl (k := 0) (rfl) rfl rfl Xf.out ((by decide)) ?_); intro w20 hB20 onl20; rw [pN_z] at hB20; have Xe := Lib.hid (Xe.out.only (by omega) onl20); have Xm := Lib.hid (Xm.out.only (by omega) onl20); have BB := Lib.hid (onl20.bel of BB.out); have Xf := Lib.hid hB20; clear onl20 hB20)
        | (with_reducible refine flt_load (o := ⟨some 100, _, _, _, _, _⟩) flt rfl _ rfl rfl Xf.out ?_))
      refine (G1.out _).mono ?_
      rintro e w21 ⟨rfl, bel21⟩
      have Xe := Lib.hid (Xe.out.next bel21)
      have Xm := Lib.hid (Xm.out.next bel21)
      have Xf := Lib.hid (Xf.out.next bel21)
      have BB := Lib.hid (bel_next BB.out bel21)
      clear bel21
      go_wp2_with (first
        | ((with_reducible refine flt_setP flt rfl (.tmp 105) (.const (.int .i32 512)) rfl (k := 0) (rfl) rfl rfl Xf.out ((by decide)) ?_); intro w22 hB22 onl22; rw [pN_s] at hB22; have Xe := Lib.hid (Xe.out.only (by omega) onl22); have Xm := Lib.hid (Xm.out.only (by omega) onl22); have BB := Lib.hid (onl22.bel of BB.out); have Xf := Lib.hid hB22; clear onl22 hB22)
        | (with_reducible refine flt_load (o := ⟨some 107, _, _, _, _, _⟩) flt rfl _ rfl rfl Xf.out ?_))
      refine (G2.out _).mono ?_
      rintro e w23 ⟨rfl, bel23⟩
      have Xe := Lib.hid (Xe.out.next bel23)
      have Xm := Lib.hid (Xm.out.next bel23)
      have Xf := Lib.hid (Xf.out.next bel23)
      have BB := Lib.hid (bel_next BB.out bel23)
      clear bel23
      go_wp2_with (first
        | ((with_reducible refine flt_setP flt rfl (.tmp 112) (.const (.int .i32 (-513))) rfl (k := 0) (rfl) rfl rfl Xf.out ((by decide)) ?_); intro w24 hB24 onl24; rw [pN_s] at hB24; have Xe := Lib.hid (Xe.out.only (by omega) onl24); have Xm := Lib.hid (Xm.out.only (by omega) onl24); have BB := Lib.hid (onl24.bel of BB.out); have Xf := Lib.hid hB24; clear onl24 hB24)
        | (with_reducible refine flt_load (o := ⟨some 114, _, _, _, _, _⟩) flt rfl _ rfl rfl Xf.out ?_))
      refine (G3.out _).mono ?_
      rintro e w25 ⟨rfl, bel25⟩
      have Xe := Lib.hid (Xe.out.next bel25)
      have Xm := Lib.hid (Xm.out.next bel25)
      have Xf := Lib.hid (Xf.out.next bel25)
      have BB := Lib.hid (bel_next BB.out bel25)
      clear bel25
      go_wp2_with (first
        | ((with_reducible refine flt_setP flt rfl (.tmp 119) (.const (.int .i32 2147483647)) rfl (k := 0) (rfl) rfl rfl Xf.out ((by decide)) ?_); intro w26 hB26 onl26; rw [pN_s] at hB26; have Xe := Lib.hid (Xe.out.only (by omega) onl26); have Xm := Lib.hid (Xm.out.only (by omega) onl26); have BB := Lib.hid (onl26.bel of BB.out); have Xf := Lib.hid hB26; clear onl26 hB26)
        | (with_reducible refine flt_load (o := ⟨some 121, _, _, _, _, _⟩) flt rfl _ rfl rfl Xf.out ?_))
      refine (G4.out _).mono ?_
      rintro e w27 ⟨rfl, bel27⟩
      have Xe := Lib.hid (Xe.out.next bel27)
      have Xm := Lib.hid (Xm.out.next bel27)
      have Xf := Lib.hid (Xf.out.next bel27)
      have BB := Lib.hid (bel_next BB.out bel27)
      clear bel27
      go_wp2_with (first
        | ((with_reducible refine flt_setT flt rfl (.tmp 126) (.const (.int .i32 65536)) rfl (k := 0) (rfl) rfl rfl Xf.out ((by decide)) ?_); intro w28 hB28 onl28; rw [pN_s] at hB28; have Xe := Lib.hid (Xe.out.only (by omega) onl28); have Xm := Lib.hid (Xm.out.only (by omega) onl28); have BB := Lib.hid (onl28.bel of BB.out); have Xf := Lib.hid hB28; clear onl28 hB28)
        | ((with_reducible refine flt_setP flt rfl (.tmp 128) (.const (.int .i32 65536)) rfl (k := 0) (rfl) rfl rfl Xf.out ((by decide)) ?_); intro w29 hB29 onl29; rw [pN_s] at hB29; have Xe := Lib.hid (Xe.out.only (by omega) onl29); have Xm := Lib.hid (Xm.out.only (by omega) onl29); have BB := Lib.hid (onl29.bel of BB.out); have Xf := Lib.hid hB29; clear onl29 hB29)
        | (with_reducible refine flt_load (o := ⟨some 130, _, _, _, _, _⟩) flt rfl _ rfl rfl Xf.out ?_))
      refine (G5.out _).mono ?_
      rintro e w30 ⟨rfl, bel30⟩
      have Xe := Lib.hid (Xe.out.next bel30)
      have Xm := Lib.hid (Xm.out.next bel30)
      have Xf := Lib.hid (Xf.out.next bel30)
      have BB := Lib.hid (bel_next BB.out bel30)
      clear bel30
      go_wp2_with fail
      refine (alive_any _).mono ?_
      rintro e w31 ⟨rfl, bel31⟩
      have Xe := Lib.hid (Xe.out.next bel31)
      have Xm := Lib.hid (Xm.out.next bel31)
      have Xf := Lib.hid (Xf.out.next bel31)
      have BB := Lib.hid (bel_next BB.out bel31)
      clear bel31
      show (_ : Act → World → Prop) _ _
      refine ‹∀ (a : Act) (w : World), wpList _ _ _ _ a w → _› _ _ ?_
      with_reducible apply wl_norm
      case e => simp only [List.append_eq, List.cons_append, List.nil_append]; rfl
      have c0 := Xe.out.c0
      have c1 := Xe.out.ct (show 0 < 16 by omega)
      have c2 := Xm.out.c0
      rw [pN_0] at c1
      go_wp2_with fail
      go_ret
      exact ⟨rfl, BB.out⟩
end Go.Proofs.Ytnhdhjcpbonfjaa

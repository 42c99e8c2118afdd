/-
  The walk of ChainNames. No conditions.
-/
import Derived.Test.YtgnmpkembcdkcaaLaw19C
import Derived.Test.YtgnmpkembcdkcaaKit4
import Derived.Great.BuildSlice
namespace Go.Proofs.Ytgnmpkembcdkcaa
open Go.RowKit
set_option linter.unusedVariables false

theorem wl_norm {P : Program} {ops : Array Oper} {l l' : List Oper} {a : Act} {Q : Exit → Act → World → Prop} {w : World} (e : l = l') (h : wpList P ops Q l' a w) : wpList P ops Q l a w := by subst e; exact h

def bdB (k : Nat) : Int := ([0, 8, 16, 24, 12] : List Int).getD k 0
def bdS (k : Nat) : Int := ([0, 9, 10, 9, 10] : List Int).getD k 0
def bdA : Array Value := (cL 0 0 0 z16 z16 ++ cL 8 0 9 z16 z16 ++ cL 16 0 10 z16 z16 ++ cL 24 0 9 z16 z16 ++ cL 12 0 10 z16 z16).toArray
theorem bd_ext0 : bdA.extract 0 35 = cA 0 0 0 z16 z16 := by kernel_rfl
theorem bd_ext1 : bdA.extract 35 70 = cA 8 0 9 z16 z16 := by kernel_rfl
theorem bd_ext2 : bdA.extract 70 105 = cA 16 0 10 z16 z16 := by kernel_rfl
theorem bd_ext3 : bdA.extract 105 140 = cA 24 0 9 z16 z16 := by kernel_rfl
theorem bd_ext4 : bdA.extract 140 175 = cA 12 0 10 z16 z16 := by kernel_rfl
theorem bd_ext {k : Nat} (h : k < 5) : bdA.extract (k * 35) (k * 35 + 35) = cA (bdB k) 0 (bdS k) z16 z16 := by
  obtain rfl | rfl | rfl | rfl | rfl : k = 0 ∨ k = 1 ∨ k = 2 ∨ k = 3 ∨ k = 4 := by omega
  · rw [show (0 * 35 : Nat) = 0 from rfl, show (0 + 35 : Nat) = 35 from rfl, show bdB 0 = 0 from rfl, show bdS 0 = 0 from rfl]; exact bd_ext0
  · rw [show (1 * 35 : Nat) = 35 from rfl, show (35 + 35 : Nat) = 70 from rfl, show bdB 1 = 8 from rfl, show bdS 1 = 9 from rfl]; exact bd_ext1
  · rw [show (2 * 35 : Nat) = 70 from rfl, show (70 + 35 : Nat) = 105 from rfl, show bdB 2 = 16 from rfl, show bdS 2 = 10 from rfl]; exact bd_ext2
  · rw [show (3 * 35 : Nat) = 105 from rfl, show (105 + 35 : Nat) = 140 from rfl, show bdB 3 = 24 from rfl, show bdS 3 = 9 from rfl]; exact bd_ext3
  · rw [show (4 * 35 : Nat) = 140 from rfl, show (140 + 35 : Nat) = 175 from rfl, show bdB 4 = 12 from rfl, show bdS 4 = 10 from rfl]; exact bd_ext4
theorem bd_bad {k : Nat} (h : k < 5) : cnC (bdB k) (bdS k) ≠ 0 := by
  match k, h with
  | 0, _ => decide
  | 1, _ => decide
  | 2, _ => decide
  | 3, _ => decide
  | 4, _ => decide
theorem bad_load {ops : Array Oper} {rest : List Oper} {o : Oper} {a : Act} {Q : Exit → Act → World → Prop} {w : World} {b off : Nat} {t : TypeId} {cs : Array Value} {bt la sh : Int} {ts ps : List Int} (hg : o.guard = none) (x : Operand) (ho : o.op = .load 26 x) (hx : a.eval x = .pointer (some ⟨b, off, none⟩)) (hb : Blk w b t cs) (he : cs.extract off (off + 35) = cA bt la sh ts ps) (hF : F16 ts ps)
    (h : wpList Try.prog ops Q rest (a.put o.dst (.agg (cA bt la sh ts ps))) w) : wpList Try.prog ops Q (o :: rest) a w := by
  obtain ⟨d, hu, hd⟩ := chn.row
  exact blk_load hg 26 x ho b off hx hb _ (by rw [cA_size hF]; exact he) d hu hd (by rw [cA_size hF]; exact chn.size) h
theorem bad_index {b : Nat} {k : Nat} (h : k < 5) (W : World) : (Instr.indexAt 49 (.slice (some ⟨b, 0, none⟩) 5 5) (.int .i64 (k : Int))).run Try.prog W = .ok (.pointer (some ⟨b, k * 35, none⟩)) W := by
  rw [run_indexAt_slice W 49 ⟨b, 0, none⟩ 5 5 .i64 (k : Int) (by kernel_rfl), if_pos (by omega)]
  rw [show Try.prog.elem 49 = 26 by kernel_rfl, sizeOf_run chn.size W]
  simp [Addr.add]
  exact fun h => h.symm
def t7 : List Int := [7, 0, 0, 0, 0, 0, 0, 0, 0, 0, 0, 0, 0, 0, 0, 0]
theorem t7_built (W : World) : (Instr.build 22 #[(0, .int .i32 7)]).run Try.prog W = .ok (.agg (aA t7)) W := run_build W _ _ _ (by kernel_rfl)
theorem bd_many {k : Nat} (h : k < 5) : clE (bdB k) (bdS k) 4001 = 8 := by unfold clE; rw [if_pos (bd_bad h)]
theorem bd_built (W : World) : (Instr.buildSlice 49 5 #[(0, .agg (cA 0 0 0 z16 z16)), (1, .agg (cA 8 0 9 z16 z16)), (2, .agg (cA 16 0 10 z16 z16)), (3, .agg (cA 24 0 9 z16 z16)), (4, .agg (cA 12 0 10 z16 z16))]).run Try.prog W = .ok (.slice (some ⟨W.heap.size, 0, none⟩) 5 5) (W.alloc (.cells bdA 26)) := by
  cases hi : Try.prog.info? 26 with
  | none => have := chn.zero; simp [hi] at this
  | some i =>
    have hz := chn.zero
    simp only [hi, Option.bind_some] at hz
    have hs : i.size = 35 := by have := chn.size; simp only [hi, Option.map_some, Option.some.injEq] at this; exact this
    refine run_buildSlice W _ 26 5 _ bdA i _ (by kernel_rfl) hi hz (by rw [hs]; decide) (by rw [hs]; decide) ?_
    rw [hs]
    kernel_rfl
theorem bd_lay {ops : Array Oper} {rest : List Oper} {o : Oper} {a : Act} {Q : Exit → Act → World → Prop} {w : World} (hg : o.guard = none) (x0 x1 x2 x3 x4 : Operand) (ho : o.op = .buildSlice 49 5 #[(0, x0), (1, x1), (2, x2), (3, x3), (4, x4)])
    (h0 : a.eval x0 = .agg (cA 0 0 0 z16 z16)) (h1 : a.eval x1 = .agg (cA 8 0 9 z16 z16)) (h2 : a.eval x2 = .agg (cA 16 0 10 z16 z16)) (h3 : a.eval x3 = .agg (cA 24 0 9 z16 z16)) (h4 : a.eval x4 = .agg (cA 12 0 10 z16 z16))
    (h : ∀ w' b, w.heap.size ≤ b → Blk w' b 26 bdA → Below w.heap.size w w' → wpList Try.prog ops Q rest (a.put o.dst (.slice (some ⟨b, 0, none⟩) 5 5)) w') : wpList Try.prog ops Q (o :: rest) a w := by
  refine wpList_plain hg fun K hK => ?_
  unfold Oper.wp execOp
  have e := bd_built w
  rw [← h0, ← h1, ← h2, ← h3, ← h4] at e
  simp only [ho, Sem.run_bind]
  have e2 : (#[((0 : Nat), x0), (1, x1), (2, x2), (3, x3), (4, x4)] : Array (Nat × Operand)).map (fun (i, x) => (i, a.eval x)) = #[(0, a.eval x0), (1, a.eval x1), (2, a.eval x2), (3, a.eval x3), (4, a.eval x4)] := by simp
  rw [e2, e]
  exact hK _ _ (h _ _ (Nat.le_refl _) (Blk.new w _ bdA) (bel_up (bel_self w) _))
theorem t7_v : VC (0, t7, z16) := ⟨c0_v.1, ⟨rfl, rfl⟩, by unfold I32; decide, c0_v.2.2.2⟩

set_option maxRecDepth 100000 in
set_option maxHeartbeats 4000000 in
theorem chainNames_walk (w : World) : Calls Try.prog 6 #[] w fun e w' => e = .returned (.bool true) ∧ Below w.heap.size w w' := by
  have BB := Lib.hid (bel_self w)
  obtain ⟨Z, hZ⟩ : ∃ Z, Z = List.replicate 4001 (0 : Int) := ⟨_, rfl⟩
  have hZl : Z.length = 4001 := by rw [hZ]; simp
  have hZi : I32 Z := fun y hy => by rw [hZ] at hy; rw [List.eq_of_mem_replicate hy]; decide
  have hT : Z.take 4000 = List.replicate 4000 0 := by rw [hZ, List.take_replicate]; rfl
  have CF := Lib.hid (fun (k : Nat) (h : k < 5) (W : World) => cforward_bad (bdB k) 0 (bdS k) 1 z16 z16 W f16z (bd_bad h))
  have CB := Lib.hid (fun (k : Nat) (h : k < 5) (W : World) => cback_bad (bdB k) 0 (bdS k) 1 z16 z16 W f16z (bd_bad h))
  have CA := Lib.hid (fun (k : Nat) (h : k < 5) A c W => by have := cAll_bad (bdB k) 0 (bdS k) z16 z16 A 4001 c W f16z (by omega) (by rw [bd_many h]; decide); rw [bd_many h] at this; exact this)
  have CU := Lib.hid (fun (k : Nat) (h : k < 5) A c W => by have := cUndo_bad (bdB k) 0 (bdS k) z16 z16 A 4001 c W f16z (by omega) (by rw [bd_many h]; decide); rw [bd_many h] at this; exact this)
  have CC := Lib.hid (fun (k : Nat) (h : k < 5) W => by have := ccheck_any (bdB k) 0 (bdS k) z16 z16 W f16z; rw [cnC_bad (bd_bad h)] at this; exact this)
  have C1 := Lib.hid (fun W => cnew_bad 12 z16 W rfl (by decide))
  have C2 := Lib.hid (fun W => cnew_ok 24 t7 W rfl (by decide))
  rw [show nwS 24 = 10 from rfl] at C2
  have m4 : clE 24 10 4001 = 4 := by decide
  have C3 := Lib.hid (fun A c W => cAll_bad 24 0 10 t7 z16 A 4001 c W ⟨rfl, rfl⟩ (by decide) (by rw [m4]; decide))
  have C4 := Lib.hid (fun A c W => cUndo_bad 24 0 10 t7 z16 A 4001 c W ⟨rfl, rfl⟩ (by decide) (by rw [m4]; decide))
  rw [m4] at C3 C4
  have hc10 : ckF 10 = 0 := by decide
  have hcn : cnC 24 10 = 0 := by decide
  obtain ⟨o1, o2⟩ := sil_o hc10 t7
  obtain ⟨n1, n2⟩ := sil_n hc10 (ts := t7) rfl t7_v.2.2.1
  have z0 : wrap32 (0 - 0) = 0 := by decide +kernel
  have g0 : gC 24 0 = 0 := by decide +kernel
  obtain ⟨r1, r2⟩ := runL_still (o := cO 24 10) (n := cN 24 10) (s := ((0, t7, z16) : CS)) (by unfold cO; simp only [g0]; rw [z0]; exact o1) (by unfold cN; simp only [g0]; rw [z0, n1]) 4000
  have C5 := Lib.hid (fun A c W (hh : Sl W W.heap.size .i32 A Z) => cAll_ok 24 10 (0, t7, z16) A 4000 c (Z.take 4000) W (by rw [List.length_take, hZl]; rfl) t7_v hcn (by decide) (by decide) (by decide) (fun y hy => hZi y (List.mem_of_mem_take hy)) (hh.take 4000))
  rw [hT, r1, r2] at C5
  have C6 := Lib.hid (fun W => cUndo_ok 24 10 (0, t7, z16) none 0 0 [] W rfl t7_v hcn (by decide) (by decide) (by decide) (fun y hy => by simp at hy) Sl.nil_)
  rw [show runL (cP 24 10) (cM 24 10) ((0, t7, z16) : CS) [] = [] from rfl, show finL (cM 24 10) ((0, t7, z16) : CS) [] = (0, t7, z16) from rfl] at C6
  dsimp only at C5 C6
  have HF := Lib.hid f16z
  have HT := Lib.hid (show F16 t7 z16 from ⟨rfl, rfl⟩)
  have P7 := Lib.hid (show t7.getD 0 0 = 7 from rfl)
  have T7 := Lib.hid t7_built
  have HLN_f := Lib.hid (show (List.replicate 4000 (0 : Int)).length = 4000 by simp)
  have mk : ∀ W, (Instr.makeSlice 41 (.int .i64 4001) (.int .i64 4001)).run Try.prog W = .ok (.slice (some ⟨W.heap.size, 0, none⟩) 4001 4001) (W.alloc (.cells (zerosA .i32 4001) 21)) := run_make_ints elI32 4001 rfl (by decide) (by decide)
  have ZR := Lib.hid (fun (W : World) => show Sl (W.alloc (.cells (zerosA .i32 4001) 21)) (W.alloc (.cells (zerosA .i32 4001) 21)).heap.size .i32 (some ⟨W.heap.size, 0, none⟩) Z by rw [hZ]; exact Sl.zeros' W .i32 21 4001)
  generalize zerosA .i32 4001 = za at *
  generalize List.replicate 4000 (0 : Int) = Y at *
  generalize t7 = tt at *
  clear hZ hZl hZi hT hc10 hcn o1 o2 n1 n2 z0 g0 r1 r2 m4
  go_enter Try.func6, Try.ntmps6
  go_wp2_with (first
    | (with_reducible refine chn_bld0 (o := ⟨some 32, _, _, _, _, _⟩) chn rfl rfl ?_)
    | (with_reducible refine flt_bld1 (o := ⟨some 33, _, _, _, _, _⟩) flt fltI rfl _ rfl rfl ?_)
    | (with_reducible refine chn_bld2 (o := ⟨some 34, _, _, _, _, _⟩) chn rfl _ _ rfl rfl rfl HF.out ?_)
    | (with_reducible refine flt_bld1 (o := ⟨some 35, _, _, _, _, _⟩) flt fltI rfl _ rfl rfl ?_)
    | (with_reducible refine chn_bld2 (o := ⟨some 36, _, _, _, _, _⟩) chn rfl _ _ rfl rfl rfl HF.out ?_)
    | (with_reducible refine flt_bld1 (o := ⟨some 37, _, _, _, _, _⟩) flt fltI rfl _ rfl rfl ?_)
    | (with_reducible refine chn_bld2 (o := ⟨some 38, _, _, _, _, _⟩) chn rfl _ _ rfl rfl rfl HF.out ?_)
    | (with_reducible refine flt_bld1 (o := ⟨some 39, _, _, _, _, _⟩) flt fltI rfl _ rfl rfl ?_)
    | (with_reducible refine chn_bld2 (o := ⟨some 40, _, _, _, _, _⟩) chn rfl _ _ rfl rfl rfl HF.out ?_)
    | ((with_reducible refine bd_lay (o := ⟨some 41, _, _, _, _, _⟩) rfl _ _ _ _ _ rfl rfl rfl rfl rfl rfl ?_); intro w1 bs hbs hB1 bel1; have os := Nat.le_trans BB.out.size hbs; have BB := Lib.hid (bel_next BB.out bel1); have Xs := Lib.hid hB1; clear bel1 hB1 hbs; have WZ := Lib.hid (ZR.out w1); have WB := Lib.hid (bel_up (bel_self w1) (.cells za 21)); have Xs := Lib.hid (Xs.out.next WB.out); have BB := Lib.hid (bel_next BB.out WB.out); generalize hW : w1.alloc (.cells za 21) = w2 at *))
  have SZ := Lib.hid (SA.of WZ.out)
  clear WZ WB hW mk ZR
  go_loopw [3] (fun i wr => ∃ k : Nat, k ≤ 5 ∧ i = .int .i64 k ∧ Blk wr bs 26 bdA ∧ SA wr w2.heap.size .i32 (some ⟨w1.heap.size, 0, none⟩) Z ∧ Below w.heap.size w wr) (fun i _ => 5 - (intOf i).toNat)
  case atStart => exact ⟨0, by omega, rfl, Xs.out, SZ.out, BB.out⟩
  case round =>
    obtain ⟨k, hk, rfl, hs, hz, hb⟩ := hrel
    by_cases hlt : k < 5
    · as_aux_lemma =>
      have hkz : (k : Int) < 5 := by omega
      have EX := Lib.hid (bd_ext hlt)
      have C1 := Lib.hid (CF.out k hlt)
      have C2 := Lib.hid (CB.out k hlt)
      have C3 := Lib.hid (CA.out k hlt)
      have C4 := Lib.hid (CU.out k hlt)
      have C5 := Lib.hid (CC.out k hlt)
      have ix := bad_index (b := bs) hlt
      generalize bdB k = bB at *
      generalize bdS k = bS at *
      have Xs := Lib.hid hs
      have SZ := Lib.hid hz
      have BB := Lib.hid hb
      clear hs hz hb CF CB CA CU CC
      obtain ⟨w10, rfl⟩ : ∃ wq, wq = wr := ⟨_, rfl⟩
      go_wp2_with (first
        | (with_reducible refine bad_load (o := ⟨some 53, _, _, _, _, _⟩) rfl _ rfl rfl Xs.out EX.out HF.out ?_))
      refine (C1.out _).mono ?_
      rintro e w11 ⟨rfl, bel11⟩
      have Xs := Lib.hid (Xs.out.next bel11)
      have SZ := Lib.hid (SZ.out.next bel11)
      have BB := Lib.hid (bel_next BB.out bel11)
      clear bel11
      go_wp2_with (first
        | ((with_reducible refine chn_alloc (o := ⟨some 5, _, _, _, _, _⟩) chn rfl rfl ?_); intro w12 bx hbx hBx bel12; have q_s_x : bs < bx := Nat.lt_of_lt_of_le Xs.out.lt hbx; have q_SZ_x := Nat.le_trans SZ.out.2 hbx; have ox := Nat.le_trans BB.out.size hbx; have Xs := Lib.hid (Xs.out.next bel12); have SZ := Lib.hid (SZ.out.next bel12); have BB := Lib.hid (bel_next BB.out bel12); have Xx := Lib.hid hBx; clear bel12 hBx hbx)
        | ((with_reducible refine chn_store chn rfl (.tmp 5) (.tmp 56) rfl rfl rfl Xx.out HF.out ?_); intro w13 hB13 onl13; have Xs := Lib.hid (Xs.out.only (by omega) onl13); have SZ := Lib.hid (SZ.out.only (by omega) onl13); have BB := Lib.hid (onl13.bel ox BB.out); have Xx := Lib.hid hB13; clear onl13 hB13)
        | (with_reducible refine bad_load (o := ⟨some 62, _, _, _, _, _⟩) rfl _ rfl rfl Xs.out EX.out HF.out ?_))
      clear Xx
      go_wp2_with fail
      refine (C2.out _).mono ?_
      rintro e w14 ⟨rfl, bel14⟩
      have Xs := Lib.hid (Xs.out.next bel14)
      have SZ := Lib.hid (SZ.out.next bel14)
      have BB := Lib.hid (bel_next BB.out bel14)
      clear bel14
      go_wp2_with (first
        | ((with_reducible refine chn_alloc (o := ⟨some 8, _, _, _, _, _⟩) chn rfl rfl ?_); intro w15 bx hbx hBx bel15; have q_s_x : bs < bx := Nat.lt_of_lt_of_le Xs.out.lt hbx; have q_SZ_x := Nat.le_trans SZ.out.2 hbx; have ox := Nat.le_trans BB.out.size hbx; have Xs := Lib.hid (Xs.out.next bel15); have SZ := Lib.hid (SZ.out.next bel15); have BB := Lib.hid (bel_next BB.out bel15); have Xx := Lib.hid hBx; clear bel15 hBx hbx)
        | ((with_reducible refine chn_store chn rfl (.tmp 8) (.tmp 65) rfl rfl rfl Xx.out HF.out ?_); intro w16 hB16 onl16; have Xs := Lib.hid (Xs.out.only (by omega) onl16); have SZ := Lib.hid (SZ.out.only (by omega) onl16); have BB := Lib.hid (onl16.bel ox BB.out); have Xx := Lib.hid hB16; clear onl16 hB16)
        | (with_reducible refine bad_load (o := ⟨some 71, _, _, _, _, _⟩) rfl _ rfl rfl Xs.out EX.out HF.out ?_))
      clear Xx
      go_wp2_with fail
      refine (C3.out _ _ _).mono ?_
      rintro e w17 ⟨rfl, bel17⟩
      have Xs := Lib.hid (Xs.out.next bel17)
      have SZ := Lib.hid (SZ.out.next bel17)
      have BB := Lib.hid (bel_next BB.out bel17)
      clear bel17
      go_wp2_with (first
        | ((with_reducible refine chn_alloc (o := ⟨some 11, _, _, _, _, _⟩) chn rfl rfl ?_); intro w18 bx hbx hBx bel18; have q_s_x : bs < bx := Nat.lt_of_lt_of_le Xs.out.lt hbx; have q_SZ_x := Nat.le_trans SZ.out.2 hbx; have ox := Nat.le_trans BB.out.size hbx; have Xs := Lib.hid (Xs.out.next bel18); have SZ := Lib.hid (SZ.out.next bel18); have BB := Lib.hid (bel_next BB.out bel18); have Xx := Lib.hid hBx; clear bel18 hBx hbx)
        | ((with_reducible refine chn_store chn rfl (.tmp 11) (.tmp 75) rfl rfl rfl Xx.out HF.out ?_); intro w19 hB19 onl19; have Xs := Lib.hid (Xs.out.only (by omega) onl19); have SZ := Lib.hid (SZ.out.only (by omega) onl19); have BB := Lib.hid (onl19.bel ox BB.out); have Xx := Lib.hid hB19; clear onl19 hB19)
        | (with_reducible refine bad_load (o := ⟨some 81, _, _, _, _, _⟩) rfl _ rfl rfl Xs.out EX.out HF.out ?_))
      clear Xx
      go_wp2_with fail
      refine (C4.out _ _ _).mono ?_
      rintro e w20 ⟨rfl, bel20⟩
      have Xs := Lib.hid (Xs.out.next bel20)
      have SZ := Lib.hid (SZ.out.next bel20)
      have BB := Lib.hid (bel_next BB.out bel20)
      clear bel20
      go_wp2_with (first
        | ((with_reducible refine chn_alloc (o := ⟨some 14, _, _, _, _, _⟩) chn rfl rfl ?_); intro w21 bx hbx hBx bel21; have q_s_x : bs < bx := Nat.lt_of_lt_of_le Xs.out.lt hbx; have q_SZ_x := Nat.le_trans SZ.out.2 hbx; have ox := Nat.le_trans BB.out.size hbx; have Xs := Lib.hid (Xs.out.next bel21); have SZ := Lib.hid (SZ.out.next bel21); have BB := Lib.hid (bel_next BB.out bel21); have Xx := Lib.hid hBx; clear bel21 hBx hbx)
        | ((with_reducible refine chn_store chn rfl (.tmp 14) (.tmp 85) rfl rfl rfl Xx.out HF.out ?_); intro w22 hB22 onl22; have Xs := Lib.hid (Xs.out.only (by omega) onl22); have SZ := Lib.hid (SZ.out.only (by omega) onl22); have BB := Lib.hid (onl22.bel ox BB.out); have Xx := Lib.hid hB22; clear onl22 hB22)
        | (with_reducible refine bad_load (o := ⟨some 90, _, _, _, _, _⟩) rfl _ rfl rfl Xs.out EX.out HF.out ?_))
      clear Xx
      go_wp2_with fail
      refine (C5.out _).mono ?_
      rintro e w23 ⟨rfl, bel23⟩
      have Xs := Lib.hid (Xs.out.next bel23)
      have SZ := Lib.hid (SZ.out.next bel23)
      have BB := Lib.hid (bel_next BB.out bel23)
      clear bel23
      go_wp2_with fail
      go_roundw
      case rel => exact ⟨k + 1, by omega, by go_num, Xs.out, SZ.out, BB.out⟩
      case measure => simp [intOf]; omega
    · as_aux_lemma =>
      obtain rfl : k = 5 := by omega
      have SZ := Lib.hid hz
      have BB := Lib.hid hb
      clear hs hz hb CF CB CA CU CC
      obtain ⟨w10, rfl⟩ : ∃ wq, wq = wr := ⟨_, rfl⟩
      go_wp2_with (first
        | (with_reducible refine arr_bld0 (o := ⟨some 110, _, _, _, _, _⟩) flt rfl rfl ?_))
      refine (C1.out _).mono ?_
      rintro e w11 ⟨rfl, bel11⟩
      have SZ := Lib.hid (SZ.out.next bel11)
      have BB := Lib.hid (bel_next BB.out bel11)
      clear bel11
      go_wp2_with (first
        | ((with_reducible refine chn_alloc (o := ⟨some 16, _, _, _, _, _⟩) chn rfl rfl ?_); intro w12 bx hbx hBx bel12; have q_SZ_x := Nat.le_trans SZ.out.2 hbx; have ox := Nat.le_trans BB.out.size hbx; have SZ := Lib.hid (SZ.out.next bel12); have BB := Lib.hid (bel_next BB.out bel12); have Xx := Lib.hid hBx; clear bel12 hBx hbx)
        | ((with_reducible refine chn_store chn rfl (.tmp 16) (.tmp 112) rfl rfl rfl Xx.out HF.out ?_); intro w13 hB13 onl13; have SZ := Lib.hid (SZ.out.only (by omega) onl13); have BB := Lib.hid (onl13.bel ox BB.out); have Xx := Lib.hid hB13; clear onl13 hB13)
        | (with_reducible refine wpl_build1 (d := some 115) (T7.out _) ?_))
      clear Xx
      go_wp2_with fail
      refine (C2.out _).mono ?_
      rintro e w14 ⟨rfl, bel14⟩
      have SZ := Lib.hid (SZ.out.next bel14)
      have BB := Lib.hid (bel_next BB.out bel14)
      clear bel14
      go_wp2_with (first
        | ((with_reducible refine chn_alloc (o := ⟨some 18, _, _, _, _, _⟩) chn rfl rfl ?_); intro w15 bc hbc hBc bel15; have q_SZ_c := Nat.le_trans SZ.out.2 hbc; have oc := Nat.le_trans BB.out.size hbc; have SZ := Lib.hid (SZ.out.next bel15); have BB := Lib.hid (bel_next BB.out bel15); have Xc := Lib.hid hBc; clear bel15 hBc hbc)
        | ((with_reducible refine chn_store chn rfl (.tmp 18) (.tmp 117) rfl rfl rfl Xc.out HT.out ?_); intro w16 hB16 onl16; have SZ := Lib.hid (SZ.out.only (by omega) onl16); have BB := Lib.hid (onl16.bel oc BB.out); have Xc := Lib.hid hB16; clear onl16 hB16)
        | (with_reducible refine chn_load (o := ⟨some 120, _, _, _, _, _⟩) chn rfl _ rfl rfl Xc.out ?_))
      refine (C3.out _ _ _).mono ?_
      rintro e w17 ⟨rfl, bel17⟩
      have SZ := Lib.hid (SZ.out.next bel17)
      have Xc := Lib.hid (Xc.out.next bel17)
      have BB := Lib.hid (bel_next BB.out bel17)
      clear bel17
      go_wp2_with (first
        | ((with_reducible refine chn_alloc (o := ⟨some 21, _, _, _, _, _⟩) chn rfl rfl ?_); intro w18 bx hbx hBx bel18; have q_c_x : bc < bx := Nat.lt_of_lt_of_le Xc.out.lt hbx; have q_SZ_x := Nat.le_trans SZ.out.2 hbx; have ox := Nat.le_trans BB.out.size hbx; have SZ := Lib.hid (SZ.out.next bel18); have Xc := Lib.hid (Xc.out.next bel18); have BB := Lib.hid (bel_next BB.out bel18); have Xx := Lib.hid hBx; clear bel18 hBx hbx)
        | ((with_reducible refine chn_store chn rfl (.tmp 21) (.tmp 124) rfl rfl rfl Xx.out HF.out ?_); intro w19 hB19 onl19; have SZ := Lib.hid (SZ.out.only (by omega) onl19); have Xc := Lib.hid (Xc.out.only (by omega) onl19); have BB := Lib.hid (onl19.bel ox BB.out); have Xx := Lib.hid hB19; clear onl19 hB19)
        | (with_reducible refine chn_load (o := ⟨some 127, _, _, _, _, _⟩) chn rfl _ rfl rfl Xc.out ?_))
      clear Xx
      go_wp2_with fail
      refine (C4.out _ _ _).mono ?_
      rintro e w20 ⟨rfl, bel20⟩
      have SZ := Lib.hid (SZ.out.next bel20)
      have Xc := Lib.hid (Xc.out.next bel20)
      have BB := Lib.hid (bel_next BB.out bel20)
      clear bel20
      go_upto_region 16 with (first
        | ((with_reducible refine chn_alloc (o := ⟨some 24, _, _, _, _, _⟩) chn rfl rfl ?_); intro w21 bx hbx hBx bel21; have q_c_x : bc < bx := Nat.lt_of_lt_of_le Xc.out.lt hbx; have q_SZ_x := Nat.le_trans SZ.out.2 hbx; have ox := Nat.le_trans BB.out.size hbx; have SZ := Lib.hid (SZ.out.next bel21); have Xc := Lib.hid (Xc.out.next bel21); have BB := Lib.hid (bel_next BB.out bel21); have Xx := Lib.hid hBx; clear bel21 hBx hbx)
        | ((with_reducible refine chn_store chn rfl (.tmp 24) (.tmp 131) rfl rfl rfl Xx.out HF.out ?_); intro w22 hB22 onl22; have SZ := Lib.hid (SZ.out.only (by omega) onl22); have Xc := Lib.hid (Xc.out.only (by omega) onl22); have BB := Lib.hid (onl22.bel ox BB.out); have Xx := Lib.hid hB22; clear onl22 hB22))
      go_cut [27, 26, 28] (fun s27 s26 s28 wx => ∃ bf vf, s27 = .pointer (some ⟨bf, 0, none⟩) ∧ s26 = vf ∧ s28 = .int .i64 0 ∧ w22.heap.size ≤ bf ∧ CB wx bf 26 24 0 10 tt z16 ∧ Own wx w22.heap.size 21 .i32 vf (Y) ∧ Below w22.heap.size w22 wx)
      case first =>
        refine h_begin (S := SinceH w22) (by kernel_rfl) rfl ?_
        have S0 : Below w22.heap.size w22 { w22 with drawn := w22.drawn + 1 } := (bel_self w22).drew
        generalize ({ w22 with drawn := w22.drawn + 1 } : World) = wd at *
        refine h_take 0 rfl (by kernel_rfl) (by kernel_rfl) (by kernel_rfl) (fun _ _ _ h => h) (y_loadC chn rfl _ rfl rfl (fun W hW => Xc.out.next hW)) S0 rfl (by go_simp <;> rfl) ?_
        refine h_take 1 rfl (by kernel_rfl) (by kernel_rfl) (by kernel_rfl) (fun _ _ _ h => h) (y_pure rfl (fun W hW => by go_simp <;> rfl)) S0 rfl (by go_simp <;> rfl) ?_
        refine h_take 2 rfl (by kernel_rfl) (by kernel_rfl) (by kernel_rfl) (fun _ _ _ h => h) (y_pure rfl (fun W hW => by go_simp <;> rfl)) S0 rfl (by go_simp <;> rfl) ?_
        refine h_two 3 8 (by kernel_rfl) rfl rfl rfl rfl rfl rfl ?_ ?_
        · refine wp_callE (C5.out _ _ _ (SZ.out.next S0).sl) (by go_simp <;> rfl) (fun u => by go_simp <;> rfl) ?_
          intro vf v1 ownc belc
          have S1 : Below w22.heap.size w22 v1 := bel_next S0 belc
          refine ⟨S1, ?_⟩
          refine h_take 4 rfl (by kernel_rfl) (by kernel_rfl) (by kernel_rfl) (fun _ _ _ h => h) (y_pure rfl (fun W hW => by go_simp <;> rfl)) S1 rfl (by go_simp <;> rfl) ?_
          refine h_take 5 rfl (by kernel_rfl) (by kernel_rfl) (by kernel_rfl) (fun _ _ _ h => h) (y_pure rfl (fun W hW => by go_simp <;> rfl)) S1 rfl (by go_simp <;> rfl) ?_
          refine h_take 6 rfl (by kernel_rfl) (by kernel_rfl) (by kernel_rfl) (fun _ _ _ h => h) (y_pure rfl (fun W hW => by go_simp <;> rfl)) S1 rfl (by go_simp <;> rfl) ?_
          refine h_take 7 rfl (by kernel_rfl) (by kernel_rfl) (by kernel_rfl) (fun _ _ _ h => h) (y_pure rfl (fun W hW => by go_simp <;> rfl)) S1 rfl (by go_simp <;> rfl) ?_
          refine h_one 8 (by kernel_rfl) rfl rfl rfl ?_
          refine wp_chn_alloc chn rfl (fun b => by go_simp <;> rfl) ?_
          intro v2 bf hb8 hB8 bela
          have S2 : Below w22.heap.size w22 v2 := bel_next S1 bela
          refine ⟨S2, ?_⟩
          have o8 : w22.heap.size ≤ bf := Nat.le_trans S1.size hb8
          have ne8 := ownc.ne_of_ge hb8
          have ownc := (ownc.next bela).rebase S0.size
          refine h_take 9 rfl (by kernel_rfl) (by kernel_rfl) (by kernel_rfl) (fun _ _ _ h => h) (y_pure rfl (fun W hW => by go_simp <;> rfl)) S2 rfl (by go_simp <;> rfl) ?_
          refine h_one 10 (by kernel_rfl) rfl rfl rfl ?_
          refine wp_chn_store chn _ _ rfl rfl rfl hB8 HT.out (by go_simp <;> rfl) ?_
          intro v3 hB3 onl3
          have S3 : Below w22.heap.size w22 v3 := onl3.bel o8 S2
          refine ⟨S3, ?_⟩
          have ownc := ownc.only ne8 onl3
          refine h_take 11 rfl (by kernel_rfl) (by kernel_rfl) (by kernel_rfl) (fun _ _ _ h => h) (y_pure rfl (fun W hW => by go_simp <;> rfl)) S3 rfl (by go_simp <;> rfl) ?_
          refine h_done (by kernel_rfl) ?_
          go_wp2_with fail
          go_meet
          exact ⟨bf, vf, rfl, rfl, rfl, o8, hB3, ownc, S3⟩
        · refine wp_chn_alloc chn rfl (fun b => by go_simp <;> rfl) ?_
          intro v1 bf hb8 hB8 bela
          have S1 : Below w22.heap.size w22 v1 := bel_next S0 bela
          refine ⟨S1, ?_⟩
          have o8 : w22.heap.size ≤ bf := Nat.le_trans S0.size hb8
          refine h_one 3 (by kernel_rfl) rfl rfl rfl ?_
          have lt8 := hB8.lt
          refine wp_callE (C5.out _ _ _ (SZ.out.next S1).sl) (by go_simp <;> rfl) (fun u => by go_simp <;> rfl) ?_
          intro vf v2 ownc belc
          have S2 : Below w22.heap.size w22 v2 := bel_next S1 belc
          refine ⟨S2, ?_⟩
          have hB8 := hB8.next belc
          have ne8 := ownc.ne_of_lt lt8
          have ownc := ownc.rebase S1.size
          refine h_take 4 rfl (by kernel_rfl) (by kernel_rfl) (by kernel_rfl) (fun _ _ _ h => h) (y_pure rfl (fun W hW => by go_simp <;> rfl)) S2 rfl (by go_simp <;> rfl) ?_
          refine h_take 5 rfl (by kernel_rfl) (by kernel_rfl) (by kernel_rfl) (fun _ _ _ h => h) (y_pure rfl (fun W hW => by go_simp <;> rfl)) S2 rfl (by go_simp <;> rfl) ?_
          refine h_take 6 rfl (by kernel_rfl) (by kernel_rfl) (by kernel_rfl) (fun _ _ _ h => h) (y_pure rfl (fun W hW => by go_simp <;> rfl)) S2 rfl (by go_simp <;> rfl) ?_
          refine h_take 7 rfl (by kernel_rfl) (by kernel_rfl) (by kernel_rfl) (fun _ _ _ h => h) (y_pure rfl (fun W hW => by go_simp <;> rfl)) S2 rfl (by go_simp <;> rfl) ?_
          refine h_take 9 rfl (by kernel_rfl) (by kernel_rfl) (by kernel_rfl) (fun _ _ _ h => h) (y_pure rfl (fun W hW => by go_simp <;> rfl)) S2 rfl (by go_simp <;> rfl) ?_
          refine h_one 10 (by kernel_rfl) rfl rfl rfl ?_
          refine wp_chn_store chn _ _ rfl rfl rfl hB8 HT.out (by go_simp <;> rfl) ?_
          intro v3 hB3 onl3
          have S3 : Below w22.heap.size w22 v3 := onl3.bel o8 S2
          refine ⟨S3, ?_⟩
          have ownc := ownc.only ne8 onl3
          refine h_take 11 rfl (by kernel_rfl) (by kernel_rfl) (by kernel_rfl) (fun _ _ _ h => h) (y_pure rfl (fun W hW => by go_simp <;> rfl)) S3 rfl (by go_simp <;> rfl) ?_
          refine h_done (by kernel_rfl) ?_
          go_wp2_with fail
          go_meet
          exact ⟨bf, vf, rfl, rfl, rfl, o8, hB3, ownc, S3⟩
      case rest =>
        obtain ⟨bf, vf, rfl, rfl, rfl, hbf, hBf, own23, bel23⟩ := hcut
        obtain ⟨w23, rfl⟩ : ∃ wq, wq = wc := ⟨_, rfl⟩
        obtain ⟨Af, cf, rfl, _, _, sl23⟩ := own23.sln (HLN_f.out)
        have q_c_f : bc < bf := Nat.lt_of_lt_of_le Xc.out.lt hbf
        have q_x_f : bx < bf := Nat.lt_of_lt_of_le Xx.out.lt hbf
        have q_SZ_f := Nat.le_trans SZ.out.2 hbf
        have of := Nat.le_trans BB.out.size hbf
        have SZ := Lib.hid (SZ.out.next bel23)
        have Xc := Lib.hid (Xc.out.next bel23)
        have Xx := Lib.hid (Xx.out.next bel23)
        have BB := Lib.hid (bel_next BB.out bel23)
        have Xf := Lib.hid hBf
        have Sf := Lib.hid (SA.of sl23)
        clear bel23 hBf hbf own23 sl23
        go_wp2_with (first
          | (with_reducible refine chn_load (o := ⟨some 142, _, _, _, _, _⟩) chn rfl _ rfl rfl Xc.out ?_))
        refine (C6.out _).mono ?_
        rintro e w24 ⟨v24, rfl, own24, bel24⟩
        obtain ⟨Ad, cd, rfl, _, _, sl24⟩ := own24.sl
        have Sd := Lib.hid (SA.of sl24)
        have SZ := Lib.hid (SZ.out.next bel24)
        have Xc := Lib.hid (Xc.out.next bel24)
        have Xx := Lib.hid (Xx.out.next bel24)
        have Sf := Lib.hid (Sf.out.next bel24)
        have Xf := Lib.hid (Xf.out.next bel24)
        have BB := Lib.hid (bel_next BB.out bel24)
        clear own24 bel24 sl24
        go_wp2_with (first
          | ((with_reducible refine chn_alloc (o := ⟨some 30, _, _, _, _, _⟩) chn rfl rfl ?_); intro w25 bd hbd hBd bel25; have q_c_d : bc < bd := Nat.lt_of_lt_of_le Xc.out.lt hbd; have q_x_d : bx < bd := Nat.lt_of_lt_of_le Xx.out.lt hbd; have q_f_d : bf < bd := Nat.lt_of_lt_of_le Xf.out.lt hbd; have q_SZ_d := Nat.le_trans SZ.out.2 hbd; have q_Sf_d := Nat.le_trans Sf.out.2 hbd; have q_Sd_d := Nat.le_trans Sd.out.2 hbd; have od := Nat.le_trans BB.out.size hbd; have SZ := Lib.hid (SZ.out.next bel25); have Xc := Lib.hid (Xc.out.next bel25); have Xx := Lib.hid (Xx.out.next bel25); have Sf := Lib.hid (Sf.out.next bel25); have Xf := Lib.hid (Xf.out.next bel25); have Sd := Lib.hid (Sd.out.next bel25); have BB := Lib.hid (bel_next BB.out bel25); have Xd := Lib.hid hBd; clear bel25 hBd hbd)
          | ((with_reducible refine chn_store chn rfl (.tmp 30) (.tmp 145) rfl rfl rfl Xd.out HT.out ?_); intro w26 hB26 onl26; have SZ := Lib.hid (SZ.out.only (by omega) onl26); have Xc := Lib.hid (Xc.out.only (by omega) onl26); have Xx := Lib.hid (Xx.out.only (by omega) onl26); have Sf := Lib.hid (Sf.out.only (by omega) onl26); have Xf := Lib.hid (Xf.out.only (by omega) onl26); have Sd := Lib.hid (Sd.out.only (by omega) onl26); have BB := Lib.hid (onl26.bel od BB.out); have Xd := Lib.hid hB26; clear onl26 hB26))
        refine (alive_any _).mono ?_
        rintro e w27 ⟨rfl, bel27⟩
        have SZ := Lib.hid (SZ.out.next bel27)
        have Xc := Lib.hid (Xc.out.next bel27)
        have Xx := Lib.hid (Xx.out.next bel27)
        have Sf := Lib.hid (Sf.out.next bel27)
        have Xf := Lib.hid (Xf.out.next bel27)
        have Sd := Lib.hid (Sd.out.next bel27)
        have Xd := Lib.hid (Xd.out.next bel27)
        have BB := Lib.hid (bel_next BB.out bel27)
        clear bel27
        show (_ : Act → World → Prop) _ _
        refine ‹∀ (a : Act) (w : World), wpList _ _ _ _ a w → _› _ _ ?_
        with_reducible apply wl_norm
        case e => simp only [List.append_eq, List.cons_append, List.nil_append]; rfl
        have c0 := Xc.out.c0
        have c1 := Xc.out.c1
        have c2 := Xc.out.c2
        have c3 := Xc.out.ct (show 0 < 16 by omega)
        rw [P7.out] at c3
        go_wp2_with (first
          | ((with_reducible refine wpl_guard (d := some 199) ?_ ?_); (next => first | kernel_rfl | go_simp); with_reducible refine chn_load (o := ⟨some 199, _, _, _, _, _⟩) chn rfl _ rfl rfl Xf.out ?_)
          | ((with_reducible refine wpl_guard (d := some 200) ?_ ?_); (next => first | kernel_rfl | go_simp); with_reducible refine chn_load (o := ⟨some 200, _, _, _, _, _⟩) chn rfl _ rfl rfl Xc.out ?_)
          | ((with_reducible refine wpl_guard (d := some 201) ?_ ?_); (next => first | kernel_rfl | go_simp); with_reducible refine wpl_eq (o := ⟨some 201, _, _, _, _, _⟩) (chn_eqs chn eqgC HT.out _ _ _) rfl rfl rfl rfl ?_)
          | ((with_reducible refine wpl_guard (d := some 213) ?_ ?_); (next => first | kernel_rfl | go_simp); with_reducible refine chn_load (o := ⟨some 213, _, _, _, _, _⟩) chn rfl _ rfl rfl Xd.out ?_)
          | ((with_reducible refine wpl_guard (d := some 214) ?_ ?_); (next => first | kernel_rfl | go_simp); with_reducible refine chn_load (o := ⟨some 214, _, _, _, _, _⟩) chn rfl _ rfl rfl Xc.out ?_)
          | ((with_reducible refine wpl_guard (d := some 215) ?_ ?_); (next => first | kernel_rfl | go_simp); with_reducible refine wpl_eq (o := ⟨some 215, _, _, _, _, _⟩) (chn_eqs chn eqgC HT.out _ _ _) rfl rfl rfl rfl ?_))
        go_ret
        exact ⟨rfl, BB.out⟩
end Go.Proofs.Ytgnmpkembcdkcaa

/-
  The walk of WidthNames. No conditions.
-/
import Derived.Test.YtfapkpegfgeliaaLaw18C
import Derived.Test.YtfapkpegfgeliaaWdHeld
import Derived.Deep.DeepCutAuto
namespace Go.Proofs.Ytfapkpegfgeliaa
open Go.RowKit
set_option linter.unusedVariables false

theorem wl_norm {P : Program} {ops : Array Oper} {l l' : List Oper} {a : Act} {Q : Exit → Act → World → Prop} {w : World} (e : l = l') (h : wpList P ops Q l' a w) : wpList P ops Q l a w := by subst e; exact h
theorem mk32 (n : Nat) (z : Int) (hz : z = (n : Int)) (hn : n ≤ 100000) : ∃ (za : Array Value) (Z : List Int), Z.length = n ∧ (∀ x ∈ Z, x = 0) ∧ za = (Z.map (Value.int .i32)).toArray ∧
    (∀ W, (Instr.makeSlice 24 (.int .i64 z) (.int .i64 z)).run Try.prog W = .ok (.slice (some ⟨W.heap.size, 0, none⟩) n n) (W.alloc (.cells za 21))) ∧
    (∀ W : World, Sl (W.alloc (.cells za 21)) (W.alloc (.cells za 21)).heap.size .i32 (some ⟨W.heap.size, 0, none⟩) Z) :=
  ⟨zerosA .i32 n, List.replicate n 0, by simp, fun x hx => List.eq_of_mem_replicate hx, rfl, run_make_ints elI32 n hz (by omega) (by omega), fun W => Sl.zeros' W .i32 _ n⟩
theorem mk8 (n : Nat) (z : Int) (hz : z = (n : Int)) (hn : n ≤ 100000) : ∃ (za : Array Value) (Z : List Int), Z.length = n ∧ (∀ x ∈ Z, x = 0) ∧
    (∀ W, (Instr.makeSlice 22 (.int .i64 z) (.int .i64 z)).run Try.prog W = .ok (.slice (some ⟨W.heap.size, 0, none⟩) n n) (W.alloc (.cells za 5))) ∧
    (∀ W : World, Sl (W.alloc (.cells za 5)) (W.alloc (.cells za 5)).heap.size .u8 (some ⟨W.heap.size, 0, none⟩) Z) :=
  ⟨zerosA .u8 n, List.replicate n 0, by simp, fun x hx => List.eq_of_mem_replicate hx, run_make_ints elU8 n hz (by omega) (by omega), fun W => Sl.zeros' W .u8 _ n⟩
theorem z32 {Z : List Int} (h : ∀ x ∈ Z, x = 0) : I32 Z := fun x hx => by rw [h x hx]; decide
theorem z8 {Z : List Int} (h : ∀ x ∈ Z, x = 0) : U8 Z := fun x hx => by rw [h x hx]; decide

theorem wn_many {b : Int} (h : wdH b ≠ 0) (hb0 : -9223372036854775808 ≤ b) (hb1 : b ≤ 9223372036854775807) {Z : List Int} (hl : Z.length = 4001) (hz : ∀ x ∈ Z, x = 0) (A : Option Addr) (c : Nat) (W : World) (hs : Sl W W.heap.size .i32 A Z) :
    Calls Try.prog 16 #[.int .i64 b, .slice A 4001 c] W fun e w' => ∃ v, e = .returned (.tuple #[v, .int .i64 4]) ∧ Own w' W.heap.size 5 .u8 v (byR b Z) ∧ Below W.heap.size W w' := by
  have := bytes_any b A 4001 c Z W hl (by omega) (z32 hz) hs hb0 hb1
  rw [show ckE b Z = 4 by unfold ckE; rw [if_neg h, if_pos (by omega)]] at this
  exact this
theorem wn_full {b : Int} (h : wdH b ≠ 0) (hb0 : -9223372036854775808 ≤ b) (hb1 : b ≤ 9223372036854775807) {Z : List Int} (hl : Z.length = 4000) (hz : ∀ x ∈ Z, x = 0) (A : Option Addr) (c : Nat) (W : World) (hs : Sl W W.heap.size .i32 A Z) :
    Calls Try.prog 16 #[.int .i64 b, .slice A 4000 c] W fun e w' => ∃ v, e = .returned (.tuple #[v, .int .i64 0]) ∧ Own w' W.heap.size 5 .u8 v (byL b Z) ∧ Below W.heap.size W w' := by
  have := bytes_any b A 4000 c Z W hl (by omega) (z32 hz) hs hb0 hb1
  have e : ckE b Z = 0 := by
    unfold ckE; rw [if_neg h, if_neg (by omega), if_pos (show inR (wdH b) Z from fun x hx => by rw [hz x hx]; have := (wdH_bd h).1; omega)]
  rw [show byR b Z = byL b Z from if_pos e, e] at this
  exact this
theorem wn_err {b : Int} {n : Nat} {r : Int} (he : saE b n = r) (hb0 : -9223372036854775808 ≤ b) (hb1 : b ≤ 9223372036854775807) {Z : List Int} (hn : n ≤ 100000) (hl : Z.length = n) (hz : ∀ x ∈ Z, x = 0) (A : Option Addr) (c : Nat) (W : World) (hs : Sl W W.heap.size .u8 A Z) :
    Calls Try.prog 10 #[.int .i64 b, .slice A n c] W fun e w' => ∃ v, e = .returned (.tuple #[v, .int .i64 r]) ∧ Own w' W.heap.size 21 .i32 v (saL b Z) ∧ Below W.heap.size W w' := by
  have := samples_any b A n c Z W hl (by omega) (z8 hz) hs hb0 hb1
  rw [he] at this
  exact this
theorem wn_all {b : Int} {n : Nat} (he : saE b n = 0) (h4 : n / nB b = 4000) {Z : List Int} (hl : Z.length = n) : (saL b Z).length = 4000 := by
  unfold saL; rw [hl, if_pos he, sampTo_len, h4]
def bdL : List Int := [0, 1, 7, 12, 32, -16]
def bdA : Array Value := #[.int .i64 0, .int .i64 1, .int .i64 7, .int .i64 12, .int .i64 32, .int .i64 (-16)]
theorem bd_cell {k : Nat} (h : k < 6) : bdA[k]? = some (.int .i64 (bdL.getD k 0)) := by
  match k, h with
  | 0, _ => rfl
  | 1, _ => rfl
  | 2, _ => rfl
  | 3, _ => rfl
  | 4, _ => rfl
  | 5, _ => rfl
theorem bd_built (W : World) : (Instr.buildSlice 44 6 #[(0, .int .i64 0), (1, .int .i64 1), (2, .int .i64 7), (3, .int .i64 12), (4, .int .i64 32), (5, .int .i64 (-16))]).run Try.prog W = .ok (.slice (some ⟨W.heap.size, 0, none⟩) 6 6) (W.alloc (.cells bdA 3)) :=
  lit_built _ 3 6 _ bdA (.int .i64 0) (by kernel_rfl) (by kernel_rfl) (by kernel_rfl) (by decide) (by decide) (by kernel_rfl) W
theorem bd_bad {k : Nat} (h : k < 6) : wdH (bdL.getD k 0) = 0 ∧ -16 ≤ bdL.getD k 0 ∧ bdL.getD k 0 ≤ 32 := by
  match k, h with
  | 0, _ => decide
  | 1, _ => decide
  | 2, _ => decide
  | 3, _ => decide
  | 4, _ => decide
  | 5, _ => decide
def loA : Array Value := #[.int .i32 (-128), .int .i32 (-32768), .int .i32 (-8388608)]
def hiA : Array Value := #[.int .i32 127, .int .i32 32767, .int .i32 8388607]
def fiA : Array Value := #[.string ⟨#[0]⟩, .string ⟨#[0, 128]⟩, .string ⟨#[0, 0, 128]⟩]
def laA : Array Value := #[.string ⟨#[255]⟩, .string ⟨#[255, 127]⟩, .string ⟨#[255, 255, 127]⟩]
theorem lo_built (W : World) : (Instr.buildSlice 24 3 #[(0, .int .i32 (-128)), (1, .int .i32 (-32768)), (2, .int .i32 (-8388608))]).run Try.prog W = .ok (.slice (some ⟨W.heap.size, 0, none⟩) 3 3) (W.alloc (.cells loA 21)) :=
  lit_built _ 21 3 _ loA (.int .i32 0) (by kernel_rfl) (by kernel_rfl) (by kernel_rfl) (by decide) (by decide) (by kernel_rfl) W
theorem hi_built (W : World) : (Instr.buildSlice 24 3 #[(0, .int .i32 127), (1, .int .i32 32767), (2, .int .i32 8388607)]).run Try.prog W = .ok (.slice (some ⟨W.heap.size, 0, none⟩) 3 3) (W.alloc (.cells hiA 21)) :=
  lit_built _ 21 3 _ hiA (.int .i32 0) (by kernel_rfl) (by kernel_rfl) (by kernel_rfl) (by decide) (by decide) (by kernel_rfl) W
theorem fi_built (W : World) : (Instr.buildSlice 45 3 #[(0, .string ⟨#[0]⟩), (1, .string ⟨#[0, 128]⟩), (2, .string ⟨#[0, 0, 128]⟩)]).run Try.prog W = .ok (.slice (some ⟨W.heap.size, 0, none⟩) 3 3) (W.alloc (.cells fiA 9)) :=
  lit_built _ 9 3 _ fiA (.string ByteArray.empty) (by kernel_rfl) (by kernel_rfl) (by kernel_rfl) (by decide) (by decide) (by kernel_rfl) W
theorem la_built (W : World) : (Instr.buildSlice 45 3 #[(0, .string ⟨#[255]⟩), (1, .string ⟨#[255, 127]⟩), (2, .string ⟨#[255, 255, 127]⟩)]).run Try.prog W = .ok (.slice (some ⟨W.heap.size, 0, none⟩) 3 3) (W.alloc (.cells laA 9)) :=
  lit_built _ 9 3 _ laA (.string ByteArray.empty) (by kernel_rfl) (by kernel_rfl) (by kernel_rfl) (by decide) (by decide) (by kernel_rfl) W

theorem rd_ex {k : Nat} (h : k < 3) : ∃ (b lo lm hi hp : Int) (M1 M0 : Nat) (fs ls : ByteArray), IntKind.i64.wrap ((k : Int) + 1) = (k : Int) + 1 ∧ IntKind.i64.wrap (8 * ((k : Int) + 1)) = b ∧ IntKind.i64.wrap (4001 * ((k : Int) + 1)) = (M1 : Int) ∧ IntKind.i64.wrap (4000 * ((k : Int) + 1)) = (M0 : Int) ∧ IntKind.i32.wrap (lo - 1) = lm ∧ IntKind.i32.wrap (hi + 1) = hp ∧
    loA[k]? = some (.int .i32 lo) ∧ hiA[k]? = some (.int .i32 hi) ∧ fiA[k]? = some (.string fs) ∧ laA[k]? = some (.string ls) ∧ wdH b ≠ 0 ∧ -9223372036854775808 ≤ b ∧ b ≤ 9223372036854775807 ∧ -wdH b = lo ∧ wdHi b = hi ∧ wdE b = 0 ∧
    ckE b [0, lm] = 16 ∧ ckE b [hp] = 16 ∧ I32 [0, lm] ∧ I32 [hp] ∧ saE b M1 = 4 ∧ saE b M0 = 0 ∧ M0 / nB b = 4000 ∧ nB b * 4000 = M0 ∧ M1 ≤ 100000 ∧ M0 ≤ 100000 ∧
    ckE b [lo] = 0 ∧ fs = strOfNums (byL b [lo]) ∧ I32 [lo] ∧ ckE b [hi] = 0 ∧ ls = strOfNums (byL b [hi]) ∧ I32 [hi] ∧ ckE b [] = 0 ∧ ByteArray.mk #[] = strOfNums (byL b []) := by
  unfold I32
  obtain rfl | rfl | rfl : k = 0 ∨ k = 1 ∨ k = 2 := by omega
  · exact ⟨8, -128, -129, 127, 128, 4001, 4000, ⟨#[0]⟩, ⟨#[255]⟩, by decide +kernel, by decide +kernel, by decide +kernel, by decide +kernel, by decide +kernel, by decide +kernel, rfl, rfl, rfl, rfl, by decide, by decide, by decide, by decide, by decide, by decide, by decide, by decide, by decide, by decide, by decide, by decide, by decide, by decide, by decide, by decide, by decide, by decide, by decide, by decide, by decide, by decide, by decide, by decide⟩
  · exact ⟨16, -32768, -32769, 32767, 32768, 8002, 8000, ⟨#[0, 128]⟩, ⟨#[255, 127]⟩, by decide +kernel, by decide +kernel, by decide +kernel, by decide +kernel, by decide +kernel, by decide +kernel, rfl, rfl, rfl, rfl, by decide, by decide, by decide, by decide, by decide, by decide, by decide, by decide, by decide, by decide, by decide, by decide, by decide, by decide, by decide, by decide, by decide, by decide, by decide, by decide, by decide, by decide, by decide, by decide⟩
  · exact ⟨24, -8388608, -8388609, 8388607, 8388608, 12003, 12000, ⟨#[0, 0, 128]⟩, ⟨#[255, 255, 127]⟩, by decide +kernel, by decide +kernel, by decide +kernel, by decide +kernel, by decide +kernel, by decide +kernel, rfl, rfl, rfl, rfl, by decide, by decide, by decide, by decide, by decide, by decide, by decide, by decide, by decide, by decide, by decide, by decide, by decide, by decide, by decide, by decide, by decide, by decide, by decide, by decide, by decide, by decide, by decide, by decide⟩
theorem rd_slice {k b : Nat} (h : k < 3) : ∀ W, (Instr.slice 24 (.slice (some ⟨b, 0, none⟩) 3 3) (some (.int .i64 (k : Int))) (some (.int .i64 ((k : Int) + 1))) none).run Try.prog W = .ok (.slice (some ⟨b, k, none⟩) 1 (3 - k)) W := by
  obtain rfl | rfl | rfl : k = 0 ∨ k = 1 ∨ k = 2 := by omega
  all_goals (intro W; go_simp)

set_option maxRecDepth 100000 in
set_option maxHeartbeats 40000000 in
theorem widthNames_walk (w : World) : Calls Try.prog 5 #[] w fun e w' => e = .returned (.bool true) ∧ Below w.heap.size w w' := by
  have BB := Lib.hid (bel_self w)
  obtain ⟨za, Z, hZl, hZ, hza, mkA, zrA⟩ := mk32 4001 4001 rfl (by decide)
  obtain ⟨zb, Y, hYl, hY, hzb, mkB, zrB⟩ := mk32 4000 4000 rfl (by decide)
  obtain ⟨zc, U, hUl, hU, mkC, zrC⟩ := mk8 7 7 rfl (by decide)
  have ZA := Lib.hid zrA
  have ZB := Lib.hid zrB
  have ZC := Lib.hid zrC
  have HZL := Lib.hid hZl
  have HZ := Lib.hid hZ
  have HZA := Lib.hid hza
  have HYL := Lib.hid hYl
  have HY := Lib.hid hY
  have CR := Lib.hid (fun (s : Int) (h : wdH s = 0) b0 b1 W => by have := range_any s W b0 b1; rw [h, show wdE s = 2 from if_pos h, show wdHi s = 0 from if_pos h] at this; exact this)
  have CY := Lib.hid (fun (s : Int) (h : wdH s = 0) b0 b1 A c W (hh : Sl W W.heap.size .i32 A Z) => by have := bytes_any s A 4001 c Z W hZl (by decide) (z32 hZ) hh b0 b1; rw [show ckE s Z = 2 from if_pos h] at this; exact this)
  have CS := Lib.hid (fun (s : Int) (h : wdH s = 0) b0 b1 A c W (hh : Sl W W.heap.size .u8 A U) => by have := samples_any s A 7 c U W hUl (by decide) (z8 hU) hh b0 b1; rw [show saE s 7 = 2 from if_pos h] at this; exact this)
  have CC := Lib.hid (fun (s : Int) (h : wdH s = 0) b0 b1 W => by have := wcheck_any s none 0 0 [] W rfl (by decide) (fun x hx => by simp at hx) Sl.nil_ b0 b1; rw [show ckE s [] = 2 from if_pos h] at this; exact this)
  clear hZl hZ hza hYl hY hzb hUl hU zrA zrB zrC
  go_enter Try.func5, Try.ntmps5
  go_wp2_with (first
    | ((with_reducible refine bs_lay (o := ⟨some 36, _, _, _, _, _⟩) rfl rfl bd_built (by simp [Act.eval]) ?_); intro w1 bd hbd hBd bel1; have od := Nat.le_trans BB.out.size hbd; have BB := Lib.hid (bel_next BB.out bel1); have Xd := Lib.hid hBd; clear bel1 hBd hbd))
  go_loopw [2] (fun i wr => ∃ k : Nat, k ≤ 6 ∧ i = .int .i64 k ∧ Blk wr bd 3 bdA ∧ Below w.heap.size w wr) (fun i _ => 6 - (intOf i).toNat)
  case atStart => exact ⟨0, by omega, rfl, Xd.out, BB.out⟩
  case round =>
    obtain ⟨k, hk, rfl, hs, hb⟩ := hrel
    by_cases hlt : k < 6
    · as_aux_lemma =>
      have hkz : (k : Int) < 6 := by omega
      obtain ⟨hw0, hl, hu⟩ := bd_bad hlt
      have hcl := bd_cell hlt
      generalize bdL.getD k 0 = s at *
      have c1 := Lib.hid (CR.out s hw0 (by omega) (by omega))
      have c2 := Lib.hid (CY.out s hw0 (by omega) (by omega))
      have c3 := Lib.hid (CS.out s hw0 (by omega) (by omega))
      have c4 := Lib.hid (CC.out s hw0 (by omega) (by omega))
      have HC := Lib.hid hcl
      have Xd := Lib.hid hs
      have BB := Lib.hid hb
      clear hs hb hw0 hcl CR CY CS CC
      obtain ⟨w10, rfl⟩ : ∃ wq, wq = wr := ⟨_, rfl⟩
      have hcell := (Xd.out.cell k).trans HC.out
      go_wp2_with fail
      refine (c1.out _).mono ?_
      rintro e w' ⟨rfl, rfl⟩
      go_upto_region 6 with fail
      go_cut [7] (fun sx wx => sx = .int .i64 2 ∧ Below w10.heap.size w10 wx)
      case first =>
        refine hg_begin (S := SinceG w10) (by kernel_rfl) rfl ?_
        have S0 : Below w10.heap.size w10 { w10 with drawn := w10.drawn + 1 } := (bel_self w10).drew
        generalize ({ w10 with drawn := w10.drawn + 1 } : World) = wd at *
        refine hg_take 0 rfl (by kernel_rfl) (by kernel_rfl) (by kernel_rfl) (fun _ _ _ h => h) (by go_simp) (fun W hW => by go_simp <;> rfl) S0 rfl (by go_simp <;> rfl) ?_
        refine hg_take 1 rfl (by kernel_rfl) (by kernel_rfl) (by kernel_rfl) (fun _ _ _ h => h) (by go_simp) (fun W hW => by go_simp <;> rfl) S0 rfl (by go_simp <;> rfl) ?_
        refine hg_take 2 rfl (by kernel_rfl) (by kernel_rfl) (by kernel_rfl) (fun _ _ _ h => h) (by go_simp) (fun W hW => by go_simp <;> rfl) S0 rfl (by go_simp <;> rfl) ?_
        refine hg_take 3 rfl (by kernel_rfl) (by kernel_rfl) (by kernel_rfl) (fun _ _ _ h => h) (by go_simp) (fun W hW => by have := ((Xd.out.next hW).cell k).trans HC.out; go_simp <;> rfl) S0 rfl (by go_simp <;> rfl) ?_
        refine hg_one 4 (by kernel_rfl) rfl (by go_simp) rfl ?_
        refine wp_valW (v := .slice (some ⟨wd.heap.size, 0, none⟩) 4001 4001) (w' := wd.alloc (.cells za 21)) (by go_simp <;> rfl) (by go_simp <;> rfl) ?_
        have S1 : Below w10.heap.size w10 (wd.alloc (.cells za 21)) := bel_up S0 _
        refine ⟨S1, ?_⟩
        have hh := ZA.out wd
        generalize wd.alloc (.cells za 21) = v1 at *
        refine hg_one 5 (by kernel_rfl) rfl (by go_simp) rfl ?_
        refine wp_callV (c2.out _ _ _ hh) (by go_simp <;> rfl) (fun u => by go_simp <;> rfl) ?_
        intro u v2 own2 bel2
        have S2 : Below w10.heap.size w10 v2 := bel_next S1 bel2
        refine ⟨S2, ?_⟩
        refine hg_take 6 rfl (by kernel_rfl) (by kernel_rfl) (by kernel_rfl) (fun _ _ _ h => h) (by go_simp) (fun W hW => by go_simp <;> rfl) S2 rfl (by go_simp <;> rfl) ?_
        refine hg_take 7 rfl (by kernel_rfl) (by kernel_rfl) (by kernel_rfl) (fun _ _ _ h => h) (by go_simp) (fun W hW => by go_simp <;> rfl) S2 rfl (by go_simp <;> rfl) ?_
        refine hg_take 8 rfl (by kernel_rfl) (by kernel_rfl) (by kernel_rfl) (fun _ _ _ h => h) (by go_simp) (fun W hW => by go_simp <;> rfl) S2 rfl (by go_simp <;> rfl) ?_
        refine hg_take 9 rfl (by kernel_rfl) (by kernel_rfl) (by kernel_rfl) (fun _ _ _ h => h) (by go_simp) (fun W hW => by go_simp <;> rfl) S2 rfl (by go_simp <;> rfl) ?_
        refine hg_take 10 rfl (by kernel_rfl) (by kernel_rfl) (by kernel_rfl) (fun _ _ _ h => h) (by go_simp) (fun W hW => by go_simp <;> rfl) S2 rfl (by go_simp <;> rfl) ?_
        refine hg_done (by kernel_rfl) ?_
        go_wp2_with fail
        go_meet
        exact ⟨rfl, S2⟩
      case rest =>
        obtain ⟨rfl, bel⟩ := hcut
        obtain ⟨w11, rfl⟩ : ∃ wq, wq = wc := ⟨_, rfl⟩
        have Xd := Lib.hid (Xd.out.next bel)
        have BB := Lib.hid (bel_next BB.out bel)
        clear bel
        clear hcell
        go_upto_region 7 with fail
        go_cut [9] (fun sx wx => sx = .int .i64 2 ∧ Below w11.heap.size w11 wx)
        case first =>
          refine hg_begin (S := SinceG w11) (by kernel_rfl) rfl ?_
          have S0 : Below w11.heap.size w11 { w11 with drawn := w11.drawn + 1 } := (bel_self w11).drew
          generalize ({ w11 with drawn := w11.drawn + 1 } : World) = wd at *
          refine hg_take 0 rfl (by kernel_rfl) (by kernel_rfl) (by kernel_rfl) (fun _ _ _ h => h) (by go_simp) (fun W hW => by go_simp <;> rfl) S0 rfl (by go_simp <;> rfl) ?_
          refine hg_take 1 rfl (by kernel_rfl) (by kernel_rfl) (by kernel_rfl) (fun _ _ _ h => h) (by go_simp) (fun W hW => by go_simp <;> rfl) S0 rfl (by go_simp <;> rfl) ?_
          refine hg_take 2 rfl (by kernel_rfl) (by kernel_rfl) (by kernel_rfl) (fun _ _ _ h => h) (by go_simp) (fun W hW => by go_simp <;> rfl) S0 rfl (by go_simp <;> rfl) ?_
          refine hg_take 3 rfl (by kernel_rfl) (by kernel_rfl) (by kernel_rfl) (fun _ _ _ h => h) (by go_simp) (fun W hW => by have := ((Xd.out.next hW).cell k).trans HC.out; go_simp <;> rfl) S0 rfl (by go_simp <;> rfl) ?_
          refine hg_one 4 (by kernel_rfl) rfl (by go_simp) rfl ?_
          refine wp_valW (v := .slice (some ⟨wd.heap.size, 0, none⟩) 7 7) (w' := wd.alloc (.cells zc 5)) (by go_simp <;> rfl) (by go_simp <;> rfl) ?_
          have S1 : Below w11.heap.size w11 (wd.alloc (.cells zc 5)) := bel_up S0 _
          refine ⟨S1, ?_⟩
          have hh := ZC.out wd
          generalize wd.alloc (.cells zc 5) = v1 at *
          refine hg_one 5 (by kernel_rfl) rfl (by go_simp) rfl ?_
          refine wp_callV (c3.out _ _ _ hh) (by go_simp <;> rfl) (fun u => by go_simp <;> rfl) ?_
          intro u v2 own2 bel2
          have S2 : Below w11.heap.size w11 v2 := bel_next S1 bel2
          refine ⟨S2, ?_⟩
          refine hg_take 6 rfl (by kernel_rfl) (by kernel_rfl) (by kernel_rfl) (fun _ _ _ h => h) (by go_simp) (fun W hW => by go_simp <;> rfl) S2 rfl (by go_simp <;> rfl) ?_
          refine hg_take 7 rfl (by kernel_rfl) (by kernel_rfl) (by kernel_rfl) (fun _ _ _ h => h) (by go_simp) (fun W hW => by go_simp <;> rfl) S2 rfl (by go_simp <;> rfl) ?_
          refine hg_take 8 rfl (by kernel_rfl) (by kernel_rfl) (by kernel_rfl) (fun _ _ _ h => h) (by go_simp) (fun W hW => by go_simp <;> rfl) S2 rfl (by go_simp <;> rfl) ?_
          refine hg_take 9 rfl (by kernel_rfl) (by kernel_rfl) (by kernel_rfl) (fun _ _ _ h => h) (by go_simp) (fun W hW => by go_simp <;> rfl) S2 rfl (by go_simp <;> rfl) ?_
          refine hg_take 10 rfl (by kernel_rfl) (by kernel_rfl) (by kernel_rfl) (fun _ _ _ h => h) (by go_simp) (fun W hW => by go_simp <;> rfl) S2 rfl (by go_simp <;> rfl) ?_
          refine hg_done (by kernel_rfl) ?_
          go_wp2_with fail
          go_meet
          exact ⟨rfl, S2⟩
        case rest =>
          obtain ⟨rfl, bel⟩ := hcut
          obtain ⟨w12, rfl⟩ : ∃ wq, wq = wc := ⟨_, rfl⟩
          have Xd := Lib.hid (Xd.out.next bel)
          have BB := Lib.hid (bel_next BB.out bel)
          clear bel
          have hcell := (Xd.out.cell k).trans HC.out
          go_wp2_with fail
          refine (c4.out _).mono ?_
          rintro e w' ⟨rfl, rfl⟩
          go_wp2_with fail
          go_roundw
          case rel => exact ⟨k + 1, by omega, by go_num, Xd.out, BB.out⟩
          case measure => simp [intOf]; omega
    · as_aux_lemma =>
      obtain rfl : k = 6 := by omega
      have BB := Lib.hid hb
      clear hs hb CR CY CS CC mkC ZC
      obtain ⟨w10, rfl⟩ : ∃ wq, wq = wr := ⟨_, rfl⟩
      go_wp2_with (first
        | ((with_reducible refine bs_lay (o := ⟨some 88, _, _, _, _, _⟩) rfl rfl lo_built (by simp [Act.eval]) ?_); intro w11 bp hbp hBp bel11; have op := Nat.le_trans BB.out.size hbp; have BB := Lib.hid (bel_next BB.out bel11); have Xp := Lib.hid hBp; clear bel11 hBp hbp)
        | ((with_reducible refine bs_lay (o := ⟨some 89, _, _, _, _, _⟩) rfl rfl hi_built (by simp [Act.eval]) ?_); intro w12 bq hbq hBq bel12; have q_p_q : bp < bq := Nat.lt_of_lt_of_le Xp.out.lt hbq; have oq := Nat.le_trans BB.out.size hbq; have Xp := Lib.hid (Xp.out.next bel12); have BB := Lib.hid (bel_next BB.out bel12); have Xq := Lib.hid hBq; clear bel12 hBq hbq)
        | ((with_reducible refine bs_lay (o := ⟨some 90, _, _, _, _, _⟩) rfl rfl fi_built (by simp [Act.eval]) ?_); intro w13 br hbr hBr bel13; have q_p_r : bp < br := Nat.lt_of_lt_of_le Xp.out.lt hbr; have q_q_r : bq < br := Nat.lt_of_lt_of_le Xq.out.lt hbr; have or := Nat.le_trans BB.out.size hbr; have Xp := Lib.hid (Xp.out.next bel13); have Xq := Lib.hid (Xq.out.next bel13); have BB := Lib.hid (bel_next BB.out bel13); have Xr := Lib.hid hBr; clear bel13 hBr hbr)
        | ((with_reducible refine bs_lay (o := ⟨some 91, _, _, _, _, _⟩) rfl rfl la_built (by simp [Act.eval]) ?_); intro w14 bz hbz hBz bel14; have q_p_z : bp < bz := Nat.lt_of_lt_of_le Xp.out.lt hbz; have q_q_z : bq < bz := Nat.lt_of_lt_of_le Xq.out.lt hbz; have q_r_z : br < bz := Nat.lt_of_lt_of_le Xr.out.lt hbz; have oz := Nat.le_trans BB.out.size hbz; have Xp := Lib.hid (Xp.out.next bel14); have Xq := Lib.hid (Xq.out.next bel14); have Xr := Lib.hid (Xr.out.next bel14); have BB := Lib.hid (bel_next BB.out bel14); have Xz := Lib.hid hBz; clear bel14 hBz hbz))
      go_loopw [14] (fun i wr => ∃ k : Nat, k ≤ 3 ∧ i = .int .i64 k ∧ Blk wr bp 21 loA ∧ Blk wr bq 21 hiA ∧ Blk wr br 9 fiA ∧ Blk wr bz 9 laA ∧ Below w.heap.size w wr) (fun i _ => 3 - (intOf i).toNat)
      case atStart => exact ⟨0, by omega, rfl, Xp.out, Xq.out, Xr.out, Xz.out, BB.out⟩
      case round =>
        obtain ⟨k, hk, rfl, hp, hq, hr, hz, hb⟩ := hrel
        by_cases hlt : k < 3
        · have Xp := Lib.hid hp
          have Xq := Lib.hid hq
          have Xr := Lib.hid hr
          have Xz := Lib.hid hz
          have BB := Lib.hid hb
          clear hp hq hr hz hb
          obtain ⟨w20, rfl⟩ : ∃ wq, wq = wr := ⟨_, rfl⟩
          obtain ⟨b, lo, lm, hi, hp, M1, M0, fs, ls, e1, e2, e3, e4, e5, e6, kLO, kHI, kFS, kLS, hw, b0, b1, r1, r2, r3, g1, g2, g3, g4, s1, s2, s3, s4, s5, s6, q1, q2, q3, p1, p2, p3, q4, p4⟩ := rd_ex hlt
          as_aux_lemma =>
            obtain ⟨zd, V1, hV1l, hV1, mkD, zrD⟩ := mk8 M1 (M1 : Int) rfl s5
            obtain ⟨ze, V0, hV0l, hV0, mkE, zrE⟩ := mk8 M0 (M0 : Int) rfl s6
            have ZD := Lib.hid zrD
            have ZE := Lib.hid zrE
            have c1 := Lib.hid (fun W => by have := range_any b W b0 b1; rw [r1, r2, r3] at this; exact this)
            have c2 := Lib.hid (fun A c W (hh : Sl W W.heap.size .i32 A [0, lm]) => by have := bytes_any b A 2 c [0, lm] W rfl (by decide) g3 hh b0 b1; rw [g1] at this; exact this)
            have c3 := Lib.hid (fun A c W (hh : Sl W W.heap.size .i32 A [hp]) => by have := bytes_any b A 1 c [hp] W rfl (by decide) g4 hh b0 b1; rw [g2] at this; exact this)
            have c4 := Lib.hid (fun A c W hh => wn_many hw b0 b1 HZL.out HZ.out A c W hh)
            have c5 := Lib.hid (fun A c W hh => wn_full hw b0 b1 HYL.out HY.out A c W hh)
            have c6 := Lib.hid (fun A c W hh => wn_err s1 b0 b1 s5 hV1l hV1 A c W hh)
            have c7 := Lib.hid (fun A c W hh => wn_err s2 b0 b1 s6 hV0l hV0 A c W hh)
            have LF := Lib.hid (show (byL b Y).length = M0 by rw [byL_len hw, HYL.out]; exact s4)
            have LG := Lib.hid (wn_all s2 s3 hV0l)
            have h1 := Lib.hid (fun A c W (hh : Sl W W.heap.size .i32 A [lo]) => has_any b A 1 c [lo] fs W rfl q1 q2 q3 hh b0 b1)
            have h2 := Lib.hid (fun A c W (hh : Sl W W.heap.size .i32 A [hi]) => has_any b A 1 c [hi] ls W rfl p1 p2 p3 hh b0 b1)
            have h3 := Lib.hid (fun W => has_any b none 0 0 [] ⟨#[]⟩ W rfl q4 p4 (fun x hx => by simp at hx) Sl.nil_ b0 b1)
            have KLO := Lib.hid kLO
            have KHI := Lib.hid kHI
            have KFS := Lib.hid kFS
            have KLS := Lib.hid kLS
            have sp := rd_slice (b := bp) hlt
            have sq := rd_slice (b := bq) hlt
            have hkz : (k : Int) < 3 := by omega
            clear hV1l hV1 hV0l hV0 zrD zrE hw b0 b1 r1 r2 r3 g1 g2 g3 g4 s1 s2 s3 s4 s5 s6 q1 q2 q3 q4 p1 p2 p3 p4 kLO kHI kFS kLS
            have cl := (Xp.out.cell k).trans KLO.out
            go_wp2_with fail
            refine (c1.out _).mono ?_
            rintro e w' ⟨rfl, rfl⟩
            go_wp2_with fail
            refine (c2.out _ _ _ (Sl.lit' w20 .i32 _ [0, lm] rfl)).mono ?_
            rintro e w21 ⟨v21, rfl, _, bel21⟩
            have Xp := Lib.hid ((Xp.out.up _).next bel21)
            have Xq := Lib.hid ((Xq.out.up _).next bel21)
            have Xr := Lib.hid ((Xr.out.up _).next bel21)
            have Xz := Lib.hid ((Xz.out.up _).next bel21)
            have BB := Lib.hid (bel_next (bel_up BB.out _) bel21)
            clear bel21
            clear cl
            have ch := (Xq.out.cell k).trans KHI.out
            go_wp2_with fail
            refine (c3.out _ _ _ (Sl.lit' w21 .i32 _ [hp] rfl)).mono ?_
            rintro e w22 ⟨v22, rfl, _, bel22⟩
            have Xp := Lib.hid ((Xp.out.up _).next bel22)
            have Xq := Lib.hid ((Xq.out.up _).next bel22)
            have Xr := Lib.hid ((Xr.out.up _).next bel22)
            have Xz := Lib.hid ((Xz.out.up _).next bel22)
            have BB := Lib.hid (bel_next (bel_up BB.out _) bel22)
            clear bel22
            clear ch
            go_wp2_with fail
            refine (c4.out _ _ _ (ZA.out w22)).mono ?_
            rintro e w23 ⟨v23, rfl, _, bel23⟩
            have Xp := Lib.hid ((Xp.out.up _).next bel23)
            have Xq := Lib.hid ((Xq.out.up _).next bel23)
            have Xr := Lib.hid ((Xr.out.up _).next bel23)
            have Xz := Lib.hid ((Xz.out.up _).next bel23)
            have BB := Lib.hid (bel_next (bel_up BB.out _) bel23)
            clear bel23
            go_wp2_with fail
            refine (c5.out _ _ _ (ZB.out w23)).mono ?_
            rintro e w24 ⟨v24, rfl, own24, bel24⟩
            obtain ⟨Af, cf, rfl, hcf, hmf, sl24⟩ := own24.sln (LF.out)
            have Sf := Lib.hid sl24
            have Xp := Lib.hid ((Xp.out.up _).next bel24)
            have Xq := Lib.hid ((Xq.out.up _).next bel24)
            have Xr := Lib.hid ((Xr.out.up _).next bel24)
            have Xz := Lib.hid ((Xz.out.up _).next bel24)
            have BB := Lib.hid (bel_next (bel_up BB.out _) bel24)
            clear own24 bel24 sl24
            clear Sf
            go_wp2_with fail
            refine (c6.out _ _ _ (ZD.out w24)).mono ?_
            rintro e w25 ⟨v25, rfl, _, bel25⟩
            have Xp := Lib.hid ((Xp.out.up _).next bel25)
            have Xq := Lib.hid ((Xq.out.up _).next bel25)
            have Xr := Lib.hid ((Xr.out.up _).next bel25)
            have Xz := Lib.hid ((Xz.out.up _).next bel25)
            have BB := Lib.hid (bel_next (bel_up BB.out _) bel25)
            clear bel25
            go_wp2_with fail
            refine (c7.out _ _ _ (ZE.out w25)).mono ?_
            rintro e w26 ⟨v26, rfl, own26, bel26⟩
            obtain ⟨Ag, cg, rfl, hcg, hmg, sl26⟩ := own26.sln (LG.out)
            have Sg := Lib.hid sl26
            have Xp := Lib.hid ((Xp.out.up _).next bel26)
            have Xq := Lib.hid ((Xq.out.up _).next bel26)
            have Xr := Lib.hid ((Xr.out.up _).next bel26)
            have Xz := Lib.hid ((Xz.out.up _).next bel26)
            have BB := Lib.hid (bel_next (bel_up BB.out _) bel26)
            clear own26 bel26 sl26
            clear Sg
            clear c1 c2 c3 c4 c5 c6 c7 ZD ZE ZA ZB mkA mkB mkD mkE
            go_upto_region 23 with fail
            refine wp_region_since (by kernel_rfl) (by kernel_rfl) ?_
            refine qb_val (o := ⟨some 157, _, _, _, _, _⟩) (by first | kernel_rfl | go_simp) (fun W hW => (by go_simp <;> rfl)) (by go_simp <;> rfl) ?_
            refine qb_val (o := ⟨some 158, _, _, _, _, _⟩) (by first | kernel_rfl | go_simp) (fun W hW => (by go_simp <;> rfl)) (by go_simp <;> rfl) ?_
            refine qb_val (o := ⟨some 159, _, _, _, _, _⟩) (by first | kernel_rfl | go_simp) (fun W hW => (by go_simp <;> rfl)) (by go_simp <;> rfl) ?_
            refine qb_val (o := ⟨some 160, _, _, _, _, _⟩) (by first | kernel_rfl | go_simp) (fun W hW => (by go_simp <;> rfl)) (by go_simp <;> rfl) ?_
            refine qb_val (o := ⟨some 161, _, _, _, _, _⟩) (by first | kernel_rfl | go_simp) (fun W hW => (by go_simp <;> rfl)) (by go_simp <;> rfl) ?_
            refine qb_val (o := ⟨some 162, _, _, _, _, _⟩) (by first | kernel_rfl | go_simp) (fun W hW => (by go_simp <;> rfl)) (by go_simp <;> rfl) ?_
            refine qb_val (o := ⟨some 163, _, _, _, _, _⟩) (by first | kernel_rfl | go_simp) (fun W hW => (by go_simp <;> rfl)) (by go_simp <;> rfl) ?_
            refine qb_val (o := ⟨some 164, _, _, _, _, _⟩) (by first | kernel_rfl | go_simp) (fun W hW => (by have k1 := ((Xp.out.next hW).cell k).trans KLO.out; go_simp <;> rfl)) (by go_simp <;> rfl) ?_
            refine qb_val (o := ⟨some 165, _, _, _, _, _⟩) (by first | kernel_rfl | go_simp) (fun W hW => (by go_simp <;> rfl)) (by go_simp <;> rfl) ?_
            refine qb_val (o := ⟨some 166, _, _, _, _, _⟩) (by first | kernel_rfl | go_simp) (fun W hW => (by go_simp <;> rfl)) (by go_simp <;> rfl) ?_
            refine qb_val (o := ⟨some 167, _, _, _, _, _⟩) (by first | kernel_rfl | go_simp) (fun W hW => (by go_simp <;> rfl)) (by go_simp <;> rfl) ?_
            refine qb_val (o := ⟨some 168, _, _, _, _, _⟩) (by first | kernel_rfl | go_simp) (fun W hW => (by go_simp <;> rfl)) (by go_simp <;> rfl) ?_
            refine qb_val (o := ⟨some 169, _, _, _, _, _⟩) (by first | kernel_rfl | go_simp) (fun W hW => (by go_simp <;> rfl)) (by go_simp <;> rfl) ?_
            refine qb_val (o := ⟨some 170, _, _, _, _, _⟩) (by first | kernel_rfl | go_simp) (fun W hW => (by go_simp <;> rfl)) (by go_simp <;> rfl) ?_
            refine qb_val (o := ⟨some 171, _, _, _, _, _⟩) (by first | kernel_rfl | go_simp) (fun W hW => (by go_simp <;> rfl)) (by go_simp <;> rfl) ?_
            refine qb_val (o := ⟨some 172, _, _, _, _, _⟩) (by first | kernel_rfl | go_simp) (fun W hW => (by have k1 := ((Xq.out.next hW).cell k).trans KHI.out; go_simp <;> rfl)) (by go_simp <;> rfl) ?_
            refine qb_val (o := ⟨some 173, _, _, _, _, _⟩) (by first | kernel_rfl | go_simp) (fun W hW => (by go_simp <;> rfl)) (by go_simp <;> rfl) ?_
            refine qb_val (o := ⟨some 174, _, _, _, _, _⟩) (by first | kernel_rfl | go_simp) (fun W hW => (by go_simp <;> rfl)) (by go_simp <;> rfl) ?_
            refine qb_val (o := ⟨some 175, _, _, _, _, _⟩) (by first | kernel_rfl | go_simp) (fun W hW => (by go_simp <;> rfl)) (by go_simp <;> rfl) ?_
            refine qb_val (o := ⟨some 176, _, _, _, _, _⟩) (by first | kernel_rfl | go_simp) (fun W hW => (by go_simp <;> rfl)) (by go_simp <;> rfl) ?_
            refine qb_val (o := ⟨some 177, _, _, _, _, _⟩) (by first | kernel_rfl | go_simp) (fun W hW => (by go_simp <;> rfl)) (by go_simp <;> rfl) ?_
            refine qb_val (o := ⟨some 178, _, _, _, _, _⟩) (by first | kernel_rfl | go_simp) (fun W hW => (by go_simp <;> rfl)) (by go_simp <;> rfl) ?_
            refine qb_val (o := ⟨some 179, _, _, _, _, _⟩) (by first | kernel_rfl | go_simp) (fun W hW => (by go_simp <;> rfl)) (by go_simp <;> rfl) ?_
            refine qb_val (o := ⟨some 180, _, _, _, _, _⟩) (by first | kernel_rfl | go_simp) (fun W hW => (by go_simp <;> rfl)) (by go_simp <;> rfl) ?_
            refine qb_val (o := ⟨some 181, _, _, _, _, _⟩) (by first | kernel_rfl | go_simp) (fun W hW => (by go_simp <;> rfl)) (by go_simp <;> rfl) ?_
            refine qb_val (o := ⟨some 182, _, _, _, _, _⟩) (by first | kernel_rfl | go_simp) (fun W hW => (by go_simp <;> rfl)) (by go_simp <;> rfl) ?_
            refine qb_val (o := ⟨some 183, _, _, _, _, _⟩) (by first | kernel_rfl | go_simp) (fun W hW => (by go_simp <;> rfl)) (by go_simp <;> rfl) ?_
            refine qb_val (o := ⟨some 184, _, _, _, _, _⟩) (by first | kernel_rfl | go_simp) (fun W hW => (by go_simp <;> rfl)) (by go_simp <;> rfl) ?_
            refine qb_val (o := ⟨some 185, _, _, _, _, _⟩) (by first | kernel_rfl | go_simp) (fun W hW => (by go_simp <;> rfl)) (by go_simp <;> rfl) ?_
            refine qb_val (o := ⟨some 186, _, _, _, _, _⟩) (by first | kernel_rfl | go_simp) (fun W hW => (by go_simp <;> rfl)) (by go_simp <;> rfl) ?_
            refine qb_val (o := ⟨some 187, _, _, _, _, _⟩) (by first | kernel_rfl | go_simp) (fun W hW => (by go_simp <;> rfl)) (by go_simp <;> rfl) ?_
            refine qb_val (o := ⟨some 188, _, _, _, _, _⟩) (by first | kernel_rfl | go_simp) (fun W hW => (by go_simp <;> rfl)) (by go_simp <;> rfl) ?_
            refine qb_val (o := ⟨some 189, _, _, _, _, _⟩) (by first | kernel_rfl | go_simp) (fun W hW => (by go_simp <;> rfl)) (by go_simp <;> rfl) ?_
            refine qb_val (o := ⟨some 190, _, _, _, _, _⟩) (by first | kernel_rfl | go_simp) (fun W hW => (by go_simp <;> rfl)) (by go_simp <;> rfl) ?_
            refine qb_val (o := ⟨some 191, _, _, _, _, _⟩) (by first | kernel_rfl | go_simp) (fun W hW => (by go_simp <;> rfl)) (by go_simp <;> rfl) ?_
            refine qb_val (o := ⟨some 192, _, _, _, _, _⟩) (by first | kernel_rfl | go_simp) (fun W hW => (by go_simp <;> rfl)) (by go_simp <;> rfl) ?_
            refine qb_val (o := ⟨some 193, _, _, _, _, _⟩) (by first | kernel_rfl | go_simp) (fun W hW => (by go_simp <;> rfl)) (by go_simp <;> rfl) ?_
            refine qb_val (o := ⟨some 194, _, _, _, _, _⟩) (by first | kernel_rfl | go_simp) (fun W hW => (by go_simp <;> rfl)) (by go_simp <;> rfl) ?_
            refine qb_val (o := ⟨some 195, _, _, _, _, _⟩) (by first | kernel_rfl | go_simp) (fun W hW => (by go_simp <;> rfl)) (by go_simp <;> rfl) ?_
            refine qb_val (o := ⟨some 196, _, _, _, _, _⟩) (by first | kernel_rfl | go_simp) (fun W hW => (by go_simp <;> rfl)) (by go_simp <;> rfl) ?_
            refine qb_val (o := ⟨some 197, _, _, _, _, _⟩) (by first | kernel_rfl | go_simp) (fun W hW => (by go_simp <;> rfl)) (by go_simp <;> rfl) ?_
            refine qb_val (o := ⟨some 198, _, _, _, _, _⟩) (by first | kernel_rfl | go_simp) (fun W hW => (by go_simp <;> rfl)) (by go_simp <;> rfl) ?_
            refine qb_val (o := ⟨some 199, _, _, _, _, _⟩) (by first | kernel_rfl | go_simp) (fun W hW => (by go_simp <;> rfl)) (by go_simp <;> rfl) ?_
            refine qb_val (o := ⟨some 200, _, _, _, _, _⟩) (by first | kernel_rfl | go_simp) (fun W hW => (by go_simp <;> rfl)) (by go_simp <;> rfl) ?_
            refine qb_val (o := ⟨some 201, _, _, _, _, _⟩) (by first | kernel_rfl | go_simp) (fun W hW => (by go_simp <;> rfl)) (by go_simp <;> rfl) ?_
            refine qb_val (o := ⟨some 202, _, _, _, _, _⟩) (by first | kernel_rfl | go_simp) (fun W hW => (by go_simp <;> rfl)) (by go_simp <;> rfl) ?_
            refine qb_val (o := ⟨some 203, _, _, _, _, _⟩) (by first | kernel_rfl | go_simp) (fun W hW => (by go_simp <;> rfl)) (by go_simp <;> rfl) ?_
            refine qb_val (o := ⟨some 204, _, _, _, _, _⟩) (by first | kernel_rfl | go_simp) (fun W hW => (by go_simp <;> rfl)) (by go_simp <;> rfl) ?_
            refine qb_val (o := ⟨some 205, _, _, _, _, _⟩) (by first | kernel_rfl | go_simp) (fun W hW => (by go_simp <;> rfl)) (by go_simp <;> rfl) ?_
            refine qb_val (o := ⟨some 206, _, _, _, _, _⟩) (by first | kernel_rfl | go_simp) (fun W hW => (by go_simp <;> rfl)) (by go_simp <;> rfl) ?_
            refine qb_val (o := ⟨some 207, _, _, _, _, _⟩) (by first | kernel_rfl | go_simp) (fun W hW => (by go_simp <;> rfl)) (by go_simp <;> rfl) ?_
            refine qb_val (o := ⟨some 208, _, _, _, _, _⟩) (by first | kernel_rfl | go_simp) (fun W hW => (by go_simp <;> rfl)) (by go_simp <;> rfl) ?_
            refine qb_val (o := ⟨some 209, _, _, _, _, _⟩) (by first | kernel_rfl | go_simp) (fun W hW => (by go_simp <;> rfl)) (by go_simp <;> rfl) ?_
            refine qb_val (o := ⟨some 210, _, _, _, _, _⟩) (by first | kernel_rfl | go_simp) (fun W hW => (by go_simp <;> rfl)) (by go_simp <;> rfl) ?_
            refine qb_val (o := ⟨some 211, _, _, _, _, _⟩) (by first | kernel_rfl | go_simp) (fun W hW => (by go_simp <;> rfl)) (by go_simp <;> rfl) ?_
            refine qb_val (o := ⟨some 212, _, _, _, _, _⟩) (by first | kernel_rfl | go_simp) (fun W hW => (by go_simp <;> rfl)) (by go_simp <;> rfl) ?_
            refine qb_val (o := ⟨some 213, _, _, _, _, _⟩) (by first | kernel_rfl | go_simp) (fun W hW => (by go_simp <;> rfl)) (by go_simp <;> rfl) ?_
            refine qb_val (o := ⟨some 214, _, _, _, _, _⟩) (by first | kernel_rfl | go_simp) (fun W hW => (by go_simp <;> rfl)) (by go_simp <;> rfl) ?_
            refine qb_val (o := ⟨some 215, _, _, _, _, _⟩) (by first | kernel_rfl | go_simp) (fun W hW => (by go_simp <;> rfl)) (by go_simp <;> rfl) ?_
            refine qb_val (o := ⟨some 216, _, _, _, _, _⟩) (by first | kernel_rfl | go_simp) (fun W hW => (by go_simp <;> rfl)) (by go_simp <;> rfl) ?_
            refine qb_val (o := ⟨some 217, _, _, _, _, _⟩) (by first | kernel_rfl | go_simp) (fun W hW => (by go_simp <;> rfl)) (by go_simp <;> rfl) ?_
            refine qb_val (o := ⟨some 218, _, _, _, _, _⟩) (v := .slice (some ⟨bp, k, none⟩) 1 (3 - k)) (by first | kernel_rfl | go_simp) (fun W hW => (by go_simp <;> rfl)) (by go_simp <;> rfl) ?_
            refine qb_val (o := ⟨some 219, _, _, _, _, _⟩) (by first | kernel_rfl | go_simp) (fun W hW => (by go_simp <;> rfl)) (by go_simp <;> rfl) ?_
            refine qb_val (o := ⟨some 220, _, _, _, _, _⟩) (by first | kernel_rfl | go_simp) (fun W hW => (by go_simp <;> rfl)) (by go_simp <;> rfl) ?_
            refine qb_val (o := ⟨some 221, _, _, _, _, _⟩) (by first | kernel_rfl | go_simp) (fun W hW => (by go_simp <;> rfl)) (by go_simp <;> rfl) ?_
            refine qb_val (o := ⟨some 222, _, _, _, _, _⟩) (by first | kernel_rfl | go_simp) (fun W hW => (by have k1 := ((Xr.out.next hW).cell k).trans KFS.out; go_simp <;> rfl)) (by go_simp <;> rfl) ?_
            refine qb_call (o := ⟨some 223, _, _, _, _, _⟩) (by go_simp) (fun W => by go_simp <;> rfl) (fun W hW => h1.out (some ⟨bp, k, none⟩) (3 - k) W ((Xp.out.next hW).sl1 (o := k) KLO.out)) (by go_simp <;> rfl) ?_
            refine qb_val (o := ⟨some 224, _, _, _, _, _⟩) (by first | kernel_rfl | go_simp) (fun W hW => (by go_simp <;> rfl)) (by go_simp <;> rfl) ?_
            refine qb_val (o := ⟨some 225, _, _, _, _, _⟩) (by first | kernel_rfl | go_simp) (fun W hW => (by go_simp <;> rfl)) (by go_simp <;> rfl) ?_
            refine qb_val (o := ⟨some 226, _, _, _, _, _⟩) (by first | kernel_rfl | go_simp) (fun W hW => (by go_simp <;> rfl)) (by go_simp <;> rfl) ?_
            refine qb_val (o := ⟨some 227, _, _, _, _, _⟩) (by first | kernel_rfl | go_simp) (fun W hW => (by go_simp <;> rfl)) (by go_simp <;> rfl) ?_
            refine qb_val (o := ⟨some 228, _, _, _, _, _⟩) (by first | kernel_rfl | go_simp) (fun W hW => (by go_simp <;> rfl)) (by go_simp <;> rfl) ?_
            refine qb_val (o := ⟨some 229, _, _, _, _, _⟩) (by first | kernel_rfl | go_simp) (fun W hW => (by go_simp <;> rfl)) (by go_simp <;> rfl) ?_
            refine qb_val (o := ⟨some 230, _, _, _, _, _⟩) (by first | kernel_rfl | go_simp) (fun W hW => (by go_simp <;> rfl)) (by go_simp <;> rfl) ?_
            refine qb_val (o := ⟨some 231, _, _, _, _, _⟩) (by first | kernel_rfl | go_simp) (fun W hW => (by go_simp <;> rfl)) (by go_simp <;> rfl) ?_
            refine qb_val (o := ⟨some 232, _, _, _, _, _⟩) (v := .slice (some ⟨bq, k, none⟩) 1 (3 - k)) (by first | kernel_rfl | go_simp) (fun W hW => (by go_simp <;> rfl)) (by go_simp <;> rfl) ?_
            refine qb_val (o := ⟨some 233, _, _, _, _, _⟩) (by first | kernel_rfl | go_simp) (fun W hW => (by go_simp <;> rfl)) (by go_simp <;> rfl) ?_
            refine qb_val (o := ⟨some 234, _, _, _, _, _⟩) (by first | kernel_rfl | go_simp) (fun W hW => (by go_simp <;> rfl)) (by go_simp <;> rfl) ?_
            refine qb_val (o := ⟨some 235, _, _, _, _, _⟩) (by first | kernel_rfl | go_simp) (fun W hW => (by go_simp <;> rfl)) (by go_simp <;> rfl) ?_
            refine qb_val (o := ⟨some 236, _, _, _, _, _⟩) (by first | kernel_rfl | go_simp) (fun W hW => (by have k1 := ((Xz.out.next hW).cell k).trans KLS.out; go_simp <;> rfl)) (by go_simp <;> rfl) ?_
            refine qb_call (o := ⟨some 237, _, _, _, _, _⟩) (by go_simp) (fun W => by go_simp <;> rfl) (fun W hW => h2.out (some ⟨bq, k, none⟩) (3 - k) W ((Xq.out.next hW).sl1 (o := k) KHI.out)) (by go_simp <;> rfl) ?_
            refine qb_val (o := ⟨some 238, _, _, _, _, _⟩) (by first | kernel_rfl | go_simp) (fun W hW => (by go_simp <;> rfl)) (by go_simp <;> rfl) ?_
            refine qb_val (o := ⟨some 239, _, _, _, _, _⟩) (by first | kernel_rfl | go_simp) (fun W hW => (by go_simp <;> rfl)) (by go_simp <;> rfl) ?_
            refine qb_val (o := ⟨some 240, _, _, _, _, _⟩) (by first | kernel_rfl | go_simp) (fun W hW => (by go_simp <;> rfl)) (by go_simp <;> rfl) ?_
            refine qb_val (o := ⟨some 241, _, _, _, _, _⟩) (by first | kernel_rfl | go_simp) (fun W hW => (by go_simp <;> rfl)) (by go_simp <;> rfl) ?_
            refine qb_call (o := ⟨some 242, _, _, _, _, _⟩) (by go_simp) (fun W => by go_simp <;> rfl) (fun W hW => h3.out W) (by go_simp <;> rfl) ?_
            refine qb_val (o := ⟨some 243, _, _, _, _, _⟩) (by first | kernel_rfl | go_simp) (fun W hW => (by go_simp <;> rfl)) (by go_simp <;> rfl) ?_
            refine qb_val (o := ⟨some 244, _, _, _, _, _⟩) (by first | kernel_rfl | go_simp) (fun W hW => (by go_simp <;> rfl)) (by go_simp <;> rfl) ?_
            refine wpQuiet_nil ?_
            intro w27 bel27
            have bel27 : Below w26.heap.size w26 w27 := bel27
            have Xp := Lib.hid (Xp.out.next bel27)
            have Xq := Lib.hid (Xq.out.next bel27)
            have Xr := Lib.hid (Xr.out.next bel27)
            have Xz := Lib.hid (Xz.out.next bel27)
            have BB := Lib.hid (bel_next BB.out bel27)
            clear bel27
            go_wp2_with fail
            go_roundw
            case rel => exact ⟨k + 1, by omega, by go_num, Xp.out, Xq.out, Xr.out, Xz.out, BB.out⟩
            case measure => simp [intOf]; omega
        · as_aux_lemma =>
          obtain rfl : k = 3 := by omega
          have BB := Lib.hid hb
          clear hp hq hr hz hb mkB ZB ZA
          obtain ⟨w30, rfl⟩ : ∃ wq, wq = wr := ⟨_, rfl⟩
          obtain ⟨zf, V1, hV1l, hV1, mkF, zrF⟩ := mk8 3 3 rfl (by decide)
          obtain ⟨zg, V0, hV0l, hV0, mkG, zrG⟩ := mk8 12001 12001 rfl (by decide)
          have ZF := Lib.hid zrF
          have ZG := Lib.hid zrG
          have c1 := Lib.hid (fun A c W hh => wn_err (show saE 16 3 = 12 by decide) (by decide) (by decide) (by decide) hV1l hV1 A c W hh)
          have c2 := Lib.hid (fun A c W hh => wn_err (show saE 24 12001 = 12 by decide) (by decide) (by decide) (by decide) hV0l hV0 A c W hh)
          have ZS := Lib.hid (show (za[0]?).isSome = true by
            have e : 0 < za.size := by rw [HZA.out]; simp [HZL.out]
            rw [Array.getElem?_eq_getElem e]; rfl)
          have ZE := Lib.hid (show za.setIfInBounds 0 (.int .i32 2147483647) = ((Z.set 0 2147483647).map (Value.int .i32)).toArray by rw [HZA.out]; apply Array.ext'; simp [List.map_set])
          have c3 := Lib.hid (fun A c W (hh : Sl W W.heap.size .i32 A (Z.set 0 2147483647)) => by
            have := wcheck_any 8 A 4001 c (Z.set 0 2147483647) W (by rw [List.length_set]; exact HZL.out) (by decide) (fun x hx => by rcases List.mem_or_eq_of_mem_set hx with h | rfl; (· rw [HZ.out x h]; decide); (· decide)) hh (by decide) (by decide)
            rw [show ckE 8 (Z.set 0 2147483647) = 4 by unfold ckE; rw [if_neg (by decide), if_pos (by rw [List.length_set, HZL.out]; decide)]] at this
            exact this)
          have HS := Lib.hid (show (Try.prog.info? 21).map (·.size) = some 1 by kernel_rfl)
          clear hV1l hV1 hV0l hV0 zrF zrG
          go_wp2_with fail
          refine (c1.out _ _ _ (ZF.out w30)).mono ?_
          rintro e w31 ⟨v31, rfl, _, bel31⟩
          have BB := Lib.hid (bel_next (bel_up BB.out _) bel31)
          clear bel31
          go_wp2_with fail
          refine (c2.out _ _ _ (ZG.out w31)).mono ?_
          rintro e w32 ⟨v32, rfl, _, bel32⟩
          have BB := Lib.hid (bel_next (bel_up BB.out _) bel32)
          clear bel32
          clear c1 c2 ZF ZG mkF mkG
          go_upto_region 28 with fail
          have oj := BB.out.size
          have Xj := Lib.hid (Blk.new w32 21 za)
          have BB := Lib.hid (bel_up BB.out (.cells za 21))
          generalize hW : w32.alloc (.cells za 21) = w33 at *
          clear hW
          generalize w32.heap.size = bj at *
          have hc0 : (w33.cell? ⟨bj, 0, none⟩).isSome = true := by rw [Xj.out.cell 0]; exact ZS.out
          go_wp2_with (first
            | ((with_reducible refine cell_put (o := ⟨none, _, _, _, _, _⟩) rfl (.tmp 257) (.const (.int .i32 2147483647)) rfl rfl rfl hc0 (Xj.out.free 0) HS.out ?_); have onl := Only.set w33 bj 0 (.int .i32 2147483647); have Xj := Lib.hid (Xj.out.set 0 (.int .i32 2147483647)); have BB := Lib.hid (onl.bel oj BB.out); generalize hW : w33.setCell ⟨bj, 0, none⟩ (.int .i32 2147483647) = w34 at *))
          clear onl hW hc0
          have SO := Lib.hid (Xj.out.sl ZE.out)
          go_wp2_with fail
          refine (alive_any w34).mono ?_
          rintro e w35 ⟨rfl, bel35⟩
          have SO := Lib.hid (SO.out.next bel35)
          have BB := Lib.hid (bel_next BB.out bel35)
          clear bel35
          go_wp2_with fail
          refine (c3.out _ _ _ SO.out).mono ?_
          rintro e w' ⟨rfl, rfl⟩
          go_wp2_with fail
          refine (has_any 24 _ 3 3 [-1, 0, 1] _ _ rfl (by decide) (by decide) (by unfold I32; decide) (Sl.lit' w35 .i32 _ [-1, 0, 1] rfl) (by decide) (by decide)).mono ?_
          rintro e w36 ⟨rfl, bel36⟩
          have SO := Lib.hid ((SO.out.up _).next bel36)
          have BB := Lib.hid (bel_next (bel_up BB.out _) bel36)
          clear bel36
          go_wp2_with fail
          go_ret
          exact ⟨rfl, BB.out⟩
end Go.Proofs.Ytfapkpegfgeliaa

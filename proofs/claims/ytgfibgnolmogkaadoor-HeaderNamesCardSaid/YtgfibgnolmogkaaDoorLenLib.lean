/-
  What slices.Repeat, slices.Grow and slices.Concat compute for the package lengths. Conditions: sizes.
-/
import Derived.Test.YtgfibgnolmogkaaDoorLenWalks
import Derived.Test.YtgfibgnolmogkaaDoorKit4
import Derived.Lib.AppendZeros
import Derived.Lib.AppendZerosOnto
namespace Go.Proofs.YtgfibgnolmogkaaDoor
open Go.RowKit
set_option linter.unusedVariables false

theorem Own.of_row {w : World} {base g n : Nat} {k : IntKind} {e : TypeId} {xs : List Int} {cs : List Value} (hcs : cs = xs.map (Value.int k)) (hn : xs.length = n) (hg : w.heap[g]? = some (.cells cs.toArray e (0, 0))) (hB : base ≤ g) (hm : n ≤ 9223372036854775807) :
    Own w base e k (.slice (some ⟨g, 0, none⟩) n n) xs := by
  subst hn hcs
  exact ⟨by simp, .inr ⟨g, xs.length, _, rfl, hB, hg, Nat.le_refl _, by simpa only [maxLen] using hm, by simp, by simp [← List.map_take]⟩⟩

theorem run_to {P : Program} {t e : TypeId} {k : IntKind} {bytes : Nat} (hE : Elem P t e k bytes) (A : Option Addr) (m c n : Nat) {z : Int} (hz : z = (n : Int)) (hn : n ≤ c) (W : World) :
    (Instr.slice t (.slice A m c) none (some (.int .i64 z)) none).run P W = .ok (.slice A n c) W := by
  obtain ⟨i, hi, _, h1, _⟩ := hE.info
  subst hz
  simp [Instr.slice, run_underlying hE.under, Instr.sliceBounds, Instr.sliceBound, asIntOf, sizeOf, typeInfo, hi, hn, Sem.run_bind]
  cases A <;> simp [Addr.add]

def repL (L : Int) (m k : Nat) : List Value := (List.replicate k L ++ List.replicate (m - k) 0).map (Value.int .i64)
theorem repL_len (L : Int) (m k : Nat) (h : k ≤ m) : (repL L m k).length = m := by simp [repL]; omega
theorem repL_get (L : Int) (m k j : Nat) (h : j < k) : (repL L m k)[j]? = some (.int .i64 L) := by
  simp [repL, List.getElem?_append_left, h]
theorem repL_splice (L : Int) (m k c : Nat) (h : k + c ≤ m) : splice (repL L m k) k (List.replicate c (.int .i64 L)) = repL L m (k + c) := by
  unfold splice repL
  rw [show List.replicate c (Value.int .i64 L) = (List.replicate c L).map (Value.int .i64) from by simp, ← List.map_take, ← List.map_drop, ← List.map_append, ← List.map_append]
  congr 1
  rw [List.take_append_of_le_length (by simp), List.take_of_length_le (by simp), List.length_map, List.length_replicate, List.drop_append, List.drop_of_length_le (by simp), List.length_replicate, List.nil_append, List.drop_replicate,
    show m - k - (k + c - k) = m - (k + c) by omega, ← List.append_assoc, List.replicate_append_replicate]

set_option maxRecDepth 100000 in
set_option maxHeartbeats 1000000 in
theorem repeat_one (L : Int) (A : Option Addr) (m : Nat) (w : World) (hm : m ≤ 4000) (hs : Sl w w.heap.size .i64 A [L]) :
    Calls Tryd.prog 44 #[.slice A 1 1, .int .i64 m] w fun e w' =>
      ∃ v, e = .returned v ∧ Own w' w.heap.size 3 .i64 v (List.replicate m L) ∧ Below w.heap.size w w' := by
  obtain ⟨b, o, rfl, hb, hc⟩ := hs (by simp)
  have hcell := Lib.hid (hc 0 (by simp))
  clear hc hs
  have mk1 : ∀ W, (Instr.makeSlice 28 (.int .i64 (m : Int)) (.int .i64 (m : Int))).run Tryd.prog W = .ok (.slice (some ⟨W.heap.size, 0, none⟩) m m) (W.alloc (.cells (zerosA .i64 m) 3)) := run_make_ints elI64 m rfl (by omega) (by omega)
  have hz := Lib.hid (show (zerosA .i64 m) = (repL L m 0).toArray by simp [zerosA, repL])
  have hsz : (Tryd.prog.info? 3).map (·.size) = some 1 := by kernel_rfl
  have HSZ := Lib.hid hsz
  have BB := Lib.hid ((Below.refl w.heap.size w).alloc (Nat.le_refl _) (.cells (zerosA .i64 m) 3))
  have GG := Lib.hid (show (w.alloc (.cells (zerosA .i64 m) 3)).heap[w.heap.size]? = some (.cells (repL L m 0).toArray 3 (0, 0)) by rw [← hz.out]; exact heap_alloc_new w _)
  have SRC := Lib.hid (show (w.alloc (.cells (zerosA .i64 m) 3)).cell? ⟨b, o, none⟩ = some (.int .i64 L) by rw [World.cell?_alloc_lt _ _ _ hb]; simpa using hcell.out)
  clear hsz hz
  go_enter Tryd.func44, Tryd.ntmps44
  go_wp2_with fail
  refine (mul_one_ m _ hm).mono ?_
  rintro e w' ⟨rfl, rfl⟩
  have hm2 : ¬ ((9223372036854775807 : Int) < (m : Int)) := by omega
  by_cases h0 : m = 0
  · subst h0
    have mk0 : ∀ W, (Instr.makeSlice 28 (.int .i64 0) (.int .i64 0)).run Tryd.prog W = .ok (.slice (some ⟨W.heap.size, 0, none⟩) 0 0) (W.alloc (.cells (zerosA .i64 0) 3)) := run_make_ints elI64 0 rfl (by omega) (by omega)
    clear mk1
    go_wp2_with (refine wpList_copy_nothing rfl (.tmp 31) (.tmp 32) 28 28 rfl 3 Tryd.underlying28 HSZ.out _ _ 0 0 1 1 rfl rfl rfl ?_)
    go_loopw [8] (fun i wr => i = .int .i64 0 ∧ wr = w.alloc (.cells (zerosA .i64 0) 3)) (fun i _ => 0)
    case atStart => exact ⟨rfl, rfl⟩
    case round =>
      obtain ⟨rfl, rfl⟩ := hrel
      go_wp2_with fail
      go_ret
      exact ⟨_, rfl, Own.of_row (cs := repL L 0 0) rfl rfl GG.out (Nat.le_refl _) (by omega), BB.out⟩
  · have hcs := Lib.hid (show (List.replicate 1 (Value.int .i64 L)).length = Nat.min 1 m by show 1 = min 1 m; omega)
    go_wp2_with (refine wpList_copy_splice rfl (.tmp 31) (.tmp 32) 28 28 rfl 3 Tryd.underlying28 HSZ.out (some ⟨w.heap.size, 0, none⟩) (some ⟨b, o, none⟩) m m 1 1 rfl rfl w.heap.size 0 (repL L m 0) 3 GG.out (List.replicate 1 (.int .i64 L)) hcs.out (fun _ => ⟨rfl, _, rfl, fun j v hj => by (match j, hj with | 0, hj => (have : Value.int .i64 L = v := by simpa using hj); rw [← this]; simpa [Addr.add] using SRC.out | j + 1, hj => simp at hj)⟩) (by rw [repL_len _ _ _ (by omega)]; simp; omega) (by intro v hv; rw [List.eq_of_mem_replicate hv]; rfl) w.heap.size w BB.out (Nat.le_refl _) ?_; intro w1 hg1 hb1; have HG := Lib.hid (hg1.trans (by rw [repL_splice _ _ _ _ (by omega)])); have HB := Lib.hid hb1; clear hg1 hb1 BB GG SRC)
    go_loopw [8] (fun i wr => ∃ k : Nat, 1 ≤ k ∧ k ≤ m ∧ i = .int .i64 k ∧ wr.heap[w.heap.size]? = some (.cells (repL L m k).toArray 3 (0, 0)) ∧ Below w.heap.size w wr) (fun i _ => m - (intOf i).toNat)
    case atStart => exact ⟨1, by omega, by omega, rfl, HG.out, HB.out⟩
    case round =>
      obtain ⟨k, hk1, hk, rfl, hg, hbel⟩ := hrel
      have HG := Lib.hid hg
      have HB := Lib.hid hbel
      clear hg hbel
      by_cases hlt : k < m
      · have s1 : ∀ W, (Instr.slice 28 (.slice (some ⟨w.heap.size, 0, none⟩) m m) (some (.int .i64 (k : Int))) none none).run Tryd.prog W = .ok (.slice (some ⟨w.heap.size, k, none⟩) (m - k) (m - k)) W := fun W => by
          rw [run_from elI64 _ m m k rfl (by omega), if_neg (by omega)]; simp [Addr.add, show ¬ k = 0 by omega]
        have s2 : ∀ W, (Instr.slice 28 (.slice (some ⟨w.heap.size, 0, none⟩) m m) none (some (.int .i64 (k : Int))) none).run Tryd.prog W = .ok (.slice (some ⟨w.heap.size, 0, none⟩) k m) W := run_to elI64 _ m m k rfl (by omega)
        obtain ⟨c, hc⟩ : ∃ c, c = min k (m - k) := ⟨_, rfl⟩
        have HC := Lib.hid hc
        have hcs := Lib.hid (show (List.replicate c (Value.int .i64 L)).length = Nat.min k (m - k) by rw [List.length_replicate]; exact hc)
        have hkc : k + c ≤ m := by omega
        have hc1 : 1 ≤ c := by omega
        have SRC2 := Lib.hid (show ∀ j v, (List.replicate c (Value.int .i64 L))[j]? = some v → wr.cell? ((⟨w.heap.size, 0, none⟩ : Addr).add j) = some v from fun j v hj => by
          rw [List.getElem?_replicate] at hj
          have hjc : j < c := by by_cases h : j < c; exact h; (rw [if_neg h] at hj; cases hj)
          rw [if_pos hjc] at hj
          rw [← hj, show (⟨w.heap.size, 0, none⟩ : Addr).add j = ⟨w.heap.size, j, none⟩ by simp [Addr.add]; intro h; omega, cell_of_row _ _ _ _ _ _ HG.out, List.getElem?_toArray, repL_get L m k j (by omega)])
        clear hc
        have hlt' : (k : Int) < (m : Int) := by omega
        have w1 : IntKind.i64.wrap ((k : Int) + (c : Int)) = (k : Int) + (c : Int) := by rw [IntKind.wrap_i64]; omega
        go_wp2_with fail
        go_region_law ((refine step_copy_splice rfl (.tmp 41) (.tmp 44) 28 28 rfl 3 Tryd.underlying28 HSZ.out (some ⟨w.heap.size, k, none⟩) (some ⟨w.heap.size, 0, none⟩) (m - k) (m - k) k m (by simp [Act.eval, Act.put]) (by simp [Act.eval, Act.put]) w.heap.size k (repL L m k) 3 HG.out (List.replicate c (.int .i64 L)) hcs.out (fun _ => ⟨rfl, _, rfl, fun j v hj => SRC2.out j v hj⟩) (by rw [repL_len _ _ _ (by omega)]; simp; omega) (by intro v hv; rw [List.eq_of_mem_replicate hv]; rfl) w.heap.size w ⟨HB.out.os, HB.out.tape, HB.out.output, HB.out.size, HB.out.block⟩ (Nat.le_refl _) ?_); intro w2 hg2 hb2)
        all_goals
          have hg3 := Lib.hid (hg2.trans (by rw [repL_splice _ _ _ _ hkc]))
          have hb3 := Lib.hid hb2
          clear hg2 hb2
          go_simp
          go_roundw
          case rel => ((repeat apply Exists.intro); refine ⟨?_, rfl⟩; exact ⟨k + c, by omega, by omega, by go_num, hg3.out, hb3.out⟩)
          case measure => simp [intOf]; omega
      · obtain rfl : m = k := by omega
        go_wp2_with fail
        go_ret
        exact ⟨_, rfl, Own.of_row (cs := repL L m m) (by simp [repL]) (by simp) HG.out (Nat.le_refl _) (by omega), HB.out⟩
end Go.Proofs.YtgfibgnolmogkaaDoor

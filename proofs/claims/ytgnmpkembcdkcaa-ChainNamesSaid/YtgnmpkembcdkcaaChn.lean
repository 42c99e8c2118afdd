/-
  A channel as a value: 35 cells; how two are compared; its variable, and the operations on it. No conditions.
-/
import Derived.Test.YtgnmpkembcdkcaaFlt3
namespace Go.Proofs.Ytgnmpkembcdkcaa
open Go.RowKit
set_option linter.unusedVariables false

def cL (bt la sh : Int) (ts ps : List Int) : List Value := Value.int .i64 bt :: Value.int .i32 la :: fL sh ts ps
def cA (bt la sh : Int) (ts ps : List Int) : Array Value := (cL bt la sh ts ps).toArray
section
variable {bt la sh : Int} {ts ps : List Int}
theorem cA_size (hF : F16 ts ps) : (cA bt la sh ts ps).size = 35 := by simp [cA, cL, fL, hF.1, hF.2]
theorem cA_one : (cA bt la sh ts ps).all (·.oneCell') = true := by
  refine all_oneCell_toArray fun v hv => ?_
  simp only [cL, fL, List.mem_cons, List.mem_append, List.mem_map] at hv
  rcases hv with rfl | rfl | rfl | ⟨x, _, rfl⟩ | ⟨x, _, rfl⟩ <;> rfl
theorem cA_0 : (cA bt la sh ts ps)[0]? = some (.int .i64 bt) := by simp [cA, cL]
theorem cA_1 : (cA bt la sh ts ps)[1]? = some (.int .i32 la) := by simp [cA, cL]
theorem cA_2 : (cA bt la sh ts ps)[2]? = some (.int .i64 sh) := by simp [cA, cL, fL]
theorem cA_t (hF : F16 ts ps) {i : Nat} (hi : i < 16) : (cA bt la sh ts ps)[3 + i]? = some (.int .i32 (ts.getD i 0)) := by
  have := fA_t (sh := sh) (ps := ps) hF.1 hi
  simp only [fA, List.getElem?_toArray] at this
  simp only [cA, cL, List.getElem?_toArray]
  rw [show 3 + i = (1 + i) + 1 + 1 by omega, List.getElem?_cons_succ, List.getElem?_cons_succ, this]
theorem cA_ext_f (hF : F16 ts ps) : (cA bt la sh ts ps).extract 2 (2 + (fA sh ts ps).size) = fA sh ts ps := by
  apply Array.ext'
  rw [Array.toList_extract, fA_size hF.1 hF.2]
  simp only [List.extract, cA, cL, fA, List.drop_succ_cons, List.drop_zero]
  rw [List.take_of_length_le (by simp [fL, hF.1, hF.2])]
theorem cA_ext_t (hF : F16 ts ps) : (cA bt la sh ts ps).extract 3 (3 + (aA ts).size) = aA ts := by
  apply Array.ext'
  rw [Array.toList_extract, aA_size, hF.1]
  simp only [List.extract, cA, cL, fL, aA, List.drop_succ_cons, List.drop_zero]
  rw [List.take_append_of_le_length (by simp [hF.1])]
  simp [List.take_of_length_le, hF.1]
theorem cA_set_0 (b' : Int) : (cA bt la sh ts ps).setIfInBounds 0 (.int .i64 b') = cA b' la sh ts ps := by apply Array.ext'; simp [cA, cL]
theorem cA_set_1 (l' : Int) : (cA bt la sh ts ps).setIfInBounds 1 (.int .i32 l') = cA bt l' sh ts ps := by apply Array.ext'; simp [cA, cL]
theorem cA_spl_f {sh' : Int} {ts' ps' : List Int} (hF : F16 ts ps) (hF' : F16 ts' ps') : splA (cA bt la sh ts ps) 2 (fA sh' ts' ps').toList = cA bt la sh' ts' ps' := by
  apply Array.ext'
  rw [splA_list _ _ _ (by rw [cA_size hF]; simp [fA, fL, hF'.1, hF'.2])]
  simp only [cA, cL, fA, List.take_succ_cons, List.take_zero, List.cons_append, List.nil_append]
  rw [show 2 + (fL sh' ts' ps').length = 33 + 1 + 1 by simp [fL, hF'.1, hF'.2], List.drop_succ_cons, List.drop_succ_cons, List.drop_of_length_le (by simp [fL, hF.1, hF.2])]
  simp
end

/-- the type of channels, as the program has it -/
structure ChnT (P : Program) (C T A E I : TypeId) : Prop where
  flt : FltT P T A E I
  flds : ∃ f0 f1 f2 : Field, P.underlying C = some (.struct #[f0, f1, f2]) ∧ f0.name ≠ "_" ∧ f1.name ≠ "_" ∧ f2.name ≠ "_" ∧ f0.type = I ∧ f1.type = E ∧ f2.type = T ∧ f0.offset = 0 ∧ f1.offset = 1 ∧ f2.offset = 2
  held : P.stoodInHeld C = false
  size : (P.info? C).map (·.size) = some 35
  isize : (P.info? I).map (·.size) = some 1
  zero : (P.info? C).bind (·.zero) = some (.agg (cA 0 0 0 z16 z16))

section
variable {P : Program} {C T A E I : TypeId}
theorem ChnT.row (hC : ChnT P C T A E I) : ∃ d : TypeDesc, P.underlying C = some d ∧ d.isRow = true := by
  obtain ⟨f0, f1, f2, hu, _⟩ := hC.flds
  exact ⟨_, hu, rfl⟩
theorem ChnT.eq (h : ChnT P C T A E I) (d : Nat) (bt la sh bt' la' sh' : Int) (ts ps ts' ps' : List Int) (w : World) (hF : F16 ts ps) (hF' : F16 ts' ps') :
    (Op.equalIn (d + 4) C (.agg (cA bt la sh ts ps)) (.agg (cA bt' la' sh' ts' ps'))).run P w = .ok ((bt == bt') && (la == la') && ((sh == sh') && (ts == ts') && (ps == ps'))) w := by
  obtain ⟨f0, f1, f2, hu, n0, n1, n2, y0, y1, y2, o0, o1, o2⟩ := h.flds
  obtain ⟨g0, g1, g2, gu, _⟩ := h.flt.flds
  have hfo : P.fieldsOf C = #[f0, f1, f2] := by simp [Program.fieldsOf, hu]
  rw [run_equalIn_struct w (d + 3) C _ _ (by rw [hfo]; exact hu) h.held, hfo]
  have aggT : (isAgg T).run P w = .ok true w := by simp [isAgg, run_underlying gu]
  have aggI : (isAgg I).run P w = .ok false w := by simp [isAgg, run_underlying h.flt.int]
  have aggE : (isAgg E).run P w = .ok false w := by simp [isAgg, run_underlying h.flt.elt]
  have szT := sizeOf_run h.flt.size w
  have e2 : (part T (cA bt la sh ts ps) 2).run P w = .ok (.agg (fA sh ts ps)) w := by
    have := cA_ext_f (bt := bt) (la := la) (sh := sh) hF
    rw [fA_size hF.1 hF.2] at this
    simp [part, aggT, szT, this, Sem.run_bind]
  have e2' : (part T (cA bt' la' sh' ts' ps') 2).run P w = .ok (.agg (fA sh' ts' ps')) w := by
    have := cA_ext_f (bt := bt') (la := la') (sh := sh') hF'
    rw [fA_size hF'.1 hF'.2] at this
    simp [part, aggT, szT, this, Sem.run_bind]
  have e0 : (part I (cA bt la sh ts ps) 0).run P w = .ok (.int .i64 bt) w := by simp [part, aggI, cA_0, Sem.run_bind]
  have e0' : (part I (cA bt' la' sh' ts' ps') 0).run P w = .ok (.int .i64 bt') w := by simp [part, aggI, cA_0, Sem.run_bind]
  have e1 : (part E (cA bt la sh ts ps) 1).run P w = .ok (.int .i32 la) w := by simp [part, aggE, cA_1, Sem.run_bind]
  have e1' : (part E (cA bt' la' sh' ts' ps') 1).run P w = .ok (.int .i32 la') w := by simp [part, aggE, cA_1, Sem.run_bind]
  have q0 := run_equalIn_int (P := P) w (d + 2) I .i64 .i64 bt bt' h.flt.int
  have q1 := run_equalIn_int (P := P) w (d + 2) E .i32 .i32 la la' h.flt.elt
  have q2 := h.flt.eq d sh sh' ts ps ts' ps' w hF.1 hF.2 hF'.1 hF'.2
  simp only [Op.eqFields, n0, n1, n2, y0, y1, y2, o0, o1, o2, ne_eq, not_false_eq_true, if_true, Sem.run_bind, e0, e0', e1, e1', e2, e2', q0, q1, q2, Result.andThen_ok, Sem.run_ite]
  cases (bt == bt') <;> cases (la == la') <;> cases (sh == sh') <;> cases (ts == ts') <;> cases (ps == ps') <;> simp
theorem chn_parts (hC : ChnT P C T A E I) (W : World) (parts : Array (Nat × Value)) (cs : Array Value)
    (h : Instr.fill (fun i => ([(0, 1), (1, 1), (2, 33)] : List (Nat × Nat))[i]?) (cA 0 0 0 z16 z16) parts.toList = some cs) : (Instr.build C parts).run P W = .ok (.agg cs) W := by
  obtain ⟨f0, f1, f2, hu, n0, n1, n2, y0, y1, y2, o0, o1, o2⟩ := hC.flds
  have sI := sizeOf_run hC.isize W
  have sE := sizeOf_run hC.flt.esize W
  have sT := sizeOf_run hC.flt.size W
  cases hi : P.info? C with
  | none => have := hC.zero; simp [hi] at this
  | some i =>
    have hz := hC.zero
    simp only [hi, Option.bind_some] at hz
    simp [Instr.build, zeroValue, typeInfo, hi, hz, run_underlying hu, y0, y1, y2, o0, o1, o2, sI, sE, sT, h, Value.cells]
theorem chn_built (hC : ChnT P C T A E I) (W : World) : (Instr.build C #[]).run P W = .ok (.agg (cA 0 0 0 z16 z16)) W := chn_parts hC W _ _ rfl
theorem chn_built2 (hC : ChnT P C T A E I) (bt sh : Int) {ts ps : List Int} (hF : F16 ts ps) (W : World) : (Instr.build C #[(0, .int .i64 bt), (2, .agg (fA sh ts ps))]).run P W = .ok (.agg (cA bt 0 sh ts ps)) W := by
  refine chn_parts hC W _ _ ?_
  rw [show (#[((0 : Nat), Value.int .i64 bt), (2, .agg (fA sh ts ps))] : Array (Nat × Value)).toList = [(0, .int .i64 bt), (2, .agg (fA sh ts ps))] from rfl, fill_step (off := 0) (size := 1) rfl rfl (by rw [cA_size f16z]; decide)]
  rw [show splA (cA 0 0 0 z16 z16) 0 (Value.int IntKind.i64 bt).cells.toList = cA bt 0 0 z16 z16 from cA_set_0 _]
  rw [fill_step (off := 2) (size := 33) rfl (by simp [Value.cells, fA_size hF.1 hF.2]) (by rw [cA_size f16z]; decide)]
  rw [show splA (cA bt 0 0 z16 z16) 2 (Value.agg (fA sh ts ps)).cells.toList = cA bt 0 sh ts ps from cA_spl_f f16z hF]
  rfl
theorem chn_built3 (hC : ChnT P C T A E I) (bt la sh : Int) {ts ps : List Int} (hF : F16 ts ps) (W : World) : (Instr.build C #[(0, .int .i64 bt), (1, .int .i32 la), (2, .agg (fA sh ts ps))]).run P W = .ok (.agg (cA bt la sh ts ps)) W := by
  refine chn_parts hC W _ _ ?_
  rw [show (#[((0 : Nat), Value.int .i64 bt), (1, .int .i32 la), (2, .agg (fA sh ts ps))] : Array (Nat × Value)).toList = [(0, .int .i64 bt), (1, .int .i32 la), (2, .agg (fA sh ts ps))] from rfl, fill_step (off := 0) (size := 1) rfl rfl (by rw [cA_size f16z]; decide)]
  rw [show splA (cA 0 0 0 z16 z16) 0 (Value.int IntKind.i64 bt).cells.toList = cA bt 0 0 z16 z16 from cA_set_0 _]
  rw [fill_step (off := 1) (size := 1) rfl rfl (by rw [cA_size f16z]; decide)]
  rw [show splA (cA bt 0 0 z16 z16) 1 (Value.int IntKind.i32 la).cells.toList = cA bt la 0 z16 z16 from cA_set_1 _]
  rw [fill_step (off := 2) (size := 33) rfl (by simp [Value.cells, fA_size hF.1 hF.2]) (by rw [cA_size f16z]; decide)]
  rw [show splA (cA bt la 0 z16 z16) 2 (Value.agg (fA sh ts ps)).cells.toList = cA bt la sh ts ps from cA_spl_f f16z hF]
  rfl
theorem chn_sz (hC : ChnT P C T A E I) {bt la sh : Int} {ts ps : List Int} (hF : F16 ts ps) : (P.info? C).map (·.size) = some (cA bt la sh ts ps).size := by rw [cA_size hF]; exact hC.size
end

/-- Block b is a channel's variable. -/
def CB (w : World) (b : Nat) (C : TypeId) (bt la sh : Int) (ts ps : List Int) : Prop := Blk w b C (cA bt la sh ts ps) ∧ F16 ts ps
section
variable {w w' : World} {b b' : Nat} {C T A E I : TypeId} {bt la sh bt' la' sh' : Int} {ts ps ts' ps' : List Int}
theorem CB.lt (h : CB w b C bt la sh ts ps) : b < w.heap.size := h.1.lt
theorem CB.next (h : CB w b C bt la sh ts ps) (hb : Below w.heap.size w w') : CB w' b C bt la sh ts ps := ⟨h.1.next hb, h.2⟩
theorem CB.only (h : CB w b' C bt la sh ts ps) (hne : b' ≠ b) (ho : Only b w w') : CB w' b' C bt la sh ts ps := ⟨h.1.only hne ho, h.2⟩
theorem CB.c0 (h : CB w b C bt la sh ts ps) : w.cell? ⟨b, 0, none⟩ = some (.int .i64 bt) := (h.1.cell 0).trans cA_0
theorem CB.c1 (h : CB w b C bt la sh ts ps) : w.cell? ⟨b, 1, none⟩ = some (.int .i32 la) := (h.1.cell 1).trans cA_1
theorem CB.c2 (h : CB w b C bt la sh ts ps) : w.cell? ⟨b, 2, none⟩ = some (.int .i64 sh) := (h.1.cell 2).trans cA_2
theorem CB.ct (h : CB w b C bt la sh ts ps) {i : Nat} (hi : i < 16) : w.cell? ⟨b, 3 + i, none⟩ = some (.int .i32 (ts.getD i 0)) := (h.1.cell _).trans (cA_t h.2 hi)
theorem CB.free (h : CB w b C bt la sh ts ps) (i : Nat) : w.frozen? ⟨b, i, none⟩ = false := h.1.free i
theorem CB.set1 (h : CB w b C bt la sh ts ps) (y : Int) : CB (w.setCell ⟨b, 1, none⟩ (.int .i32 y)) b C bt y sh ts ps := ⟨by have := h.1.set 1 (.int .i32 y); rwa [cA_set_1] at this, h.2⟩
variable {P : Program} {ops : Array Oper} {rest : List Oper} {o : Oper} {a a' : Act} {Q : Exit → Act → World → Prop}
theorem chn_box (hC : ChnT P C T A E I) (hg : o.guard = none) (x : Operand) (ho : o.op = .box C x) (hx : a.eval x = .agg (cA bt la sh ts ps)) (hF : F16 ts ps)
    (h : ∀ w' b, w.heap.size ≤ b → CB w' b C bt la sh ts ps → Below w.heap.size w w' → wpList P ops Q rest (a.put o.dst (.pointer (some ⟨b, 0, none⟩))) w') : wpList P ops Q (o :: rest) a w :=
  blk_box hg C x ho _ hx fun w' b hb hB bel => h w' b hb ⟨hB, hF⟩ bel
theorem chn_alloc (hC : ChnT P C T A E I) (hg : o.guard = none) (ho : o.op = .alloc C)
    (h : ∀ w' b, w.heap.size ≤ b → CB w' b C 0 0 0 z16 z16 → Below w.heap.size w w' → wpList P ops Q rest (a.put o.dst (.pointer (some ⟨b, 0, none⟩))) w') : wpList P ops Q (o :: rest) a w :=
  blk_alloc hg C ho _ hC.zero fun w' b hb hB bel => h w' b hb ⟨hB, f16z⟩ bel
theorem chn_load (hC : ChnT P C T A E I) (hg : o.guard = none) (x : Operand) (ho : o.op = .load C x) (hx : a.eval x = .pointer (some ⟨b, 0, none⟩)) (hb : CB w b C bt la sh ts ps)
    (h : wpList P ops Q rest (a.put o.dst (.agg (cA bt la sh ts ps))) w) : wpList P ops Q (o :: rest) a w := by
  obtain ⟨d, hu, hd⟩ := hC.row
  exact blk_load hg C x ho b 0 hx hb.1 _ (by rw [Nat.zero_add]; exact Array.extract_size) d hu hd (by rw [cA_size hb.2]; exact hC.size) h
theorem chn_loadF (hC : ChnT P C T A E I) (hg : o.guard = none) (x : Operand) (ho : o.op = .load T x) (hx : a.eval x = .pointer (some ⟨b, 2, none⟩)) (hb : CB w b C bt la sh ts ps)
    (h : wpList P ops Q rest (a.put o.dst (.agg (fA sh ts ps))) w) : wpList P ops Q (o :: rest) a w := by
  obtain ⟨d, hu, hd⟩ := hC.flt.row
  exact blk_load hg T x ho b 2 hx hb.1 _ (cA_ext_f hb.2) d hu hd (by rw [fA_size hb.2.1 hb.2.2]; exact hC.flt.size) h
theorem chn_loadT (hC : ChnT P C T A E I) (hg : o.guard = none) (x : Operand) (ho : o.op = .load A x) (hx : a.eval x = .pointer (some ⟨b, 3, none⟩)) (hb : CB w b C bt la sh ts ps)
    (h : wpList P ops Q rest (a.put o.dst (.agg (aA ts))) w) : wpList P ops Q (o :: rest) a w :=
  blk_load hg A x ho b 3 hx hb.1 _ (cA_ext_t hb.2) _ hC.flt.arr rfl (by rw [aA_size, hb.2.1]; exact hC.flt.asize) h
theorem chn_store (hC : ChnT P C T A E I) (hg : o.guard = none) (x y : Operand) (ho : o.op = .store C x y) (hx : a.eval x = .pointer (some ⟨b, 0, none⟩)) (hy : a.eval y = .agg (cA bt' la' sh' ts' ps')) (hb : CB w b C bt la sh ts ps) (hF : F16 ts' ps')
    (h : ∀ w', CB w' b C bt' la' sh' ts' ps' → Only b w w' → wpList P ops Q rest (a.put o.dst undef) w') : wpList P ops Q (o :: rest) a w :=
  blk_store hg C x y ho b 0 hx _ hy hb.1 (cA bt' la' sh' ts' ps') (splA_whole _ _ (by rw [cA_size hF, cA_size hb.2])) (by rw [cA_size hF, cA_size hb.2]; decide) (by rw [cA_size hF]; exact hC.size) cA_one
    fun w' h1 h2 => h w' ⟨h1, hF⟩ h2
theorem chn_bld0 (hC : ChnT P C T A E I) (hg : o.guard = none) (ho : o.op = .build C #[])
    (h : wpList P ops Q rest (a.put o.dst (.agg (cA 0 0 0 z16 z16))) w) : wpList P ops Q (o :: rest) a w := by
  refine wpl_val hg ?_ h
  simp only [execOp, ho, Sem.run_bind]
  have := chn_built hC w
  simp [this]
theorem chn_bld2 (hC : ChnT P C T A E I) (hg : o.guard = none) (x y : Operand) (ho : o.op = .build C #[(0, x), (2, y)]) (hx : a.eval x = .int .i64 bt) (hy : a.eval y = .agg (fA sh ts ps)) (hF : F16 ts ps)
    (h : wpList P ops Q rest (a.put o.dst (.agg (cA bt 0 sh ts ps))) w) : wpList P ops Q (o :: rest) a w := by
  refine wpl_val hg ?_ h
  have := chn_built2 hC bt sh hF w
  simp [execOp, ho, hx, hy, this]
theorem chn_res1 {fn : Func} {r u : Tmp} (hC : ChnT P C T A E I) (h : fn.results = #[.cell r C, .tmp u]) (tmps : Array Value) (w : World) (hr : tmps.getD r undef = .pointer (some ⟨b, 0, none⟩)) (hb : CB w b C bt la sh ts ps) :
    (results fn tmps).run P w = .ok (.tuple #[.agg (cA bt la sh ts ps), tmps.getD u undef]) w := by
  obtain ⟨d, hu, hd⟩ := hC.row
  exact results_cell_tmp h tmps w hr hb.1 d hu hd (chn_sz hC hb.2)
theorem chn_res2 {fn : Func} {v r u : Tmp} (hC : ChnT P C T A E I) (h : fn.results = #[.tmp v, .cell r C, .tmp u]) (tmps : Array Value) (w : World) (hr : tmps.getD r undef = .pointer (some ⟨b, 0, none⟩)) (hb : CB w b C bt la sh ts ps) :
    (results fn tmps).run P w = .ok (.tuple #[tmps.getD v undef, .agg (cA bt la sh ts ps), tmps.getD u undef]) w := by
  obtain ⟨d, hu, hd⟩ := hC.row
  exact results_tmp_cell_tmp h tmps w hr hb.1 d hu hd (chn_sz hC hb.2)
theorem chn_eq (hC : ChnT P C T A E I) (W : World) (hF : F16 ts ps) (hF' : F16 ts' ps') :
    (Op.equalIn 10000 C (.agg (cA bt la sh ts ps)) (.agg (cA bt' la' sh' ts' ps'))).run P W = .ok ((bt == bt') && (la == la') && ((sh == sh') && (ts == ts') && (ps == ps'))) W := hC.eq 9996 _ _ _ _ _ _ _ _ _ _ W hF hF'
end

theorem chn : ChnT Try.prog 26 24 22 21 3 where
  flt := {
    flds := ⟨_, _, _, Try.underlying24, by decide, by decide, by decide, rfl, rfl, rfl, rfl, rfl, rfl⟩
    held := by kernel_rfl
    arr := Try.underlying22
    elt := Try.underlying21
    int := Try.underlying3
    size := by kernel_rfl
    asize := by kernel_rfl
    esize := by kernel_rfl
    zero := by kernel_rfl
    azero := by kernel_rfl }
  flds := ⟨_, _, _, Try.underlying26, by decide, by decide, by decide, rfl, rfl, rfl, rfl, rfl, rfl⟩
  held := by kernel_rfl
  size := by kernel_rfl
  isize := by kernel_rfl
  zero := by kernel_rfl
end Go.Proofs.Ytgnmpkembcdkcaa

/-
  A filter's variable: what the operations on it leave. No conditions.
-/
import Derived.Test.YtnhdhjcpbonfjaaFlt
namespace Go.Proofs.Ytnhdhjcpbonfjaa
open Go.RowKit
set_option linter.unusedVariables false

def F16 (ts ps : List Int) : Prop := ts.length = 16 ∧ ps.length = 16
/-- Block b holds a filter. -/
def FB (w : World) (b : Nat) (T : TypeId) (sh : Int) (ts ps : List Int) : Prop := Blk w b T (fA sh ts ps) ∧ F16 ts ps
/-- Block b holds sixteen numbers. -/
def AB (w : World) (b : Nat) (T : TypeId) (xs : List Int) : Prop := Blk w b T (aA xs) ∧ xs.length = 16
theorem f16z : F16 z16 z16 := ⟨rfl, rfl⟩
theorem f16 {ts ps : List Int} (h1 : ts.length = 16) (h2 : ps.length = 16) : F16 ts ps := ⟨h1, h2⟩

section
variable {w w' : World} {b b' : Nat} {T A E I : TypeId} {sh sh' : Int} {ts ps ts' ps' xs : List Int}
theorem FB.lt (h : FB w b T sh ts ps) : b < w.heap.size := h.1.lt
theorem FB.next (h : FB w b T sh ts ps) (hb : Below w.heap.size w w') : FB w' b T sh ts ps := ⟨h.1.next hb, h.2⟩
theorem FB.only (h : FB w b' T sh ts ps) (hne : b' ≠ b) (ho : Only b w w') : FB w' b' T sh ts ps := ⟨h.1.only hne ho, h.2⟩
theorem FB.c0 (h : FB w b T sh ts ps) : w.cell? ⟨b, 0, none⟩ = some (.int .i64 sh) := (h.1.cell 0).trans (fA_0 _ _ _)
theorem FB.ct (h : FB w b T sh ts ps) {i : Nat} (hi : i < 16) : w.cell? ⟨b, 1 + i, none⟩ = some (.int .i32 (ts.getD i 0)) := (h.1.cell _).trans (fA_t h.2.1 hi)
theorem FB.cp (h : FB w b T sh ts ps) {i : Nat} (hi : i < 16) : w.cell? ⟨b, 17 + i, none⟩ = some (.int .i32 (ps.getD i 0)) := (h.1.cell _).trans (fA_p h.2.1 h.2.2 hi)
theorem FB.free (h : FB w b T sh ts ps) (i : Nat) : w.frozen? ⟨b, i, none⟩ = false := h.1.free i
theorem FB.drewN (h : FB w b T sh ts ps) (n : Nat) : FB (w.drewN n) b T sh ts ps := h
theorem FB.set0 (h : FB w b T sh ts ps) (y : Int) : FB (w.setCell ⟨b, 0, none⟩ (.int .i64 y)) b T y ts ps := ⟨by have := h.1.set 0 (.int .i64 y); rwa [fA_set_0] at this, h.2⟩
theorem FB.setT (h : FB w b T sh ts ps) {i : Nat} (hi : i < 16) (y : Int) : FB (w.setCell ⟨b, 1 + i, none⟩ (.int .i32 y)) b T sh (ts.set i y) ps :=
  ⟨by have := h.1.set (1 + i) (.int .i32 y); rwa [fA_set_t h.2.1 hi] at this, by simp [h.2.1], h.2.2⟩
theorem FB.setP (h : FB w b T sh ts ps) (i : Nat) (y : Int) : FB (w.setCell ⟨b, 17 + i, none⟩ (.int .i32 y)) b T sh ts (ps.set i y) :=
  ⟨by have := h.1.set (17 + i) (.int .i32 y); rwa [fA_set_p h.2.1] at this, h.2.1, by simp [h.2.2]⟩
theorem AB.lt (h : AB w b T xs) : b < w.heap.size := h.1.lt
theorem AB.next (h : AB w b T xs) (hb : Below w.heap.size w w') : AB w' b T xs := ⟨h.1.next hb, h.2⟩
theorem AB.only (h : AB w b' T xs) (hne : b' ≠ b) (ho : Only b w w') : AB w' b' T xs := ⟨h.1.only hne ho, h.2⟩

variable {P : Program} {ops : Array Oper} {rest : List Oper} {o : Oper} {a : Act} {Q : Exit → Act → World → Prop}
theorem FltT.row (hT : FltT P T A E I) : ∃ d : TypeDesc, P.underlying T = some d ∧ d.isRow = true := by
  obtain ⟨f0, f1, f2, hu, _⟩ := hT.flds
  exact ⟨_, hu, rfl⟩
theorem flt_box (hT : FltT P T A E I) (hg : o.guard = none) (x : Operand) (ho : o.op = .box T x) (hx : a.eval x = .agg (fA sh ts ps)) (hF : F16 ts ps)
    (h : ∀ w' b, w.heap.size ≤ b → FB w' b T sh ts ps → Below w.heap.size w w' → wpList P ops Q rest (a.put o.dst (.pointer (some ⟨b, 0, none⟩))) w') : wpList P ops Q (o :: rest) a w :=
  blk_box hg T x ho _ hx fun w' b hb hB bel => h w' b hb ⟨hB, hF⟩ bel
theorem flt_alloc (hT : FltT P T A E I) (hg : o.guard = none) (ho : o.op = .alloc T)
    (h : ∀ w' b, w.heap.size ≤ b → FB w' b T 0 z16 z16 → Below w.heap.size w w' → wpList P ops Q rest (a.put o.dst (.pointer (some ⟨b, 0, none⟩))) w') : wpList P ops Q (o :: rest) a w :=
  blk_alloc hg T ho _ hT.zero fun w' b hb hB bel => h w' b hb ⟨hB, f16z⟩ bel
theorem flt_load (hT : FltT P T A E I) (hg : o.guard = none) (x : Operand) (ho : o.op = .load T x) (hx : a.eval x = .pointer (some ⟨b, 0, none⟩)) (hb : FB w b T sh ts ps)
    (h : wpList P ops Q rest (a.put o.dst (.agg (fA sh ts ps))) w) : wpList P ops Q (o :: rest) a w := by
  obtain ⟨d, hu, hd⟩ := hT.row
  exact blk_load hg T x ho b 0 hx hb.1 _ (by rw [Nat.zero_add]; exact Array.extract_size) d hu hd (by rw [fA_size hb.2.1 hb.2.2]; exact hT.size) h
theorem flt_loadT (hT : FltT P T A E I) (hg : o.guard = none) (x : Operand) (ho : o.op = .load A x) (hx : a.eval x = .pointer (some ⟨b, 1, none⟩)) (hb : FB w b T sh ts ps)
    (h : wpList P ops Q rest (a.put o.dst (.agg (aA ts))) w) : wpList P ops Q (o :: rest) a w :=
  blk_load hg A x ho b 1 hx hb.1 _ (fA_ext_t hb.2.1) _ hT.arr rfl (by rw [aA_size, hb.2.1]; exact hT.asize) h
theorem flt_loadP (hT : FltT P T A E I) (hg : o.guard = none) (x : Operand) (ho : o.op = .load A x) (hx : a.eval x = .pointer (some ⟨b, 17, none⟩)) (hb : FB w b T sh ts ps)
    (h : wpList P ops Q rest (a.put o.dst (.agg (aA ps))) w) : wpList P ops Q (o :: rest) a w :=
  blk_load hg A x ho b 17 hx hb.1 _ (fA_ext_p hb.2.1 hb.2.2) _ hT.arr rfl (by rw [aA_size, hb.2.2]; exact hT.asize) h
theorem flt_store (hT : FltT P T A E I) (hg : o.guard = none) (x y : Operand) (ho : o.op = .store T x y) (hx : a.eval x = .pointer (some ⟨b, 0, none⟩)) (hy : a.eval y = .agg (fA sh' ts' ps')) (hb : FB w b T sh ts ps) (hF : F16 ts' ps')
    (h : ∀ w', FB w' b T sh' ts' ps' → Only b w w' → wpList P ops Q rest (a.put o.dst undef) w') : wpList P ops Q (o :: rest) a w :=
  blk_store hg T x y ho b 0 hx _ hy hb.1 (fA sh' ts' ps') (splA_whole _ _ (by rw [fA_size hF.1 hF.2, fA_size hb.2.1 hb.2.2])) (by rw [fA_size hF.1 hF.2, fA_size hb.2.1 hb.2.2]; decide) (by rw [fA_size hF.1 hF.2]; exact hT.size) (fA_one _ _ _)
    fun w' h1 h2 => h w' ⟨h1, hF⟩ h2
theorem flt_storeT (hT : FltT P T A E I) (hg : o.guard = none) (x y : Operand) (ho : o.op = .store A x y) (hx : a.eval x = .pointer (some ⟨b, 1, none⟩)) (hy : a.eval y = .agg (aA xs)) (hb : FB w b T sh ts ps) (hF : xs.length = 16)
    (h : ∀ w', FB w' b T sh xs ps → Only b w w' → wpList P ops Q rest (a.put o.dst undef) w') : wpList P ops Q (o :: rest) a w :=
  blk_store hg A x y ho b 1 hx _ hy hb.1 _ (fA_spl_t hb.2.1 hF hb.2.2) (by rw [aA_size, fA_size hb.2.1 hb.2.2, hF]; decide) (by rw [aA_size, hF]; exact hT.asize) (aA_one _)
    fun w' h1 h2 => h w' ⟨h1, hF, hb.2.2⟩ h2
theorem flt_storeP (hT : FltT P T A E I) (hg : o.guard = none) (x y : Operand) (ho : o.op = .store A x y) (hx : a.eval x = .pointer (some ⟨b, 17, none⟩)) (hy : a.eval y = .agg (aA xs)) (hb : FB w b T sh ts ps) (hF : xs.length = 16)
    (h : ∀ w', FB w' b T sh ts xs → Only b w w' → wpList P ops Q rest (a.put o.dst undef) w') : wpList P ops Q (o :: rest) a w :=
  blk_store hg A x y ho b 17 hx _ hy hb.1 _ (fA_spl_p hb.2.1 hF hb.2.2) (by rw [aA_size, fA_size hb.2.1 hb.2.2, hF]; decide) (by rw [aA_size, hF]; exact hT.asize) (aA_one _)
    fun w' h1 h2 => h w' ⟨h1, hb.2.1, hF⟩ h2
theorem arr_box (hT : FltT P T A E I) (hg : o.guard = none) (x : Operand) (ho : o.op = .box A x) (hx : a.eval x = .agg (aA xs)) (hF : xs.length = 16)
    (h : ∀ w' b, w.heap.size ≤ b → AB w' b A xs → Below w.heap.size w w' → wpList P ops Q rest (a.put o.dst (.pointer (some ⟨b, 0, none⟩))) w') : wpList P ops Q (o :: rest) a w :=
  blk_box hg A x ho _ hx fun w' b hb hB bel => h w' b hb ⟨hB, hF⟩ bel
theorem arr_load (hT : FltT P T A E I) (hg : o.guard = none) (x : Operand) (ho : o.op = .load A x) (hx : a.eval x = .pointer (some ⟨b, 0, none⟩)) (hb : AB w b A xs)
    (h : wpList P ops Q rest (a.put o.dst (.agg (aA xs))) w) : wpList P ops Q (o :: rest) a w :=
  blk_load hg A x ho b 0 hx hb.1 _ (by rw [Nat.zero_add]; exact Array.extract_size) _ hT.arr rfl (by rw [aA_size, hb.2]; exact hT.asize) h
theorem arr_index (hT : FltT P T A E I) (hx : xs.length = 16) {k : Nat} (hk : k < 16) (W : World) : (Instr.index A (.agg (aA xs)) (.int .i64 (k : Int))).run P W = .ok (.int .i32 (xs.getD k 0)) W := by
  have e : (aA xs)[k]? = some (.int .i32 (xs.getD k 0)) := by
    simp only [aA, List.getElem?_toArray, List.getElem?_map, List.getD_eq_getElem?_getD]
    rw [List.getElem?_eq_getElem (by omega)]; rfl
  have sz := sizeOf_run hT.esize W
  simp [Instr.index, asIntOf, run_underlying hT.arr, sz, part, isAgg, run_underlying hT.elt, e, Sem.run_bind, hk]
theorem fold_spl (o : Nat) : ∀ (l : List Value) (n : Nat) (cs : Array Value), (l.zipIdx n).foldl (fun cs (x : Value × Nat) => cs.setIfInBounds (o + x.2) x.1) cs = splA cs (o + n) l
  | [], _, _ => rfl
  | v :: r, n, cs => by
    rw [List.zipIdx_cons, List.foldl_cons, fold_spl o r (n + 1)]
    rfl
theorem fill_step {place : Nat → Option (Nat × Nat)} {cells : Array Value} {i off size : Nat} {v : Value} {rest : List (Nat × Value)} (hp : place i = some (off, size)) (h1 : v.cells.size = size) (h2 : off + size ≤ cells.size) :
    Instr.fill place cells ((i, v) :: rest) = Instr.fill place (splA cells off v.cells.toList) rest := by
  have e : (v.cells.zipIdx.foldl (fun cs (x : Value × Nat) => cs.setIfInBounds (off + x.2) x.1) cells) = splA cells off v.cells.toList := by
    rw [← Array.foldl_toList, Array.toList_zipIdx]
    exact fold_spl off v.cells.toList 0 cells
  rw [Instr.fill, hp]
  simp only [h1]
  rw [if_neg (by simp; omega), ← e]
theorem flt_parts (hT : FltT P T A E I) (W : World) (parts : Array (Nat × Value)) (cs : Array Value)
    (h : Instr.fill (fun i => ([(0, 1), (1, 16), (17, 16)] : List (Nat × Nat))[i]?) (fA 0 z16 z16) parts.toList = some cs) (hI : (P.info? I).map (·.size) = some 1) : (Instr.build T parts).run P W = .ok (.agg cs) W := by
  obtain ⟨f0, f1, f2, hu, n0, n1, n2, y0, y1, y2, o0, o1, o2⟩ := hT.flds
  have sI := sizeOf_run hI W
  have sA := sizeOf_run hT.asize W
  cases hi : P.info? T with
  | none => have := hT.zero; simp [hi] at this
  | some i =>
    have hz := hT.zero
    simp only [hi, Option.bind_some] at hz
    simp [Instr.build, zeroValue, typeInfo, hi, hz, run_underlying hu, y0, y1, y2, o0, o1, o2, sI, sA, h, Value.cells]
theorem flt_built (hT : FltT P T A E I) (hI : (P.info? I).map (·.size) = some 1) (W : World) : (Instr.build T #[]).run P W = .ok (.agg (fA 0 z16 z16)) W := flt_parts hT W _ _ rfl hI
theorem flt_built1 (hT : FltT P T A E I) (hI : (P.info? I).map (·.size) = some 1) (s : Int) (W : World) : (Instr.build T #[(0, .int .i64 s)]).run P W = .ok (.agg (fA s z16 z16)) W := by
  refine flt_parts hT W _ _ ?_ hI
  rw [show (#[((0 : Nat), Value.int .i64 s)] : Array (Nat × Value)).toList = [(0, .int .i64 s)] from rfl, fill_step (off := 0) (size := 1) rfl rfl (by rw [fA_size rfl rfl]; decide)]
  rw [show splA (fA 0 z16 z16) 0 (Value.int IntKind.i64 s).cells.toList = fA s z16 z16 from fA_set_0 _ _ _ _]
  rfl
theorem flt_built2 (hT : FltT P T A E I) (hI : (P.info? I).map (·.size) = some 1) (s : Int) (ht : ts.length = 16) (W : World) : (Instr.build T #[(0, .int .i64 s), (1, .agg (aA ts))]).run P W = .ok (.agg (fA s ts z16)) W := by
  refine flt_parts hT W _ _ ?_ hI
  rw [show (#[((0 : Nat), Value.int .i64 s), (1, .agg (aA ts))] : Array (Nat × Value)).toList = [(0, .int .i64 s), (1, .agg (aA ts))] from rfl, fill_step (off := 0) (size := 1) rfl rfl (by rw [fA_size rfl rfl]; decide)]
  rw [show splA (fA 0 z16 z16) 0 (Value.int IntKind.i64 s).cells.toList = fA s z16 z16 from fA_set_0 _ _ _ _]
  rw [fill_step (off := 1) (size := 16) rfl (by simp [Value.cells, aA_size, ht]) (by rw [fA_size rfl rfl]; decide)]
  rw [show splA (fA s z16 z16) 1 (Value.agg (aA ts)).cells.toList = fA s ts z16 from fA_spl_t rfl ht rfl]
  rfl
theorem flt_sz (hT : FltT P T A E I) (hF : F16 ts ps) : (P.info? T).map (·.size) = some (fA sh ts ps).size := by rw [fA_size hF.1 hF.2]; exact hT.size
theorem flt_res0 {fn : Func} {r : Tmp} (hT : FltT P T A E I) (h : fn.results = #[.cell r T]) (tmps : Array Value) (w : World) (hr : tmps.getD r undef = .pointer (some ⟨b, 0, none⟩)) (hb : FB w b T sh ts ps) :
    (results fn tmps).run P w = .ok (.agg (fA sh ts ps)) w := by
  obtain ⟨d, hu, hd⟩ := hT.row
  exact results_cell h tmps w hr hb.1 d hu hd (flt_sz hT hb.2)
theorem flt_res1 {fn : Func} {r u : Tmp} (hT : FltT P T A E I) (h : fn.results = #[.cell r T, .tmp u]) (tmps : Array Value) (w : World) (hr : tmps.getD r undef = .pointer (some ⟨b, 0, none⟩)) (hb : FB w b T sh ts ps) :
    (results fn tmps).run P w = .ok (.tuple #[.agg (fA sh ts ps), tmps.getD u undef]) w := by
  obtain ⟨d, hu, hd⟩ := hT.row
  exact results_cell_tmp h tmps w hr hb.1 d hu hd (flt_sz hT hb.2)
theorem flt_res2 {fn : Func} {v r u : Tmp} (hT : FltT P T A E I) (h : fn.results = #[.tmp v, .cell r T, .tmp u]) (tmps : Array Value) (w : World) (hr : tmps.getD r undef = .pointer (some ⟨b, 0, none⟩)) (hb : FB w b T sh ts ps) :
    (results fn tmps).run P w = .ok (.tuple #[tmps.getD v undef, .agg (fA sh ts ps), tmps.getD u undef]) w := by
  obtain ⟨d, hu, hd⟩ := hT.row
  exact results_tmp_cell_tmp h tmps w hr hb.1 d hu hd (flt_sz hT hb.2)
theorem wpl_val {v : Value} (hg : o.guard = none) (hrun : (execOp a.eval o).run P w = .ok (.value v) w) (h : wpList P ops Q rest (a.put o.dst v) w) : wpList P ops Q (o :: rest) a w := by
  refine wpList_plain hg fun K hK => ?_
  unfold Oper.wp
  rw [hrun]
  exact hK _ _ h
theorem cell_store {ty : TypeId} (hg : o.guard = none) (x y : Operand) (ho : o.op = .store ty x y) {off : Nat} (hx : a.eval x = .pointer (some ⟨b, off, none⟩)) {k : IntKind} {v : Int} (hy : a.eval y = .int k v)
    (hc : (w.cell? ⟨b, off, none⟩).isSome = true) (hf : w.frozen? ⟨b, off, none⟩ = false) (hi : (P.info? ty).map (·.size) = some 1)
    (h : wpList P ops Q rest (a.put o.dst undef) (w.setCell ⟨b, off, none⟩ (.int k v))) : wpList P ops Q (o :: rest) a w := by
  refine wpList_plain hg fun K hK => ?_
  have j0 : ∀ j, j < [Value.int k v].length → j = 0 := fun j hj => by simpa using hj
  have hs := run_storeCells_cells (P := P) b off [.int k v] 0 w (fun j hj => by rw [j0 j hj]; exact hc) (fun j hj => by rw [j0 j hj]; exact hf) (fun v hv => by rw [List.mem_singleton.1 hv]; rfl)
  simp only [Nat.add_zero] at hs
  cases hq : P.info? ty with
  | none => simp [hq] at hi
  | some i =>
    have hsz : i.size = 1 := by simpa [hq] using hi
    unfold Oper.wp execOp
    simp only [ho, hx, hy, Instr.storeAt, Instr.sureAddr, Sem.run_bind, Sem.run_pure, Result.andThen_ok]
    simp [storeVar, sizeOf, typeInfo, hq, Value.cells, hsz, hs, World.setCells]
    exact hK _ _ h
theorem flt_set0 (hT : FltT P T A E I) (hI : (P.info? I).map (·.size) = some 1) (hg : o.guard = none) (x y : Operand) (ho : o.op = .store I x y) (hx : a.eval x = .pointer (some ⟨b, 0, none⟩)) {v : Int} (hy : a.eval y = .int .i64 v) (hb : FB w b T sh ts ps)
    (h : ∀ w', FB w' b T v ts ps → Only b w w' → wpList P ops Q rest (a.put o.dst undef) w') : wpList P ops Q (o :: rest) a w :=
  cell_store hg x y ho hx hy (by rw [hb.c0]; rfl) (hb.free _) hI (h _ (hb.set0 v) (Only.set w b 0 _))
theorem flt_setT (hT : FltT P T A E I) (hg : o.guard = none) (x y : Operand) (ho : o.op = .store E x y) {off k : Nat} (hoff : off = 1 + k) (hx : a.eval x = .pointer (some ⟨b, off, none⟩)) {v : Int} (hy : a.eval y = .int .i32 v) (hb : FB w b T sh ts ps) (hk : k < 16)
    (h : ∀ w', FB w' b T sh (ts.set k v) ps → Only b w w' → wpList P ops Q rest (a.put o.dst undef) w') : wpList P ops Q (o :: rest) a w := by
  subst hoff
  exact cell_store hg x y ho hx hy (by rw [hb.ct hk]; rfl) (hb.free _) hT.esize (h _ (hb.setT hk v) (Only.set w b _ _))
theorem flt_setP (hT : FltT P T A E I) (hg : o.guard = none) (x y : Operand) (ho : o.op = .store E x y) {off k : Nat} (hoff : off = 17 + k) (hx : a.eval x = .pointer (some ⟨b, off, none⟩)) {v : Int} (hy : a.eval y = .int .i32 v) (hb : FB w b T sh ts ps) (hk : k < 16)
    (h : ∀ w', FB w' b T sh ts (ps.set k v) → Only b w w' → wpList P ops Q rest (a.put o.dst undef) w') : wpList P ops Q (o :: rest) a w := by
  subst hoff
  exact cell_store hg x y ho hx hy (by rw [hb.cp hk]; rfl) (hb.free _) hT.esize (h _ (hb.setP k v) (Only.set w b _ _))
theorem flt_bld0 (hT : FltT P T A E I) (hI : (P.info? I).map (·.size) = some 1) (hg : o.guard = none) (ho : o.op = .build T #[])
    (h : wpList P ops Q rest (a.put o.dst (.agg (fA 0 z16 z16))) w) : wpList P ops Q (o :: rest) a w := by
  refine wpl_val hg ?_ h
  have := flt_built hT hI w
  simp only [execOp, ho, Sem.run_bind]
  simp [this]
theorem flt_bld1 (hT : FltT P T A E I) (hI : (P.info? I).map (·.size) = some 1) (hg : o.guard = none) (x : Operand) (ho : o.op = .build T #[(0, x)]) {s : Int} (hx : a.eval x = .int .i64 s)
    (h : wpList P ops Q rest (a.put o.dst (.agg (fA s z16 z16))) w) : wpList P ops Q (o :: rest) a w := by
  refine wpl_val hg ?_ h
  have := flt_built1 hT hI s w
  simp only [execOp, ho, Sem.run_bind]
  simp [this, hx]
theorem flt_bld2 (hT : FltT P T A E I) (hI : (P.info? I).map (·.size) = some 1) (hg : o.guard = none) (x y : Operand) (ho : o.op = .build T #[(0, x), (1, y)]) {s : Int} (hx : a.eval x = .int .i64 s) (hy : a.eval y = .agg (aA ts)) (ht : ts.length = 16)
    (h : wpList P ops Q rest (a.put o.dst (.agg (fA s ts z16))) w) : wpList P ops Q (o :: rest) a w := by
  refine wpl_val hg ?_ h
  have := flt_built2 hT hI s ht w
  simp only [execOp, ho, Sem.run_bind]
  simp [this, hx, hy]
theorem arr_idx (hT : FltT P T A E I) (hg : o.guard = none) (x y : Operand) (ho : o.op = .index A x y) {k : Nat} (hx : a.eval x = .agg (aA xs)) (hy : a.eval y = .int .i64 (k : Int)) (hl : xs.length = 16) (hk : k < 16) {v : Int} (hv : xs.getD k 0 = v)
    (h : wpList P ops Q rest (a.put o.dst (.int .i32 v)) w) : wpList P ops Q (o :: rest) a w := by
  subst hv
  refine wpl_val hg ?_ h
  have := arr_index hT hl hk w
  simp only [execOp, ho, Sem.run_bind]
  simp [this, hx, hy]
theorem arr_bld0 (hT : FltT P T A E I) (hg : o.guard = none) (ho : o.op = .build A #[])
    (h : wpList P ops Q rest (a.put o.dst (.agg (aA z16))) w) : wpList P ops Q (o :: rest) a w := by
  refine wpl_val hg ?_ h
  have hz := hT.azero
  cases hi : P.info? A with
  | none => simp [hi] at hz
  | some i =>
    simp only [hi, Option.bind_some] at hz
    simp only [execOp, ho, Sem.run_bind]
    simp [Instr.build, zeroValue, typeInfo, hi, hz, run_underlying hT.arr, sizeOf_run hT.esize w, Instr.fill, Value.cells]
end
end Go.Proofs.Ytnhdhjcpbonfjaa

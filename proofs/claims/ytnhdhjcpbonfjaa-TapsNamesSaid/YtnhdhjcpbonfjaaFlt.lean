/-
  A filter as a value: 33 cells, and how two of them are compared. No conditions.
-/
import Derived.Test.YtnhdhjcpbonfjaaBlk
namespace Go.Proofs.Ytnhdhjcpbonfjaa
open Go.RowKit
set_option linter.unusedVariables false

def aA (xs : List Int) : Array Value := (xs.map (Value.int .i32)).toArray
def fL (sh : Int) (ts ps : List Int) : List Value := Value.int .i64 sh :: (ts.map (Value.int .i32) ++ ps.map (Value.int .i32))
def fA (sh : Int) (ts ps : List Int) : Array Value := (fL sh ts ps).toArray
def z16 : List Int := [0, 0, 0, 0, 0, 0, 0, 0, 0, 0, 0, 0, 0, 0, 0, 0]
theorem z16_len : z16.length = 16 := rfl

theorem aA_size (xs : List Int) : (aA xs).size = xs.length := by simp [aA]
theorem fA_size {sh : Int} {ts ps : List Int} (ht : ts.length = 16) (hp : ps.length = 16) : (fA sh ts ps).size = 33 := by simp [fA, fL, ht, hp]
theorem aA_one (xs : List Int) : (aA xs).all (·.oneCell') = true := by
  simp only [aA]
  exact all_oneCell_toArray (ints_oneCell' .i32 xs)
theorem fA_one (sh : Int) (ts ps : List Int) : (fA sh ts ps).all (·.oneCell') = true := by
  refine all_oneCell_toArray fun v hv => ?_
  simp only [fL, List.mem_cons, List.mem_append, List.mem_map] at hv
  rcases hv with rfl | ⟨x, _, rfl⟩ | ⟨x, _, rfl⟩ <;> rfl
theorem fA_0 (sh : Int) (ts ps : List Int) : (fA sh ts ps)[0]? = some (.int .i64 sh) := by simp [fA, fL]
theorem fA_t {sh : Int} {ts ps : List Int} (ht : ts.length = 16) {i : Nat} (hi : i < 16) : (fA sh ts ps)[1 + i]? = some (.int .i32 (ts.getD i 0)) := by
  simp only [fA, fL, List.getElem?_toArray]
  rw [Nat.add_comm 1 i, List.getElem?_cons_succ, List.getElem?_append_left (by simp; omega), List.getElem?_map, List.getD_eq_getElem?_getD, List.getElem?_eq_getElem (by omega)]
  rfl
theorem fA_p {sh : Int} {ts ps : List Int} (ht : ts.length = 16) (hp : ps.length = 16) {i : Nat} (hi : i < 16) : (fA sh ts ps)[17 + i]? = some (.int .i32 (ps.getD i 0)) := by
  simp only [fA, fL, List.getElem?_toArray]
  rw [show 17 + i = (16 + i) + 1 by omega, List.getElem?_cons_succ, List.getElem?_append_right (by simp; omega), List.getElem?_map, List.getD_eq_getElem?_getD]
  simp only [List.length_map, ht]
  rw [show 16 + i - 16 = i by omega, List.getElem?_eq_getElem (by omega)]
  rfl
theorem fA_ext_t {sh : Int} {ts ps : List Int} (ht : ts.length = 16) : (fA sh ts ps).extract 1 (1 + (aA ts).size) = aA ts := by
  apply Array.ext'
  rw [Array.toList_extract, aA_size, ht]
  simp only [fA, fL, aA, List.extract, List.drop_one, List.tail_cons]
  rw [List.take_append_of_le_length (by simp [ht])]
  simp [List.take_of_length_le, ht]
theorem fA_ext_p {sh : Int} {ts ps : List Int} (ht : ts.length = 16) (hp : ps.length = 16) : (fA sh ts ps).extract 17 (17 + (aA ps).size) = aA ps := by
  apply Array.ext'
  rw [Array.toList_extract, aA_size, hp]
  have e : (fA sh ts ps).toList.drop 17 = ps.map (Value.int .i32) := by
    simp only [fA, fL]
    rw [show (17 : Nat) = 16 + 1 from rfl, List.drop_succ_cons, List.drop_append_of_le_length (by simp [ht]), List.drop_of_length_le (by simp [ht])]
    rfl
  simp only [List.extract, aA]
  rw [e]
  simp [List.take_of_length_le, hp]
theorem fA_set_0 (sh sh' : Int) (ts ps : List Int) : (fA sh ts ps).setIfInBounds 0 (.int .i64 sh') = fA sh' ts ps := by
  apply Array.ext'; simp [fA, fL]
theorem fA_set_t {sh : Int} {ts ps : List Int} (ht : ts.length = 16) {i : Nat} (hi : i < 16) (y : Int) : (fA sh ts ps).setIfInBounds (1 + i) (.int .i32 y) = fA sh (ts.set i y) ps := by
  apply Array.ext'
  simp only [fA, fL, Array.toList_setIfInBounds]
  rw [Nat.add_comm 1 i, List.set_cons_succ, List.set_append_left _ _ (by simp; omega), List.map_set]
theorem fA_set_p {sh : Int} {ts ps : List Int} (ht : ts.length = 16) {i : Nat} (y : Int) : (fA sh ts ps).setIfInBounds (17 + i) (.int .i32 y) = fA sh ts (ps.set i y) := by
  apply Array.ext'
  simp only [fA, fL, Array.toList_setIfInBounds]
  rw [show 17 + i = (16 + i) + 1 by omega, List.set_cons_succ, List.set_append_right _ _ (by simp; omega), List.length_map, ht, List.map_set]
  simp
theorem fA_spl_t {sh : Int} {ts ps us : List Int} (ht : ts.length = 16) (hu : us.length = 16) (hp : ps.length = 16) : splA (fA sh ts ps) 1 (aA us).toList = fA sh us ps := by
  apply Array.ext'
  rw [splA_list _ _ _ (by rw [fA_size ht hp]; simp [aA, hu])]
  simp only [fA, fL, aA, List.length_map, hu]
  simp [ht]
theorem fA_spl_p {sh : Int} {ts ps us : List Int} (ht : ts.length = 16) (hu : us.length = 16) (hp : ps.length = 16) : splA (fA sh ts ps) 17 (aA us).toList = fA sh ts us := by
  apply Array.ext'
  rw [splA_list _ _ _ (by rw [fA_size ht hp]; simp [aA, hu])]
  simp only [fA, fL, aA, List.length_map, hu]
  rw [show (17 : Nat) = 16 + 1 from rfl, List.take_succ_cons, List.take_append_of_le_length (by simp [ht]), List.take_of_length_le (by simp [ht])]
  rw [show 16 + 1 + 16 = 32 + 1 from rfl, List.drop_succ_cons, List.drop_of_length_le (by simp [ht, hp])]
  simp

section
variable {P : Program}
theorem all_range_int : ∀ (xs ys : List Int), xs.length = ys.length → ((List.range xs.length).all fun i => xs.getD i 0 == ys.getD i 0) = (xs == ys)
  | [], [], _ => rfl
  | x :: xs, y :: ys, h => by
    have ih := all_range_int xs ys (by simpa using h)
    rw [List.length_cons, List.range_succ_eq_map, List.all_cons, List.all_map]
    simp only [List.getD_cons_zero, Function.comp_def, List.getD_cons_succ, ih]
    simp [List.cons_beq_cons]
  | [], _ :: _, h => by simp at h
  | _ :: _, [], h => by simp at h
theorem run_equalIn_ints (w : World) (d : Nat) (t e : TypeId) (n : Nat) (ht : P.underlying t = some (.array n e)) (he : P.underlying e = some (.int .i32)) (hsz : ∀ w, (sizeOf e).run P w = .ok 1 w)
    (xs ys : List Int) (hx : xs.length = n) (hy : ys.length = n) :
    (Op.equalIn (d + 2) t (.agg (aA xs)) (.agg (aA ys))).run P w = .ok (xs == ys) w := by
  rw [← all_range_int xs ys (hx.trans hy.symm), hx, List.range_eq_range', Op.equalIn]
  simp only [Sem.run_bind, run_underlying ht, Result.andThen_ok, hsz, Std.Legacy.Range.forIn_eq_forIn_range', Std.Legacy.Range.size, Nat.sub_zero, Nat.add_sub_cancel, Nat.div_one]
  have hl : ∀ i ∈ List.range' 0 n 1, i < n := fun i hi => by simpa using (List.mem_range'_1.1 hi).2
  generalize List.range' 0 n 1 = l at hl ⊢
  induction l with
  | nil => simp
  | cons i l ih =>
    have hi : i < n := hl i (by simp)
    have px : (part e (aA xs) (i * 1)).run P w = .ok (.int .i32 (xs.getD i 0)) w := by
      simp [part, isAgg, run_underlying he, List.getD, aA, List.getElem?_eq_getElem (show i < xs.length by omega)]
    have py : (part e (aA ys) (i * 1)).run P w = .ok (.int .i32 (ys.getD i 0)) w := by
      simp [part, isAgg, run_underlying he, List.getD, aA, List.getElem?_eq_getElem (show i < ys.length by omega)]
    have pe : (Op.equalIn (d + 1) e (.int .i32 (xs.getD i 0)) (.int .i32 (ys.getD i 0))).run P w = .ok (xs.getD i 0 == ys.getD i 0) w := run_equalIn_int w d e .i32 .i32 _ _ he
    simp only [List.forIn_cons, Sem.run_bind, px, py, pe, Result.andThen_ok, List.all_cons]
    cases hb : (xs.getD i 0 == ys.getD i 0)
    · simp
    · simp only [Bool.not_true, Bool.false_eq_true, if_false, Sem.run_pure, Result.andThen_ok, Bool.true_and]
      exact ih fun j hj => hl j (by simp [hj])
end

/-- the type of filters, as the program has it -/
structure FltT (P : Program) (T A E I : TypeId) : Prop where
  flds : ∃ f0 f1 f2 : Field, P.underlying T = some (.struct #[f0, f1, f2]) ∧ f0.name ≠ "_" ∧ f1.name ≠ "_" ∧ f2.name ≠ "_" ∧ f0.type = I ∧ f1.type = A ∧ f2.type = A ∧ f0.offset = 0 ∧ f1.offset = 1 ∧ f2.offset = 17
  held : P.stoodInHeld T = false
  arr : P.underlying A = some (.array 16 E)
  elt : P.underlying E = some (.int .i32)
  int : P.underlying I = some (.int .i64)
  size : (P.info? T).map (·.size) = some 33
  asize : (P.info? A).map (·.size) = some 16
  esize : (P.info? E).map (·.size) = some 1
  zero : (P.info? T).bind (·.zero) = some (.agg (fA 0 z16 z16))
  azero : (P.info? A).bind (·.zero) = some (.agg (aA z16))

theorem sizeOf_run {P : Program} {t : TypeId} {n : Nat} (h : (P.info? t).map (·.size) = some n) (w : World) : (sizeOf t).run P w = .ok n w := by
  cases hi : P.info? t with
  | none => simp [hi] at h
  | some i => simp [hi] at h; simp [sizeOf, typeInfo, hi, h]

section
variable {P : Program} {T A E I : TypeId}
theorem FltT.eq (h : FltT P T A E I) (d : Nat) (sh sh' : Int) (ts ps ts' ps' : List Int) (w : World) (ht : ts.length = 16) (hp : ps.length = 16) (ht' : ts'.length = 16) (hp' : ps'.length = 16) :
    (Op.equalIn (d + 3) T (.agg (fA sh ts ps)) (.agg (fA sh' ts' ps'))).run P w = .ok ((sh == sh') && (ts == ts') && (ps == ps')) w := by
  obtain ⟨f0, f1, f2, hu, n0, n1, n2, y0, y1, y2, o0, o1, o2⟩ := h.flds
  have hfo : P.fieldsOf T = #[f0, f1, f2] := by simp [Program.fieldsOf, hu]
  rw [run_equalIn_struct w (d + 2) T _ _ (by rw [hfo]; exact hu) h.held, hfo]
  have aggA : (isAgg A).run P w = .ok true w := by simp [isAgg, run_underlying h.arr]
  have aggI : (isAgg I).run P w = .ok false w := by simp [isAgg, run_underlying h.int]
  have szA := sizeOf_run h.asize w
  have e1 : (part A (fA sh ts ps) 1).run P w = .ok (.agg (aA ts)) w := by
    have := fA_ext_t (sh := sh) (ps := ps) ht
    rw [aA_size, ht] at this
    simp [part, aggA, szA, this, Sem.run_bind]
  have e1' : (part A (fA sh' ts' ps') 1).run P w = .ok (.agg (aA ts')) w := by
    have := fA_ext_t (sh := sh') (ps := ps') ht'
    rw [aA_size, ht'] at this
    simp [part, aggA, szA, this, Sem.run_bind]
  have e2 : (part A (fA sh ts ps) 17).run P w = .ok (.agg (aA ps)) w := by
    have := fA_ext_p (sh := sh) ht hp
    rw [aA_size, hp] at this
    simp [part, aggA, szA, this, Sem.run_bind]
  have e2' : (part A (fA sh' ts' ps') 17).run P w = .ok (.agg (aA ps')) w := by
    have := fA_ext_p (sh := sh') ht' hp'
    rw [aA_size, hp'] at this
    simp [part, aggA, szA, this, Sem.run_bind]
  have e0 : (part I (fA sh ts ps) 0).run P w = .ok (.int .i64 sh) w := by simp [part, aggI, fA_0, Sem.run_bind]
  have e0' : (part I (fA sh' ts' ps') 0).run P w = .ok (.int .i64 sh') w := by simp [part, aggI, fA_0, Sem.run_bind]
  have q0 := run_equalIn_int (P := P) w (d + 1) I .i64 .i64 sh sh' h.int
  have q1 := run_equalIn_ints (P := P) w d A E 16 h.arr h.elt (sizeOf_run h.esize) ts ts' ht ht'
  have q2 := run_equalIn_ints (P := P) w d A E 16 h.arr h.elt (sizeOf_run h.esize) ps ps' hp hp'
  simp only [Op.eqFields, n0, n1, n2, y0, y1, y2, o0, o1, o2, ne_eq, not_false_eq_true, if_true, Sem.run_bind, e0, e0', e1, e1', e2, e2', q0, q1, q2, Result.andThen_ok, Sem.run_ite]
  cases (sh == sh') <;> cases (ts == ts') <;> cases (ps == ps') <;> simp
end
end Go.Proofs.Ytnhdhjcpbonfjaa

/-
  More on filters' variables: guarded operations, variables of sixteen numbers, comparisons. No conditions.
-/
import Derived.Test.YtnhdhjcpbonfjaaFlt2
namespace Go.Proofs.Ytnhdhjcpbonfjaa
open Go.RowKit
set_option linter.unusedVariables false

/-- A slice that came in (below block B), in a world that may have changed above. -/
def SA (w : World) (B : Nat) (k : IntKind) (A : Option Addr) (xs : List Int) : Prop := Sl w B k A xs ∧ B ≤ w.heap.size
theorem SA.next {w w' : World} {B : Nat} {k : IntKind} {A : Option Addr} {xs : List Int} (h : SA w B k A xs) (hb : Below w.heap.size w w') : SA w' B k A xs :=
  ⟨h.1.keep fun p hp => hb.cell (by have := h.2; omega), Nat.le_trans h.2 hb.size⟩
theorem SA.only {w w' : World} {B b : Nat} {k : IntKind} {A : Option Addr} {xs : List Int} (h : SA w B k A xs) (hB : B ≤ b) (ho : Only b w w') : SA w' B k A xs := ⟨h.1.only hB ho, by rw [ho.size]; exact h.2⟩
theorem SA.sl {w : World} {B : Nat} {k : IntKind} {A : Option Addr} {xs : List Int} (h : SA w B k A xs) : Sl w w.heap.size k A xs := h.1.more h.2
theorem SA.of {w : World} {k : IntKind} {A : Option Addr} {xs : List Int} (h : Sl w w.heap.size k A xs) : SA w w.heap.size k A xs := ⟨h, Nat.le_refl _⟩
theorem SA.drewN {w : World} {B : Nat} {k : IntKind} {A : Option Addr} {xs : List Int} (h : SA w B k A xs) (n : Nat) : SA (w.drewN n) B k A xs := h
/-- All that was in w0 is as it was. -/
def SinceB (w0 w : World) : Prop := Below w0.heap.size w0 w
theorem SinceB.next {w0 w w' : World} (h : SinceB w0 w) (hb : Below w.heap.size w w') : SinceB w0 w' := bel_next h hb
theorem SinceB.only {w0 w w' : World} {b : Nat} (h : SinceB w0 w) (hB : w0.heap.size ≤ b) (ho : Only b w w') : SinceB w0 w' := ho.bel hB h
def Sz (w : World) (n : Nat) : Prop := n ≤ w.heap.size
theorem Sz.next {w w' : World} {n : Nat} (h : Sz w n) (hb : Below w.heap.size w w') : Sz w' n := Nat.le_trans h hb.size
theorem Sz.only {w w' : World} {n b : Nat} (h : Sz w n) (_ : 0 ≤ b) (ho : Only b w w') : Sz w' n := by unfold Sz; rw [ho.size]; exact h
theorem Sz.grown {w w' : World} {n : Nat} {row : Option Nat} (h : Sz w n) (hg : w.grownBy w' row) : Sz w' n := Nat.le_trans h hg.size
section
variable {P : Program} {ops : Array Oper} {rest : List Oper} {o : Oper} {a : Act} {w : World} {Q : Exit → Act → World → Prop} {b : Nat} {T A E I : TypeId} {xs ys : List Int}
theorem wpl_guard {d : Option Tmp} {op : Op} {ty : TypeId} {pos : String} {af : Array Edge} {g : Option (Nat × Bool)} (hw : Region.wanted ⟨d, op, ty, pos, af, g⟩ (yielded ops a.tmps) = true)
    (h : wpList P ops Q (⟨d, op, ty, pos, af, none⟩ :: rest) a w) : wpList P ops Q (⟨d, op, ty, pos, af, g⟩ :: rest) a w := by
  unfold wpList at h ⊢
  rw [if_pos hw]
  rw [if_pos (show Region.wanted ⟨d, op, ty, pos, af, none⟩ (yielded ops a.tmps) = true from rfl)] at h
  exact h
theorem arr_alloc (hT : FltT P T A E I) (hg : o.guard = none) (ho : o.op = .alloc A)
    (h : ∀ w' b, w.heap.size ≤ b → AB w' b A z16 → Below w.heap.size w w' → wpList P ops Q rest (a.put o.dst (.pointer (some ⟨b, 0, none⟩))) w') : wpList P ops Q (o :: rest) a w :=
  blk_alloc hg A ho _ hT.azero fun w' b hb hB bel => h w' b hb ⟨hB, rfl⟩ bel
theorem arr_store (hT : FltT P T A E I) (hg : o.guard = none) (x y : Operand) (ho : o.op = .store A x y) (hx : a.eval x = .pointer (some ⟨b, 0, none⟩)) (hy : a.eval y = .agg (aA ys)) (hb : AB w b A xs) (hF : ys.length = 16)
    (h : ∀ w', AB w' b A ys → Only b w w' → wpList P ops Q rest (a.put o.dst undef) w') : wpList P ops Q (o :: rest) a w :=
  blk_store hg A x y ho b 0 hx _ hy hb.1 (aA ys) (splA_whole _ _ (by rw [aA_size, aA_size, hF, hb.2])) (by rw [aA_size, aA_size, hF, hb.2]; decide) (by rw [aA_size, hF]; exact hT.asize) (aA_one _)
    fun w' h1 h2 => h w' ⟨h1, hF⟩ h2
theorem wpl_build3 {t ty : TypeId} {d : Option Tmp} {pos : String} {af : Array Edge} {v1 v2 v3 v : Value} (hrun : (Instr.build t #[(0, v1), (1, v2), (2, v3)]).run P w = .ok v w) (h : wpList P ops Q rest (a.put d v) w) :
    wpList P ops Q (⟨d, .build t #[(0, .const v1), (1, .const v2), (2, .const v3)], ty, pos, af, none⟩ :: rest) a w := by
  refine wpl_val rfl ?_ h
  simp only [execOp, Sem.run_bind]
  simp [Act.eval, hrun]
theorem wpl_build1 {t ty : TypeId} {d : Option Tmp} {pos : String} {af : Array Edge} {v1 v : Value} (hrun : (Instr.build t #[(0, v1)]).run P w = .ok v w) (h : wpList P ops Q rest (a.put d v) w) :
    wpList P ops Q (⟨d, .build t #[(0, .const v1)], ty, pos, af, none⟩ :: rest) a w := by
  refine wpl_val rfl ?_ h
  simp only [execOp, Sem.run_bind]
  simp [Act.eval, hrun]
theorem arr_eq (hT : FltT P T A E I) (xs ys : List Int) (hx : xs.length = 16) (hy : ys.length = 16) (W : World) : (Op.equalIn 10000 A (.agg (aA xs)) (.agg (aA ys))).run P W = .ok (xs == ys) W :=
  run_equalIn_ints W 9998 A E 16 hT.arr hT.elt (sizeOf_run hT.esize) xs ys hx hy
theorem flt_eq (hT : FltT P T A E I) (sh sh' : Int) (ts ps ts' ps' : List Int) (hF : F16 ts ps) (hF' : F16 ts' ps') (W : World) :
    (Op.equalIn 10000 T (.agg (fA sh ts ps)) (.agg (fA sh' ts' ps'))).run P W = .ok ((sh == sh') && (ts == ts') && (ps == ps')) W :=
  hT.eq 9997 sh sh' ts ps ts' ps' W hF.1 hF.2 hF'.1 hF'.2
theorem flt_eqr (hT : FltT P T A E I) (hG : P.eqGuardType P.depth T = false) (sh sh' : Int) (ts ps ts' ps' : List Int) (hF : F16 ts ps) (hF' : F16 ts' ps') (x y : Operand) (W : World) :
    (do eqGuard .eql T x y (.agg (fA sh ts ps)) (.agg (fA sh' ts' ps')); binOp .eql T (.agg (fA sh ts ps)) (.agg (fA sh' ts' ps'))).run P W = .ok (.bool ((sh == sh') && (ts == ts') && (ps == ps'))) W := by
  rw [Sem.run_bind, run_eqGuard_agg W .eql _ x y _ _ hG]
  simp only [Result.andThen_ok]
  rw [run_eql_struct, flt_eq hT sh sh' ts ps ts' ps' hF hF' W]
  rfl
theorem flt_eqs (hT : FltT P T A E I) (hG : P.eqGuardType P.depth T = false) (sh : Int) (ts ps : List Int) (hF : F16 ts ps) (x y : Operand) (W : World) :
    (do eqGuard .eql T x y (.agg (fA sh ts ps)) (.agg (fA sh ts ps)); binOp .eql T (.agg (fA sh ts ps)) (.agg (fA sh ts ps))).run P W = .ok (.bool true) W := by
  rw [flt_eqr hT hG sh sh ts ps ts ps hF hF x y W]; simp
theorem arr_eqs (hT : FltT P T A E I) (hG : P.eqGuardType P.depth A = false) (xs : List Int) (hx : xs.length = 16) (x y : Operand) (W : World) :
    (do eqGuard .eql A x y (.agg (aA xs)) (.agg (aA xs)); binOp .eql A (.agg (aA xs)) (.agg (aA xs))).run P W = .ok (.bool true) W := by
  rw [Sem.run_bind, run_eqGuard_agg W .eql _ x y _ _ hG]
  simp only [Result.andThen_ok]
  rw [run_eql_struct, arr_eq hT xs xs hx hx W]
  simp
theorem arr_nes (hT : FltT P T A E I) (hG : P.eqGuardType P.depth A = false) (xs : List Int) (hx : xs.length = 16) (x y : Operand) (W : World) :
    (do eqGuard .neq A x y (.agg (aA xs)) (.agg (aA xs)); binOp .neq A (.agg (aA xs)) (.agg (aA xs))).run P W = .ok (.bool false) W := by
  rw [Sem.run_bind, run_eqGuard_agg W .neq _ x y _ _ hG]
  simp only [Result.andThen_ok]
  rw [run_neq_struct, arr_eq hT xs xs hx hx W]
  simp
theorem flt_nes (hT : FltT P T A E I) (hG : P.eqGuardType P.depth T = false) (sh : Int) (ts ps : List Int) (hF : F16 ts ps) (x y : Operand) (W : World) :
    (do eqGuard .neq T x y (.agg (fA sh ts ps)) (.agg (fA sh ts ps)); binOp .neq T (.agg (fA sh ts ps)) (.agg (fA sh ts ps))).run P W = .ok (.bool false) W := by
  rw [Sem.run_bind, run_eqGuard_agg W .neq _ x y _ _ hG]
  simp only [Result.andThen_ok]
  rw [run_neq_struct, flt_eq hT sh sh ts ps ts ps hF hF W]
  simp
theorem wpl_eq {op : BinOp} {t u : TypeId} {x y : Operand} {v1 v2 v : Value} (hrun : (do eqGuard op t x y v1 v2; binOp op t v1 v2).run P w = .ok v w) (hg : o.guard = none) (ho : o.op = .binOp op t x y u) (hx : a.eval x = v1) (hy : a.eval y = v2)
    (h : wpList P ops Q rest (a.put o.dst v) w) : wpList P ops Q (o :: rest) a w := by
  refine wpl_val hg ?_ h
  subst hx hy
  simp only [execOp, ho, Sem.run_bind] at hrun ⊢
  rw [hrun]
  rfl
end
end Go.Proofs.Ytnhdhjcpbonfjaa

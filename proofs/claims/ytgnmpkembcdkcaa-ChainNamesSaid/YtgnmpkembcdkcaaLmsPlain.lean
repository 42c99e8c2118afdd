/-
  Steps of a filter, in plain integers and lists. No conditions.
-/
import Derived.Test.YtgnmpkembcdkcaaTapsPlain2
import Derived.Test.YtgnmpkembcdkcaaFlt2
namespace Go.Proofs.Ytgnmpkembcdkcaa
open Go.RowKit
set_option linter.unusedVariables false

def runL {S : Type} (o : S → Int → Int) (n : S → Int → S) : S → List Int → List Int
  | _, [] => []
  | s, x :: l => o s x :: runL o n (n s x) l
def finL {S : Type} (n : S → Int → S) (s : S) (l : List Int) : S := l.foldl n s
section
variable {S : Type} {o : S → Int → Int} {n : S → Int → S}
theorem runL_len : ∀ (s : S) (l : List Int), (runL o n s l).length = l.length
  | _, [] => rfl
  | s, x :: l => by simp [runL, runL_len (n s x) l]
theorem finL_snoc (s : S) (l : List Int) (x : Int) : finL n s (l ++ [x]) = n (finL n s l) x := by simp [finL]
theorem finL_append (s : S) (l m : List Int) : finL n s (l ++ m) = finL n (finL n s l) m := by simp [finL]
theorem runL_append : ∀ (s : S) (l m : List Int), runL o n s (l ++ m) = runL o n s l ++ runL o n (finL n s l) m
  | _, [], _ => rfl
  | s, x :: l, m => by
    rw [List.cons_append, runL, runL_append (n s x) l m]; rfl
theorem runL_snoc (s : S) (l : List Int) (x : Int) : runL o n s (l ++ [x]) = runL o n s l ++ [o (finL n s l) x] := by rw [runL_append]; rfl
theorem finL_keep {V : S → Prop} {G : Int → Prop} (h : ∀ s x, V s → G x → V (n s x)) : ∀ (s : S) (l : List Int), V s → (∀ x ∈ l, G x) → V (finL n s l)
  | _, [], hs, _ => hs
  | s, x :: l, hs, hl => finL_keep h (n s x) l (h s x hs (hl x (by simp))) fun y hy => hl y (by simp [hy])
/-- two runs that undo one another -/
theorem runL_undo {o' : S → Int → Int} {n' : S → Int → S} {V : S → Prop} {G : Int → Prop} (h : ∀ s x, V s → G x → V (n s x)) (h1 : ∀ s x, V s → G x → o' s (o s x) = x) (h2 : ∀ s x, V s → G x → n' s (o s x) = n s x) :
    ∀ (s : S) (l : List Int), V s → (∀ x ∈ l, G x) → runL o' n' s (runL o n s l) = l ∧ finL n' s (runL o n s l) = finL n s l
  | _, [], _, _ => ⟨rfl, rfl⟩
  | s, x :: l, hs, hl => by
    have hx := hl x (by simp)
    obtain ⟨e1, e2⟩ := runL_undo h h1 h2 (n s x) l (h s x hs hx) fun y hy => hl y (by simp [hy])
    constructor
    · rw [runL, runL, h1 s x hs hx, h2 s x hs hx, e1]
    · rw [runL]
      show finL n' (n' s (o s x)) _ = _
      rw [h2 s x hs hx, e2]; rfl
end

abbrev St := List Int × List Int
def oF (sh : Int) (s : St) (x : Int) : Int := wrap32 (x - gsV sh s.1 s.2)
def nF (sh : Int) (s : St) (x : Int) : St := (lrn s.1 s.2 (oF sh s x), psh s.2 x)
def oB (sh : Int) (s : St) (y : Int) : Int := wrap32 (y + gsV sh s.1 s.2)
def nBk (sh : Int) (s : St) (y : Int) : St := (lrn s.1 s.2 y, psh s.2 (oB sh s y))
def VS (s : St) : Prop := F16 s.1 s.2 ∧ I32 s.1 ∧ I32 s.2
def G32 (x : Int) : Prop := -2147483648 ≤ x ∧ x ≤ 2147483647
theorem oF_bd (sh : Int) (s : St) (x : Int) : G32 (oF sh s x) := wrap32_bd _
theorem oB_bd (sh : Int) (s : St) (x : Int) : G32 (oB sh s x) := wrap32_bd _
theorem nF_v (sh : Int) (s : St) (x : Int) (h : VS s) (hx : G32 x) : VS (nF sh s x) :=
  ⟨⟨lrn_len _ _ _, psh_len h.1.2 _⟩, lrn_i32 _ _ _, psh_i32 h.2.2 hx⟩
theorem nB_v (sh : Int) (s : St) (x : Int) (h : VS s) : VS (nBk sh s x) :=
  ⟨⟨lrn_len _ _ _, psh_len h.1.2 _⟩, lrn_i32 _ _ _, psh_i32 h.2.2 (oB_bd sh s x)⟩
theorem oB_oF (sh : Int) (s : St) (x : Int) (hx : G32 x) : oB sh s (oF sh s x) = x := by
  unfold oB oF
  rw [wrap32_add_l, show x - gsV sh s.1 s.2 + gsV sh s.1 s.2 = x by omega, IntWalk.wrap32_in _ hx]
theorem oF_oB (sh : Int) (s : St) (x : Int) (hx : G32 x) : oF sh s (oB sh s x) = x := by
  unfold oB oF
  rw [wrap32_sub_l, show x + gsV sh s.1 s.2 - gsV sh s.1 s.2 = x by omega, IntWalk.wrap32_in _ hx]
theorem nB_oF (sh : Int) (s : St) (x : Int) (hx : G32 x) : nBk sh s (oF sh s x) = nF sh s x := by
  unfold nBk nF; rw [oB_oF sh s x hx]
theorem nF_oB (sh : Int) (s : St) (x : Int) (hx : G32 x) : nF sh s (oB sh s x) = nBk sh s x := by
  unfold nBk nF; rw [oF_oB sh s x hx]
theorem runF_i32 (sh : Int) : ∀ (s : St) (l : List Int), I32 (runL (oF sh) (nF sh) s l)
  | _, [] => fun x hx => by simp [runL] at hx
  | s, x :: l => fun y hy => by
    simp only [runL, List.mem_cons] at hy
    rcases hy with rfl | hy
    · exact oF_bd sh s x
    · exact runF_i32 sh _ l y hy
theorem runB_i32 (sh : Int) : ∀ (s : St) (l : List Int), I32 (runL (oB sh) (nBk sh) s l)
  | _, [] => fun x hx => by simp [runL] at hx
  | s, x :: l => fun y hy => by
    simp only [runL, List.mem_cons] at hy
    rcases hy with rfl | hy
    · exact oB_bd sh s x
    · exact runB_i32 sh _ l y hy
theorem finF_v (sh : Int) (s : St) (l : List Int) (h : VS s) (hl : I32 l) : VS (finL (nF sh) s l) := finL_keep (fun s x hs hx => nF_v sh s x hs hx) s l h hl
theorem finB_v (sh : Int) (s : St) (l : List Int) (h : VS s) : VS (finL (nBk sh) s l) := finL_keep (G := fun _ => True) (fun s x hs _ => nB_v sh s x hs) s l h (fun _ _ => trivial)
end Go.Proofs.Ytgnmpkembcdkcaa

/-
  Plain: headers that are not valid, and the bytes of such. Conditions: numbers that fit their bytes.
-/
import Derived.Test.YtgfibgnolmogkaaDoorWritten
import Derived.Test.YtgfibgnolmogkaaDoorRef24B
namespace Go.Proofs.YtgfibgnolmogkaaDoor
open Go.RowKit
set_option linter.unusedVariables false

theorem hdW_rh {f c b r n : Int} (k1 : 0 ≤ f ∧ f ≤ 65535) (k2 : 0 ≤ c ∧ c ≤ 65535) (k3 : 0 ≤ b ∧ b ≤ 65535) (k4 : 0 ≤ r ∧ r ≤ 4294967295) (k5 : 0 ≤ n ∧ n ≤ 4294967295) :
    rhE (hdW f c b r n) = if hdS f c b r n = false then 12 else if hdF c r n = false then 4 else 0 := by
  obtain ⟨e1, e2, e3, e4, e5, e6⟩ := hdW_reads f c b r n []
  rw [List.append_nil] at e1 e2 e3 e4 e5 e6
  rw [va2_le2 k1.1 k1.2] at e1
  rw [va2_le2 k2.1 k2.2] at e2
  rw [va2_le2 k3.1 k3.2] at e3
  rw [va4_le4 k4.1 k4.2] at e4
  rw [va4_le4 k5.1 k5.2] at e5
  rw [va4_le4 (sumL_bd _).1 (sumL_bd _).2] at e6
  have hp := hdW_pfx f c b r n []
  have ht := hdW_take f c b r n []
  rw [List.append_nil] at hp ht
  unfold rhE
  rw [hp, if_neg (by decide), if_neg (by rw [hdW_len]; omega), ht, e6, if_neg (by simp)]
  unfold rhS rhF
  rw [e1, e2, e3, e4, e5]

theorem nmW {f c b r n : Int} {w : World} (h : hdE f c b r n = 8) (hn : n ≤ 9223372036854775807) (hW : WdAt w) :
    Calls Tryd.prog 9 #[.agg #[.int .i64 f, .int .i64 c, .int .i64 b, .int .i64 r, .int .i64 n]] w fun e w' =>
      ∃ v, e = .returned (.tuple #[v, .int .i64 8]) ∧ Own w' w.heap.size 5 .u8 v [] ∧ Below w.heap.size w w' := by
  have := hdWrite f c b r n w hn hW
  rw [hdWR_bad (by omega), h] at this
  exact this
theorem nmF {f c b r n : Int} {w : World} (h : hdE f c b r n = 8) (hn : n ≤ 9223372036854775807) :
    Calls Tryd.prog 10 #[.agg #[.int .i64 f, .int .i64 c, .int .i64 b, .int .i64 r, .int .i64 n]] w fun e w' =>
      ∃ v, e = .returned (.tuple #[v, .int .i64 8]) ∧ Own w' w.heap.size 3 .i64 v [] ∧ Below w.heap.size w w' := by
  have := hdFrames f c b r n w hn
  rw [hdL_bad (by omega), h] at this
  exact this
theorem nmC {f c b r n : Int} {w : World} (h : hdE f c b r n = 8) (hn : n ≤ 9223372036854775807) :
    Calls Tryd.prog 11 #[.agg #[.int .i64 f, .int .i64 c, .int .i64 b, .int .i64 r, .int .i64 n]] w fun e w' => e = .returned (.int .i64 8) ∧ Below w.heap.size w w' := by
  have := hdCheck f c b r n w hn
  rw [h] at this
  exact this
theorem nmFw {f c b r n : Int} {A : Option Addr} {k : Nat} {E : Int} {w : World} (hc : 22 ≤ k) (hcm : k ≤ 9223372036854775807) (hs : Sl w w.heap.size .u8 A (hdW f c b r n)) (hW : WdAt w) (he : rhE (hdW f c b r n) = E) (h0 : E ≠ 0) :
    Calls Tryd.prog 13 #[.slice A 22 k, .int .i64 E] w fun e w' => e = .returned (.bool true) ∧ Below w.heap.size w w' :=
  hdFails A 22 k _ E w (hdW_len _ _ _ _ _) hc hcm (hdW_u8 _ _ _ _ _) hs hW he h0
theorem nmL {xs : List Int} {A : Option Addr} {n k : Nat} {E : Int} {w : World} (hn : xs.length = n) (hc : n ≤ k) (hcm : k ≤ 9223372036854775807) (hx : U8 xs) (hs : Sl w w.heap.size .u8 A xs) (hW : WdAt w) (he : rhE xs = E) (h0 : E ≠ 0) :
    Calls Tryd.prog 13 #[.slice A n k, .int .i64 E] w fun e w' => e = .returned (.bool true) ∧ Below w.heap.size w w' :=
  hdFails A n k _ E w hn hc hcm hx hs hW he h0
theorem sl64x (ls : ByteArray) (LZ : ls.size = 65) (W : World) : (Instr.slice 9 (.string ls) none (some (.int .i64 64)) none).run Tryd.prog W = .ok (.string (ls.extract 0 64)) W := by
  have hu := Tryd.underlying9
  simp [Instr.slice, run_underlying hu, Instr.sliceBounds, Instr.sliceBound, asIntOf, LZ]
end Go.Proofs.YtgfibgnolmogkaaDoor

/-
  Bytes as strings and back. No conditions.
-/
import Derived.Test.YtfapkpegfgeliaaKit
import Derived.Laws.BytesArg
import Derived.Lib.ConvBytes
import Derived.Lib.SlBytesConst
namespace Go.Proofs.Ytfapkpegfgeliaa
open Go.RowKit
set_option linter.unusedVariables false

theorem conv_sl {P : Program} {W : World} {B : Nat} {A : Option Addr} {n c : Nat} {xs : List Int} {src e dst : TypeId} (hs : P.underlying src = some (.slice e)) (he : P.underlying e = some (.int .u8)) (hd : P.underlying dst = some .string)
    (h : Sl W B .u8 A xs) (hn : xs.length = n) : (convert src dst (.slice A n c)).run P W = .ok (.string (strOfNums xs)) W := by
  rcases Nat.eq_zero_or_pos xs.length with h0 | h0
  · have hx : xs = [] := List.eq_nil_of_length_eq_zero h0
    subst hx
    obtain rfl : n = 0 := hn.symm
    rcases A with _ | ad
    · rw [run_convert_bytes_nil W src e hs he 0 c dst hd]; rfl
    · rw [run_convert_bytes_string W src dst e _ 0 c hs he hd, run_bytesToString W ad 0 c [] (by simp [loadCells, loadCellsFrom])]; rfl
  · obtain ⟨b, o, rfl, _, hc⟩ := h h0
    exact run_convert_bytes_arg W src e hs he b o n c xs hn (fun i hi => hc i (by omega)) dst hd

/-- A block that was just laid, with a mark, of integers written out. -/
theorem Sl.marked (w : World) (k : IntKind) (e : TypeId) (xs : List Int) {cs : Array Value} {fr : Nat × Nat} (hcs : cs = (xs.map (Value.int k)).toArray) :
    Sl (w.alloc (.cells cs e fr)) (w.alloc (.cells cs e fr)).heap.size k (some ⟨w.heap.size, 0, none⟩) xs := fun _ => by
  refine ⟨w.heap.size, 0, rfl, by simp, fun i hi => ?_⟩
  subst hcs
  have h1 : (w.alloc (.cells (xs.map (Value.int k)).toArray e fr)).heap[w.heap.size]? = some (.cells (xs.map (Value.int k)).toArray e fr) := heap_alloc_new w _
  rw [Nat.zero_add, cell_of_row _ _ _ _ _ _ h1]
  rw [List.getElem?_toArray, List.getElem?_map, List.getD_eq_getElem?_getD, List.getElem?_eq_getElem hi]
  rfl

theorem bytesWorld_below (w : World) (e : TypeId) (s : ByteArray) : Below w.heap.size w (Lib.bytesWorld w e s) :=
  ⟨rfl, rfl, rfl, by rw [Lib.bytesWorld_size]; omega, fun k hk => Lib.bytesWorld_at_old w e s k hk⟩
theorem bytesWorld_sl (w : World) (e : TypeId) (xs : List Int) (hx : U8 xs) :
    Sl (Lib.bytesWorld w e (strOfNums xs)) (Lib.bytesWorld w e (strOfNums xs)).heap.size .u8 (some ⟨w.heap.size, 0, none⟩) xs := fun _ => by
  refine ⟨w.heap.size, 0, rfl, by rw [Lib.bytesWorld_size]; omega, fun i hi => ?_⟩
  rw [Nat.zero_add, Lib.bytesWorld_cell w e _ i (by rw [strOfNums_size]; exact hi), strOfNums_data]
  have hb := hx _ (List.getElem_mem hi)
  rw [List.getD_eq_getElem?_getD, List.getD_eq_getElem?_getD, List.getElem?_map, List.getElem?_eq_getElem hi]
  simp only [Option.map_some, Option.getD_some, UInt8.toNat_ofNat']
  congr 2
  omega

theorem str_inj {xs ys : List Int} (hx : U8 xs) (hy : U8 ys) (h : strOfNums xs = strOfNums ys) : xs = ys := by
  have h1 : xs.map (fun n => UInt8.ofNat n.toNat) = ys.map (fun n => UInt8.ofNat n.toNat) := by
    have := congrArg (fun b => b.data.toList) h
    simpa only [strOfNums_data] using this
  have key : ∀ zs : List Int, U8 zs → (zs.map (fun n => UInt8.ofNat n.toNat)).map (fun b => ((b.toNat : Nat) : Int)) = zs := by
    intro zs hz
    rw [List.map_map]
    refine (List.map_congr_left (fun z hz' => ?_)).trans (List.map_id _)
    have := hz z hz'
    simp only [Function.comp, UInt8.toNat_ofNat', id]
    omega
  rw [← key xs hx, h1, key ys hy]
end Go.Proofs.Ytfapkpegfgeliaa

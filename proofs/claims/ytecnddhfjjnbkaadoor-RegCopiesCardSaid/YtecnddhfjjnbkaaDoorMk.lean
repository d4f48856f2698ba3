/- make of a slice: its elements are all the empty one. -/
import Derived.Test.YtecnddhfjjnbkaaDoorElt
import Derived.Laws.MakeOwn
set_option linter.unusedSimpArgs false
set_option linter.unusedVariables false
namespace Go.Proofs.YtecnddhfjjnbkaaDoor
open Go.RowKit

theorem made_encs {α : Type} {enc : α → List Value} {size : Nat} (h : ∀ x, (enc x).length = size) (hs : 0 < size) (x : α) (z : Array Value) (hz : z.toList = enc x) (n : Nat) : (madeCells z (n * size)).toList = encs enc (List.replicate n x) := by
  have hzs : z.size = size := by rw [← h x, ← hz]; simp
  apply List.ext_getElem?
  intro k
  by_cases hk : k < n * size
  · have hq : k / size < n := (Nat.div_lt_iff_lt_mul hs).2 hk
    have hm := Nat.mod_lt k hs
    have e := encs_get h (List.replicate n x) (k / size) x (by simp [hq]) (k % size) hm
    rw [show k / size * size + k % size = k from by rw [Nat.mul_comm]; exact Nat.div_add_mod k size] at e
    rw [e, ← hz]
    simp only [madeCells, Array.toList_map, List.getElem?_map, Array.toList_range, List.getElem?_range hk, Option.map_some, Array.getElem?_toList, hzs]
    rw [getElem!_pos z (k % size) (by omega), Array.getElem?_eq_getElem (by omega)]
  · rw [List.getElem?_eq_none (by simp [madeCells]; omega), List.getElem?_eq_none (by rw [encs_length h]; simp; omega)]
theorem run_make_any {P : Program} (t e : TypeId) (z : Value) (size bytes : Nat) (ht : P.underlying t = some (.slice e)) (hinfo : (P.info? e).map (fun i => (i.zero, i.size, i.bytes)) = some (some z, size, bytes)) (n : Nat) (hbytes : bytes * n ≤ 281474976710656) (h63 : n ≤ 9223372036854775807) (w : World) :
    (Instr.makeSlice t (.int .i64 (n : Int)) (.int .i64 (n : Int))).run P w = .ok (.slice (some ⟨w.heap.size, 0, none⟩) n n) (w.alloc (.cells (madeCells z.cells (n * size)) e)) := by
  obtain ⟨i, hi, hzz⟩ := Option.map_eq_some_iff.1 hinfo
  simp only [Prod.mk.injEq] at hzz
  obtain ⟨hz, hsz, hb⟩ := hzz
  have hr := run_make (P := P) w t e i z ht hi hz .i64 .i64 n n (by omega) (Int.le_refl _) (by rw [hb]; have h : ((bytes * n : Nat) : Int) ≤ 281474976710656 := (by omega); rwa [Int.natCast_mul] at h) (by omega)
  simpa [hsz] using hr
end Go.Proofs.YtecnddhfjjnbkaaDoor

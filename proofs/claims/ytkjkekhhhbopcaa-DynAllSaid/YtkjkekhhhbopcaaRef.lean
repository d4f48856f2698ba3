/- The walks over the references of chapter 1. -/
import Derived.Test.YtkjkekhhhbopcaaNum
import Derived.Laws.BytesString
import Derived.Laws.BytesArg
import Derived.Laws.Cells
set_option linter.unusedSimpArgs false
set_option linter.unusedVariables false
namespace Go.Proofs.Ytkjkekhhhbopcaa
open Go.RowKit

def bstr (bs : List UInt8) : ByteArray := ⟨bs.toArray⟩
theorem bstr_push (bs cs : List UInt8) : cs.foldl (fun (r : ByteArray) (c : UInt8) => r.push c) (bstr bs) = bstr (bs ++ cs) := by
  induction cs generalizing bs with
  | nil => simp
  | cons c cs ih =>
    have : (bstr bs).push c = bstr (bs ++ [c]) := by simp [bstr, ByteArray.push]
    rw [List.foldl_cons, this, ih]; simp
theorem bstr_size (bs : List UInt8) : (bstr bs).size = bs.length := by simp [bstr, ByteArray.size]
theorem bstr_append (a b : List UInt8) : bstr a ++ bstr b = bstr (a ++ b) := ByteArray.mk_append_mk a b
theorem bstr_nil : bstr [] = ByteArray.empty := rfl
theorem bigOf_succ (x k : Nat) : bigOf x (k + 1) = UInt8.ofNat (x / 256 ^ k % 256) :: bigOf x k := by
  unfold bigOf
  rw [List.range_succ_eq_map, List.map_cons, List.map_map]
  congr 1
  apply List.map_congr_left
  intro i hi
  have := List.mem_range.1 hi
  simp only [Function.comp, Nat.succ_eq_add_one]
  rw [show k + 1 - 1 - (i + 1) = k - 1 - i by omega]
theorem numOf_cons_lt (bs : List UInt8) (k : Nat) (h : bs.length ≤ 8) : numOf (bs.take k) < 18446744073709551616 :=
  Nat.lt_of_lt_of_le (numOf_lt _) (Nat.le_trans (Nat.pow_le_pow_right (by omega) (show (bs.take k).length ≤ 8 by rw [List.length_take]; omega)) (by decide))
theorem bstr_get (bs : List UInt8) (k : Nat) (h : k < bs.length) (h' : k < (bstr bs).size) : (bstr bs)[k]'h' = bs[k]'h := by
  simp [bstr, ByteArray.getElem_eq_getElem_data]
end Go.Proofs.Ytkjkekhhhbopcaa

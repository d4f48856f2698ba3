/- The walks over the references of chapter 1. -/
import Derived.Test.YtdfdcenbpanegaaNum
import Derived.Laws.BytesString
import Derived.Laws.BytesArg
import Derived.Laws.Cells
set_option linter.unusedSimpArgs false
set_option linter.unusedVariables false
namespace Go.Proofs.Ytdfdcenbpanegaa
open Go.RowKit

def bstr (bs : List UInt8) : ByteArray := ⟨bs.toArray⟩
theorem bstr_push (bs cs : List UInt8) : cs.foldl (fun (r : ByteArray) (c : UInt8) => r.push c) (bstr bs) = bstr (bs ++ cs) := by
  induction cs generalizing bs with
  | nil => simp
  | cons c cs ih =>
    have : (bstr bs).push c = bstr (bs ++ [c]) := by simp [bstr, ByteArray.push]
    rw [List.foldl_cons, this, ih]; simp
theorem bstr_size (bs : List UInt8) : (bstr bs).size = bs.length := by simp [bstr, ByteArray.size]
theorem bstr_append (a b : List UInt8) : bstr a ++ bstr b = bstr (a ++ b) := ByteArray.mk_append_mk a b
theorem bstr_nil : bstr [] = ByteArray.empty := rfl
/-- Bytes as a string. -/
theorem conv_bytes (v : Value) (bs : List UInt8) (w : World) (h : SlV w.cell? v bs.length (bs.map byteV)) :
    (convert 22 9 v).run Try.prog w = .ok (.string (bstr bs)) w := by
  obtain ⟨A, c, rfl, hc, hm, hel⟩ := h
  cases A with
  | none =>
    have : bs = [] := by
      cases bs with
      | nil => rfl
      | cons b bs => obtain ⟨a, h, _⟩ := hel 0 (byteV b) rfl; cases h
    subst this
    rw [run_convert_bytes_string w 22 9 5 none _ c Try.underlying22 Try.underlying5 Try.underlying9]
    rfl
  | some a =>
    rw [run_convert_bytes_string w 22 9 5 (some a) _ c Try.underlying22 Try.underlying5 Try.underlying9]
    have e : bs.map byteV = (bs.map fun c => (c.toNat : Int)).map (Value.int .u8) := by simp [byteV]
    have hl := run_loadCells_list (P := Try.prog) (w := w) a (bs.map byteV) (fun j v hj => by obtain ⟨a', h, h'⟩ := hel j v hj; cases h; exact h')
    rw [e] at hl
    rw [run_bytesToString w a bs.length c (bs.map fun c => (c.toNat : Int)) (by simpa using hl), List.foldl_map]
    congr 2
    rw [← bstr_nil]
    have := bstr_push [] bs
    simp only [List.nil_append] at this
    rw [← this]
    congr 1
    funext r c
    simp
theorem bigOf_succ (x k : Nat) : bigOf x (k + 1) = UInt8.ofNat (x / 256 ^ k % 256) :: bigOf x k := by
  unfold bigOf
  rw [List.range_succ_eq_map, List.map_cons, List.map_map]
  congr 1
  apply List.map_congr_left
  intro i hi
  have := List.mem_range.1 hi
  simp only [Function.comp, Nat.succ_eq_add_one]
  rw [show k + 1 - 1 - (i + 1) = k - 1 - i by omega]
theorem numOf_cons_lt (bs : List UInt8) (k : Nat) (h : bs.length ≤ 8) : numOf (bs.take k) < 18446744073709551616 :=
  Nat.lt_of_lt_of_le (numOf_lt _) (Nat.le_trans (Nat.pow_le_pow_right (by omega) (show (bs.take k).length ≤ 8 by rw [List.length_take]; omega)) (by decide))
theorem bstr_get (bs : List UInt8) (k : Nat) (h : k < bs.length) (h' : k < (bstr bs).size) : (bstr bs)[k]'h' = bs[k]'h := by
  simp [bstr, ByteArray.getElem_eq_getElem_data]
set_option maxHeartbeats 1000000 in
theorem ref_num (bs : List UInt8) (h8 : bs.length ≤ 8) (w : World) :
    Calls Try.prog 36 #[.string (bstr bs)] w fun e w' => e = .returned (.int .u64 (numOf bs)) ∧ w = w' := by
  refine calls_any fun K hK => ?_
  have hs := bstr_size bs
  go_enter Try.func36, Try.ntmps36
  go_wp2_with fail
  go_loop [3, 4] (fun x i => ∃ k : Nat, k ≤ bs.length ∧ i = .int .i64 k ∧ x = .int .u64 (numOf (bs.take k))) (fun _ i => bs.length - (intOf i).toNat)
  case atStart => exact ⟨0, Nat.zero_le _, rfl, rfl⟩
  case round =>
    obtain ⟨k, hk, rfl, rfl⟩ := hrel
    by_cases hlt : k < bs.length
    · have hn := numOf_snoc (bs.take k) bs[k]
      have hlt1 := numOf_lt (bs.take k)
      rw [← List.take_succ_eq_append_getElem hlt] at hn
      have hb := (bs[k]).toNat_lt
      have hx : numOf (bs.take k) < 72057594037927936 := Nat.lt_of_lt_of_le hlt1 (Nat.le_trans (Nat.pow_le_pow_right (by omega) (show (bs.take k).length ≤ 7 by rw [List.length_take]; omega)) (by decide))
      have HN := Lib.hid hn
      clear hn hlt1
      generalize numOf (bs.take k) = x at *
      go_wp2_with fail
      refine ⟨⟨k + 1, by omega, by go_num, ?_⟩, by simp [intOf]; omega⟩
      rw [HN.out, bstr_get bs k hlt, IntWalk.u64_in ((bs[k]).toNat : Int) ⟨by omega, by omega⟩, IntWalk.u64_in _ ⟨by omega, by omega⟩]
      congr 1
    · obtain rfl : k = bs.length := by omega
      rw [List.take_length]
      go_wp2_with fail
      exact hK.out _ _ ⟨rfl, rfl⟩
end Go.Proofs.Ytdfdcenbpanegaa

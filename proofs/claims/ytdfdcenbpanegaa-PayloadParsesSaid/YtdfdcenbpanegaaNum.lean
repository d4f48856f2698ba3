/- The walks over octet's functions on numbers. -/
import Derived.Test.YtdfdcenbpanegaaRegJ
import Derived.Test.YtdfdcenbpanegaaOwn
import Derived.IntWalk
import Derived.Laws.BitsAllLaws
import Derived.Deep.OwnRows
set_option linter.unusedSimpArgs false
set_option linter.unusedVariables false
namespace Go.Proofs.Ytdfdcenbpanegaa
open Go.RowKit

/-- A slice whose elements' cells stand somewhere. -/
def SlV (get : Addr → Option Value) (v : Value) (n : Nat) (cs : List Value) : Prop :=
  ∃ A c, v = .slice A n c ∧ n ≤ c ∧ c ≤ maxLen ∧ ∀ j u, cs[j]? = some u → ∃ a, A = some a ∧ get (a.add j) = some u
def byteV (c : UInt8) : Value := .int .u8 c.toNat
def numOf (bs : List UInt8) : Nat := bs.foldl (fun x c => x * 256 + c.toNat) 0
theorem numOf_snoc (bs : List UInt8) (c : UInt8) : numOf (bs ++ [c]) = numOf bs * 256 + c.toNat := by simp [numOf]
theorem numOf_lt (bs : List UInt8) : numOf bs < 256 ^ bs.length := by
  have h : ∀ (bs : List UInt8) (x : Nat), bs.foldl (fun x c => x * 256 + c.toNat) x < (x + 1) * 256 ^ bs.length := by
    intro bs
    induction bs with
    | nil => intro x; simp
    | cons c bs ih =>
      intro x
      simp only [List.foldl_cons, List.length_cons]
      refine Nat.lt_of_lt_of_le (ih _) ?_
      have := c.toNat_lt
      rw [Nat.pow_succ, Nat.mul_comm (256 ^ _), ← Nat.mul_assoc]
      exact Nat.mul_le_mul_right _ (by omega)
  simpa [numOf] using h bs 0
theorem shl_or (x c : Nat) (hx : x < 72057594037927936) (hc : c < 256) : bits .or .u64 (IntKind.u64.wrap ((x : Int) * 256)) (c : Int) = ((x * 256 + c : Nat) : Int) := by
  rw [IntWalk.u64_in _ ⟨by omega, by omega⟩, show ((x : Int) * 256) = ((x * 256 : Nat) : Int) by omega, u64_or_nat _ _ (by omega) (by omega)]
  congr 1
  have := Nat.shiftLeft_add_eq_or_of_lt (i := 8) (show c < 2 ^ 8 by omega) x
  rw [Nat.shiftLeft_eq] at this
  exact this.symm
set_option maxHeartbeats 1000000 in
theorem octet_num (bs : List UInt8) (v : Value) (w : World) (h : SlV w.cell? v bs.length (bs.map byteV)) :
    Calls Try.prog 41 #[v] w fun e w' => e = .returned (.tuple #[.int .u64 (if bs.length ≤ 8 then numOf bs else 0), .bool (decide (bs.length ≤ 8))]) ∧ w = w' := by
  refine calls_any fun K hK => ?_
  obtain ⟨A, c, rfl, hc, hm, hel⟩ := h
  have hmx : bs.length ≤ 9223372036854775807 := Nat.le_trans hc (Nat.le_trans hm (by decide))
  by_cases h8 : bs.length ≤ 8
  · have e8 : Hid (∀ v : Value, v = .tuple #[.int .u64 (numOf bs), .bool true] → v = .tuple #[.int .u64 (if bs.length ≤ 8 then numOf bs else 0), .bool (decide (bs.length ≤ 8))]) := fun v hv => by rw [hv]; simp [h8]
    have HEL := Lib.hid hel
    clear hel
    go_enter Try.func41, Try.ntmps41
    go_wp2_with fail
    go_loop [4, 12] (fun x i => ∃ k : Nat, k ≤ bs.length ∧ i = .int .i64 k ∧ x = .int .u64 (numOf (bs.take k))) (fun _ i => bs.length - (intOf i).toNat)
    case atStart => exact ⟨0, Nat.zero_le _, rfl, rfl⟩
    case round =>
      obtain ⟨k, hk, rfl, rfl⟩ := hrel
      by_cases hlt : k < bs.length
      · obtain ⟨a, rfl, hcell⟩ := HEL.out k (byteV bs[k]) (by simp [hlt])
        have hn := numOf_snoc (bs.take k) bs[k]
        have hlt2 := numOf_lt (bs.take k)
        rw [← List.take_succ_eq_append_getElem hlt] at hn
        have hb := (bs[k]).toNat_lt
        unfold byteV at hcell
        generalize (bs[k]).toNat = ch at *
        generalize numOf (bs.take k) = x at *
        go_wp2_with fail
        have hx : x < 72057594037927936 := Nat.lt_of_lt_of_le hlt2 (Nat.le_trans (Nat.pow_le_pow_right (by omega) (show (bs.take k).length ≤ 7 by rw [List.length_take]; omega)) (by decide))
        refine ⟨⟨k + 1, by omega, by go_num, ?_⟩, by simp [intOf]; omega⟩
        rw [shl_or x ch hx hb, hn]
      · obtain rfl : k = bs.length := by omega
        rw [List.take_length]
        go_wp2_with fail
        exact hK.out _ _ ⟨by rw [← e8.out _ rfl], rfl⟩
  · have hK' : Hid (∀ e : Ending, e = .returned (.tuple #[.int .u64 0, .bool false]) → K e w) := fun e he => hK.out _ _ ⟨by rw [he]; simp [h8], rfl⟩
    go_enter Try.func41, Try.ntmps41
    go_wp2_with fail
    exact hK'.out _ rfl
/-- The last n bytes of x. -/
def bigOf (x n : Nat) : List UInt8 := (List.range n).map fun i => UInt8.ofNat (x / 256 ^ (n - 1 - i) % 256)
theorem bigOf_length (x n : Nat) : (bigOf x n).length = n := by simp [bigOf]
theorem info_u8 : (Try.prog.info? 5).map (fun i => (i.zero, i.size, i.bytes)) = some (some (.int .u8 0), 1, 1) := by kernel_rfl
def digit (x n j : Nat) : UInt8 := UInt8.ofNat (x / 256 ^ (n - 1 - j) % 256)
/-- After k rounds: the last k bytes. -/
def bigRow (x n k : Nat) : Array Value := ((List.range n).map fun j => if n - k ≤ j then byteV (digit x n j) else .int .u8 0).toArray
theorem bigRow_get (x n k j : Nat) (hj : j < n) : (bigRow x n k)[j]? = some (if n - k ≤ j then byteV (digit x n j) else .int .u8 0) := by simp [bigRow, hj]
theorem bigRow_step (x n k : Nat) (hk : k < n) (v : Value) (hv : v = byteV (digit x n (n - 1 - k))) : (bigRow x n k).setIfInBounds (n - 1 - k) v = bigRow x n (k + 1) := by
  apply Array.ext_getElem?
  intro j
  rw [Array.getElem?_setIfInBounds]
  by_cases hj : j < n
  · rw [bigRow_get x n k j hj, bigRow_get x n (k + 1) j hj]
    by_cases e : n - 1 - k = j
    · subst e
      simp only [if_true, hv]
      rw [if_pos (by simp [bigRow]; omega), if_pos (by omega)]
    · rw [if_neg e]
      by_cases h1 : n - k ≤ j
      · rw [if_pos h1, if_pos (by omega)]
      · rw [if_neg h1, if_neg (by omega)]
  · have e1 : (bigRow x n k)[j]? = none := Array.getElem?_eq_none (by simp [bigRow]; omega)
    have e2 : (bigRow x n (k + 1))[j]? = none := Array.getElem?_eq_none (by simp [bigRow]; omega)
    rw [e1, e2, if_neg (by omega)]
theorem bigRow_zero (x n : Nat) : bigRow x n 0 = (List.replicate n (.int .u8 0)).toArray := by
  apply Array.ext_getElem?
  intro j
  by_cases hj : j < n
  · rw [bigRow_get x n 0 j hj, if_neg (by omega)]; simp [hj]
  · have e1 : (bigRow x n 0)[j]? = none := Array.getElem?_eq_none (by simp [bigRow]; omega)
    rw [e1]; simp [hj]
theorem bigRow_all (x n : Nat) : bigRow x n n = ((bigOf x n).map byteV).toArray := by
  apply Array.ext_getElem?
  intro j
  by_cases hj : j < n
  · rw [bigRow_get x n n j hj, if_pos (by omega)]; simp [bigOf, digit, hj]
  · have e1 : (bigRow x n n)[j]? = none := Array.getElem?_eq_none (by simp [bigRow]; omega)
    rw [e1]; simp [bigOf, hj]
end Go.Proofs.Ytdfdcenbpanegaa

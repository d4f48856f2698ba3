/- The walks over octet's functions on numbers. -/
import Derived.Test.YtkjkekhhhbopcaaRegJ
import Derived.Test.YtkjkekhhhbopcaaOwn
import Derived.IntWalk
import Derived.Laws.BitsAllLaws
import Derived.Deep.OwnRows
set_option linter.unusedSimpArgs false
set_option linter.unusedVariables false
namespace Go.Proofs.Ytkjkekhhhbopcaa
open Go.RowKit

/-- A slice whose elements' cells stand somewhere. -/
def SlV (get : Addr → Option Value) (v : Value) (n : Nat) (cs : List Value) : Prop :=
  ∃ A c, v = .slice A n c ∧ n ≤ c ∧ c ≤ maxLen ∧ ∀ j u, cs[j]? = some u → ∃ a, A = some a ∧ get (a.add j) = some u
def byteV (c : UInt8) : Value := .int .u8 c.toNat
def numOf (bs : List UInt8) : Nat := bs.foldl (fun x c => x * 256 + c.toNat) 0
theorem numOf_snoc (bs : List UInt8) (c : UInt8) : numOf (bs ++ [c]) = numOf bs * 256 + c.toNat := by simp [numOf]
theorem numOf_lt (bs : List UInt8) : numOf bs < 256 ^ bs.length := by
  have h : ∀ (bs : List UInt8) (x : Nat), bs.foldl (fun x c => x * 256 + c.toNat) x < (x + 1) * 256 ^ bs.length := by
    intro bs
    induction bs with
    | nil => intro x; simp
    | cons c bs ih =>
      intro x
      simp only [List.foldl_cons, List.length_cons]
      refine Nat.lt_of_lt_of_le (ih _) ?_
      have := c.toNat_lt
      rw [Nat.pow_succ, Nat.mul_comm (256 ^ _), ← Nat.mul_assoc]
      exact Nat.mul_le_mul_right _ (by omega)
  simpa [numOf] using h bs 0
theorem shl_or (x c : Nat) (hx : x < 72057594037927936) (hc : c < 256) : bits .or .u64 (IntKind.u64.wrap ((x : Int) * 256)) (c : Int) = ((x * 256 + c : Nat) : Int) := by
  rw [IntWalk.u64_in _ ⟨by omega, by omega⟩, show ((x : Int) * 256) = ((x * 256 : Nat) : Int) by omega, u64_or_nat _ _ (by omega) (by omega)]
  congr 1
  have := Nat.shiftLeft_add_eq_or_of_lt (i := 8) (show c < 2 ^ 8 by omega) x
  rw [Nat.shiftLeft_eq] at this
  exact this.symm
/-- The last n bytes of x. -/
def bigOf (x n : Nat) : List UInt8 := (List.range n).map fun i => UInt8.ofNat (x / 256 ^ (n - 1 - i) % 256)
theorem bigOf_length (x n : Nat) : (bigOf x n).length = n := by simp [bigOf]
theorem info_u8 : (Try.prog.info? 5).map (fun i => (i.zero, i.size, i.bytes)) = some (some (.int .u8 0), 1, 1) := by kernel_rfl
def digit (x n j : Nat) : UInt8 := UInt8.ofNat (x / 256 ^ (n - 1 - j) % 256)
/-- After k rounds: the last k bytes. -/
def bigRow (x n k : Nat) : Array Value := ((List.range n).map fun j => if n - k ≤ j then byteV (digit x n j) else .int .u8 0).toArray
theorem bigRow_get (x n k j : Nat) (hj : j < n) : (bigRow x n k)[j]? = some (if n - k ≤ j then byteV (digit x n j) else .int .u8 0) := by simp [bigRow, hj]
theorem bigRow_step (x n k : Nat) (hk : k < n) (v : Value) (hv : v = byteV (digit x n (n - 1 - k))) : (bigRow x n k).setIfInBounds (n - 1 - k) v = bigRow x n (k + 1) := by
  apply Array.ext_getElem?
  intro j
  rw [Array.getElem?_setIfInBounds]
  by_cases hj : j < n
  · rw [bigRow_get x n k j hj, bigRow_get x n (k + 1) j hj]
    by_cases e : n - 1 - k = j
    · subst e
      simp only [if_true, hv]
      rw [if_pos (by simp [bigRow]; omega), if_pos (by omega)]
    · rw [if_neg e]
      by_cases h1 : n - k ≤ j
      · rw [if_pos h1, if_pos (by omega)]
      · rw [if_neg h1, if_neg (by omega)]
  · have e1 : (bigRow x n k)[j]? = none := Array.getElem?_eq_none (by simp [bigRow]; omega)
    have e2 : (bigRow x n (k + 1))[j]? = none := Array.getElem?_eq_none (by simp [bigRow]; omega)
    rw [e1, e2, if_neg (by omega)]
theorem bigRow_zero (x n : Nat) : bigRow x n 0 = (List.replicate n (.int .u8 0)).toArray := by
  apply Array.ext_getElem?
  intro j
  by_cases hj : j < n
  · rw [bigRow_get x n 0 j hj, if_neg (by omega)]; simp [hj]
  · have e1 : (bigRow x n 0)[j]? = none := Array.getElem?_eq_none (by simp [bigRow]; omega)
    rw [e1]; simp [hj]
theorem bigRow_all (x n : Nat) : bigRow x n n = ((bigOf x n).map byteV).toArray := by
  apply Array.ext_getElem?
  intro j
  by_cases hj : j < n
  · rw [bigRow_get x n n j hj, if_pos (by omega)]; simp [bigOf, digit, hj]
  · have e1 : (bigRow x n n)[j]? = none := Array.getElem?_eq_none (by simp [bigRow]; omega)
    rw [e1]; simp [bigOf, hj]
end Go.Proofs.Ytkjkekhhhbopcaa

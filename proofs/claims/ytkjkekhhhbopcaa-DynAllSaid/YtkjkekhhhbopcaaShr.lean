/- What shrink leaves, as a plain function. -/
import Derived.Test.YtkjkekhhhbopcaaGet
set_option linter.unusedSimpArgs false
set_option linter.unusedVariables false
namespace Go.Proofs.Ytkjkekhhhbopcaa
open Go.RowKit

def shrF (most : Int) : List Fd → List Fd × Nat
  | [] => ([], 0)
  | f :: F => if most < (fsz (f :: F) : Int) then ((shrF most F).1, (shrF most F).2 + 1) else (f :: F, 0)
theorem shrF_stop {most : Int} {F : List Fd} (h : F = [] ∨ (fsz F : Int) ≤ most) : shrF most F = (F, 0) := by
  cases F with
  | nil => rfl
  | cons f F =>
    rcases h with h | h
    · cases h
    · unfold shrF; rw [if_neg (by omega)]
theorem shrF_go {most : Int} {f : Fd} {F : List Fd} (h : most < (fsz (f :: F) : Int)) : shrF most (f :: F) = ((shrF most F).1, (shrF most F).2 + 1) := by
  conv => lhs; unfold shrF
  rw [if_pos h]
theorem shrF_fits {most : Int} (h0 : 0 ≤ most) : ∀ F : List Fd, (fsz (shrF most F).1 : Int) ≤ most
  | [] => by simpa [shrF, fsz] using h0
  | f :: F => by
    by_cases h : most < (fsz (f :: F) : Int)
    · rw [shrF_go h]; exact shrF_fits h0 F
    · rw [shrF_stop (.inr (by omega))]; simp only []; omega
theorem shrF_len (most : Int) : ∀ F : List Fd, (shrF most F).1.length + (shrF most F).2 = F.length
  | [] => rfl
  | f :: F => by
    by_cases h : most < (fsz (f :: F) : Int)
    · rw [shrF_go h]; have := shrF_len most F; simp only [List.length_cons]; omega
    · rw [shrF_stop (.inr (by omega))]; rfl
theorem shrF_drop (most : Int) : ∀ F : List Fd, (shrF most F).1 = F.drop (shrF most F).2
  | [] => rfl
  | f :: F => by
    by_cases h : most < (fsz (f :: F) : Int)
    · rw [shrF_go h]; simp only [List.drop_succ_cons]; exact shrF_drop most F
    · rw [shrF_stop (.inr (by omega))]; rfl
end Go.Proofs.Ytkjkekhhhbopcaa

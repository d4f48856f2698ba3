/- append of bytes, where what was there is looked at again. -/
import Derived.Test.YtkjkekhhhbopcaaCat
set_option linter.unusedSimpArgs false
set_option linter.unusedVariables false
namespace Go.Proofs.Ytkjkekhhhbopcaa
open Go.RowKit

theorem Sat.dropL {G : Gnd} {w : World} {l : List Asrt} : ∀ L : List Asrt, Sat G w (L ++ l) → Sat G w l
  | [], H => H
  | _ :: L, H => Sat.dropL L (Sat.drop H)
theorem info_u8' : ∃ i, Try.prog.info? 5 = some i ∧ i.zero = some (.int .u8 0) ∧ i.size = 1 ∧ i.bytes = 1 := by
  have hi := info_u8
  cases hi' : Try.prog.info? 5 with
  | none => rw [hi'] at hi; simp at hi
  | some i => rw [hi'] at hi; simp at hi; exact ⟨i, rfl, hi.1, hi.2.1, hi.2.2⟩
end Go.Proofs.Ytkjkekhhhbopcaa

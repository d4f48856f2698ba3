/- Small words for walks: an end that the walk does not look into; a cell written with what it holds. -/
import Derived.Test.YtffdininmidkhaaProg
import Derived.WalkKit
import Derived.Lib.Hide
set_option linter.unusedSimpArgs false
set_option linter.unusedVariables false
namespace Go.Proofs.Ytffdininmidkhaa
open Go.RowKit

theorem calls_any {P : Program} {f : FuncId} {args : Array Value} {w : World} {R : Ending → World → Prop}
    (h : ∀ K : Ending → World → Prop, Hid (∀ e w', R e w' → K e w') → Calls P f args w K) : Calls P f args w R := h R (fun _ _ h => h)
theorem setCell_self {w : World} {a : Addr} {v : Value} (h : w.cell? a = some v) : w.setCell a v = w := by
  have hh : (w.setCell a v).heap = w.heap := by
    apply Array.ext_getElem?
    intro i
    unfold World.cell? at h
    simp only [World.setCell, Array.getElem?_modify]
    split
    · rename_i hi
      subst hi
      split at h
      · rename_i c t fr hb
        rw [hb]
        simp only [Option.map_some, Option.some.injEq, Obj.cells.injEq, and_true]
        split
        · rfl
        · rename_i hs
          simp only [hs] at h
          apply Array.ext_getElem?
          intro j
          rw [Array.getElem?_setIfInBounds]
          split
          · rename_i hj
            subst hj
            have hlt : a.off < c.size := by
              rcases Nat.lt_or_ge a.off c.size with h' | h'
              · exact h'
              · simp [Array.getElem?_eq_none h'] at h
            simp only [hlt, if_true]
            simpa using h.symm
          · rfl
      · simp at h
    · rfl
  cases w
  simp only [World.setCell] at hh ⊢
  rw [hh]
end Go.Proofs.Ytffdininmidkhaa

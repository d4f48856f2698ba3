/- The assertions in another order, told by their numbers. -/
import Derived.Test.YtdfdcenbpanegaaMid
set_option linter.unusedSimpArgs false
set_option linter.unusedVariables false
namespace Go.Proofs.Ytdfdcenbpanegaa
open Go.RowKit

theorem sepAll_perm {l l' : List Asrt} (h : l.Perm l') : ∀ {R k : Hp}, sepAll l R k → sepAll l' R k := by
  induction h with
  | nil => exact fun h => h
  | cons x _ ih => exact fun H => sepAll_tail (fun _ => ih) H
  | swap x y l => exact fun H => sepAll_swap H
  | trans _ _ ih1 ih2 => exact fun H => ih2 (ih1 H)
theorem range_filterMap {α : Type _} : ∀ (n : Nat) (L : List α), (List.range n).filterMap (fun i => L[i]?) = L.take n := by
  intro n
  induction n with
  | zero => intro L; simp
  | succ n ih =>
    intro L
    rw [List.range_succ, List.filterMap_append, ih]
    cases h : L[n]? with
    | none =>
      have h2 := List.getElem?_eq_none_iff.1 h
      rw [List.take_of_length_le h2, List.take_of_length_le (by omega)]
      simp [h]
    | some x =>
      have hn := (List.getElem?_eq_some_iff.1 h).1
      have he := (List.getElem?_eq_some_iff.1 h).2
      rw [List.take_succ_eq_append_getElem hn]
      simp [h, he]
/-- The k-th of what is written stood at the place is[k]; all of the first n are there. -/
theorem Sat.re {G : Gnd} {w : World} {L : List Asrt} (H : Sat G w L) (is : List Nat) (h : is.isPerm (List.range is.length) = true := by rfl) : Sat G w (is.filterMap (fun i => L[i]?) ++ L.drop is.length) := by
  refine H.map fun k => sepAll_perm ?_
  have h1 := (List.isPerm_iff.1 h).filterMap (fun i => L[i]?)
  rw [range_filterMap] at h1
  conv => lhs; rw [← List.take_append_drop is.length L]
  exact h1.symm.append_right _
end Go.Proofs.Ytdfdcenbpanegaa

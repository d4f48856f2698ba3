/- The walks over octet.In. -/
import Derived.Test.YtkjkekhhhbopcaaRef
import Derived.Deep.RegionHeld
import Derived.Laws.Cover3
set_option linter.unusedSimpArgs false
set_option linter.unusedVariables false
namespace Go.Proofs.Ytkjkekhhhbopcaa
open Go.RowKit

theorem add_add_all (a : Addr) (k j : Nat) : (a.add k).add j = a.add (k + j) := by
  unfold Addr.add
  by_cases hk : k = 0
  · simp [hk]
  · by_cases hj : j = 0
    · simp [hk, hj]
    · simp [hk, hj, Nat.add_assoc]
/-- Where a slice goes on behind its first k elements. -/
def fromA (A : Option Addr) (c k : Nat) : Option Addr := if c = k then A else A.map (·.add k)
theorem SlV.to {get : Addr → Option Value} {A : Option Addr} {n c : Nat} {cs : List Value} (h : SlV get (.slice A n c) n cs) (k : Nat) (hk : k ≤ n) : SlV get (.slice A k k) k (cs.take k) := by
  obtain ⟨A', c', e, h1, h2, h3⟩ := h
  cases e
  refine ⟨A, k, rfl, Nat.le_refl _, by omega, fun j u hj => h3 j u ?_⟩
  rw [List.getElem?_take] at hj
  split at hj
  · exact hj
  · cases hj
theorem SlV.from {get : Addr → Option Value} {A : Option Addr} {n c : Nat} {cs : List Value} (h : SlV get (.slice A n c) n cs) (hn : cs.length = n) (k : Nat) (hk : k ≤ n) : SlV get (.slice (fromA A c k) (n - k) (c - k)) (n - k) (cs.drop k) := by
  obtain ⟨A', c', e, h1, h2, h3⟩ := h
  cases e
  refine ⟨_, _, rfl, by omega, by omega, fun j u hj => ?_⟩
  rw [List.getElem?_drop] at hj
  obtain ⟨a, hA, hg⟩ := h3 _ u hj
  have hlt := (List.getElem?_eq_some_iff.1 hj).1
  refine ⟨a.add k, ?_, by rw [add_add_all]; exact hg⟩
  unfold fromA
  rw [if_neg (by omega), hA]
  rfl
theorem Sat.ownForm {G : Gnd} {w : World} {l : List Asrt} {e : TypeId} {size : Nat} {v : Value} {n : Nat} {xs : List Value} (H : Sat G w (ownS e size v n xs :: l)) : ∃ A c, v = .slice A n c ∧ n ≤ c ∧ c ≤ maxLen ∧ (A = none → c = 0) := by
  obtain ⟨_, ⟨rfl, rfl, _⟩ | ⟨g, cap, cur, rfl, h1, h2, _, _, _⟩⟩ := own_iff.1 H
  · exact ⟨none, 0, rfl, Nat.le_refl _, Nat.zero_le _, fun _ => rfl⟩
  · exact ⟨_, cap, rfl, h1, h2, fun h => by cases h⟩
end Go.Proofs.Ytkjkekhhhbopcaa

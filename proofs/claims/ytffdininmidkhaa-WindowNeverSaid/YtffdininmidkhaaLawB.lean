/- The walks of the laws on windows that go through calls. -/
import Derived.Test.YtffdininmidkhaaLawA
set_option linter.unusedSimpArgs false
set_option linter.unusedVariables false
namespace Go.Proofs.Ytffdininmidkhaa
open Go.RowKit

theorem grow_cases (m n : Int) : (∃ c : Int, c ≠ 0 ∧ winGrow m n = (m, c)) ∨ (winGrow m n = (m + n, 0) ∧ 0 < n ∧ n ≤ 2147483647 ∧ m + n ≤ 2147483647 ∧ -2147483648 ≤ m + n) := by
  unfold winGrow winSet
  cases h : winRight n with
  | false => exact .inl ⟨11, by omega, by simp⟩
  | true =>
    simp [winRight] at h
    by_cases h1 : n = 0
    · exact .inl ⟨11, by omega, by simp [h1]⟩
    · by_cases h2 : 2147483647 < m + n
      · exact .inl ⟨103, by omega, by simp [h1, h2]⟩
      · by_cases h3 : m + n < -2147483648
        · exact .inl ⟨11, by omega, by simp [h1, h2, h3]⟩
        · exact .inr ⟨by simp [h1, h2, h3], by omega, by omega, by omega, by omega⟩
theorem spend_cases (m n : Int) (h0 : -2147483648 ≤ m) (h1 : m ≤ 2147483647) : (∃ c : Int, c ≠ 0 ∧ winSpend m n = (m, c)) ∨ (winSpend m n = (m - n, 0) ∧ 0 ≤ n ∧ n ≤ 2147483647 ∧ (n = 0 ∨ n ≤ m)) := by
  unfold winSpend winSet
  cases h : winRight n with
  | false => exact .inl ⟨11, by omega, by simp⟩
  | true =>
    simp [winRight] at h
    cases h2 : winCan m n with
    | false => exact .inl ⟨15, by omega, by simp⟩
    | true =>
      simp [winCan] at h2
      refine .inr ⟨?_, by omega, by omega, by omega⟩
      rw [if_pos rfl, if_pos rfl, if_neg (by omega), if_neg (by omega)]
theorem new_cases (n : Int) : (∃ c : Int, c ≠ 0 ∧ winNew n = (0, c) ∧ c = 11 ∧ (n < 0 ∨ 2147483647 < n)) ∨ (winNew n = (n, 0) ∧ 0 ≤ n ∧ n ≤ 2147483647) := by
  unfold winNew
  cases h : winRight n with
  | false => exact .inl ⟨11, by omega, by simp, rfl, by simp [winRight] at h; omega⟩
  | true =>
    simp [winRight] at h
    exact .inr ⟨by simp, h.1, h.2⟩
/-- An op's cells. -/
theorem op3_cells {R : Hp} {d : D} {es : List Value} (h : Rd R (.agg [.int .i64, .int .i64, .int .i64]) d es) :
    ∃ k a b : Int, es = [.int .i64 k, .int .i64 a, .int .i64 b] ∧ (-9223372036854775808 ≤ a ∧ a ≤ 9223372036854775807) ∧ (-9223372036854775808 ≤ b ∧ b ≤ 9223372036854775807) := by
  cases d <;> simp only [Rd] at h
  rename_i ds
  match ds, h with
  | [d0, d1, d2], h =>
    simp only [RdAll] at h
    obtain ⟨c0, _, rfl, _, h0, c1, _, rfl, _, h1, c2, _, rfl, _, h2, rfl⟩ := h
    cases d0 <;> simp only [Rd] at h0
    cases d1 <;> simp only [Rd] at h1
    cases d2 <;> simp only [Rd] at h2
    obtain ⟨rfl, _⟩ := h0
    obtain ⟨rfl, w1⟩ := h1
    obtain ⟨rfl, w2⟩ := h2
    exact ⟨_, _, _, rfl, bounds_i64 w1, bounds_i64 w2⟩
  | [], h => simp [RdAll] at h
  | [_], h => simp [RdAll] at h
  | [_, _], h => simp [RdAll] at h
  | _ :: _ :: _ :: _ :: _, h => simp [RdAll] at h
/-- Three cells of an element, as the walk asks for them. -/
theorem three_cells {G : Gnd} {w : World} {l : List Asrt} (H : Sat G w l) {a : Addr} {i : Nat} {x y z : Value}
    (h : ∀ j, j < 3 → cellR G.ro (a.add (i * 3 + j)) = [x, y, z][j]?) : ∃ b off, a.add (i * 3) = ⟨b, off, none⟩ ∧ w.cell? ⟨b, off, none⟩ = some x ∧ w.cell? ⟨b, off + 1, none⟩ = some y ∧ w.cell? ⟨b, off + 2, none⟩ = some z := by
  have c0 := H.cellR (h 0 (by omega))
  have c1 := H.cellR (h 1 (by omega))
  have c2 := H.cellR (h 2 (by omega))
  obtain ⟨b, o, s⟩ := a
  have hs : (⟨b, o, s⟩ : Addr).add (i * 3) = ⟨b, o + i * 3, none⟩ := by
    by_cases hi : i = 0
    · subst hi
      cases s with
      | none => rfl
      | some s => simp [Addr.add, World.cell?] at c0; split at c0 <;> cases c0
    · simp [Addr.add]; omega
  have e1 : (⟨b, o, s⟩ : Addr).add (i * 3 + 1) = ⟨b, o + i * 3 + 1, none⟩ := by simp [Addr.add, Nat.add_assoc]
  have e2 : (⟨b, o, s⟩ : Addr).add (i * 3 + 2) = ⟨b, o + i * 3 + 2, none⟩ := by simp [Addr.add, Nat.add_assoc]
  rw [Nat.add_zero, hs] at c0
  rw [e1] at c1
  rw [e2] at c2
  exact ⟨b, o + i * 3, hs, c0, c1, c2⟩
end Go.Proofs.Ytffdininmidkhaa

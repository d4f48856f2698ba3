/- Slices of pairs of whole numbers, that nobody turns. -/
import Derived.Test.YtblocdfpdabbiaaArgs
set_option linter.unusedSimpArgs false
set_option linter.unusedVariables false
namespace Go.Proofs.Ytblocdfpdabbiaa
open Go.RowKit

def RPairs (R : Hp) (v : Value) (ps : List (Int × Int)) : Prop :=
  ∃ A c, v = .slice A ps.length c ∧ ps.length ≤ 9223372036854775807 ∧ ∀ i p, ps[i]? = some p → ∃ a b off, A = some a ∧ a.add (i * 2) = ⟨b, off, none⟩ ∧ cellR R ⟨b, off, none⟩ = some (.int .i64 p.1) ∧ cellR R ⟨b, off + 1, none⟩ = some (.int .i64 p.2)
def dpair : D → Int × Int
  | .agg [.int a, .int b] => (a, b)
  | _ => (0, 0)
theorem pair_cells {R : Hp} {d : D} {es : List Value} (h : Rd R (.agg [.int .i64, .int .i64]) d es) : es = [.int .i64 (dpair d).1, .int .i64 (dpair d).2] ∧ (-9223372036854775808 ≤ (dpair d).2 ∧ (dpair d).2 ≤ 9223372036854775807) := by
  cases d <;> simp only [Rd] at h
  rename_i ds
  match ds, h with
  | [d0, d1], h =>
    simp only [RdAll] at h
    obtain ⟨c0, _, rfl, _, h0, c1, _, rfl, _, h1, rfl⟩ := h
    cases d0 <;> simp only [Rd] at h0
    cases d1 <;> simp only [Rd] at h1
    obtain ⟨rfl, _⟩ := h0
    obtain ⟨rfl, w1⟩ := h1
    refine ⟨rfl, ?_⟩
    simp [Lit.wf] at w1
    exact w1
  | [], h => simp [RdAll] at h
  | [_], h => simp [RdAll] at h
  | _ :: _ :: _ :: _, h => simp [RdAll] at h
theorem pairs_of {R : Hp} {v : Value} {l : List D} (h : RdSl R 16 (.agg [.int .i64, .int .i64]) v l) : RPairs R v (l.map dpair) ∧ l.length * 16 ≤ 140737488351232 ∧ ∀ p ∈ l.map dpair, -9223372036854775808 ≤ p.2 ∧ p.2 ≤ 9223372036854775807 := by
  obtain ⟨A, c, hv, _, _, hb, _, hel⟩ := h.form
  refine ⟨⟨A, c, by simpa using hv, by simp; omega, fun i p hp => ?_⟩, hb, fun p hp => ?_⟩
  · rw [List.getElem?_map] at hp
    cases hd : l[i]? with
    | none => rw [hd] at hp; cases hp
    | some d =>
      rw [hd] at hp
      simp only [Option.map_some, Option.some.injEq] at hp
      subst hp
      obtain ⟨a, hA, es, he, hc, hr⟩ := hel i d hd
      have he' := (pair_cells hr).1
      subst he'
      have h0 := hc 0 (by simp [Ty.size, sizeAll])
      have h1 := hc 1 (by simp [Ty.size, sizeAll])
      simp only [Ty.size, sizeAll, Nat.add_zero, Nat.reduceAdd, List.getElem?_cons_zero, List.getElem?_cons_succ] at h0 h1
      obtain ⟨b, off, hab⟩ : ∃ b off, a.add (i * 2) = ⟨b, off, none⟩ := by
        rcases hx : a.add (i * 2) with ⟨b, off, sp⟩
        cases sp with
        | none => exact ⟨b, off, rfl⟩
        | some s =>
          rw [hx] at h0
          simp only [cellR] at h0
          split at h0 <;> simp at h0
      refine ⟨a, b, off, hA, hab, by rw [← hab]; exact h0, ?_⟩
      have h2 : a.add (i * 2 + 1) = ⟨b, off + 1, none⟩ := by
        unfold Addr.add at hab ⊢
        by_cases hi : i * 2 = 0
        · simp only [hi, if_true] at hab; subst hab; simp [hi]
        · simp only [hi, if_false] at hab; simp at hab; simp [hab]; omega
      rw [← h2]; exact h1
  · obtain ⟨d, hd, rfl⟩ := List.mem_map.1 hp
    obtain ⟨i, hi, rfl⟩ := List.mem_iff_getElem.1 hd
    obtain ⟨a, hA, es, he, hc, hr⟩ := hel i l[i] (List.getElem?_eq_getElem hi)
    exact (pair_cells hr).2
end Go.Proofs.Ytblocdfpdabbiaa

/- Slices of three whole numbers each, that nobody turns. -/
import Derived.Test.YtkjelbnkfnifgaaArgs
set_option linter.unusedSimpArgs false
set_option linter.unusedVariables false
namespace Go.Proofs.Ytkjelbnkfnifgaa
open Go.RowKit

def d3 : D → Int × Int × Int
  | .agg [.int a, .int b, .int c] => (a, b, c)
  | _ => (0, 0, 0)
def in64 (x : Int) : Prop := -9223372036854775808 ≤ x ∧ x ≤ 9223372036854775807
theorem ops3_cells {R : Hp} {d : D} {es : List Value} (h : Rd R (.agg [.int .i64, .int .i64, .int .i64]) d es) :
    es = [.int .i64 (d3 d).1, .int .i64 (d3 d).2.1, .int .i64 (d3 d).2.2] ∧ in64 (d3 d).1 ∧ in64 (d3 d).2.1 ∧ in64 (d3 d).2.2 := by
  have bd : ∀ {x : Int}, (Lit.int .i64 x).wf = true → in64 x := fun h => by simp [Lit.wf] at h; exact h
  cases d <;> simp only [Rd] at h
  rename_i ds
  match ds, h with
  | [d0, d1, d2], h =>
    simp only [RdAll] at h
    obtain ⟨c0, _, rfl, _, h0, c1, _, rfl, _, h1, c2, _, rfl, _, h2, rfl⟩ := h
    cases d0 <;> simp only [Rd] at h0
    cases d1 <;> simp only [Rd] at h1
    cases d2 <;> simp only [Rd] at h2
    obtain ⟨rfl, w0⟩ := h0
    obtain ⟨rfl, w1⟩ := h1
    obtain ⟨rfl, w2⟩ := h2
    exact ⟨rfl, bd w0, bd w1, bd w2⟩
  | [], h => simp [RdAll] at h
  | [_], h => simp [RdAll] at h
  | [_, _], h => simp [RdAll] at h
  | _ :: _ :: _ :: _ :: _, h => simp [RdAll] at h
/-- v is a slice of the triples, that nobody turns. -/
def ROps (R : Hp) (v : Value) (ps : List (Int × Int × Int)) : Prop :=
  ∃ A c, v = .slice A ps.length c ∧ ps.length ≤ c ∧ c ≤ 9223372036854775807 ∧ ∀ i p, ps[i]? = some p → ∃ a b off, A = some a ∧ a.add (i * 3) = ⟨b, off, none⟩ ∧ cellR R ⟨b, off, none⟩ = some (.int .i64 p.1) ∧ cellR R ⟨b, off + 1, none⟩ = some (.int .i64 p.2.1) ∧ cellR R ⟨b, off + 2, none⟩ = some (.int .i64 p.2.2) ∧ in64 p.1 ∧ in64 p.2.1 ∧ in64 p.2.2
theorem ops3_of {R : Hp} {v : Value} {l : List D} (h : RdSl R 24 (.agg [.int .i64, .int .i64, .int .i64]) v l) : ∃ ps, ROps R v ps := by
  obtain ⟨A, c, hv, h1, h2, hb, _, hel⟩ := h.form
  refine ⟨l.map d3, A, c, by simpa using hv, by simpa using h1, h2, fun i p hp => ?_⟩
  rw [List.getElem?_map] at hp
  cases hd : l[i]? with
  | none => rw [hd] at hp; cases hp
  | some d =>
    rw [hd] at hp
    simp only [Option.map_some, Option.some.injEq] at hp
    subst hp
    obtain ⟨a, hA, es, he, hc, hr⟩ := hel i d hd
    obtain ⟨he', b0, b1, b2⟩ := ops3_cells hr
    subst he'
    have h0 := hc 0 (by simp [Ty.size, sizeAll])
    have h1 := hc 1 (by simp [Ty.size, sizeAll])
    have h2 := hc 2 (by simp [Ty.size, sizeAll])
    simp only [Ty.size, sizeAll, Nat.add_zero, Nat.reduceAdd, List.getElem?_cons_zero, List.getElem?_cons_succ] at h0 h1 h2
    obtain ⟨b, o, s⟩ := a
    have hs : (⟨b, o, s⟩ : Addr).add (i * 3) = ⟨b, o + i * 3, none⟩ := by
      by_cases hi : i = 0
      · subst hi
        cases s with
        | none => rfl
        | some s =>
          exfalso
          simp [Addr.add, cellR] at h0
          split at h0 <;> cases h0
      · simp [Addr.add]; omega
    have e1 : (⟨b, o, s⟩ : Addr).add (i * 3 + 1) = ⟨b, o + i * 3 + 1, none⟩ := by simp [Addr.add, Nat.add_assoc]
    have e2 : (⟨b, o, s⟩ : Addr).add (i * 3 + 2) = ⟨b, o + i * 3 + 2, none⟩ := by simp [Addr.add, Nat.add_assoc]
    rw [hs] at h0
    rw [e1] at h1
    rw [e2] at h2
    exact ⟨_, b, o + i * 3, hA, hs, h0, h1, h2, b0, b1, b2⟩
end Go.Proofs.Ytkjelbnkfnifgaa

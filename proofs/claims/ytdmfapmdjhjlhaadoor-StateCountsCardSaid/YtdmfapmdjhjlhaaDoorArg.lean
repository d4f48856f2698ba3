/- Slices of whole numbers that came in. -/
import Derived.Test.YtdmfapmdjhjlhaaDoorAw
import Derived.Test.YtdmfapmdjhjlhaaDoorArgs
set_option linter.unusedSimpArgs false
set_option linter.unusedVariables false
namespace Go.Proofs.YtdmfapmdjhjlhaaDoor
open Go.RowKit

def dint : D → Int
  | .int a => a
  | _ => 0
def RInts (R : Hp) (v : Value) (es : List Int) : Prop :=
  ∃ A c, v = .slice A es.length c ∧ es.length ≤ c ∧ c ≤ 9223372036854775807 ∧ ∀ i, i < es.length → ∃ a b off, A = some a ∧ a.add i = ⟨b, off, none⟩ ∧ cellR R ⟨b, off, none⟩ = some (.int .i64 (es.getD i 0)) ∧ -9223372036854775808 ≤ es.getD i 0 ∧ es.getD i 0 ≤ 9223372036854775807
theorem ints_of {R : Hp} {v : Value} {l : List D} (h : RdSl R 8 (.int .i64) v l) : ∃ es, RInts R v es := by
  obtain ⟨A, c, hv, h1, h2, hb, _, hel⟩ := h.form
  refine ⟨l.map dint, A, c, by simpa using hv, by simpa using h1, h2, fun i hi => ?_⟩
  have hi' : i < l.length := by simpa using hi
  obtain ⟨a, hA, es, he, hc, hr⟩ := hel i l[i] (List.getElem?_eq_getElem hi')
  have hd : es = [.int .i64 (dint l[i])] ∧ (-9223372036854775808 ≤ dint l[i] ∧ dint l[i] ≤ 9223372036854775807) := by
    generalize l[i] = d at *
    cases d <;> simp only [Rd] at hr
    obtain ⟨rfl, hw⟩ := hr
    simp [Lit.wf] at hw
    exact ⟨rfl, hw⟩
  obtain ⟨rfl, hr1, hr2⟩ := hd
  have h0 := hc 0 (by simp [Ty.size])
  simp only [Ty.size, Nat.mul_one, Nat.add_zero, List.getElem?_cons_zero] at h0
  have hg : (l.map dint).getD i 0 = dint l[i] := by simp [List.getD_eq_getElem?_getD, hi']
  rw [hg]
  obtain ⟨b, off, hab⟩ : ∃ b off, a.add i = ⟨b, off, none⟩ := by
    rcases hx : a.add i with ⟨b, off, sp⟩
    cases sp with
    | none => exact ⟨b, off, rfl⟩
    | some s =>
      rw [hx] at h0
      simp only [cellR] at h0
      split at h0 <;> simp at h0
  exact ⟨a, b, off, hA, hab, by rw [← hab]; exact h0, hr1, hr2⟩
theorem cnt_far {C : List Int} {e : Int} (h : e < 0 ∨ 8 < e) : cntAt C e = 0 := if_neg (by omega)
theorem cnt_near {C : List Int} {e : Nat} (h : e < 9) : cntAt C e = C.getD e 0 := by
  unfold cntAt
  rw [if_pos (by omega)]
  simp
theorem bump_len (C : List Int) (e : Int) (b : Bool) : (bump C e b).length = C.length := by unfold bump; split <;> simp
theorem bump_range {C : List Int} {k : Int} (h : ∀ x ∈ C, 0 ≤ x ∧ x ≤ k) (hk : 0 ≤ k) (e : Int) (b : Bool) : ∀ x ∈ bump C e b, 0 ≤ x ∧ x ≤ k + 1 := by
  intro x hx
  unfold bump at hx
  split at hx
  · rcases List.mem_or_eq_of_mem_set hx with hx | rfl
    · have := h x hx; omega
    · have : 0 ≤ C.getD e.toNat 0 ∧ C.getD e.toNat 0 ≤ k := by
        by_cases he : e.toNat < C.length
        · rw [List.getD_eq_getElem?_getD, List.getElem?_eq_getElem he]; exact h _ (List.getElem_mem he)
        · rw [List.getD_eq_getElem?_getD, List.getElem?_eq_none (by omega)]; exact ⟨Int.le_refl _, hk⟩
      omega
  · have := h x hx; omega
theorem run_slice_nil (A : Option Addr) (n c : Nat) : True := trivial
end Go.Proofs.YtdmfapmdjhjlhaaDoor

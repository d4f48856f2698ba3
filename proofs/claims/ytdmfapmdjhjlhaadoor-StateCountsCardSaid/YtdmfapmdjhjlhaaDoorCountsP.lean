/- The plain law behind StateCounts. -/
import Derived.Test.YtdmfapmdjhjlhaaDoorEndsP
import Derived.Test.YtdmfapmdjhjlhaaDoorPerm
set_option linter.unusedSimpArgs false
set_option linter.unusedVariables false
namespace Go.Proofs.YtdmfapmdjhjlhaaDoor
open Go.RowKit

def isum : List Int → Int
  | [] => 0
  | x :: l => x + isum l
theorem isum_append (a b : List Int) : isum (a ++ b) = isum a + isum b := by
  induction a with
  | nil => simp [isum]
  | cons x a ih => simp [isum, ih]; omega
theorem isum_set : ∀ (L : List Int) (i : Nat) (x : Int), i < L.length → isum (L.set i x) = isum L - L.getD i 0 + x
  | [], i, x, h => by simp at h
  | y :: L, 0, x, h => by simp [isum]; omega
  | y :: L, i + 1, x, h => by
    have := isum_set L i x (by simpa using h)
    simp [isum] at this ⊢
    omega
theorem isum_take {L : List Int} {k : Nat} (h : k < L.length) : isum (L.take (k + 1)) = isum (L.take k) + L.getD k 0 := by
  rw [List.take_succ_eq_append_getElem h, isum_append, List.getD_eq_getElem?_getD, List.getElem?_eq_getElem h]
  simp [isum]
theorem isum_bound {L : List Int} {m : Int} (h : ∀ x ∈ L, 0 ≤ x ∧ x ≤ m) : 0 ≤ isum L ∧ isum L ≤ L.length * m := by
  induction L with
  | nil => simp [isum]
  | cons x L ih =>
    have h1 := ih fun y hy => h y (.tail _ hy)
    have h2 := h x (.head _)
    simp only [isum, List.length_cons, Int.natCast_add, Int.natCast_one, Int.add_mul, Int.one_mul]
    omega
theorem isum_bump {C : List Int} (hC : C.length = 9) {e : Int} {b : Bool} (h : b = true → 0 ≤ e ∧ e < 9) : isum (bump C e b) = isum C + if b then 1 else 0 := by
  unfold bump
  cases b with
  | false => simp
  | true =>
    have := h rfl
    simp only [if_true]
    rw [isum_set _ _ _ (by omega)]; omega
/-- One event of both. -/
structure CntR (n : Nat) (e : Int) (p : PRes) (m : Nat) : Prop where
  pn : p.n = m
  m5 : m < 5
  cnt : p.cnt = codeGood p
  may : sMay n e = p.cnt
  stay : p.cnt = false → m = n ∨ (p.code = 105 ∧ m = 4)
  shut : p.code = 105 → m = 4
  near : p.cnt = true → 0 ≤ e ∧ e < 9
theorem cnt_all : ∀ n ∈ List.range 5, ∀ e ∈ List.range 9, (0 ≤ (pDo n e).n ∧ (pDo n e).n < 5) ∧ (pDo n e).cnt = codeGood (pDo n e) ∧ sMay n e = (pDo n e).cnt ∧ ((pDo n e).cnt = false → (pDo n e).n = n ∨ ((pDo n e).code = 105 ∧ (pDo n e).n = 4)) ∧ ((pDo n e).code = 105 → (pDo n e).n = 4) := by decide +kernel
theorem cnt_any (n : Nat) (hn : n < 5) (e : Int) : ∃ m, CntR n e (pDo n e) m := by
  by_cases hf : e < 0 ∨ 8 < e
  · rw [far _ _ hf]
    refine ⟨n, rfl, hn, rfl, ?_, fun _ => .inl rfl, (fun h => by cases h), (fun h => by cases h)⟩
    unfold sMay
    rw [show decide (0 ≤ e ∧ e < 9) = false from decide_eq_false (by omega)]
    simp
  · obtain ⟨e, rfl⟩ : ∃ j : Nat, e = j := ⟨e.toNat, by omega⟩
    obtain ⟨a1, a2, a3, a4, a5⟩ := cnt_all n (List.mem_range.2 hn) e (List.mem_range.2 (by omega))
    obtain ⟨m, hm⟩ : ∃ m : Nat, (pDo n e).n = m := ⟨(pDo n e).n.toNat, by omega⟩
    exact ⟨m, hm, by omega, a2, a3, fun hb => by have := a4 hb; omega, fun hc => by have := a5 hc; omega, fun _ => by omega⟩
end Go.Proofs.YtdmfapmdjhjlhaaDoor

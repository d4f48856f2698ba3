/- Arguments that are structs: their parts. -/
import Derived.Test.YtkjkekhhhbopcaaSlv
set_option linter.unusedSimpArgs false
set_option linter.unusedVariables false
namespace Go.Proofs.Ytkjkekhhhbopcaa
open Go.RowKit

theorem rd_int1 {R : Hp} {k : IntKind} {d : D} {c : List Value} (h : Rd R (.int k) d c) : ∃ n, c = [.int k n] ∧ (Lit.int k n).wf = true := by
  cases d <;> simp only [Rd] at h
  exact ⟨_, h.1, h.2⟩
theorem rd_bool1 {R : Hp} {d : D} {c : List Value} (h : Rd R .bool d c) : ∃ n, c = [.bool n] := by
  cases d <;> simp only [Rd] at h
  exact ⟨_, h⟩
theorem rd_bytes1 {R : Hp} {d : D} {c : List Value} (hl : c.length = 1) (h : Rd R (.sl 1 (.int .u8)) d c) : ∃ v t, c = [v] ∧ SlB (cellR R) v t ∧ t.length ≤ 140737488351232 := by
  obtain ⟨l, rfl⟩ : ∃ l, d = .sl l := by cases d <;> (try simp only [Rd] at h) <;> exact ⟨_, rfl⟩
  obtain ⟨v, rfl⟩ : ∃ v, c = [v] := by
    match c, hl with
    | [v], _ => exact ⟨v, rfl⟩
  have h3' : RdSl R 1 (.int .u8) v l := h
  obtain ⟨bs, e1, e2, e3⟩ := slb_of h3'
  exact ⟨v, bs, rfl, e3, e2⟩
theorem rdAll_cons {R : Hp} {t : Ty} {ts : List Ty} {ds : List D} {cs : List Value} (h : RdAll R (t :: ts) ds cs) : ∃ d ds' c cs', ds = d :: ds' ∧ cs = c ++ cs' ∧ c.length = t.size ∧ Rd R t d c ∧ RdAll R ts ds' cs' := by
  cases ds with
  | nil => simp [RdAll] at h
  | cons d ds =>
    simp only [RdAll] at h
    obtain ⟨c1, c2, rfl, h1, h2, h3⟩ := h
    exact ⟨d, ds, c1, c2, rfl, rfl, h1, h2, h3⟩
theorem rdAll_nil {R : Hp} {ds : List D} {cs : List Value} (h : RdAll R [] ds cs) : cs = [] := by
  cases ds with
  | nil => simpa [RdAll] using h
  | cons d ds => simp [RdAll] at h
end Go.Proofs.Ytkjkekhhhbopcaa

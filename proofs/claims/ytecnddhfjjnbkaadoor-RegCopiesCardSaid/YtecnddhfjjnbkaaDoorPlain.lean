/- The plain law: what the table says is what the reference says. No program in sight. -/
import Derived.Test.YtecnddhfjjnbkaaDoorRef
set_option linter.unusedSimpArgs false
set_option linter.unusedVariables false
namespace Go.Proofs.YtecnddhfjjnbkaaDoor
open Go.RowKit

theorem all9 {p : Nat → Prop} (h : ∀ e ∈ List.range 9, p e) (e : Nat) (he : e < 9) : p e := h e (List.mem_range.2 he)
def codeOk (p : PRes) : Bool := p.code == 0 && !p.conn
/-- One event, of both. -/
def same1 (x : R4) (e : Int) : Bool :=
  let p := pDo (rNum x) e
  let q := rDo x e
  decide (q.1 ∈ goods) && decide (p.n = rNum q.1) && ((p.err == 25) == (q.2 == 1)) && (p.err == 25 || p.err == 0) && (codeOk p == decide (q.2 < 2)) && (p.conn == (q.2 == 2)) && (p.cnt == (q.2 == 0)) && (p.cnt == ((p.err == 0) && codeOk p)) && decide (0 ≤ p.n ∧ p.n < 5)
theorem same_all : ∀ x ∈ goods, ∀ e ∈ List.range 9, same1 x e = true := by decide +kernel
structure Same1 (x : R4) (e : Int) : Prop where
  good : (rDo x e).1 ∈ goods
  num : (pDo (rNum x) e).n = rNum (rDo x e).1
  err : ((pDo (rNum x) e).err == 25) = ((rDo x e).2 == 1)
  ok : codeOk (pDo (rNum x) e) = decide ((rDo x e).2 < 2)
  conn : (pDo (rNum x) e).conn = ((rDo x e).2 == 2)
  cnt : (pDo (rNum x) e).cnt = ((rDo x e).2 == 0)
theorem same_of (x : R4) (hx : x ∈ goods) (e : Nat) (he : e < 9) : Same1 x e := by
  have h := same_all x hx e (List.mem_range.2 he)
  simp only [same1, Bool.and_eq_true, decide_eq_true_eq, beq_iff_eq] at h
  obtain ⟨⟨⟨⟨⟨⟨⟨⟨h1, h2⟩, h3⟩, h4⟩, h5⟩, h6⟩, h7⟩, h8⟩, h9⟩ := h
  exact ⟨h1, h2, h3, h5, h6, h7⟩
theorem num_range (x : R4) (hx : x ∈ goods) : 0 ≤ rNum x ∧ rNum x < 5 := by
  have : ∀ x ∈ goods, 0 ≤ rNum x ∧ rNum x < 5 := by decide
  exact this x hx
/-- Any event of any state: where it leads. -/
def fine1 (n e : Nat) : Bool :=
  let p := pDo n e
  decide (0 ≤ p.n ∧ p.n < 5) && (p.cnt == ((p.err == 0) && codeOk p)) && (sMay n e == ((p.err == 0) && codeOk p)) && (decide (p.cnt = true) || (p.n == (n : Int)) || (p.code == 105 && p.n == 4)) && (!(p.code == 105) || p.n == 4)
    && (!(n == 4) || p.n == 4)
    && (!(p.cnt && e == 2) || (n == 1 || n == 2)) && (!(p.cnt && e == 2) || (p.n == 3 || p.n == 4)) && (!(n == 3 || n == 4) || (p.n == 3 || p.n == 4)) && (!((n == 3 || n == 4) && p.cnt) || decide (2 < e))
    && (!(p.cnt && e == 6) || (n == 1 || n == 3)) && (!(p.cnt && e == 6) || (p.n == 2 || p.n == 4)) && (!(n == 2 || n == 4) || (p.n == 2 || p.n == 4)) && (!((n == 2 || n == 4) && p.cnt) || decide (e < 4 ∨ 6 < e))
    && (!(p.cnt && e == 3) || (p.n == 4 && !(n == 4)))
theorem fine_all : ∀ n ∈ List.range 5, ∀ e ∈ List.range 9, fine1 n e = true := by decide +kernel
theorem fine_of (n : Nat) (hn : n < 5) (e : Nat) (he : e < 9) : fine1 n e = true := fine_all n (List.mem_range.2 hn) e (List.mem_range.2 he)
theorem far (n e : Int) (he : e < 0 ∨ 8 < e) : pDo n e = ⟨n, 11, 0, false, false⟩ := by
  unfold pDo
  rw [show eSends e = false from decide_eq_false (by omega), show eGets e = false from decide_eq_false (by omega)]
  rfl
end Go.Proofs.YtecnddhfjjnbkaaDoor

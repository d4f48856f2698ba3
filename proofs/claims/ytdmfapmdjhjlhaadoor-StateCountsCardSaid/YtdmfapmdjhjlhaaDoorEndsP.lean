/- The plain law behind StateEnds. -/
import Derived.Test.YtdmfapmdjhjlhaaDoorLaid
set_option linter.unusedSimpArgs false
set_option linter.unusedVariables false
namespace Go.Proofs.YtdmfapmdjhjlhaaDoor
open Go.RowKit

/-- What a stream's ends say of where it is, and of its counts. -/
structure EndsAt (n : Nat) (C : List Int) (cl us th : Bool) (k : Nat) : Prop where
  n5 : n < 5
  len : C.length = 9
  rng : ∀ y ∈ C, 0 ≤ y ∧ y ≤ (k : Int)
  closed : cl = (n == 4)
  ours : us = true → n = 3 ∨ n = 4
  theirs : th = true → n = 2 ∨ n = 4
  c2 : C.getD 2 0 ≤ if us then 1 else 0
  c6 : C.getD 6 0 ≤ if th then 1 else 0
  c3 : C.getD 3 0 ≤ if n = 4 then 1 else 0
def codeGood (p : PRes) : Bool := (p.err == 0) && codeOk p
theorem getD_bump (C : List Int) (hC : C.length = 9) (e j : Nat) (he : e < 9) (b : Bool) : (bump C e b).getD j 0 = if b = true ∧ j = e then C.getD e 0 + 1 else C.getD j 0 := by
  unfold bump
  cases b with
  | false => simp
  | true =>
    simp only [if_true, Int.toNat_natCast, true_and]
    by_cases h : j = e
    · subst h
      rw [if_pos rfl, List.getD_eq_getElem?_getD, List.getElem?_set_self (by omega)]; rfl
    · rw [if_neg h, List.getD_eq_getElem?_getD, List.getElem?_set_ne (by omega), ← List.getD_eq_getElem?_getD]
/-- Any event of any state, in plain words. -/
def FineA (n e : Nat) (p : PRes) : Prop := (0 ≤ p.n ∧ p.n < 5) ∧ (n = 4 → p.n = 4) ∧ (p.cnt = true → e = 3 → p.n = 4 ∧ n ≠ 4)
def FineB (n e : Nat) (p : PRes) : Prop := (p.cnt = true → e = 2 → (n = 1 ∨ n = 2) ∧ (p.n = 3 ∨ p.n = 4)) ∧ ((n = 3 ∨ n = 4) → (p.n = 3 ∨ p.n = 4) ∧ (p.cnt = true → 2 < e))
def FineC (n e : Nat) (p : PRes) : Prop := (p.cnt = true → e = 6 → (n = 1 ∨ n = 3) ∧ (p.n = 2 ∨ p.n = 4)) ∧ ((n = 2 ∨ n = 4) → (p.n = 2 ∨ p.n = 4) ∧ (p.cnt = true → e < 4 ∨ 6 < e))
instance (n e : Nat) (p : PRes) : Decidable (FineA n e p) := by unfold FineA; infer_instance
instance (n e : Nat) (p : PRes) : Decidable (FineB n e p) := by unfold FineB; infer_instance
instance (n e : Nat) (p : PRes) : Decidable (FineC n e p) := by unfold FineC; infer_instance
theorem fineP_all : ∀ n ∈ List.range 5, ∀ e ∈ List.range 9, FineA n e (pDo n e) ∧ FineB n e (pDo n e) ∧ FineC n e (pDo n e) ∧ (pDo n e).cnt = codeGood (pDo n e) := by decide +kernel
structure Ends1 (n e : Nat) (p : PRes) (C : List Int) (cl us th : Bool) (k : Nat) : Prop where
  cnt : p.cnt = codeGood p
  nn : ∃ m : Nat, p.n = m
  cl4 : cl = true → p.n = 4
  us1 : us = true → p.cnt = true → 2 < e
  th1 : th = true → p.cnt = true → e < 4 ∨ 6 < e
  step : ∀ m : Nat, p.n = m → EndsAt m (bump C e p.cnt) (p.n == 4) (us || (p.cnt && e == 2)) (th || (p.cnt && e == 6)) (k + 1)
theorem ends_step {n e : Nat} {C : List Int} {cl us th : Bool} {k : Nat} (h : EndsAt n C cl us th k) (he : e < 9) : Ends1 n e (pDo n e) C cl us th k := by
  obtain ⟨hfA, hfB, hfC, hcnt⟩ := fineP_all n (List.mem_range.2 h.n5) e (List.mem_range.2 he)
  have hgd := fun j => getD_bump C h.len e j he (pDo n e).cnt
  have hbl := bump_len C e (pDo n e).cnt
  have hbr := bump_range (k := (k : Int)) h.rng (by omega) e (pDo n e).cnt
  generalize pDo n e = p at *
  obtain ⟨pn, pe, pc, pk, pb⟩ := p
  simp only [FineA, FineB, FineC] at hfA hfB hfC hgd hbl hbr
  obtain ⟨f1, f2, f7⟩ := hfA
  obtain ⟨f3, f4⟩ := hfB
  obtain ⟨f5, f6⟩ := hfC
  obtain ⟨m, rfl⟩ : ∃ m : Nat, pn = m := ⟨pn.toNat, by omega⟩
  obtain ⟨hn5, hlen, hrng, hcl, hus, hth, hc2, hc6, hc3⟩ := h
  refine ⟨hcnt, ⟨m, rfl⟩, fun hc => ?_, fun hu hb => ?_, fun hu hb => ?_, fun m' hm' => ?_⟩
  · rw [hc] at hcl
    have : n = 4 := by simpa using hcl.symm
    exact f2 this
  · exact (f4 (hus hu)).2 hb
  · exact (f6 (hth hu)).2 hb
  · obtain rfl : m = m' := by simp only at hm'; omega
    simp only
    refine ⟨by omega, by rw [hbl]; exact hlen, hbr, by cases hx : ((m : Int) == 4) <;> simp at hx ⊢ <;> omega, fun hu => ?_, fun hu => ?_, ?_, ?_, ?_⟩
    · simp only [Bool.or_eq_true, Bool.and_eq_true, beq_iff_eq] at hu
      rcases hu with hu | ⟨hb, h2⟩
      · have := (f4 (hus hu)).1; omega
      · have := (f3 hb h2).2; omega
    · simp only [Bool.or_eq_true, Bool.and_eq_true, beq_iff_eq] at hu
      rcases hu with hu | ⟨hb, h2⟩
      · have := (f6 (hth hu)).1; omega
      · have := (f5 hb h2).2; omega
    · rw [hgd 2]
      by_cases hx : pb = true ∧ 2 = e
      · obtain ⟨hb, rfl⟩ := hx
        have hnu : us = false := by
          cases hu : us with
          | false => rfl
          | true => have := (f4 (hus hu)).2 hb; omega
        rw [hnu] at hc2 ⊢
        simp [hb] at hc2 ⊢
        omega
      · rw [if_neg hx]
        have hz : (pb && e == 2) = false := by
          cases hb : pb with
          | false => rfl
          | true => simp; exact fun h => hx ⟨hb, h.symm⟩
        rw [hz, Bool.or_false]; exact hc2
    · rw [hgd 6]
      by_cases hx : pb = true ∧ 6 = e
      · obtain ⟨hb, rfl⟩ := hx
        have hnu : th = false := by
          cases hu : th with
          | false => rfl
          | true => have := (f6 (hth hu)).2 hb; omega
        rw [hnu] at hc6 ⊢
        simp [hb] at hc6 ⊢
        omega
      · rw [if_neg hx]
        have hz : (pb && e == 6) = false := by
          cases hb : pb with
          | false => rfl
          | true => simp; exact fun h => hx ⟨hb, h.symm⟩
        rw [hz, Bool.or_false]; exact hc6
    · rw [hgd 3]
      by_cases hx : pb = true ∧ 3 = e
      · obtain ⟨hb, rfl⟩ := hx
        obtain ⟨h4, h5⟩ := f7 hb rfl
        rw [if_neg h5] at hc3
        rw [if_pos ⟨hb, rfl⟩, if_pos (by omega)]
        omega
      · rw [if_neg hx]
        by_cases h4 : n = 4
        · rw [if_pos h4] at hc3
          rw [if_pos (by have := f2 h4; omega)]; exact hc3
        · rw [if_neg h4] at hc3
          split <;> omega
end Go.Proofs.YtdmfapmdjhjlhaaDoor

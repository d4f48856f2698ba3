/- The law PayloadFaults. -/
import Derived.Test.YtdfdcenbpanegaaAw
set_option linter.unusedSimpArgs false
set_option linter.unusedVariables false
namespace Go.Proofs.Ytdfdcenbpanegaa
open Go.RowKit

theorem rd_int1 {R : Hp} {k : IntKind} {d : D} {c : List Value} (h : Rd R (.int k) d c) : ∃ n, c = [.int k n] := by
  cases d <;> simp only [Rd] at h
  exact ⟨_, h.1⟩
theorem rd_bool1 {R : Hp} {d : D} {c : List Value} (h : Rd R .bool d c) : ∃ n, c = [.bool n] := by
  cases d <;> simp only [Rd] at h
  exact ⟨_, h⟩
theorem rd_bytes1 {R : Hp} {d : D} {c : List Value} (hl : c.length = 1) (h : Rd R (.sl 1 (.int .u8)) d c) : ∃ v t, c = [v] ∧ SlB (cellR R) v t ∧ t.length ≤ 140737488351232 := by
  obtain ⟨l, rfl⟩ : ∃ l, d = .sl l := by cases d <;> (try simp only [Rd] at h) <;> exact ⟨_, rfl⟩
  obtain ⟨v, rfl⟩ : ∃ v, c = [v] := by
    match c, hl with
    | [v], _ => exact ⟨v, rfl⟩
  have h3' : RdSl R 1 (.int .u8) v l := by simpa only [RdSl, Rd] using h
  obtain ⟨bs, e1, e2, e3⟩ := slb_of h3'
  exact ⟨v, bs, rfl, e3, e2⟩
theorem rd_slice1 {R : Hp} {b : Nat} {t : Ty} {d : D} {c : List Value} (hl : c.length = 1) (h : Rd R (.sl b t) d c) : ∃ A n cp, c = [.slice A n cp] := by
  obtain ⟨l, rfl⟩ : ∃ l, d = .sl l := by cases d <;> (try simp only [Rd] at h) <;> exact ⟨_, rfl⟩
  obtain ⟨v, rfl⟩ : ∃ v, c = [v] := by
    match c, hl with
    | [v], _ => exact ⟨v, rfl⟩
  have h3' : RdSl R b t v l := by simpa only [RdSl, Rd] using h
  obtain ⟨A, cp, rfl, -⟩ := h3'.form
  exact ⟨A, _, cp, rfl⟩
theorem rdAll_cons {R : Hp} {t : Ty} {ts : List Ty} {ds : List D} {cs : List Value} (h : RdAll R (t :: ts) ds cs) : ∃ d ds' c cs', ds = d :: ds' ∧ cs = c ++ cs' ∧ c.length = t.size ∧ Rd R t d c ∧ RdAll R ts ds' cs' := by
  cases ds with
  | nil => simp [RdAll] at h
  | cons d ds =>
    simp only [RdAll] at h
    obtain ⟨c1, c2, rfl, h1, h2, h3⟩ := h
    exact ⟨d, ds, c1, c2, rfl, rfl, h1, h2, h3⟩
theorem rdAll_nil {R : Hp} {ds : List D} {cs : List Value} (h : RdAll R [] ds cs) : cs = [] := by
  cases ds with
  | nil => simpa [RdAll] using h
  | cons d ds => simp [RdAll] at h

theorem arg_fr {w : World} {v : Value} {d : D} (h : ArgV w (Ty.agg [.int .i64, .int .i64, .int .i64, .sl 1 (.int .u8)]) v d) : ∃ (k fl s : Int) (u : Value) (t : List UInt8), v = .agg #[.int .i64 k, .int .i64 fl, .int .i64 s, u] ∧ SlB (cellR (Gnd.of w).ro) u t ∧ t.length ≤ 140737488351232 := by
  obtain ⟨cs, rfl, h⟩ := h
  obtain ⟨ds, rfl⟩ : ∃ ds, d = .agg ds := by cases d <;> simp only [Rd] at h; exact ⟨_, rfl⟩
  simp only [Rd] at h
  obtain ⟨_, _, c1, cs1, rfl, e1, -, r1, h⟩ := rdAll_cons h
  obtain ⟨_, _, c2, cs2, rfl, rfl, -, r2, h⟩ := rdAll_cons h
  obtain ⟨_, _, c3, cs3, rfl, rfl, -, r3, h⟩ := rdAll_cons h
  obtain ⟨_, _, c4, cs4, rfl, rfl, l4, r4, h⟩ := rdAll_cons h
  obtain rfl := rdAll_nil h
  obtain ⟨k, rfl⟩ := rd_int1 r1
  obtain ⟨fl, rfl⟩ := rd_int1 r2
  obtain ⟨s, rfl⟩ := rd_int1 r3
  obtain ⟨u, t, rfl, hs, ht⟩ := rd_bytes1 l4 r4
  exact ⟨k, fl, s, u, t, by rw [show cs = #[.int .i64 k, .int .i64 fl, .int .i64 s, u] from Array.toList_inj.1 e1], hs, ht⟩
theorem padE_f (pad : Nat) (x : ItS) (r : List UInt8) : ((padE pad x r).1 = (0, false) ∨ (padE pad x r).1 = (101, true)) ∧ (padE pad x r).2.1 = x := by
  unfold padE; split <;> simp
theorem padW_f (k fl : Int) (pad : Nat) (x : ItS) (r : List UInt8) : ((padW k fl pad x r).1 = (0, false) ∨ (padW k fl pad x r).1 = (101, true) ∨ (padW k fl pad x r).1 = (106, true)) ∧ ((padW k fl pad x r).2.1 = x ∨ k = 1) := by
  unfold padW
  split
  · rename_i h
    have hk : k = 1 := by simp at h; exact h.1
    split
    · simp
    · have := padE_f pad (wghS x r) (r.drop 5)
      exact ⟨by rcases this.1 with h | h <;> simp [h], .inr hk⟩
  · have := padE_f pad x r
    exact ⟨by rcases this.1 with h | h <;> simp [h], .inl this.2⟩
theorem padS_f (k fl : Int) (x : ItS) (bs : List UInt8) : ((padS k fl x bs).1 = (0, false) ∨ (padS k fl x bs).1 = (101, true) ∨ (padS k fl x bs).1 = (106, true)) ∧ ((padS k fl x bs).2.1 = x ∨ k = 1) := by
  unfold padS
  split
  · split
    · simp
    · exact padW_f _ _ _ _ _
  · exact padW_f _ _ _ _ _
theorem ownF_f (x : ItS) : ownF x = (0, false) ∨ ownF x = (101, false) := by unfold ownF; split <;> simp
/-- The faults there are. -/
def FaultOf (k s : Int) (f : Int × Bool) : Prop := f = (101, true) ∨ f = (106, true) ∨ ((f = (101, false) ∨ f = (106, false)) ∧ s ≠ 0 ∧ (k = 1 ∨ k = 2 ∨ k = 8))
theorem readP_f {k s : Int} (p : (Int × Bool) × ItS × List UInt8) (hp : p.1 = (0, false) ∨ p.1 = (101, true) ∨ p.1 = (106, true)) (hw : p.2.1.wd = false ∨ k = 1) (hs : s ≠ 0) : (readP p).f = (0, false) ∨ FaultOf k s (readP p).f := by
  unfold readP
  split
  · simp only
    rcases hw with h | h
    · exact .inl (by simp [ownF, h])
    · rcases ownF_f p.2.1 with e | e
      · exact .inl e
      · exact .inr (.inr (.inr ⟨.inl e, hs, .inl h⟩))
  · simp only
    rcases hp with e | e | e
    · exact .inl e
    · exact .inr (.inl e)
    · exact .inr (.inr (.inl e))
theorem readS_f (k fl s : Int) (bs : List UInt8) (hpl : placeBad k s = false) : (readS k fl s bs).f = (0, false) ∨ FaultOf k s (readS k fl s bs).f := by
  rcases kinds k with rfl | rfl | rfl | rfl | rfl | rfl | rfl | rfl | rfl | rfl | ⟨k0, k1, k2, k3, k4, k5, k6, k7, k8, k9⟩
  · have hs : s ≠ 0 := by rintro rfl; cases hpl
    obtain ⟨h1, h2⟩ := padS_f 0 fl { bareS 0 s bs.length with e := hasF fl 1, l := (0 : Int) == 1 && hasF fl 4 } bs
    exact readP_f _ h1 (h2.elim (fun h => .inl (by rw [h]; rfl)) (fun h => absurd h (by decide))) hs
  · have hs : s ≠ 0 := by rintro rfl; cases hpl
    obtain ⟨h1, h2⟩ := padS_f 1 fl { bareS 1 s bs.length with e := hasF fl 1, l := (1 : Int) == 1 && hasF fl 4 } bs
    exact readP_f _ h1 (.inr rfl) hs
  · have hs : s ≠ 0 := by rintro rfl; cases hpl
    rcases ownF_f (wghS (bareS 2 s bs.length) bs) with h | h
    · exact .inl h
    · exact .inr (.inr (.inr ⟨.inl h, hs, .inr (.inl rfl)⟩))
  · exact .inl rfl
  · exact .inl rfl
  · exact .inl rfl
  · exact .inl rfl
  · exact .inl rfl
  · show (if _ then _ else _) = _ ∨ FaultOf 8 s (if _ then _ else _)
    split
    · by_cases hs : s = 0
      · exact .inr (.inl (by simp [hs]))
      · exact .inr (.inr (.inr ⟨.inl (by simp [hs]), hs, .inr (.inr rfl)⟩))
    · exact .inl rfl
  · exact .inl rfl
  · exact .inl (by simp [readS, k0, k1, k2, k3, k4, k6, k7, k8, k9])
theorem lenF_f (k fl s : Int) (n : Nat) (hpl : placeBad k s = false) : lenF k fl n = (0, false) ∨ FaultOf k s (lenF k fl n) := by
  unfold lenF
  by_cases h2 : k = 2
  · subst h2
    have hs : s ≠ 0 := by rintro rfl; cases hpl
    simp only [BEq.rfl, if_true]
    split
    · exact .inl rfl
    · exact .inr (.inr (.inr ⟨.inr rfl, hs, .inr (.inl rfl)⟩))
  · rw [if_neg (by simpa using h2)]
    generalize (if (k == 3 || k == 8) = true then !(n == 4) else if (k == 4) = true then !(n % 6 == 0) || (hasF fl 1 && decide (0 < n)) else if (k == 6) = true then !(n == 8) else if (k == 7) = true then decide (n < 8) else false) = cnd
    cases cnd
    · exact .inl rfl
    · exact .inr (.inr (.inl rfl))
theorem parse_f (k fl s : Int) (bs : List UInt8) : (parseS k fl s bs).f = (0, false) ∨ ∃ f, parseS k fl s bs = bareR k s bs.length f ∧ FaultOf k s f := by
  unfold parseS
  cases hp : placeBad k s with
  | true => exact .inr ⟨_, rfl, .inl rfl⟩
  | false =>
    simp only [Bool.false_eq_true, if_false]
    rcases lenF_f k fl s bs.length hp with h | h
    · rw [h]
      simp only [BEq.rfl, Bool.not_false, Bool.and_self, if_true]
      rcases readS_f k fl s bs hp with h | h
      · rw [h]; simp only [BEq.rfl, Bool.not_false, Bool.and_self, if_true]; exact .inl h
      · have : ((readS k fl s bs).f.1 == 0 && !(readS k fl s bs).f.2) = false := by rcases h with h | h | ⟨h | h, -⟩ <;> rw [h] <;> rfl
        rw [this]
        exact .inr ⟨_, rfl, h⟩
    · have : ((lenF k fl bs.length).1 == 0 && !(lenF k fl bs.length).2) = false := by rcases h with h | h | ⟨h | h, -⟩ <;> rw [h] <;> rfl
      rw [this]
      exact .inr ⟨_, rfl, h⟩
theorem itEq_self (x : ItS) (t : List UInt8) (ps : List (Int × Int)) : itEq x x t t ps ps = true := by simp [itEq, sameN, sameF]
end Go.Proofs.Ytdfdcenbpanegaa

/- What the frames of a split block say, and what an assembler makes of them. -/
import Derived.Test.YtkjeeogifdmeoaaParse
import Derived.Test.YtkjeeogifdmeoaaSplit
import Derived.Test.YtkjeeogifdmeoaaOn
set_option linter.unusedSimpArgs false
set_option linter.unusedVariables false
namespace Go.Proofs.Ytkjeeogifdmeoaa
open Go.RowKit

theorem hasF_bits (a b : Bool) : hasF ((if a = true then 1 else 0) + (if b = true then 4 else 0)) 1 = a ∧ hasF ((if a = true then 1 else 0) + (if b = true then 4 else 0)) 4 = b ∧ hasF ((if a = true then 1 else 0) + (if b = true then 4 else 0)) 8 = false ∧ hasF ((if a = true then 1 else 0) + (if b = true then 4 else 0)) 32 = false := by
  cases a <;> cases b <;> exact ⟨by decide, by decide, by decide, by decide⟩
theorem head_parse {bs : List UInt8} {s : Int} (hs : 1 ≤ s) (a b : Bool) :
    parseS 1 ((if a = true then 1 else 0) + (if b = true then 4 else 0)) s bs = ⟨(0, false), { bareS 1 s bs.length with e := a, l := b }, bs, []⟩ := by
  obtain ⟨h1, h4, h8, h32⟩ := hasF_bits a b
  have h0 : placeBad 1 s = false := by
    unfold placeBad
    simp
    omega
  generalize ((if a = true then (1 : Int) else 0) + (if b = true then 4 else 0)) = fl at *
  have hr : readS 1 fl s bs = ⟨(0, false), { bareS 1 s bs.length with e := a, l := b }, bs, []⟩ := by
    have hp : ∀ x, padS 1 fl x bs = ((0, false), x, bs) := fun x => by
      unfold padS
      rw [h8, if_neg (by decide)]
      unfold padW
      rw [h32, if_neg (by decide)]
      unfold padE
      rw [if_neg (by omega)]
      simp
    unfold readS
    rw [if_pos (by decide), hp, h1, h4]
    rfl
  unfold parseS
  rw [h0, if_neg (by decide), if_pos (by rfl), hr, if_pos (by rfl)]
theorem cont_parse {bs : List UInt8} {s : Int} (hs : 1 ≤ s) (a b : Bool) :
    parseS 9 ((if a = true then 1 else 0) + (if b = true then 4 else 0)) s bs = ⟨(0, false), { bareS 9 s bs.length with l := b }, bs, []⟩ := by
  obtain ⟨h1, h4, h8, h32⟩ := hasF_bits a b
  have h0 : placeBad 9 s = false := by
    unfold placeBad
    simp
    omega
  generalize ((if a = true then (1 : Int) else 0) + (if b = true then 4 else 0)) = fl at *
  have hr : readS 9 fl s bs = ⟨(0, false), { bareS 9 s bs.length with l := b }, bs, []⟩ := by
    unfold readS
    rw [h4]
    rfl
  unfold parseS
  rw [h0, if_neg (by decide), if_pos (by rfl), hr, if_pos (by rfl)]
theorem split_parse {tb : List UInt8} {st : Int} (hs : 1 ≤ st) (k n : Nat) (d : Bool) : ∃ xe : Bool, (k = 0 → xe = d) ∧ parseS (if k = 0 then 1 else 9) ((if k = 0 ∧ d = true then 1 else 0) + (if k + 1 = n then 4 else 0)) st tb = ⟨(0, false), ⟨if k = 0 then 1 else 9, st, xe, decide (k + 1 = n), false, 0, 0, 0, 0, 0, 0, false, false⟩, tb, []⟩ := by
  have e4 : ((if k + 1 = n then 4 else 0 : Int)) = (if decide (k + 1 = n) = true then 4 else 0) := by simp
  by_cases h0 : k = 0
  · refine ⟨d, fun _ => rfl, ?_⟩
    rw [e4, if_pos h0]
    have e1 : ((if k = 0 ∧ d = true then 1 else 0 : Int)) = (if d = true then 1 else 0) := by simp [h0]
    rw [e1, head_parse hs]
    rfl
  · refine ⟨false, fun h => absurd h h0, ?_⟩
    rw [e4, if_neg h0]
    have e1 : ((if k = 0 ∧ d = true then 1 else 0 : Int)) = (if false = true then 1 else 0) := by simp [h0]
    rw [e1, cont_parse hs]
    rfl
/-- What is gathered ahead of frame i. -/
def bstAt (s : Int) (t : List UInt8) (e : Bool) (m i : Nat) : BSt := if i = 0 then idle else ⟨true, s, t.take (i * m), e⟩
theorem take_step (t : List UInt8) (i m : Nat) : t.take (i * m) ++ (t.drop (i * m)).take m = t.take ((i + 1) * m) := by
  rw [Nat.add_mul, Nat.one_mul, List.take_add]
theorem on_at {s : Int} {t : List UInt8} {e : Bool} {m i n : Nat} {x : ItD} (hk : x.k = if i = 0 then 1 else 9) (hs : x.s = s) (he : i = 0 → x.e = e) (hl : x.l = decide (i + 1 = n)) (ht : t.length ≤ 300) (hn : t.length ≤ n * m) :
    asOn 300 (bstAt s t e m i) x ((t.drop (i * m)).take m) = if i + 1 = n then ⟨idle, true, ⟨false, s, t, e⟩, false⟩ else ⟨bstAt s t e m (i + 1), false, idle, false⟩ := by
  have hmay : mayB (bstAt s t e m i) x.k x.s = true := by
    unfold mayB bstAt
    by_cases h0 : i = 0
    · rw [if_pos h0, hk, if_pos h0]; rfl
    · rw [if_neg h0, hk, if_neg h0, hs]; simp
  have hnb : nextB (bstAt s t e m i) x = ⟨if i = 0 then false else true, s, t.take (i * m), e⟩ := by
    unfold nextB bstAt
    by_cases h0 : i = 0
    · subst h0
      rw [if_pos (by rw [hk]; rfl), he rfl, hs]
      simp
    · rw [if_neg (by rw [hk, if_neg h0]; decide), if_neg h0, if_neg h0]
  have hlen : (t.take (i * m)).length + ((t.drop (i * m)).take m).length ≤ 300 := by
    rw [← List.length_append, take_step]
    simp
    omega
  unfold asOn
  rw [if_pos hmay, if_pos (by rw [hk]; split <;> simp), hnb]
  simp only []
  rw [if_neg (by omega), take_step, hl]
  by_cases hi : i + 1 = n
  · rw [if_pos (by simp [hi]), if_pos hi, hi, List.take_of_length_le hn]
  · rw [if_neg (by simp [hi]), if_neg hi]
    unfold bstAt
    rw [if_neg (by omega)]
end Go.Proofs.Ytkjeeogifdmeoaa

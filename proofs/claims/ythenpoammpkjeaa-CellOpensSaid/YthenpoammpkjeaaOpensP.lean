/- What is read from a slot is what was sent in it: no program in sight. -/
import Derived.Test.YthenpoammpkjeaaFrames
set_option linter.unusedSimpArgs false
set_option linter.unusedVariables false
namespace Go.Proofs.Ythenpoammpkjeaa
open Go.RowKit

theorem kept_at {F : List Fr4} {j : Nat} {f : Fr4} (hf : F[j]? = some f) (hk : keep f = true) : (F.filter keep)[((F.take j).filter keep).length]? = some f ∧ ((F.take (j + 1)).filter keep).length = ((F.take j).filter keep).length + 1 := by
  have hj := (List.getElem?_eq_some_iff.1 hf).1
  have he := (List.getElem?_eq_some_iff.1 hf).2
  constructor
  · have e : F = F.take j ++ f :: F.drop (j + 1) := by
      conv => lhs; rw [← List.take_append_drop j F, List.drop_eq_getElem_cons hj, he]
    conv => lhs; arg 1; rw [e]
    rw [List.filter_append, List.getElem?_append_right (Nat.le_refl _), List.filter_cons, if_pos hk]
    simp
  · rw [take_snoc hf, List.filter_append]; simp [hk]
theorem kept_not {F : List Fr4} {j : Nat} {f : Fr4} (hf : F[j]? = some f) (hk : keep f = false) : ((F.take (j + 1)).filter keep).length = ((F.take j).filter keep).length := by
  rw [take_snoc hf, List.filter_append]; simp [hk]
def bareB (fl : List FrD) : Bool := fl.all fun d => frRight d.t d.f d.s d.bs.length
def knownB (fl : List FrD) : Bool := fl.all fun d => !(d.t == 250)
theorem bare_iff (fl : List FrD) : bareB fl = true ↔ AllR fl := by simp [bareB, AllR, List.all_eq_true]
theorem bare_snoc {fl : List FrD} {k : Nat} {d : FrD} (h : fl[k]? = some d) : bareB (fl.take (k + 1)) = (bareB (fl.take k) && frRight d.t d.f d.s d.bs.length) := by
  rw [take_snoc h]; simp [bareB]
theorem known_snoc {fl : List FrD} {k : Nat} {d : FrD} (h : fl[k]? = some d) : knownB (fl.take (k + 1)) = (knownB (fl.take k) && !(d.t == 250)) := by
  rw [take_snoc h]; simp [knownB]
/-- The frames that come back. -/
structure Back (R : Hp) (fl : List FrD) (F : List Fr4) : Prop where
  len : F.length = fl.length + 1
  last : ∃ f, F[fl.length]? = some f ∧ keep f = false
  at_ : ∀ (i : Nat) (d : FrD), fl[i]? = some d → ∃ f : Fr4, F[i]? = some f ∧ f.1 = d.t ∧ f.2.1 = d.f ∧ f.2.2.1 = d.s ∧ SlB (cellR R) f.2.2.2 d.bs
theorem back_of {R : Hp} {fl : List FrD} {N z : Nat} {e : Ending} (h1 : 1 ≤ N) (h2 : N ≤ 1024) (hz : N + 9 = (flat fl).length + z) (hR : AllR fl) (h : OpenRes R (fillB (flat fl) z) N e) :
    ∃ F v', Back R fl F ∧ e = .returned (.tuple #[v', .int .i64 0]) ∧ RFs R v' (F.filter keep) := by
  let d0 : FrD := ⟨250, 0, 0, undef, List.replicate z 0⟩
  have hb : fillB (flat fl) z = flat (fl ++ [d0]) ++ [] := by rw [flat_snoc, List.append_nil]; rfl
  have hRM : RightM ((N : Int) + 18) (fl ++ [d0]) := by
    intro d hd
    rcases List.mem_append.1 hd with hd | hd
    · have := flat_mem hd
      exact ⟨hR d hd, by omega⟩
    · rw [List.mem_singleton.1 hd]
      refine ⟨decide_eq_true (by simp [d0]; omega), by simp [d0]; omega⟩
  have hl : (fl ++ [d0]).length = fl.length + 1 := by simp
  rw [hb] at h
  obtain ⟨hee, he16⟩ := eat_end (fl ++ [d0]) [] hRM (by simp)
  have hE1 := eats_flat (fl ++ [d0]) [] hRM
  rw [hl] at hee he16 hE1
  have hr : clRight N = true := decide_eq_true (by omega)
  have hlen : ((flat (fl ++ [d0]) ++ []).length : Int) = (N : Int) + 18 := by
    rw [← hb, fillB_length]; omega
  rcases h with ⟨h, -⟩ | ⟨-, K, hE, hor⟩
  · rw [hr] at h; cases h
  · have hne : headE (eat (flat (fl ++ [d0]) ++ []) K) ((N : Int) + 18) ≠ 0 := by
      rcases hor with ⟨h, -⟩ | ⟨h | ⟨h, -⟩, -⟩ <;> rw [h] <;> decide
    have k1 : K ≤ fl.length + 1 := hE.le (by rw [he16]; decide)
    have k2 : fl.length + 1 ≤ K := hE1.le hne
    obtain rfl : K = fl.length + 1 := by omega
    rcases hor with ⟨-, -, -, F, v', hF, hFL, rfl, hrf⟩ | ⟨h, -⟩
    · refine ⟨F, v', ⟨hF, ?_, fun i d hd => ?_⟩, rfl, hrf⟩
      · have hi : fl.length < F.length := by omega
        refine ⟨F[fl.length], List.getElem?_eq_getElem hi, ?_⟩
        have := (hFL _ _ (List.getElem?_eq_getElem hi)).1
        rw [eat_flat _ _ hRM _ (by rw [hl]; omega)] at this
        have hdr : (fl ++ [d0]).drop fl.length = [d0] := by simp
        rw [hdr, flat_cons] at this
        have hh := (head_of (d := d0) (r := flat [] ++ []) (hRM d0 (by simp))).2.2.1
        rw [hh] at this
        simp [keep, fill, this, d0]
      · have hi := (List.getElem?_eq_some_iff.1 hd).1
        have he := (List.getElem?_eq_some_iff.1 hd).2
        have hi2 : i < F.length := by omega
        refine ⟨F[i], List.getElem?_eq_getElem hi2, ?_⟩
        have hq := hFL i F[i] (List.getElem?_eq_getElem hi2)
        rw [eat_flat _ _ hRM _ (by rw [hl]; omega)] at hq
        have hdr : (fl ++ [d0]).drop i = d :: (fl ++ [d0]).drop (i + 1) := by
          rw [List.drop_eq_getElem_cons (by rw [hl]; omega), List.getElem_append_left hi, he]
        rw [hdr, flat_cons] at hq
        obtain ⟨-, q1, q2, q3, q4, q5, -⟩ := head_of (d := d) (r := flat ((fl ++ [d0]).drop (i + 1)) ++ []) (hRM d (List.mem_append_left _ (by rw [← he]; exact List.getElem_mem hi)))
        rw [q1, q2, q3, q4, q5] at hq
        exact hq
    · exfalso
      rw [he16, hee] at h
      rcases h with h | ⟨-, h | h⟩
      · cases h
      · exact h rfl
      · exact h hlen
theorem Back.end_ {R : Hp} {fl : List FrD} {F : List Fr4} (h : Back R fl F) : ((F.take fl.length).filter keep).length = (F.filter keep).length := by
  obtain ⟨f, hf, hk⟩ := h.last
  have := kept_not hf hk
  rw [← this, List.take_of_length_le (by rw [h.len]; exact Nat.le_refl _)]
theorem Back.known {R : Hp} {fl : List FrD} {F : List Fr4} (h : Back R fl F) (hk : knownB fl = true) : ((F.take fl.length).filter keep).length = fl.length := by
  rw [List.filter_eq_self.2, List.length_take, h.len]
  · omega
  · intro f hf
    obtain ⟨i, hi, rfl⟩ := List.mem_iff_getElem.1 hf
    rw [List.length_take] at hi
    have hif : i < fl.length := by omega
    obtain ⟨f, hf, ht, -⟩ := h.at_ i _ (List.getElem?_eq_getElem hif)
    have e : (F.take fl.length)[i] = f := by
      rw [List.getElem_take]
      rw [List.getElem?_eq_getElem (by rw [h.len]; omega)] at hf
      exact Option.some.inj hf
    rw [e]
    have hkk := (List.all_eq_true.1 hk) fl[i] (List.getElem_mem hif)
    unfold keep fill
    rw [ht]; exact hkk
theorem Back.step {R : Hp} {fl : List FrD} {F : List Fr4} (h : Back R fl F) {i : Nat} {d : FrD} (hd : fl[i]? = some d) :
    (d.t = 250 → ((F.take (i + 1)).filter keep).length = ((F.take i).filter keep).length) ∧
    (d.t ≠ 250 → ((F.take (i + 1)).filter keep).length = ((F.take i).filter keep).length + 1 ∧ ∃ f : Fr4, (F.filter keep)[((F.take i).filter keep).length]? = some f ∧ f.1 = d.t ∧ f.2.1 = d.f ∧ f.2.2.1 = d.s ∧ SlB (cellR R) f.2.2.2 d.bs) := by
  obtain ⟨f, hf, h1, h2⟩ := h.at_ i d hd
  constructor
  · intro ht
    exact kept_not hf (by unfold keep fill; rw [h1, ht]; rfl)
  · intro ht
    obtain ⟨a, b⟩ := kept_at hf (show keep f = true by unfold keep fill; rw [h1]; simpa using ht)
    exact ⟨b, f, a, h1, h2⟩
end Go.Proofs.Ythenpoammpkjeaa

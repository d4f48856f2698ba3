/- A reader's bytes: a part of a block of its own. -/
import Derived.Test.YtdfdcenbpanegaaSlv
set_option linter.unusedSimpArgs false
set_option linter.unusedVariables false
namespace Go.Proofs.Ytdfdcenbpanegaa
open Go.RowKit

/-- The bytes bs stand behind A, in a block that nobody else has; what else the block holds is left open. -/
def hold (A : Option Addr) (c : Nat) (bs : List UInt8) : Asrt :=
  ⟨fun _ h => bs.length ≤ c ∧ c ≤ maxLen ∧ ((A = none ∧ c = 0) ∨ ∃ g off cur, A = some ⟨g, off, none⟩ ∧ h g = some (.cells cur 5 (0, 0)) ∧ ∀ j b, bs[j]? = some b → cur[off + j]? = some (byteV b)), fun _ h => h⟩
theorem hold_iff {G : Gnd} {w : World} {l : List Asrt} {A : Option Addr} {c : Nat} {bs : List UInt8} : Sat G w (hold A c bs :: l) ↔ bs.length ≤ c ∧ c ≤ maxLen ∧ ((A = none ∧ c = 0 ∧ Sat G w l) ∨ ∃ g off cur, A = some ⟨g, off, none⟩ ∧ (∀ j b, bs[j]? = some b → cur[off + j]? = some (byteV b)) ∧ Sat G w (blk g cur 5 :: l)) := by
  constructor
  · intro H
    obtain ⟨a, b', cc, lo, d, h, f, k, h1, h2, x1, x2, x3, p, q⟩ := id H
    obtain ⟨p1, p2, p3⟩ := p
    refine ⟨p1, p2, ?_⟩
    rcases p3 with ⟨p3, p4⟩ | ⟨g, off, cur, p3, p4, p5⟩
    · exact .inl ⟨p3, p4, H.drop⟩
    · exact .inr ⟨g, off, cur, p3, p5, a, b', cc, lo, d, h, f, k, h1, h2, x1, x2, x3, p4, q⟩
  · rintro ⟨p1, p2, ⟨p3, p4, H⟩ | ⟨g, off, cur, p3, p4, H⟩⟩
    · exact H.free fun _ _ => ⟨p1, p2, .inl ⟨p3, p4⟩⟩
    · exact H.conv fun h hb => ⟨p1, p2, .inr ⟨g, off, cur, p3, hb, p4⟩⟩
theorem Sat.holdOwn {G : Gnd} {w : World} {l : List Asrt} {A : Option Addr} {c : Nat} {bs : List UInt8} (H : Sat G w (ownS 5 1 (.slice A bs.length c) bs.length (bs.map byteV) :: l)) : Sat G w (hold A c bs :: l) := by
  obtain ⟨hl, ⟨e, h0, H1⟩ | ⟨g, cap, cur, e, h1, h2, h3, h4, H1⟩⟩ := own_iff.1 H
  · injection e with e1 e2 e3
    subst e1; subst e3
    exact hold_iff.2 ⟨by omega, Nat.zero_le _, .inl ⟨rfl, rfl, H1⟩⟩
  · injection e with e1 e2 e3
    subst e1; subst e3
    refine hold_iff.2 ⟨h1, h2, .inr ⟨g, 0, cur, rfl, fun j b hj => ?_, H1⟩⟩
    have hlt := (List.getElem?_eq_some_iff.1 hj).1
    have : (bs.map byteV)[j]? = some (byteV b) := by rw [List.getElem?_map, hj]; rfl
    rw [← h4, List.getElem?_take, if_pos (by omega)] at this
    simpa using this
theorem Sat.holdSlv {G : Gnd} {w : World} {l : List Asrt} {A : Option Addr} {c : Nat} {bs : List UInt8} (H : Sat G w (hold A c bs :: l)) : SlV w.cell? (.slice A bs.length c) bs.length (bs.map byteV) := by
  obtain ⟨p1, p2, ⟨rfl, rfl, _⟩ | ⟨g, off, cur, rfl, p4, H⟩⟩ := hold_iff.1 H
  · refine ⟨none, 0, rfl, p1, p2, fun j u hj => ?_⟩
    have : bs = [] := List.eq_nil_of_length_eq_zero (by omega)
    subst this
    simp at hj
  · refine ⟨_, c, rfl, p1, p2, fun j u hj => ⟨_, rfl, ?_⟩⟩
    have e : (⟨g, off, none⟩ : Addr).add j = ⟨g, off + j, none⟩ := by unfold Addr.add; split <;> simp_all
    rw [e, H.cell (off + j)]
    rw [List.getElem?_map] at hj
    cases hb : bs[j]? with
    | none => rw [hb] at hj; cases hj
    | some b => rw [hb] at hj; cases hj; exact p4 j b hb
/-- The reader has gone on. -/
theorem Sat.holdDrop {G : Gnd} {w : World} {l : List Asrt} {A : Option Addr} {c : Nat} {bs : List UInt8} (H : Sat G w (hold A c bs :: l)) (k : Nat) (hk : k ≤ bs.length) : Sat G w (hold (fromA A c k) (c - k) (bs.drop k) :: l) := by
  obtain ⟨p1, p2, ⟨rfl, rfl, H1⟩ | ⟨g, off, cur, rfl, p4, H1⟩⟩ := hold_iff.1 H
  · refine hold_iff.2 ⟨by rw [List.length_drop]; omega, by omega, .inl ⟨by unfold fromA; split <;> rfl, by omega, H1⟩⟩
  · by_cases e : c = k
    · refine hold_iff.2 ⟨by rw [List.length_drop]; omega, by omega, .inr ⟨g, off, cur, by unfold fromA; rw [if_pos e], fun j b hj => ?_, H1⟩⟩
      have hlt := (List.getElem?_eq_some_iff.1 hj).1
      rw [List.length_drop] at hlt
      omega
    · refine hold_iff.2 ⟨by rw [List.length_drop]; omega, by omega, .inr ⟨g, off + k, cur, ?_, fun j b hj => ?_, H1⟩⟩
      · unfold fromA; rw [if_neg e]
        simp only [Option.map_some]
        congr 1
        unfold Addr.add
        split <;> simp_all
      · rw [List.getElem?_drop] at hj
        have := p4 _ _ hj
        rw [Nat.add_assoc]; exact this
end Go.Proofs.Ytdfdcenbpanegaa

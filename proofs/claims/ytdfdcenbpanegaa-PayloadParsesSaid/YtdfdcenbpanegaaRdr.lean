/- A reader over bytes of its own: what its calls tell. -/
import Derived.Test.YtdfdcenbpanegaaHold
set_option linter.unusedSimpArgs false
set_option linter.unusedVariables false
namespace Go.Proofs.Ytdfdcenbpanegaa
open Go.RowKit

/-- The reader r has the bytes bs left. -/
def RdrS (G : Gnd) (w : World) (r : Nat) (bs : List UInt8) (l : List Asrt) : Prop := ∃ A c, Sat G w (blk r #[.slice A bs.length c] 69 :: hold A c bs :: l)
section
variable {G : Gnd} {w : World} {l : List Asrt} {A : Option Addr} {c r : Nat} {bs : List UInt8}
theorem Sat.holdForm (H : Sat G w (hold A c bs :: l)) : bs.length ≤ c ∧ c ≤ maxLen ∧ (A = none → c = 0) := by
  obtain ⟨p1, p2, ⟨rfl, rfl, _⟩ | ⟨g, off, cur, rfl, _, _⟩⟩ := hold_iff.1 H
  · exact ⟨p1, p2, fun _ => rfl⟩
  · exact ⟨p1, p2, fun h => by cases h⟩
/-- The reader's bytes are turned no more. -/
theorem Sat.holdFreeze (H : Sat G w (hold A c bs :: l)) : ∃ G', G.le G' ∧ Sat G' w l ∧ SlV (Go.Proofs.Ytdfdcenbpanegaa.cellR G'.ro) (.slice A bs.length c) bs.length (bs.map byteV) := by
  obtain ⟨p1, p2, ⟨rfl, rfl, H1⟩ | ⟨g, off, cur, rfl, p4, H1⟩⟩ := hold_iff.1 H
  · refine ⟨G, Gnd.le.rfl', H1, none, 0, rfl, p1, p2, fun j u hj => ?_⟩
    have : bs = [] := List.eq_nil_of_length_eq_zero (by omega)
    subst this
    simp at hj
  · obtain ⟨G', hG, hr, H'⟩ := Sat.freeze (o := .cells cur 5 (0, 0)) H1
    refine ⟨G', hG, H', _, c, rfl, p1, p2, fun j u hj => ⟨_, rfl, ?_⟩⟩
    have e : (⟨g, off, none⟩ : Addr).add j = ⟨g, off + j, none⟩ := by unfold Addr.add; split <;> simp_all
    rw [e]
    simp only [Go.Proofs.Ytdfdcenbpanegaa.cellR, hr]
    rw [List.getElem?_map] at hj
    cases hb : bs[j]? with
    | none => rw [hb] at hj; cases hj
    | some b => rw [hb] at hj; cases hj; exact p4 j b hb
theorem RdrS.gone (H : RdrS G w r bs l) : Sat G w l := by obtain ⟨A, c, H⟩ := H; exact H.drop.drop
theorem RdrS.drew (H : RdrS G w r bs l) : RdrS G w.drew r bs l := by obtain ⟨A, c, H⟩ := H; exact ⟨A, c, H.drew⟩
theorem rd_new (H : Sat G w l) (v : Value) (bs : List UInt8) (hb : SlV w.cell? v bs.length (bs.map byteV)) (hlen : bs.length ≤ 140737488355328) :
    Calls Try.prog 29 #[v] w fun e w' => ∃ r, e = .returned (.pointer (some ⟨r, 0, none⟩)) ∧ RdrS G w' r bs l := by
  refine (octet_new H v bs hb hlen).mono ?_
  rintro e w' ⟨r, A, c, rfl, -, -, -, S⟩
  exact ⟨r, rfl, A, c, (Sat.holdOwn S.swap).swap⟩
theorem rd_take (H : Sat G w (blk r #[.slice A bs.length c] 69 :: hold A c bs :: l)) (k : Nat) (hk : k ≤ bs.length) :
    Calls Try.prog 39 #[.pointer (some ⟨r, 0, none⟩), .int .i64 k] w fun e w' => e = .returned (.tuple #[.slice A k k, .bool true]) ∧ Sat G w' (blk r #[.slice (fromA A c k) (bs.drop k).length (c - k)] 69 :: hold A c bs :: l) := by
  obtain ⟨h1, h2, h3⟩ := H.swap.holdForm
  rw [List.length_drop]
  exact in_take H k hk h1 h2 h3
theorem rd_take_not (H : RdrS G w r bs l) (k : Int) (hk : k < 0 ∨ (bs.length : Int) < k) :
    Calls Try.prog 39 #[.pointer (some ⟨r, 0, none⟩), .int .i64 k] w fun e w' => e = .returned (.tuple #[.slice none 0 0, .bool false]) ∧ w = w' := by
  obtain ⟨A, c, H⟩ := H
  exact in_take_not H k hk
theorem rd_num_not (H : RdrS G w r bs l) (k : Int) (hk : k < 0 ∨ (bs.length : Int) < k ∨ 8 < k) :
    Calls Try.prog 40 #[.pointer (some ⟨r, 0, none⟩), .int .i64 k] w fun e w' => e = .returned (.tuple #[.int .u64 0, .bool false]) ∧ w = w' := by
  obtain ⟨A, c, H⟩ := H
  exact in_num_not H k hk
theorem rd_num (H : RdrS G w r bs l) (k : Nat) (hk : k ≤ bs.length) (h8 : k ≤ 8) :
    Calls Try.prog 40 #[.pointer (some ⟨r, 0, none⟩), .int .i64 k] w fun e w' => e = .returned (.tuple #[.int .u64 (numOf (bs.take k)), .bool true]) ∧ RdrS G w' r (bs.drop k) l := by
  obtain ⟨A, c, H⟩ := H
  obtain ⟨h1, h2, h3⟩ := H.swap.holdForm
  refine (in_num H k hk h8 h1 h2 h3 bs rfl fun W S => S.swap.holdSlv).mono ?_
  rintro e w' ⟨rfl, S⟩
  rw [← List.length_drop] at S
  exact ⟨rfl, _, _, (S.swap.holdDrop k hk).swap⟩
end
end Go.Proofs.Ytdfdcenbpanegaa

/- A reader over bytes of its own: what its other calls tell. -/
import Derived.Test.YtblocdfpdabbiaaRdr
set_option linter.unusedSimpArgs false
set_option linter.unusedVariables false
namespace Go.Proofs.Ytblocdfpdabbiaa
open Go.RowKit

section
variable {G : Gnd} {w : World} {l : List Asrt} {A : Option Addr} {c r : Nat} {bs : List UInt8}
theorem rd_left (H : RdrS G w r bs l) :
    Calls Try.prog 17 #[.pointer (some ⟨r, 0, none⟩)] w fun e w' => e = .returned (.int .i64 bs.length) ∧ w = w' := by
  obtain ⟨A, c, H⟩ := H
  exact in_left H
theorem rd_rest (H : RdrS G w r bs l) :
    Calls Try.prog 16 #[.pointer (some ⟨r, 0, none⟩)] w fun e w' => ∃ A, e = .returned (.slice A bs.length bs.length) ∧ ∃ c, Sat G w' (blk r #[.slice (fromA A c bs.length) 0 (c - bs.length)] 49 :: hold A c bs :: l) := by
  obtain ⟨A, c, H⟩ := H
  obtain ⟨h1, h2, h3⟩ := H.swap.holdForm
  refine (in_rest H h1 h2 h3).mono ?_
  rintro e w' ⟨rfl, S⟩
  rw [Nat.sub_self] at S
  exact ⟨A, rfl, c, S⟩
/-- Behind Rest: what it told, and the empty reader. -/
theorem rest_slv (S : Sat G w (blk r #[.slice (fromA A c bs.length) 0 (c - bs.length)] 49 :: hold A c bs :: l)) : SlV w.cell? (.slice A bs.length bs.length) bs.length (bs.map byteV) := by
  have := S.swap.holdSlv.to bs.length (Nat.le_refl _)
  rwa [List.take_of_length_le (by simp)] at this
theorem rest_rdr (S : Sat G w (blk r #[.slice (fromA A c bs.length) 0 (c - bs.length)] 49 :: hold A c bs :: l)) : RdrS G w r [] l := by
  have := S.swap.holdDrop bs.length (Nat.le_refl _)
  rw [List.drop_length] at this
  exact ⟨_, _, this.swap⟩
theorem rd_byte_not (H : RdrS G w r [] l) :
    Calls Try.prog 13 #[.pointer (some ⟨r, 0, none⟩)] w fun e w' => e = .returned (.tuple #[.int .i64 0, .bool false]) ∧ w = w' := by
  obtain ⟨A, c, H⟩ := H
  exact in_byte_not H rfl
theorem rd_byte {b : UInt8} (H : RdrS G w r (b :: bs) l) :
    Calls Try.prog 13 #[.pointer (some ⟨r, 0, none⟩)] w fun e w' => e = .returned (.tuple #[.int .i64 b.toNat, .bool true]) ∧ RdrS G w' r bs l := by
  obtain ⟨A, c, H⟩ := H
  obtain ⟨h1, h2, h3⟩ := H.swap.holdForm
  refine (in_byte H h1 h2 h3 b bs rfl fun W S => S.swap.holdSlv).mono ?_
  rintro e w' ⟨rfl, S⟩
  have := S.swap.holdDrop 1 (by simp)
  exact ⟨rfl, _, _, this.swap⟩
end
end Go.Proofs.Ytblocdfpdabbiaa

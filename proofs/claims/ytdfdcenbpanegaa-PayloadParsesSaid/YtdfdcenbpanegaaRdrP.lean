/- A reader: what is left, the rest, a byte. -/
import Derived.Test.YtdfdcenbpanegaaRdr
set_option linter.unusedSimpArgs false
set_option linter.unusedVariables false
namespace Go.Proofs.Ytdfdcenbpanegaa
open Go.RowKit

theorem in_left {G : Gnd} {w : World} {l : List Asrt} {r : Nat} {A : Option Addr} {n c : Nat} (H : Sat G w (blk r #[.slice A n c] 69 :: l)) :
    Calls Try.prog 34 #[.pointer (some ⟨r, 0, none⟩)] w fun e w' => e = .returned (.int .i64 n) ∧ w = w' := by
  refine calls_any fun K hK => ?_
  have b0 : w.cell? ⟨r, 0, none⟩ = some (.slice A n c) := H.cell 0
  go_enter Try.func34, Try.ntmps34
  go_wp2_with fail
  exact hK.out _ _ ⟨rfl, rfl⟩
theorem in_rest {G : Gnd} {w : World} {l : List Asrt} {r : Nat} {A : Option Addr} {n c : Nat} (H : Sat G w (blk r #[.slice A n c] 69 :: l)) (hc : n ≤ c) (hm : c ≤ maxLen) (hA : A = none → c = 0) :
    Calls Try.prog 35 #[.pointer (some ⟨r, 0, none⟩)] w fun e w' => e = .returned (.slice A n n) ∧ Sat G w' (blk r #[.slice (fromA A c n) (n - n) (c - n)] 69 :: l) := by
  refine calls_any fun K hK => ?_
  have b0 : w.cell? ⟨r, 0, none⟩ = some (.slice A n c) := H.cell 0
  have ht := in_take H n (Nat.le_refl _) hc hm hA
  clear H hm hA
  go_enter Try.func35, Try.ntmps35
  go_wp2_with fail
  (with_reducible refine ht.mono ?_)
  clear ht
  rintro e w1 ⟨rfl, S1⟩
  go_wp2_with fail
  exact hK.out _ _ ⟨rfl, S1⟩
theorem in_byte_not {G : Gnd} {w : World} {l : List Asrt} {r : Nat} {A : Option Addr} {n c : Nat} (H : Sat G w (blk r #[.slice A n c] 69 :: l)) (h0 : n = 0) :
    Calls Try.prog 38 #[.pointer (some ⟨r, 0, none⟩)] w fun e w' => e = .returned (.tuple #[.int .i64 0, .bool false]) ∧ w = w' := by
  refine calls_any fun K hK => ?_
  have ht := in_num_not H 1 (by omega)
  clear H
  go_enter Try.func38, Try.ntmps38
  go_wp2_with fail
  (with_reducible refine ht.mono ?_)
  clear ht
  rintro e w1 ⟨rfl, rfl⟩
  go_wp2_with fail
  exact hK.out _ _ ⟨rfl, rfl⟩
theorem in_byte {G : Gnd} {w : World} {l : List Asrt} {r : Nat} {A : Option Addr} {n c : Nat} (H : Sat G w (blk r #[.slice A n c] 69 :: l)) (hc : n ≤ c) (hm : c ≤ maxLen) (hA : A = none → c = 0)
    (b : UInt8) (bs : List UInt8) (hn : (b :: bs).length = n) (hb : ∀ W, Sat G W (blk r #[.slice (fromA A c 1) (n - 1) (c - 1)] 69 :: l) → SlV W.cell? (.slice A n c) n ((b :: bs).map byteV)) :
    Calls Try.prog 38 #[.pointer (some ⟨r, 0, none⟩)] w fun e w' => e = .returned (.tuple #[.int .i64 b.toNat, .bool true]) ∧ Sat G w' (blk r #[.slice (fromA A c 1) (n - 1) (c - 1)] 69 :: l) := by
  refine calls_any fun K hK => ?_
  have ht := in_num H 1 (by simp at hn; omega) (by omega) hc hm hA (b :: bs) hn hb
  have e1 : numOf ((b :: bs).take 1) = b.toNat := by simp [numOf]
  rw [e1] at ht
  change Calls _ _ #[_, .int .i64 1] _ _ at ht
  have hlt := b.toNat_lt
  clear H hb hn e1
  generalize b.toNat = ch at *
  go_enter Try.func38, Try.ntmps38
  go_wp2_with fail
  (with_reducible refine ht.mono ?_)
  clear ht
  rintro e w1 ⟨rfl, S1⟩
  go_wp2_with fail
  exact hK.out _ _ ⟨rfl, S1⟩
section
variable {G : Gnd} {w : World} {l : List Asrt} {A : Option Addr} {c r : Nat} {bs : List UInt8}
theorem rd_left (H : RdrS G w r bs l) :
    Calls Try.prog 34 #[.pointer (some ⟨r, 0, none⟩)] w fun e w' => e = .returned (.int .i64 bs.length) ∧ w = w' := by
  obtain ⟨A, c, H⟩ := H
  exact in_left H
theorem rd_rest (H : RdrS G w r bs l) :
    Calls Try.prog 35 #[.pointer (some ⟨r, 0, none⟩)] w fun e w' => ∃ A, e = .returned (.slice A bs.length bs.length) ∧ ∃ c, Sat G w' (blk r #[.slice (fromA A c bs.length) 0 (c - bs.length)] 69 :: hold A c bs :: l) := by
  obtain ⟨A, c, H⟩ := H
  obtain ⟨h1, h2, h3⟩ := H.swap.holdForm
  refine (in_rest H h1 h2 h3).mono ?_
  rintro e w' ⟨rfl, S⟩
  rw [Nat.sub_self] at S
  exact ⟨A, rfl, c, S⟩
/-- Behind Rest: what it told, and the empty reader. -/
theorem rest_slv (S : Sat G w (blk r #[.slice (fromA A c bs.length) 0 (c - bs.length)] 69 :: hold A c bs :: l)) : SlV w.cell? (.slice A bs.length bs.length) bs.length (bs.map byteV) := by
  have := S.swap.holdSlv.to bs.length (Nat.le_refl _)
  rwa [List.take_of_length_le (by simp)] at this
theorem rest_rdr (S : Sat G w (blk r #[.slice (fromA A c bs.length) 0 (c - bs.length)] 69 :: hold A c bs :: l)) : RdrS G w r [] l := by
  have := S.swap.holdDrop bs.length (Nat.le_refl _)
  rw [List.drop_length] at this
  exact ⟨_, _, this.swap⟩
theorem rd_byte_not (H : RdrS G w r [] l) :
    Calls Try.prog 38 #[.pointer (some ⟨r, 0, none⟩)] w fun e w' => e = .returned (.tuple #[.int .i64 0, .bool false]) ∧ w = w' := by
  obtain ⟨A, c, H⟩ := H
  exact in_byte_not H rfl
theorem rd_byte {b : UInt8} (H : RdrS G w r (b :: bs) l) :
    Calls Try.prog 38 #[.pointer (some ⟨r, 0, none⟩)] w fun e w' => e = .returned (.tuple #[.int .i64 b.toNat, .bool true]) ∧ RdrS G w' r bs l := by
  obtain ⟨A, c, H⟩ := H
  obtain ⟨h1, h2, h3⟩ := H.swap.holdForm
  refine (in_byte H h1 h2 h3 b bs rfl fun W S => S.swap.holdSlv).mono ?_
  rintro e w' ⟨rfl, S⟩
  have := S.swap.holdDrop 1 (by simp)
  exact ⟨rfl, _, _, this.swap⟩
end
end Go.Proofs.Ytdfdcenbpanegaa

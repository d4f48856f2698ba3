/- The walk over awake of chapter 1. -/
import Derived.Test.YtblocdfpdabbiaaIn
import Derived.Deep.Cut
import Derived.Lib.SlBytesConst
set_option linter.unusedSimpArgs false
set_option linter.unusedVariables false
namespace Go.Proofs.Ytblocdfpdabbiaa
open Go.RowKit

/-- Bytes in a block that was just made. -/
theorem slv_new (W : World) (bs : List UInt8) (h : bs.length ≤ maxLen) (n : Nat) (hn : n = W.heap.size) (t : TypeId) : SlV (W.alloc (.cells (bs.map byteV).toArray t)).cell? (.slice (some ⟨n, 0, none⟩) bs.length bs.length) bs.length (bs.map byteV) :=
  ⟨_, _, rfl, Nat.le_refl _, h, fun j u hj => ⟨_, rfl, alloc_cells W n _ t hn j u (by simpa using hj)⟩⟩
/-- Bytes in a block of one's own. -/
theorem slv_blk {G : Gnd} {w : World} {l : List Asrt} {g : Nat} {bs : List UInt8} {t : TypeId} (H : Sat G w (blk g (bs.map byteV).toArray t :: l)) (h : bs.length ≤ maxLen) : SlV w.cell? (.slice (some ⟨g, 0, none⟩) bs.length bs.length) bs.length (bs.map byteV) :=
  ⟨_, _, rfl, Nat.le_refl _, h, fun j u hj => ⟨_, rfl, by
    have e : (⟨g, 0, none⟩ : Addr).add j = ⟨g, j, none⟩ := by unfold Addr.add; split <;> simp_all
    rw [e, H.cell j]; simpa using hj⟩⟩
theorem slv_own {G : Gnd} {w : World} {l : List Asrt} {v : Value} {bs : List UInt8} {t : TypeId} (H : Sat G w (ownS t 1 v bs.length (bs.map byteV) :: l)) : SlV w.cell? v bs.length (bs.map byteV) := by
  obtain ⟨hl, ⟨rfl, h0, _⟩ | ⟨g, cap, cur, rfl, h1, h2, h3, h4, H⟩⟩ := own_iff.1 H
  · rw [h0]; exact ⟨none, 0, rfl, Nat.le_refl _, Nat.zero_le _, fun j u hj => by have : bs = [] := List.eq_nil_of_length_eq_zero h0; subst this; simp at hj⟩
  · refine ⟨_, cap, rfl, h1, h2, fun j u hj => ⟨_, rfl, ?_⟩⟩
    have e : (⟨g, 0, none⟩ : Addr).add j = ⟨g, j, none⟩ := by unfold Addr.add; split <;> simp_all
    rw [e, H.cell j]
    rw [← h4, List.getElem?_take] at hj
    split at hj
    · simpa using hj
    · cases hj
/-- Bytes of a constant: in a block with the mark of one. -/
theorem slv_const (W : World) (bs : List UInt8) (h : bs.length ≤ maxLen) (n : Nat) (hn : n = W.heap.size) (t : TypeId) (fr : Nat × Nat) : SlV (W.alloc (.cells (bs.map byteV).toArray t fr)).cell? (.slice (some ⟨n, 0, none⟩) bs.length bs.length) bs.length (bs.map byteV) :=
  ⟨_, _, rfl, Nat.le_refl _, h, fun j u hj => ⟨_, rfl, by
    subst hn
    have e : (⟨W.heap.size, 0, none⟩ : Addr).add j = ⟨W.heap.size, j, none⟩ := by unfold Addr.add; split <;> simp_all
    rw [e, cell_of_block (heap_alloc_new W _)]
    simpa using hj⟩⟩
theorem fromA_none {A : Option Addr} {c k : Nat} (hA : A = none → c = 0) (h : fromA A c k = none) : c - k = 0 := by
  unfold fromA at h
  split at h
  · omega
  · cases A with
    | none => have := hA rfl; omega
    | some a => cases h
set_option maxHeartbeats 2000000 in
theorem law_awake {G : Gnd} {w : World} {l : List Asrt} (H : Sat G w l) :
    Calls Try.prog 8 #[] w fun e w' => e = .returned (.bool true) ∧ Sat G w' l := by
  refine calls_any fun K hK => ?_
  have h1 := octet_num [1, 0] (.slice (some ⟨w.heap.size, 0, none⟩) 2 2) _ (slv_new w [1, 0] (by decide) _ rfl 5)
  have S1 := H.newBlk (([1, 0] : List UInt8).map byteV).toArray 5
  change Calls _ _ _ (w.alloc (.cells #[.int .u8 1, .int .u8 0] 5)) (fun e w' => e = .returned (.tuple #[.int .u64 256, .bool true]) ∧ w.alloc (.cells #[.int .u8 1, .int .u8 0] 5) = w') at h1
  change Sat G (w.alloc (.cells #[.int .u8 1, .int .u8 0] 5)) _ at S1
  clear H
  go_enter Try.func8, Try.ntmps8
  go_wp2_with fail
  (with_reducible refine h1.mono ?_)
  clear h1
  rintro e w1 ⟨rfl, rfl⟩
  generalize hw1 : w.alloc (.cells #[.int .u8 1, .int .u8 0] 5) = w1 at *
  replace S1 := S1.drop
  clear hw1
  have hcv := Go.Lib.run_convert_bytes_const (P := Try.prog) w1 23 5 #[.int .u8 97, .int .u8 98, .int .u8 99] 3 3 Try.underlying23 Try.underlying5
  change _ = Result.ok _ (w1.alloc (.cells #[.int .u8 97, .int .u8 98, .int .u8 99] 5 (3, 4))) at hcv
  have h2 := octet_new (S1.alloc (.cells (([97, 98, 99] : List UInt8).map byteV).toArray 5 (3, 4))) (.slice (some ⟨w1.heap.size, 0, none⟩) 3 3) [97, 98, 99] (slv_const w1 [97, 98, 99] (by decide) _ rfl 5 (3, 4)) (by decide)
  change Calls _ _ _ (w1.alloc (.cells #[.int .u8 97, .int .u8 98, .int .u8 99] 5 (3, 4))) _ at h2
  clear S1
  go_wp2_with fail
  (with_reducible refine h2.mono ?_)
  clear h2
  rintro e w2 ⟨r, A, c, rfl, hc, hm, hA, S2⟩
  go_wp2_with fail
  (with_reducible refine (in_left S2).mono ?_)
  rintro e w3 ⟨rfl, rfl⟩
  have h3 := in_byte S2 hc hm hA 97 [98, 99] rfl (fun W S => slv_own S.swap)
  change Calls _ _ _ _ (fun e w' => e = .returned (.tuple #[.int .i64 97, .bool true]) ∧ _) at h3
  clear S2
  go_wp2_with fail
  (with_reducible refine h3.mono ?_)
  clear h3
  rintro e w4 ⟨rfl, S4⟩
  have h4 := octet_big S4 258 3 (by decide) (by decide) (by decide)
  rw [show bigOf 258 3 = [0, 1, 2] from rfl] at h4
  change Calls _ _ #[.int .u64 258, .int .i64 3] _ _ at h4
  clear S4
  go_wp2_with fail
  (with_reducible refine h4.mono ?_)
  clear h4
  rintro e w5 ⟨g, rfl, S5⟩
  have hc1 := conv_bytes _ [0, 1, 2] w5 (slv_blk S5 (by decide))
  have e1 : bstr [0, 1, 2] = ⟨#[0, 1, 2]⟩ := rfl
  rw [e1] at hc1
  change (convert _ _ (.slice _ 3 3)).run _ _ = _ at hc1
  have h5 := in_rest (n := 2) S5.swap (Nat.le_sub_of_add_le hc) (Nat.le_trans (Nat.sub_le _ _) hm) (fromA_none hA)
  clear S5
  go_wp2_with fail
  (with_reducible refine h5.mono ?_)
  clear h5 hc1
  rintro e w6 ⟨rfl, S6⟩
  have hs : SlV w6.cell? (.slice (fromA A c 1) 2 2) 2 (([98, 99] : List UInt8).map byteV) := ((slv_own (bs := [97, 98, 99]) S6.pull2).from rfl 1 (by decide)).to 2 (by decide)
  have hc1 := conv_bytes _ [98, 99] w6 hs
  have e1 : bstr [98, 99] = ⟨#[98, 99]⟩ := rfl
  rw [e1] at hc1
  change (convert _ _ (.slice _ 2 2)).run _ _ = _ at hc1
  clear hs
  go_wp2_with fail
  (with_reducible refine (in_left S6).mono ?_)
  rintro e w7 ⟨rfl, rfl⟩
  go_wp2_with fail
  exact hK.out _ _ ⟨by rfl, S6.drop.drop.drop⟩
end Go.Proofs.Ytblocdfpdabbiaa

/- A reader whose bytes nobody turns: what its calls tell. payload: number, conn, OK, Has. -/
import Derived.Test.YtdfdcenbpanegaaRdrP
import Derived.Test.YtdfdcenbpanegaaPerm
import Derived.Test.YtdfdcenbpanegaaFld
set_option linter.unusedSimpArgs false
set_option linter.unusedVariables false
namespace Go.Proofs.Ytdfdcenbpanegaa
open Go.RowKit

/-- The reader r has the bytes bs left; nobody turns them. -/
def RdF (G : Gnd) (w : World) (r : Nat) (bs : List UInt8) (l : List Asrt) : Prop := ∃ A c, SlB (cellR G.ro) (.slice A bs.length c) bs ∧ Sat G w (blk r #[.slice A bs.length c] 69 :: l)
section
variable {G : Gnd} {w : World} {l : List Asrt} {r : Nat} {bs : List UInt8}
theorem RdF.gone (H : RdF G w r bs l) : Sat G w l := by obtain ⟨A, c, -, H⟩ := H; exact H.drop
theorem RdF.drew (H : RdF G w r bs l) : RdF G w.drew r bs l := by obtain ⟨A, c, hs, H⟩ := H; exact ⟨A, c, hs, H.drew⟩
theorem RdF.below {w' : World} (H : RdF G w r bs l) (hb : Below w.heap.size w w') : RdF G w' r bs l := by obtain ⟨A, c, hs, H⟩ := H; exact ⟨A, c, hs, H.below hb⟩
theorem RdF.map {w' : World} {l' : List Asrt} (H : RdF G w r bs l) (h : ∀ B, Sat G w (B :: l) → Sat G w' (B :: l')) : RdF G w' r bs l' := by obtain ⟨A, c, hs, H⟩ := H; exact ⟨A, c, hs, h _ H⟩
theorem rf_new (H : Sat G w l) (v : Value) (bs : List UInt8) (hb : SlB (cellR G.ro) v bs) (hlen : bs.length ≤ 140737488355328) :
    Calls Try.prog 29 #[v] w fun e w' => ∃ r G', G.le G' ∧ e = .returned (.pointer (some ⟨r, 0, none⟩)) ∧ RdF G' w' r bs l := by
  refine (octet_new H v bs (hb.sat H).1 hlen).mono ?_
  rintro e w' ⟨r, A, c, rfl, -, -, -, S⟩
  obtain ⟨G', hG, S', hs⟩ := S.swap.ownFrz
  exact ⟨r, G', hG, rfl, A, c, hs, S'⟩
theorem rf_left (H : RdF G w r bs l) :
    Calls Try.prog 34 #[.pointer (some ⟨r, 0, none⟩)] w fun e w' => e = .returned (.int .i64 bs.length) ∧ w = w' := by
  obtain ⟨A, c, -, H⟩ := H
  exact in_left H
theorem rf_rest (H : RdF G w r bs l) :
    Calls Try.prog 35 #[.pointer (some ⟨r, 0, none⟩)] w fun e w' => ∃ u, e = .returned u ∧ SlB (cellR G.ro) u bs ∧ Sat G w' l := by
  obtain ⟨A, c, hs, H⟩ := H
  obtain ⟨A', c', e, h1, h2, h3⟩ := hs.form
  cases e
  refine (in_rest H h1 h2 h3).mono ?_
  rintro e w' ⟨rfl, S⟩
  have := hs.to bs.length (Nat.le_refl _) bs.length (Nat.le_refl _) h1
  rw [List.take_length] at this
  exact ⟨_, rfl, this, S.drop⟩
theorem rf_take (H : RdF G w r bs l) (k : Nat) (hk : k ≤ bs.length) :
    Calls Try.prog 39 #[.pointer (some ⟨r, 0, none⟩), .int .i64 k] w fun e w' => ∃ u, e = .returned (.tuple #[u, .bool true]) ∧ SlB (cellR G.ro) u (bs.take k) ∧ RdF G w' r (bs.drop k) l := by
  obtain ⟨A, c, hs, H⟩ := H
  obtain ⟨A', c', e, h1, h2, h3⟩ := hs.form
  cases e
  refine (in_take H k hk h1 h2 h3).mono ?_
  rintro e w' ⟨rfl, S⟩
  have hf := hs.from k hk
  rw [← List.length_drop] at hf S
  exact ⟨_, rfl, hs.to k hk k (Nat.le_refl _) (by omega), _, _, hf, S⟩
theorem rf_byte_not (H : RdF G w r [] l) :
    Calls Try.prog 38 #[.pointer (some ⟨r, 0, none⟩)] w fun e w' => e = .returned (.tuple #[.int .i64 0, .bool false]) ∧ w = w' := by
  obtain ⟨A, c, -, H⟩ := H
  exact in_byte_not H rfl
theorem rf_byte {b : UInt8} (H : RdF G w r (b :: bs) l) :
    Calls Try.prog 38 #[.pointer (some ⟨r, 0, none⟩)] w fun e w' => e = .returned (.tuple #[.int .i64 b.toNat, .bool true]) ∧ RdF G w' r bs l := by
  obtain ⟨A, c, hs, H⟩ := H
  obtain ⟨A', c', e, h1, h2, h3⟩ := hs.form
  cases e
  refine (in_byte H h1 h2 h3 b bs rfl fun W S => (hs.sat S).1).mono ?_
  rintro e w' ⟨rfl, S⟩
  have hf := hs.from 1 (by simp)
  exact ⟨rfl, _, _, hf, S⟩
theorem rf_num (H : RdF G w r bs l) (k : Nat) (hk : k ≤ bs.length) (h8 : k ≤ 8) :
    Calls Try.prog 40 #[.pointer (some ⟨r, 0, none⟩), .int .i64 k] w fun e w' => e = .returned (.tuple #[.int .u64 (numOf (bs.take k)), .bool true]) ∧ RdF G w' r (bs.drop k) l := by
  obtain ⟨A, c, hs, H⟩ := H
  obtain ⟨A', c', e, h1, h2, h3⟩ := hs.form
  cases e
  refine (in_num H k hk h8 h1 h2 h3 bs rfl fun W S => (hs.sat S).1).mono ?_
  rintro e w' ⟨rfl, S⟩
  have hf := hs.from k hk
  rw [← List.length_drop] at hf S
  exact ⟨rfl, _, _, hf, S⟩
set_option maxHeartbeats 1000000 in
theorem pl_number (H : RdF G w r bs l) (k : Nat) (hk : k ≤ bs.length) (h4 : k ≤ 4) :
    Calls Try.prog 33 #[.pointer (some ⟨r, 0, none⟩), .int .i64 k] w fun e w' => e = .returned (.int .i64 (numOf (bs.take k))) ∧ RdF G w' r (bs.drop k) l := by
  refine calls_any fun K hK => ?_
  have hn := rf_num H k hk (by omega)
  have hlt : numOf (bs.take k) < 4294967296 := by
    have h1 := numOf_lt (bs.take k)
    have h2 : (bs.take k).length ≤ 4 := by rw [List.length_take]; omega
    have h3 : (256 : Nat) ^ (bs.take k).length ≤ 256 ^ 4 := Nat.pow_le_pow_right (by decide) h2
    have h5 : (256 : Nat) ^ 4 = 4294967296 := by decide
    omega
  generalize numOf (bs.take k) = z at *
  clear H
  go_enter Try.func33, Try.ntmps33
  go_wp2_with fail
  (with_reducible refine hn.mono ?_)
  clear hn
  rintro e w1 ⟨rfl, S⟩
  go_wp2_with fail
  exact hK.out _ _ ⟨rfl, S⟩
theorem pl_conn (H : Sat G w l) (c : Int) :
    Calls Try.prog 27 #[.int .i64 c] w fun e w' => e = .returned (.agg #[.int .i64 c, .bool true]) ∧ Sat G w' l := by
  refine calls_any fun K hK => ?_
  have S := H.newBlk #[.int .i64 c, .bool true] 31
  clear H
  go_enter Try.func27, Try.ntmps27
  have HS := Lib.hid S
  clear S
  go_wp2_with fail
  refine ret_cell HS.out 2 31 rfl _ rfl Try.underlying31 rfl (by kernel_rfl) rfl ?_
  exact hK.out _ _ ⟨rfl, HS.out.drop⟩
def hasF (fl bit : Int) : Bool := bits .and .i64 fl bit != 0
theorem pl_has (H : Sat G w l) (t f s flag : Int) (v : Value) (hf : flag = 1 ∨ flag = 4 ∨ flag = 8 ∨ flag = 32) :
    Calls Try.prog 28 #[.agg #[.int .i64 t, .int .i64 f, .int .i64 s, v], .int .i64 flag] w fun e w' => e = .returned (.bool (hasF f flag)) ∧ Sat G w' l := by
  refine calls_any fun K hK => ?_
  have S := H.alloc (.cells #[.int .i64 t, .int .i64 f, .int .i64 s, v] 24)
  clear H
  unfold hasF at hK
  rcases hf with rfl | rfl | rfl | rfl
  all_goals
    go_enter Try.func28, Try.ntmps28
    go_wp2_with fail
    exact hK.out _ _ ⟨rfl, S⟩
theorem pl_ok (H : Sat G w l) (c : Int) (b : Bool) : Calls Try.prog 11 #[.agg #[.int .i64 c, .bool b]] w fun e w' => e = .returned (.bool (c == 0 && !b)) ∧ Sat G w' l := by
  refine calls_any fun K hK => ?_
  have BB : ∀ o, Sat G (w.alloc o) l := fun o => H.alloc o
  clear H
  cases hc : (c == 0) <;> cases b
  all_goals
    rw [hc] at hK
    go_enter Try.func11, Try.ntmps11
    go_wp2_with fail
    exact hK.out _ _ ⟨rfl, BB _⟩
end
end Go.Proofs.Ytdfdcenbpanegaa

/- The walks over octet.In. -/
import Derived.Test.YtdfdcenbpanegaaRef
import Derived.Deep.RegionHeld
import Derived.Laws.Cover3
set_option linter.unusedSimpArgs false
set_option linter.unusedVariables false
namespace Go.Proofs.Ytdfdcenbpanegaa
open Go.RowKit

theorem add_add_all (a : Addr) (k j : Nat) : (a.add k).add j = a.add (k + j) := by
  unfold Addr.add
  by_cases hk : k = 0
  · simp [hk]
  · by_cases hj : j = 0
    · simp [hk, hj]
    · simp [hk, hj, Nat.add_assoc]
/-- Where a slice goes on behind its first k elements. -/
def fromA (A : Option Addr) (c k : Nat) : Option Addr := if c = k then A else A.map (·.add k)
theorem SlV.to {get : Addr → Option Value} {A : Option Addr} {n c : Nat} {cs : List Value} (h : SlV get (.slice A n c) n cs) (k : Nat) (hk : k ≤ n) : SlV get (.slice A k k) k (cs.take k) := by
  obtain ⟨A', c', e, h1, h2, h3⟩ := h
  cases e
  refine ⟨A, k, rfl, Nat.le_refl _, by omega, fun j u hj => h3 j u ?_⟩
  rw [List.getElem?_take] at hj
  split at hj
  · exact hj
  · cases hj
theorem SlV.from {get : Addr → Option Value} {A : Option Addr} {n c : Nat} {cs : List Value} (h : SlV get (.slice A n c) n cs) (hn : cs.length = n) (k : Nat) (hk : k ≤ n) : SlV get (.slice (fromA A c k) (n - k) (c - k)) (n - k) (cs.drop k) := by
  obtain ⟨A', c', e, h1, h2, h3⟩ := h
  cases e
  refine ⟨_, _, rfl, by omega, by omega, fun j u hj => ?_⟩
  rw [List.getElem?_drop] at hj
  obtain ⟨a, hA, hg⟩ := h3 _ u hj
  have hlt := (List.getElem?_eq_some_iff.1 hj).1
  refine ⟨a.add k, ?_, by rw [add_add_all]; exact hg⟩
  unfold fromA
  rw [if_neg (by omega), hA]
  rfl
theorem in_take_not {G : Gnd} {w : World} {l : List Asrt} {r : Nat} {A : Option Addr} {n c : Nat} (H : Sat G w (blk r #[.slice A n c] 69 :: l)) (k : Int) (hk : k < 0 ∨ (n : Int) < k) :
    Calls Try.prog 39 #[.pointer (some ⟨r, 0, none⟩), .int .i64 k] w fun e w' => e = .returned (.tuple #[.slice none 0 0, .bool false]) ∧ w = w' := by
  refine calls_any fun K hK => ?_
  have b0 : w.cell? ⟨r, 0, none⟩ = some (.slice A n c) := H.cell 0
  clear H
  by_cases h0 : k < 0
  · go_enter Try.func39, Try.ntmps39
    go_wp2_with fail
    exact hK.out _ _ ⟨rfl, rfl⟩
  · have h1 : (n : Int) < k := by omega
    go_enter Try.func39, Try.ntmps39
    go_wp2_with fail
    exact hK.out _ _ ⟨rfl, rfl⟩
theorem in_take {G : Gnd} {w : World} {l : List Asrt} {r : Nat} {A : Option Addr} {n c : Nat} (H : Sat G w (blk r #[.slice A n c] 69 :: l)) (k : Nat) (hk : k ≤ n) (hc : n ≤ c) (hm : c ≤ maxLen) (hA : A = none → c = 0) :
    Calls Try.prog 39 #[.pointer (some ⟨r, 0, none⟩), .int .i64 k] w fun e w' => e = .returned (.tuple #[.slice A k k, .bool true]) ∧ Sat G w' (blk r #[.slice (fromA A c k) (n - k) (c - k)] 69 :: l) := by
  refine calls_any fun K hK => ?_
  have b0 : w.cell? ⟨r, 0, none⟩ = some (.slice A n c) := H.cell 0
  have hfr := H.frozen 0
  have hmx : c ≤ 9223372036854775807 := Nat.le_trans hm (by decide)
  have HH := Lib.hid (Sat.setCell H 0)
  clear H hm
  cases A with
  | none =>
    obtain rfl := hA rfl
    obtain rfl : n = 0 := by omega
    obtain rfl : k = 0 := by omega
    go_enter Try.func39, Try.ntmps39
    go_wp2_with fail
    exact hK.out _ _ ⟨rfl, HH.out _⟩
  | some a =>
    clear hA
    go_enter Try.func39, Try.ntmps39
    go_wp2_with fail
    · have e : fromA (some a) c k = some a := by unfold fromA; rw [if_pos (by assumption)]
      rw [e] at hK
      exact hK.out _ _ ⟨rfl, by have := HH.out (.slice (some a) (n - k) 0); rwa [show c - k = 0 by omega]⟩
    · have e : fromA (some a) c k = some (a.add k) := by unfold fromA; rw [if_neg (by assumption)]; rfl
      rw [e] at hK
      exact hK.out _ _ ⟨rfl, HH.out _⟩
/-- A reader that cannot tell so many. -/
theorem in_num_not {G : Gnd} {w : World} {l : List Asrt} {r : Nat} {A : Option Addr} {n c : Nat} (H : Sat G w (blk r #[.slice A n c] 69 :: l)) (k : Int) (hk : k < 0 ∨ (n : Int) < k ∨ 8 < k) :
    Calls Try.prog 40 #[.pointer (some ⟨r, 0, none⟩), .int .i64 k] w fun e w' => e = .returned (.tuple #[.int .u64 0, .bool false]) ∧ w = w' := by
  refine calls_any fun K hK => ?_
  by_cases h8 : 8 < k
  · clear H
    go_enter Try.func40, Try.ntmps40
    go_wp2_with fail
    exact hK.out _ _ ⟨rfl, rfl⟩
  · have ht := in_take_not H k (by omega)
    clear H
    go_enter Try.func40, Try.ntmps40
    go_wp2_with fail
    (with_reducible refine ht.mono ?_)
    clear ht
    rintro e w1 ⟨rfl, rfl⟩
    go_wp2_with fail
    exact hK.out _ _ ⟨rfl, rfl⟩
/-- The next bytes' number; get: where the bytes stand, whatever the reader does. -/
theorem in_num {G : Gnd} {w : World} {l : List Asrt} {r : Nat} {A : Option Addr} {n c : Nat} (H : Sat G w (blk r #[.slice A n c] 69 :: l)) (k : Nat) (hk : k ≤ n) (h8 : k ≤ 8) (hc : n ≤ c) (hm : c ≤ maxLen) (hA : A = none → c = 0)
    (bs : List UInt8) (hn : bs.length = n) (hb : ∀ W, Sat G W (blk r #[.slice (fromA A c k) (n - k) (c - k)] 69 :: l) → SlV W.cell? (.slice A n c) n (bs.map byteV)) :
    Calls Try.prog 40 #[.pointer (some ⟨r, 0, none⟩), .int .i64 k] w fun e w' => e = .returned (.tuple #[.int .u64 (numOf (bs.take k)), .bool true]) ∧ Sat G w' (blk r #[.slice (fromA A c k) (n - k) (c - k)] 69 :: l) := by
  refine calls_any fun K hK => ?_
  have ht := in_take H k hk hc hm hA
  clear H
  go_enter Try.func40, Try.ntmps40
  go_wp2_with fail
  (with_reducible refine ht.mono ?_)
  clear ht
  rintro e w1 ⟨rfl, S1⟩
  have hl : (bs.take k).length = k := by rw [List.length_take]; omega
  have hs : SlV w1.cell? (.slice A k k) (bs.take k).length ((bs.take k).map byteV) := by
    have := (hb w1 S1).to k hk
    rw [hl, List.map_take]; exact this
  have hnum := octet_num (bs.take k) _ w1 hs
  simp only [hl, h8, if_true, decide_true] at hnum
  clear hs hb hl
  go_wp2_with fail
  (with_reducible refine hnum.mono ?_)
  clear hnum
  rintro e w2 ⟨rfl, rfl⟩
  go_wp2_with fail
  exact hK.out _ _ ⟨rfl, S1⟩
theorem slice_is_nil (A : Option Addr) (n c : Nat) (w : World) : (binOp .eql 22 (.slice A n c) (.slice none 0 0)).run Try.prog w = .ok (.bool A.isNone) w := by
  simp [binOp, run_equal_slice_nil w 22 5 A n c Try.underlying22]
/-- A copy of bytes: in memory of its own. -/
theorem bytes_clone {G : Gnd} {w : World} {l : List Asrt} (H : Sat G w l) (v : Value) (bs : List UInt8) (hb : SlV w.cell? v bs.length (bs.map byteV)) (hlen : bs.length ≤ 140737488355328) :
    Calls Try.prog 37 #[v] w fun e w' => ∃ u, e = .returned u ∧ Sat G w' (ownS 5 1 u bs.length (bs.map byteV) :: l) := by
  refine calls_any fun K hK => ?_
  obtain ⟨A, c, rfl, hc, hm, hel⟩ := hb
  cases A with
  | none =>
    have e0 : bs = [] := by
      cases bs with
      | nil => rfl
      | cons b bs => obtain ⟨a, h, _⟩ := hel 0 (byteV b) rfl; cases h
    subst e0
    have S := H.ownNil 5 1
    have hnil := slice_is_nil none 0 c w
    clear hel
    go_enter Try.func37, Try.ntmps37
    go_wp2_with fail
    exact hK.out _ _ ⟨_, rfl, S⟩
  | some a =>
    have S0 := (H.newBlk #[] 5).ownBlk (size := 1) 0 rfl (Nat.zero_le _)
    have hw : ∀ j u, (bs.map byteV)[j]? = some u → (w.alloc (.cells #[] 5)).cell? (a.add j) = some u := fun j u hj => by
      obtain ⟨a', e, h⟩ := hel j u hj
      cases e
      rw [World.cell?_alloc_some _ _ _ (by rw [h]; rfl)]
      exact h
    have hnil := slice_is_nil (some a) bs.length c w
    clear hel H
    go_enter Try.func37, Try.ntmps37
    go_wp2_with (at_builtin; refine st_append rfl _ _ 22 rfl 5 (.int .u8 0) 1 1 Try.underlying22 info_u8 rfl (by omega) _ 0 [] rfl S0 a bs.length c (bs.map byteV) rfl (by simp) hw (by simp [byteV, Value.oneCell']) (by omega) (by omega) ?_; intro v' w' S')
    exact hK.out _ _ ⟨v', rfl, by simpa using S'⟩
theorem Sat.ownForm {G : Gnd} {w : World} {l : List Asrt} {e : TypeId} {size : Nat} {v : Value} {n : Nat} {xs : List Value} (H : Sat G w (ownS e size v n xs :: l)) : ∃ A c, v = .slice A n c ∧ n ≤ c ∧ c ≤ maxLen ∧ (A = none → c = 0) := by
  obtain ⟨_, ⟨rfl, rfl, _⟩ | ⟨g, cap, cur, rfl, h1, h2, _, _, _⟩⟩ := own_iff.1 H
  · exact ⟨none, 0, rfl, Nat.le_refl _, Nat.zero_le _, fun _ => rfl⟩
  · exact ⟨_, cap, rfl, h1, h2, fun h => by cases h⟩
theorem octet_new {G : Gnd} {w : World} {l : List Asrt} (H : Sat G w l) (v : Value) (bs : List UInt8) (hb : SlV w.cell? v bs.length (bs.map byteV)) (hlen : bs.length ≤ 140737488355328) :
    Calls Try.prog 29 #[v] w fun e w' => ∃ r A c, e = .returned (.pointer (some ⟨r, 0, none⟩)) ∧ bs.length ≤ c ∧ c ≤ maxLen ∧ (A = none → c = 0) ∧
      Sat G w' (blk r #[.slice A bs.length c] 69 :: ownS 5 1 (.slice A bs.length c) bs.length (bs.map byteV) :: l) := by
  refine calls_any fun K hK => ?_
  have hcl := bytes_clone H v bs hb hlen
  clear H hb
  go_enter Try.func29, Try.ntmps29
  go_wp2_with fail
  (with_reducible refine hcl.mono ?_)
  clear hcl
  rintro e w1 ⟨u, rfl, S1⟩
  obtain ⟨A, c, rfl, h1, h2, h3⟩ := S1.ownForm
  have S2 := S1.newBlk #[.slice A bs.length c] 69
  go_wp2_with fail
  exact hK.out _ _ ⟨_, A, c, rfl, h1, h2, h3, S2⟩
end Go.Proofs.Ytdfdcenbpanegaa

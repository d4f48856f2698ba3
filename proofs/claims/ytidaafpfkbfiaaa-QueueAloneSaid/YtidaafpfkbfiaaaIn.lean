/- The walks over octet.In. -/
import Derived.Test.YtidaafpfkbfiaaaRef
import Derived.Deep.RegionHeld
import Derived.Laws.Cover3
set_option linter.unusedSimpArgs false
set_option linter.unusedVariables false
namespace Go.Proofs.Ytidaafpfkbfiaaa
open Go.RowKit

theorem add_add_all (a : Addr) (k j : Nat) : (a.add k).add j = a.add (k + j) := by
  unfold Addr.add
  by_cases hk : k = 0
  · simp [hk]
  · by_cases hj : j = 0
    · simp [hk, hj]
    · simp [hk, hj, Nat.add_assoc]
/-- Where a slice goes on behind its first k elements. -/
def fromA (A : Option Addr) (c k : Nat) : Option Addr := if c = k then A else A.map (·.add k)
theorem SlV.to {get : Addr → Option Value} {A : Option Addr} {n c : Nat} {cs : List Value} (h : SlV get (.slice A n c) n cs) (k : Nat) (hk : k ≤ n) : SlV get (.slice A k k) k (cs.take k) := by
  obtain ⟨A', c', e, h1, h2, h3⟩ := h
  cases e
  refine ⟨A, k, rfl, Nat.le_refl _, by omega, fun j u hj => h3 j u ?_⟩
  rw [List.getElem?_take] at hj
  split at hj
  · exact hj
  · cases hj
theorem SlV.from {get : Addr → Option Value} {A : Option Addr} {n c : Nat} {cs : List Value} (h : SlV get (.slice A n c) n cs) (hn : cs.length = n) (k : Nat) (hk : k ≤ n) : SlV get (.slice (fromA A c k) (n - k) (c - k)) (n - k) (cs.drop k) := by
  obtain ⟨A', c', e, h1, h2, h3⟩ := h
  cases e
  refine ⟨_, _, rfl, by omega, by omega, fun j u hj => ?_⟩
  rw [List.getElem?_drop] at hj
  obtain ⟨a, hA, hg⟩ := h3 _ u hj
  have hlt := (List.getElem?_eq_some_iff.1 hj).1
  refine ⟨a.add k, ?_, by rw [add_add_all]; exact hg⟩
  unfold fromA
  rw [if_neg (by omega), hA]
  rfl
theorem slice_is_nil (A : Option Addr) (n c : Nat) (w : World) : (binOp .eql 22 (.slice A n c) (.slice none 0 0)).run Try.prog w = .ok (.bool A.isNone) w := by
  simp [binOp, run_equal_slice_nil w 22 5 A n c Try.underlying22]
/-- A copy of bytes: in memory of its own. -/
theorem bytes_clone {G : Gnd} {w : World} {l : List Asrt} (H : Sat G w l) (v : Value) (bs : List UInt8) (hb : SlV w.cell? v bs.length (bs.map byteV)) (hlen : bs.length ≤ 140737488355328) :
    Calls Try.prog 29 #[v] w fun e w' => ∃ u, e = .returned u ∧ Sat G w' (ownS 5 1 u bs.length (bs.map byteV) :: l) := by
  refine calls_any fun K hK => ?_
  obtain ⟨A, c, rfl, hc, hm, hel⟩ := hb
  cases A with
  | none =>
    have e0 : bs = [] := by
      cases bs with
      | nil => rfl
      | cons b bs => obtain ⟨a, h, _⟩ := hel 0 (byteV b) rfl; cases h
    subst e0
    have S := H.ownNil 5 1
    have hnil := slice_is_nil none 0 c w
    clear hel
    go_enter Try.func29, Try.ntmps29
    go_wp2_with fail
    exact hK.out _ _ ⟨_, rfl, S⟩
  | some a =>
    have S0 := (H.newBlk #[] 5).ownBlk (size := 1) 0 rfl (Nat.zero_le _)
    have hw : ∀ j u, (bs.map byteV)[j]? = some u → (w.alloc (.cells #[] 5)).cell? (a.add j) = some u := fun j u hj => by
      obtain ⟨a', e, h⟩ := hel j u hj
      cases e
      rw [World.cell?_alloc_some _ _ _ (by rw [h]; rfl)]
      exact h
    have hnil := slice_is_nil (some a) bs.length c w
    clear hel H
    go_enter Try.func29, Try.ntmps29
    go_wp2_with (at_builtin; refine st_append rfl _ _ 22 rfl 5 (.int .u8 0) 1 1 Try.underlying22 info_u8 rfl (by omega) _ 0 [] rfl S0 a bs.length c (bs.map byteV) rfl (by simp) hw (by simp [byteV, Value.oneCell']) (by omega) (by omega) ?_; intro v' w' S')
    exact hK.out _ _ ⟨v', rfl, by simpa using S'⟩
theorem Sat.ownForm {G : Gnd} {w : World} {l : List Asrt} {e : TypeId} {size : Nat} {v : Value} {n : Nat} {xs : List Value} (H : Sat G w (ownS e size v n xs :: l)) : ∃ A c, v = .slice A n c ∧ n ≤ c ∧ c ≤ maxLen ∧ (A = none → c = 0) := by
  obtain ⟨_, ⟨rfl, rfl, _⟩ | ⟨g, cap, cur, rfl, h1, h2, _, _, _⟩⟩ := own_iff.1 H
  · exact ⟨none, 0, rfl, Nat.le_refl _, Nat.zero_le _, fun _ => rfl⟩
  · exact ⟨_, cap, rfl, h1, h2, fun h => by cases h⟩
end Go.Proofs.Ytidaafpfkbfiaaa

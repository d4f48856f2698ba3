/- reg: what a registry holds; whose a stream is; New, Last, Live. -/
import Derived.Test.YtecnddhfjjnbkaaDoorDo
import Derived.Test.YtecnddhfjjnbkaaDoorMk
import Derived.Deep.QuietTactic
import Derived.BigQuiet
import Derived.IntWalk
set_option linter.unusedSimpArgs false
set_option linter.unusedVariables false
namespace Go.Proofs.YtecnddhfjjnbkaaDoor
open Go.RowKit

/-- A live stream with its run. -/
structure Ent where
  id : Int
  n : Int
  C : List Int
  hC : C.length = 9
def Ent.enc (x : Ent) : List Value := Value.int .i64 x.id :: Value.int .i64 x.n :: ints x.C
theorem ent_len (x : Ent) : x.enc.length = 11 := by simp [Ent.enc, ints, x.hC]
def lenc (x : Int) : List Value := [.int .i64 x]
theorem lenc_len (x : Int) : (lenc x).length = 1 := rfl
/-- A registry: its streams F, how many each tenant has: L. -/
def rgA (g : Nat) (ten quo : Int) (F : List Ent) (L : List Int) (last : Int) : Asrt :=
  ex fun v : Value => ex fun u : Value => star [blk g #[.int .i64 ten, .int .i64 quo, v, u, .int .i64 last] 67, ownS 72 11 v F.length (encs Ent.enc F), ownS 3 1 u L.length (encs lenc L)]
/-- Whose a stream is: what the program says. -/
def ownR (id ten : Int) : Bool := decide (1 ≤ id ∧ id ≤ 2147483647 ∧ id % 2 = 1 ∧ 1 ≤ ten ∧ ten ≤ 64)
def ownT (id ten : Int) : Int := if ownR id ten then id / 2 % ten else 0
def idOf (tick : Int) : Int := if 0 ≤ tick ∧ tick ≤ 1073741823 then 2 * tick + 1 else 0
theorem i64_mask1 (n : Int) : bits .and .i64 n 1 = n % 2 := by
  have h1 : (BitVec.ofInt 64 1).toNat = 2 ^ 1 - 1 := by decide
  have key : (BitVec.ofInt 64 n &&& BitVec.ofInt 64 1).toNat = (n % ((2 ^ 64 : Nat) : Int)).toNat % 2 ^ 1 := by
    rw [BitVec.toNat_and, BitVec.toNat_ofInt, h1, Nat.and_two_pow_sub_one_eq_mod]
  show IntKind.i64.wrap ((BitVec.ofInt 64 n &&& BitVec.ofInt 64 1).toNat : Nat) = n % 2
  rw [key, IntKind.wrap_i64]
  omega
section
variable {G : Gnd} {w w' : World} {l : List Asrt} {g : Nat} {ten quo last : Int} {F : List Ent} {L : List Int}
theorem rg_iff : Sat G w (rgA g ten quo F L last :: l) ↔ ∃ v u, Sat G w (blk g #[.int .i64 ten, .int .i64 quo, v, u, .int .i64 last] 67 :: ownS 72 11 v F.length (encs Ent.enc F) :: ownS 3 1 u L.length (encs lenc L) :: l) := by
  unfold rgA
  rw [Sat.ex_iff]
  simp only [Sat.ex_iff, Sat.star_iff, List.cons_append, List.nil_append]
theorem rg_some (t : Int) (w : World) : Calls Tryd.prog 22 #[.int .i64 t] w fun e w' => e = .returned (.bool (decide (1 ≤ t ∧ t ≤ 64))) ∧ w = w' := by
  refine calls_any fun K hK => ?_
  by_cases a1 : 1 ≤ t
  · by_cases a2 : t ≤ 64
    · rw [decide_eq_true ⟨a1, a2⟩] at hK
      have z1 : decide (t ≥ 1) = true := decide_eq_true (by omega)
      have z2 : decide (t ≤ 64) = true := decide_eq_true (by omega)
      go_enter Tryd.func22, Tryd.ntmps22
      go_wp2_with fail
      exact hK.out _ _ ⟨rfl, rfl⟩
    · rw [decide_eq_false fun h => a2 h.2] at hK
      have z1 : decide (t ≥ 1) = true := decide_eq_true (by omega)
      have z2 : decide (t ≤ 64) = false := decide_eq_false (by omega)
      go_enter Tryd.func22, Tryd.ntmps22
      go_wp2_with fail
      exact hK.out _ _ ⟨rfl, rfl⟩
  · rw [decide_eq_false fun h => a1 h.1] at hK
    have z1 : decide (t ≥ 1) = false := decide_eq_false (by omega)
    go_enter Tryd.func22, Tryd.ntmps22
    go_wp2_with fail
    exact hK.out _ _ ⟨rfl, rfl⟩
theorem rg_id (t : Int) (w : World) : Calls Tryd.prog 7 #[.int .i64 t] w fun e w' => e = .returned (.int .i64 (idOf t)) ∧ w = w' := by
  refine calls_any fun K hK => ?_
  unfold idOf at hK
  by_cases a1 : t < 0
  · rw [if_neg (by omega)] at hK
    go_enter Tryd.func7, Tryd.ntmps7
    go_wp2_with fail
    exact hK.out _ _ ⟨rfl, rfl⟩
  by_cases a2 : 1073741823 < t
  · rw [if_neg (by omega)] at hK
    go_enter Tryd.func7, Tryd.ntmps7
    go_wp2_with fail
    exact hK.out _ _ ⟨rfl, rfl⟩
  · rw [if_pos (by omega)] at hK
    go_enter Tryd.func7, Tryd.ntmps7
    go_wp2_with fail
    exact hK.out _ _ ⟨rfl, rfl⟩
set_option maxHeartbeats 2000000 in
theorem rg_owner0 (id t : Int) (w : World) : Calls Tryd.prog 9 #[.int .i64 id, .int .i64 t] w fun e w' => e = .returned (.tuple #[.int .i64 (ownT id t), .bool (ownR id t)]) ∧ w = w' := by
  refine calls_any fun K hK => ?_
  unfold ownT at hK
  have hm := i64_mask1 id
  have hs := rg_some t
  by_cases a1 : id < 1
  · rw [show ownR id t = false from decide_eq_false (by omega)] at hK
    go_enter Tryd.func9, Tryd.ntmps9
    go_wp2_with fail
    exact hK.out _ _ ⟨rfl, rfl⟩
  by_cases a2 : 2147483647 < id
  · rw [show ownR id t = false from decide_eq_false (by omega)] at hK
    go_enter Tryd.func9, Tryd.ntmps9
    go_wp2_with fail
    exact hK.out _ _ ⟨rfl, rfl⟩
  by_cases a3 : id % 2 = 0
  · rw [show ownR id t = false from decide_eq_false (by omega)] at hK
    rw [a3] at hm
    go_enter Tryd.func9, Tryd.ntmps9
    go_wp2_with fail
    exact hK.out _ _ ⟨rfl, rfl⟩
  rw [show id % 2 = 1 by omega] at hm
  by_cases a4 : 1 ≤ t ∧ t ≤ 64
  · rw [show ownR id t = true from decide_eq_true (by omega)] at hK
    have hs := hs w
    rw [decide_eq_true a4] at hs
    obtain ⟨b1, b2⟩ := a4
    obtain ⟨i, rfl⟩ : ∃ i : Nat, id = i := ⟨id.toNat, by omega⟩
    obtain ⟨t, rfl⟩ : ∃ i : Nat, t = i := ⟨t.toNat, by omega⟩
    have hq : Int.tdiv (i : Int) 2 = (i : Int) / 2 := Int.tdiv_eq_ediv_of_nonneg (by omega)
    have hr : Int.tmod ((i : Int) / 2) (t : Int) = (i : Int) / 2 % t := Int.tmod_eq_emod_of_nonneg (by omega)
    have ht0 : ((t : Int) == 0) = false := beq_eq_false_iff_ne.2 (by omega)
    go_enter Tryd.func9, Tryd.ntmps9
    go_wp2_with fail
    (with_reducible refine hs.mono ?_)
    rintro e w1 ⟨rfl, rfl⟩
    go_wp2_with fail
    exact hK.out _ _ ⟨rfl, rfl⟩
  · rw [show ownR id t = false from decide_eq_false (by omega)] at hK
    have hs := hs w
    rw [decide_eq_false a4] at hs
    go_enter Tryd.func9, Tryd.ntmps9
    go_wp2_with fail
    (with_reducible refine hs.mono ?_)
    rintro e w1 ⟨rfl, rfl⟩
    go_wp2_with fail
    exact hK.out _ _ ⟨rfl, rfl⟩
theorem rg_owner {w : World} {g : Nat} {ten : Int} (c0 : w.cell? ⟨g, 0, none⟩ = some (.int .i64 ten)) (id : Int) : Calls Tryd.prog 23 #[.pointer (some ⟨g, 0, none⟩), .int .i64 id] w fun e w' => e = .returned (.int .i64 (ownT id ten)) ∧ w = w' := by
  refine calls_any fun K hK => ?_
  have ho := rg_owner0 id ten w
  go_enter Tryd.func23, Tryd.ntmps23
  go_wp2_with fail
  (with_reducible refine ho.mono ?_)
  rintro e w1 ⟨rfl, rfl⟩
  go_wp2_with fail
  exact hK.out _ _ ⟨rfl, rfl⟩
theorem rg_last (H : Sat G w (rgA g ten quo F L last :: l)) : Calls Tryd.prog 21 #[.pointer (some ⟨g, 0, none⟩)] w fun e w' => e = .returned (.int .i64 last) ∧ w = w' := by
  refine calls_any fun K hK => ?_
  obtain ⟨v, u, S⟩ := rg_iff.1 H
  have c4 := S.cell 4
  clear H S
  go_enter Tryd.func21, Tryd.ntmps21
  go_wp2_with fail
  exact hK.out _ _ ⟨rfl, rfl⟩
def liveAt (L : List Int) (t : Int) : Int := if 0 ≤ t then L.getD t.toNat 0 else 0
theorem rg_live (H : Sat G w (rgA g ten quo F L last :: l)) (hL : (L.length : Int) = ten) (t : Int) : Calls Tryd.prog 14 #[.pointer (some ⟨g, 0, none⟩), .int .i64 t] w fun e w' => e = .returned (.int .i64 (liveAt L t)) ∧ w = w' := by
  refine calls_any fun K hK => ?_
  obtain ⟨v, u, S⟩ := rg_iff.1 H
  have c0 := S.cell 0
  have c3 := S.cell 3
  unfold liveAt at hK
  by_cases a1 : t < 0
  · rw [if_neg (by omega)] at hK
    clear H S
    go_enter Tryd.func14, Tryd.ntmps14
    go_wp2_with fail
    exact hK.out _ _ ⟨rfl, rfl⟩
  rw [if_pos (by omega)] at hK
  by_cases a2 : ten ≤ t
  · rw [List.getD_eq_getElem?_getD, List.getElem?_eq_none (by omega)] at hK
    clear H S
    go_enter Tryd.func14, Tryd.ntmps14
    go_wp2_with fail
    exact hK.out _ _ ⟨rfl, rfl⟩
  · obtain ⟨t, rfl⟩ : ∃ j : Nat, t = j := ⟨t.toNat, by omega⟩
    obtain ⟨x, hx⟩ : ∃ x, L[t]? = some x := ⟨_, List.getElem?_eq_getElem (by omega)⟩
    rw [List.getD_eq_getElem?_getD, show (t : Int).toNat = t by omega, hx] at hK
    obtain ⟨p, cap, cur, rfl, hcap, La, S2⟩ := (S.re [2, 0, 1]).layOpen lenc_len (by omega)
    have d := (S2.cell (t * 1 + 0)).trans (La.get hx (j := 0) (by decide))
    simp only [Nat.mul_one, Nat.add_zero, lenc, List.getElem?_cons_zero] at d
    obtain ⟨N, hN⟩ : ∃ N, N = L.length := ⟨_, rfl⟩
    rw [← hN] at c3
    have a4 : (t : Int) < (N : Int) := by omega
    have a5 : t < N := by omega
    clear H S S2 hx hN hL La
    go_enter Tryd.func14, Tryd.ntmps14
    go_wp2_with fail
    exact hK.out _ _ ⟨rfl, rfl⟩
end
end Go.Proofs.YtecnddhfjjnbkaaDoor

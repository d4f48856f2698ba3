/- Lists of whole numbers that nobody turns; the walks over the reference: First, Sum, Grant, Spend. -/
import Derived.Test.YtkjelbnkfnifgaaGrant
set_option linter.unusedSimpArgs false
set_option linter.unusedVariables false
namespace Go.Proofs.Ytkjelbnkfnifgaa
open Go.RowKit

/-- v is a slice of the numbers L, that nobody turns. -/
def IntsR (R : Hp) (v : Value) (L : List Int) : Prop :=
  ∃ A c, v = .slice A L.length c ∧ L.length ≤ c ∧ c ≤ maxLen ∧ ∀ i, i < L.length → ∃ g, A = some ⟨g, 0, none⟩ ∧ cellR R ⟨g, i, none⟩ = some (.int .i64 (L.getD i 0))
theorem IntsR.mono {G G' : Gnd} {v : Value} {L : List Int} (h : IntsR G.ro v L) (hG : G.le G') : IntsR G'.ro v L := by
  obtain ⟨A, c, e, h1, h2, h3⟩ := h
  exact ⟨A, c, e, h1, h2, fun i hi => by obtain ⟨g, ha, hc⟩ := h3 i hi; exact ⟨g, ha, cellR_mono hG.ro hc⟩⟩
theorem ints_get {L : List Int} {i : Nat} (h : i < L.length) : (ints L)[i]? = some (.int .i64 (L.getD i 0)) := by
  simp [ints, h]
theorem Sat.ints {G : Gnd} {w : World} {l : List Asrt} {v : Value} {L : List Int} (H : Sat G w (ownS 3 1 v L.length (ints L) :: l)) : ∃ G', G.le G' ∧ Sat G' w l ∧ IntsR G'.ro v L := by
  obtain ⟨_, hor⟩ := own_iff.1 H
  have hc : ∃ A c, v = .slice A L.length c ∧ L.length ≤ c ∧ c ≤ maxLen := by
    rcases hor with ⟨rfl, h0, -⟩ | ⟨g, cap, cur, rfl, h1, h2, -⟩
    · exact ⟨none, 0, by rw [h0], by omega, by unfold maxLen; omega⟩
    · exact ⟨_, cap, rfl, h1, h2⟩
  obtain ⟨A, c, rfl, h1, h2⟩ := hc
  obtain ⟨G', hG, S, A', c', e, hm, hl, hr⟩ := H.ownFreeze
  cases e
  refine ⟨G', hG, S, A, c, rfl, h1, h2, fun i hi => ?_⟩
  obtain ⟨g, rfl, hc⟩ := hr i _ (ints_get hi)
  exact ⟨g, rfl, hc⟩
theorem isum_take {L : List Int} {k : Nat} (h : k < L.length) : isum (L.take (k + 1)) = isum (L.take k) + L.getD k 0 := by
  rw [List.take_succ_eq_append_getElem h, isum_append, List.getD_eq_getElem?_getD, List.getElem?_eq_getElem h]
  simp [isum]
theorem isum_take_le {L : List Int} (h : ∀ x ∈ L, 0 ≤ x) (k : Nat) : 0 ≤ isum (L.take k) ∧ isum (L.take k) ≤ isum L := by
  have e : isum L = isum (L.take k) + isum (L.drop k) := by rw [← isum_append, List.take_append_drop]
  have h1 := isum_nonneg (L := L.take k) fun x hx => h x (List.mem_of_mem_take hx)
  have h2 := isum_nonneg (L := L.drop k) fun x hx => h x (List.mem_of_mem_drop hx)
  omega
section
variable {G : Gnd} {w w' : World} {l : List Asrt} {L : List Int} {v : Value}
theorem ref_sum (H : Sat G w l) (hv : IntsR G.ro v L) (gd : Good L) : Calls Try.prog 24 #[v] w fun e w' => e = .returned (.int .i64 (isum L)) ∧ w = w' := by
  refine calls_any fun K hK => ?_
  obtain ⟨A, c, rfl, hc1, hc2, hel⟩ := hv
  have HEL := Lib.hid hel
  have hc3 : c ≤ 9223372036854775807 := hc2
  have gl := gd.len
  clear hel hc2
  go_enter Try.func24, Try.ntmps24
  go_wp2_with fail
  go_loop [3, 4] (fun s i => ∃ k : Nat, k ≤ L.length ∧ i = .int .i64 k ∧ s = .int .i64 (isum (L.take k))) (fun _ i => L.length - (intOf i).toNat)
  case atStart => exact ⟨0, Nat.zero_le _, rfl, rfl⟩
  case round =>
    obtain ⟨k, hk, rfl, rfl⟩ := hrel
    by_cases hlt : k < L.length
    · obtain ⟨g, rfl, hcl⟩ := HEL.out k hlt
      have hcell := H.cellR hcl
      have HS := Lib.hid (isum_take hlt)
      obtain ⟨b0, b1⟩ := isum_take_le gd.nonneg k
      obtain ⟨x0, x1⟩ := gd.at_ hlt
      have gs := gd.sum
      generalize L.getD k 0 = x at *
      generalize isum (L.take k) = s at *
      generalize isum L = t at *
      clear hcl
      go_wp2_with fail
      refine ⟨⟨k + 1, by omega, by go_num, ?_⟩, by simp [intOf]; omega⟩
      rw [HS.out]
    · obtain rfl : k = L.length := by omega
      rw [List.take_length]
      go_wp2_with fail
      exact hK.out _ _ ⟨rfl, rfl⟩
theorem parts_take (t : Int) (m k : Nat) : ints ((List.range (k + 1)).map (part t m)) = ints ((List.range k).map (part t m)) ++ [.int .i64 (part t m k)] := by
  simp [ints, List.range_succ]
set_option maxHeartbeats 1000000 in
theorem ref_first (H : Sat G w l) (m : Nat) (h1 : 1 ≤ m) (h2 : m ≤ 64) : Calls Try.prog 12 #[.int .i64 m] w fun e w' => ∃ v G', e = .returned v ∧ G.le G' ∧ IntsR G'.ro v (parts 65535 m) ∧ Sat G' w' l := by
  refine calls_any fun K hK => ?_
  have S0 := H.ownNil 3 1
  clear H
  go_enter Try.func12, Try.ntmps12
  go_wp2_with fail
  go_loopw [3, 4] (fun x i wr => ∃ k : Nat, k ≤ m ∧ i = .int .i64 k ∧ Sat G wr (ownS 3 1 x k (ints ((List.range k).map (part 65535 m))) :: l)) (fun _ i _ => m - (intOf i).toNat)
  case atStart => exact ⟨0, Nat.zero_le _, rfl, S0⟩
  case round =>
    obtain ⟨k, hk, rfl, S⟩ := hrel
    clear S0
    by_cases hlt : k < m
    · have HT := Lib.hid (parts_take 65535 m k)
      have hp : part 65535 m k = 65535 / m + if (k : Int) < 65535 % m then 1 else 0 := rfl
      have q0 : (0 : Int) ≤ 65535 / m := Int.ediv_nonneg (by omega) (by omega)
      have q1 : (65535 : Int) / m ≤ 65535 := Int.ediv_le_self _ (by omega)
      have e1 : (65535 : Int).tdiv m = 65535 / m := Int.tdiv_eq_ediv_of_nonneg (by omega)
      have e2 : (65535 : Int).tmod m = 65535 % m := Int.tmod_eq_emod_of_nonneg (by omega)
      have hmz : ((m : Int) == 0) = false := by simp; omega
      have hS : ∀ W, Below wr.heap.size wr W → Sat G W _ := fun W h => S.below h
      clear S
      by_cases hr : (k : Int) < 65535 % m
      · rw [if_pos hr] at hp
        have HP := Lib.hid hp
        clear hp
        generalize (65535 : Int) / m = q at *
        generalize (65535 : Int) % m = r at *
        go_wp2_with ((at_builtin; refine st_append rfl _ _ 34 rfl 3 (.int .i64 0) 1 8 Try.underlying34 info_int rfl (by omega) _ k _ rfl (hS _ (by (repeat (first | exact Below.refl _ _ | refine Below.setCell ?_ (by simp; try omega) _ | refine Below.alloc ?_ (by simp; try omega) _ | refine Below.drew ?_)))) ⟨wr.heap.size, 0, none⟩ 1 1 [.int .i64 (q + 1)] rfl rfl (alloc_cells _ _ #[.int .i64 (q + 1)] _ (by simp)) rfl (Nat.le_trans (show k + 1 ≤ 64 by omega) (by decide)) (by omega) ?_; intro v' w' S'))
        go_roundw
        case rel => exact ⟨k + 1, by omega, by go_num, by rw [HT.out, HP.out]; exact S'⟩
        case measure => simp [intOf]; omega
      · rw [if_neg hr, Int.add_zero] at hp
        have HP := Lib.hid hp
        clear hp
        generalize (65535 : Int) / m = q at *
        generalize (65535 : Int) % m = r at *
        go_wp2_with ((at_builtin; refine st_append rfl _ _ 34 rfl 3 (.int .i64 0) 1 8 Try.underlying34 info_int rfl (by omega) _ k _ rfl (hS _ (by (repeat (first | exact Below.refl _ _ | refine Below.setCell ?_ (by simp; try omega) _ | refine Below.alloc ?_ (by simp; try omega) _ | refine Below.drew ?_)))) ⟨wr.heap.size, 0, none⟩ 1 1 [.int .i64 (q)] rfl rfl (alloc_cells _ _ #[.int .i64 (q)] _ (by simp)) rfl (Nat.le_trans (show k + 1 ≤ 64 by omega) (by decide)) (by omega) ?_; intro v' w' S'))
        go_roundw
        case rel => exact ⟨k + 1, by omega, by go_num, by rw [HT.out, HP.out]; exact S'⟩
        case measure => simp [intOf]; omega
    · obtain rfl : k = m := by omega
      have HS := Lib.hid S
      clear S
      go_wp2_with fail
      have S2 := HS.out
      have e : (parts 65535 k).length = k := by simp [parts]
      obtain ⟨G', hG, S3, hi⟩ := Sat.ints (L := parts 65535 k) (by rw [e]; exact S2)
      exact hK.out _ _ ⟨_, G', rfl, hG, hi, S3⟩
end
end Go.Proofs.Ytkjelbnkfnifgaa

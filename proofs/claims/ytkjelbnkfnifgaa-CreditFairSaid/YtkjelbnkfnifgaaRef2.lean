/- The walks over the reference: Grant, Spend. -/
import Derived.Test.YtkjelbnkfnifgaaRef
set_option linter.unusedSimpArgs false
set_option linter.unusedVariables false
namespace Go.Proofs.Ytkjelbnkfnifgaa
open Go.RowKit

theorem ints_take {L : List Int} {k : Nat} (h : k < L.length) : ints (L.take (k + 1)) = ints (L.take k) ++ [.int .i64 (L.getD k 0)] := by
  rw [List.take_succ_eq_append_getElem h, List.getD_eq_getElem?_getD, List.getElem?_eq_getElem h]
  simp only [ints, List.map_append, List.map_cons, List.map_nil, Option.getD_some]
theorem gl_all (L : List Int) (T : Nat) (n : Int) (j : Nat) (h : j < L.length) : (gl L T n L.length).getD j 0 = L.getD j 0 + (n / L.length + if (kOf L.length T j : Int) < n % L.length then 1 else 0) := by
  rw [gl_getD _ _ _ _ _ h, if_pos (by unfold kOf; exact Nat.mod_lt _ (by omega))]
  rfl
section
variable {G : Gnd} {w w' : World} {l : List Asrt} {L : List Int} {T : Nat} {v : Value}
/-- The list then is in memory that nobody turns. -/
def RefPost (K : Ending → World → Prop) (G : Gnd) (l : List Asrt) (L : List Int) (er : Int) : Prop := True
set_option maxHeartbeats 4000000 in
set_option maxRecDepth 100000 in
theorem ref_grant (H : Sat G w l) (hv : IntsR G.ro v L) (gd : Good L) (n : Int) (hT : T ≤ 1000000) : Calls Try.prog 25 #[v, .int .i64 T, .int .i64 n] w fun e w' => ∃ v' G', e = .returned (.tuple #[v', .int .i64 (crGrant L T n).2.2]) ∧ G.le G' ∧ IntsR G'.ro v' (crGrant L T n).1 ∧ Sat G' w' l := by
  refine calls_any fun K hK => ?_
  have hsum := fun W (S : Sat G W l) => ref_sum S hv gd
  have hv' := hv
  obtain ⟨A, c, rfl, hc1, hc2, hel⟩ := hv'
  have HEL := Lib.hid hel
  have HV := Lib.hid hv
  have hc3 : c ≤ 9223372036854775807 := hc2
  have gl0 := gd.len
  have gl1 := gd.pos
  have gs := gd.sum
  have g0 := gd.s0
  clear hel hc2 hv
  unfold crGrant at hK
  by_cases a1 : n < 1
  · rw [if_pos (.inl a1)] at hK
    go_enter Try.func25, Try.ntmps25
    go_wp2_with fail
    exact hK.out _ _ ⟨_, G, rfl, Gnd.le.rfl', HV.out, H⟩
  by_cases a2 : 2147483647 < n
  · rw [if_pos (.inr a2)] at hK
    go_enter Try.func25, Try.ntmps25
    go_wp2_with fail
    exact hK.out _ _ ⟨_, G, rfl, Gnd.le.rfl', HV.out, H⟩
  rw [if_neg (by omega)] at hK
  by_cases a3 : 2147483647 < isum L + n
  · rw [if_pos a3] at hK
    go_enter Try.func25, Try.ntmps25
    go_wp2_with fail
    (with_reducible refine (hsum _ H).mono ?_)
    clear hsum
    rintro e w1 ⟨rfl, rfl⟩
    go_wp2_with fail
    exact hK.out _ _ ⟨_, G, rfl, Gnd.le.rfl', HV.out, H⟩
  rw [if_neg a3] at hK
  have S0 := H.ownNil 3 1
  have hs := hsum _ H
  have HGL := Lib.hid (gl_all L T n)
  have hgll := gl_length L T n L.length
  have HSH : Hid (∀ x ∈ L, 0 ≤ x) := Lib.hid gd.nonneg
  have HGE := Lib.hid fun i (hi : i < L.length) => gd.at_ hi
  have HTK := Lib.hid fun k (h : k < (gl L T n L.length).length) => ints_take h
  obtain ⟨Lg, hLg⟩ : ∃ Lg, Lg = gl L T n L.length := ⟨_, rfl⟩
  rw [← hLg] at HGL hgll HTK hK
  clear hLg
  have HGLL := Lib.hid hgll
  clear hsum H gd hgll
  go_enter Try.func25, Try.ntmps25
  go_wp2_with fail
  (with_reducible refine hs.mono ?_)
  clear hs
  rintro e w1 ⟨rfl, rfl⟩
  go_wp2_with fail
  go_loopw [8, 9] (fun x i wr => ∃ k : Nat, k ≤ L.length ∧ i = .int .i64 k ∧ Sat G wr (ownS 3 1 x k (ints (Lg.take k)) :: l)) (fun _ i _ => L.length - (intOf i).toNat)
  case atStart => exact ⟨0, Nat.zero_le _, rfl, S0⟩
  case round =>
    obtain ⟨k, hk, rfl, S⟩ := hrel
    clear S0
    by_cases hlt : k < L.length
    · have hg := HGL.out k hlt
      have ht := HTK.out k (by rw [HGLL.out]; exact hlt)
      rw [hg] at ht
      have HT := Lib.hid ht
      clear hg ht
      obtain ⟨x0, x1⟩ := HGE.out k hlt
      obtain ⟨g, rfl, hcl⟩ := HEL.out k hlt
      have hcell := S.cellR hcl
      have q0 : 0 ≤ n / L.length := Int.ediv_nonneg (by omega) (by omega)
      have q1 : n / L.length ≤ n := Int.ediv_le_self _ (by omega)
      have r0 : 0 ≤ n % L.length := Int.emod_nonneg _ (by omega)
      have r1 : n % L.length < L.length := Int.emod_lt_of_pos _ (by omega)
      have t1 : T % L.length < L.length := Nat.mod_lt _ (by omega)
      have e1 : n.tdiv L.length = n / L.length := Int.tdiv_eq_ediv_of_nonneg (by omega)
      have e2 : n.tmod L.length = n % L.length := Int.tmod_eq_emod_of_nonneg (by omega)
      have e3 : (T : Int).tmod L.length = ((T % L.length : Nat) : Int) := by rw [Int.tmod_eq_emod_of_nonneg (by omega)]; norm_cast
      have e3' : (T : Int) % L.length = ((T % L.length : Nat) : Int) := by norm_cast
      have e4' : ((k : Int) - ((T % L.length : Nat) : Int) + L.length) % L.length = ((kOf L.length T k : Nat) : Int) := by
        unfold kOf
        rw [show ((k : Int) - ((T % L.length : Nat) : Int) + L.length) = ((k + L.length - T % L.length : Nat) : Int) by omega]
        norm_cast
      have e4 : ((k : Int) - ((T % L.length : Nat) : Int) + L.length).tmod L.length = ((kOf L.length T k : Nat) : Int) := by
        rw [Int.tmod_eq_emod_of_nonneg (by have ht := t1; clear e3 e3' e4' e1 e2; generalize T % L.length = t at ht ⊢; omega)]; exact e4'
      have hmz : ((L.length : Int) == 0) = false := beq_eq_false_iff_ne.2 (by omega)
      have hS : ∀ W, Below wr.heap.size wr W → Sat G W _ := fun W h => S.below h
      clear S hcl
      generalize n / (L.length : Int) = q at *
      generalize n % (L.length : Int) = r at *
      generalize T % L.length = t at *
      generalize kOf L.length T k = ko at *
      generalize L.getD k 0 = y at *
      by_cases hr : (ko : Int) < r
      · have HT2 := Lib.hid (HT.out.trans (by rw [if_pos hr]))
        clear HT
        go_wp2_with ((at_builtin; refine st_append rfl _ _ 34 rfl 3 (.int .i64 0) 1 8 Try.underlying34 info_int rfl (by omega) _ k _ rfl (hS _ (by (repeat (first | exact Below.refl _ _ | refine Below.setCell ?_ (by simp; try omega) _ | refine Below.alloc ?_ (by simp; try omega) _ | refine Below.drew ?_)))) ⟨wr.heap.size, 0, none⟩ 1 1 [.int .i64 (y + (q + 1))] rfl rfl (alloc_cells _ _ #[.int .i64 (y + (q + 1))] _ (by simp)) rfl (Nat.le_trans (show k + 1 ≤ 64 by omega) (by decide)) (by omega) ?_; intro v' w' S'))
        go_roundw
        case rel => exact ⟨k + 1, by omega, by go_num, by rw [HT2.out]; exact S'⟩
        case measure => simp [intOf]; omega
      · have HT2 := Lib.hid (HT.out.trans (by rw [if_neg hr, Int.add_zero]))
        clear HT
        go_wp2_with ((at_builtin; refine st_append rfl _ _ 34 rfl 3 (.int .i64 0) 1 8 Try.underlying34 info_int rfl (by omega) _ k _ rfl (hS _ (by (repeat (first | exact Below.refl _ _ | refine Below.setCell ?_ (by simp; try omega) _ | refine Below.alloc ?_ (by simp; try omega) _ | refine Below.drew ?_)))) ⟨wr.heap.size, 0, none⟩ 1 1 [.int .i64 (y + q)] rfl rfl (alloc_cells _ _ #[.int .i64 (y + q)] _ (by simp)) rfl (Nat.le_trans (show k + 1 ≤ 64 by omega) (by decide)) (by omega) ?_; intro v' w' S'))
        go_roundw
        case rel => exact ⟨k + 1, by omega, by go_num, by rw [HT2.out]; exact S'⟩
        case measure => simp [intOf]; omega
    · obtain rfl : k = L.length := by omega
      have HS := Lib.hid S
      clear S
      go_wp2_with fail
      have S2 := HS.out
      rw [List.take_of_length_le (by rw [HGLL.out]; exact Nat.le_refl _), ← HGLL.out] at S2
      obtain ⟨G', hG, S3, hi⟩ := Sat.ints S2
      exact hK.out _ _ ⟨_, G', rfl, hG, hi, S3⟩
end
end Go.Proofs.Ytkjelbnkfnifgaa

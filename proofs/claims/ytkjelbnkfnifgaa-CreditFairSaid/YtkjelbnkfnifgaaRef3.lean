/- The walk over the reference: Spend. -/
import Derived.Test.YtkjelbnkfnifgaaRef2
set_option linter.unusedSimpArgs false
set_option linter.unusedVariables false
namespace Go.Proofs.Ytkjelbnkfnifgaa
open Go.RowKit

theorem spend_bad {L : List Int} {k n : Int} (h : k < 0 ∨ (L.length : Int) ≤ k ∨ n < 0 ∨ 2147483647 < n) : crSpend L k n = (L, 11) := by
  unfold crSpend crHas
  by_cases a : 0 ≤ k ∧ k < L.length
  · rw [if_pos (by simpa using a), if_neg (by omega)]
  · rw [if_neg (by simpa using a)]
theorem spend_full {L : List Int} {k : Nat} {n : Int} (hk : k < L.length) (h0 : 0 ≤ n) (h1 : n ≤ 2147483647) (h : L.getD k 0 < n) : crSpend L k n = (L, 15) := by
  unfold crSpend crHas
  rw [if_pos (by simp; omega), if_pos ⟨h0, h1⟩, if_neg (by rw [Int.toNat_natCast]; omega)]
theorem spend_ok {L : List Int} {k : Nat} {n : Int} (hk : k < L.length) (h0 : 0 ≤ n) (h1 : n ≤ 2147483647) (h : n ≤ L.getD k 0) : crSpend L k n = (L.set k (L.getD k 0 - n), 0) := by
  unfold crSpend crHas
  rw [if_pos (by simp; omega), if_pos ⟨h0, h1⟩, if_pos (by rw [Int.toNat_natCast]; exact h), Int.toNat_natCast]
theorem ints_set (L : List Int) (k : Nat) (x : Int) : (ints L).set k (.int .i64 x) = ints (L.set k x) := by
  simp [ints, List.map_set]
/-- An element of a slice of one's own, and how it is turned. -/
theorem Sat.ownCell {G : Gnd} {w : World} {l : List Asrt} {e : TypeId} {v : Value} {n : Nat} {xs : List Value} (H : Sat G w (ownS e 1 v n xs :: l)) (k : Nat) (hk : k < n) :
    ∃ g cap, v = .slice (some ⟨g, 0, none⟩) n cap ∧ n ≤ cap ∧ cap ≤ maxLen ∧ w.cell? ⟨g, k, none⟩ = xs[k]? ∧ w.frozen? ⟨g, k, none⟩ = false ∧ ∀ u, Sat G (w.setCell ⟨g, k, none⟩ u) (ownS e 1 v n (xs.set k u) :: l) := by
  obtain ⟨hl, ⟨_, h0, _⟩ | ⟨g, cap, cur, rfl, h1, h2, h3, h4, S⟩⟩ := own_iff.1 H
  · omega
  · refine ⟨g, cap, rfl, h1, h2, ?_, S.frozen k, fun u => ?_⟩
    · rw [S.cell k, ← h4, List.getElem?_take, if_pos (by omega)]; simp
    · refine own_iff.2 ⟨by simpa using hl, .inr ⟨g, cap, _, rfl, h1, h2, ?_, ?_, S.setCell k u⟩⟩
      · simpa using h3
      · rw [Array.toList_setIfInBounds, List.take_set, h4]
section
variable {G : Gnd} {w w' : World} {l : List Asrt} {L : List Int} {v : Value}
set_option maxHeartbeats 4000000 in
set_option maxRecDepth 100000 in
theorem ref_spend (H : Sat G w l) (hv : IntsR G.ro v L) (gd : Good L) (k n : Int) (hk0 : -9223372036854775808 ≤ n) (hk1 : n ≤ 9223372036854775807) : Calls Try.prog 26 #[v, .int .i64 k, .int .i64 n] w fun e w' => ∃ v' G', e = .returned (.tuple #[v', .int .i64 (crSpend L k n).2]) ∧ G.le G' ∧ IntsR G'.ro v' (crSpend L k n).1 ∧ Sat G' w' l := by
  refine calls_any fun K hK => ?_
  have hv' := hv
  obtain ⟨A, c, rfl, hc1, hc2, hel⟩ := hv'
  have HV := Lib.hid hv
  have hc3 : c ≤ 9223372036854775807 := hc2
  have gl0 := gd.len
  have gl1 := gd.pos
  clear hc2 hv
  by_cases a1 : k < 0
  · rw [spend_bad (.inl a1)] at hK
    clear hel
    go_enter Try.func26, Try.ntmps26
    go_wp2_with fail
    exact hK.out _ _ ⟨_, G, rfl, Gnd.le.rfl', HV.out, H⟩
  by_cases a2 : (L.length : Int) ≤ k
  · rw [spend_bad (.inr (.inl a2))] at hK
    clear hel
    go_enter Try.func26, Try.ntmps26
    go_wp2_with fail
    exact hK.out _ _ ⟨_, G, rfl, Gnd.le.rfl', HV.out, H⟩
  by_cases a3 : n < 0
  · rw [spend_bad (.inr (.inr (.inl a3)))] at hK
    clear hel
    go_enter Try.func26, Try.ntmps26
    go_wp2_with fail
    exact hK.out _ _ ⟨_, G, rfl, Gnd.le.rfl', HV.out, H⟩
  by_cases a4 : 2147483647 < n
  · rw [spend_bad (.inr (.inr (.inr a4)))] at hK
    clear hel
    go_enter Try.func26, Try.ntmps26
    go_wp2_with fail
    exact hK.out _ _ ⟨_, G, rfl, Gnd.le.rfl', HV.out, H⟩
  obtain ⟨k, rfl⟩ : ∃ j : Nat, k = j := ⟨k.toNat, by omega⟩
  have hk : k < L.length := by omega
  obtain ⟨g, rfl, hcl⟩ := hel k hk
  have hcell := H.cellR hcl
  obtain ⟨x0, x1⟩ := gd.at_ hk
  have gs := gd.sum
  by_cases a5 : L.getD k 0 < n
  · rw [spend_full hk (by omega) (by omega) a5] at hK
    clear hel hcl
    have a6 : n > 0 := by omega
    generalize L.getD k 0 = x at *
    go_enter Try.func26, Try.ntmps26
    go_wp2_with fail
    exact hK.out _ _ ⟨_, G, rfl, Gnd.le.rfl', HV.out, H⟩
  · rw [spend_ok hk (by omega) (by omega) (by omega)] at hK
    have S0 := H.ownNil 3 1
    have HL1 : Hid ((ints L).length = L.length * 1) := Lib.hid (by simp [ints])
    have HL3 : Hid ((ints L).all (·.oneCell') = true) := Lib.hid (by simp [ints, Value.oneCell'])
    have HL4 := Lib.hid (ints_get hk)
    have HL2 : Hid (∀ j u, (ints L)[j]? = some u → w.cell? ((⟨g, 0, none⟩ : Addr).add j) = some u) := Lib.hid fun j u hj => by
      have hlt := (List.getElem?_eq_some_iff.1 hj).1
      rw [show (ints L).length = L.length by simp [ints]] at hlt
      rw [ints_get hlt] at hj
      cases hj
      obtain ⟨g', e, hc⟩ := hel j hlt
      cases e
      have e : (⟨g, 0, none⟩ : Addr).add j = ⟨g, j, none⟩ := by unfold Addr.add; split <;> simp_all
      rw [e]; exact H.cellR hc
    have HSE := Lib.hid (ints_set L k (L.getD k 0 - n))
    have HSL : Hid ((L.set k (L.getD k 0 - n)).length = L.length) := Lib.hid (List.length_set ..)
    clear hel hcl H gd
    generalize L.set k (L.getD k 0 - n) = L2 at *
    generalize L.getD k 0 = x at *
    by_cases a6 : n > 0
    · go_enter Try.func26, Try.ntmps26
      go_wp2_with ((at_builtin; (refine st_append rfl _ _ 34 rfl 3 (.int .i64 0) 1 8 Try.underlying34 info_int rfl (by omega) _ 0 _ rfl S0 ⟨g, 0, none⟩ L.length c (ints L) rfl HL1.out HL2.out HL3.out (Nat.le_trans (show 0 + L.length ≤ 64 by omega) (by decide)) (by omega) ?_; intro v' w' S'; have S2 : Sat G w' (ownS 3 1 v' L.length (ints L) :: l) := (by simpa using S'); obtain ⟨g2, cap2, rfl, q1, q2, q3, q4, q5⟩ := S2.ownCell k hk; rw [HL4.out] at q3; clear S' S2)))
      have S3 := q5 (.int .i64 (x - n))
      rw [HSE.out] at S3
      obtain ⟨G', hG, S4, hi⟩ := Sat.ints (L := L2) (by rw [HSL.out]; exact S3)
      exact hK.out _ _ ⟨_, G', rfl, hG, hi, S4⟩
    · go_enter Try.func26, Try.ntmps26
      go_wp2_with ((at_builtin; (refine st_append rfl _ _ 34 rfl 3 (.int .i64 0) 1 8 Try.underlying34 info_int rfl (by omega) _ 0 _ rfl S0 ⟨g, 0, none⟩ L.length c (ints L) rfl HL1.out HL2.out HL3.out (Nat.le_trans (show 0 + L.length ≤ 64 by omega) (by decide)) (by omega) ?_; intro v' w' S'; have S2 : Sat G w' (ownS 3 1 v' L.length (ints L) :: l) := (by simpa using S'); obtain ⟨g2, cap2, rfl, q1, q2, q3, q4, q5⟩ := S2.ownCell k hk; rw [HL4.out] at q3; clear S' S2)))
      have S3 := q5 (.int .i64 (x - n))
      rw [HSE.out] at S3
      obtain ⟨G', hG, S4, hi⟩ := Sat.ints (L := L2) (by rw [HSL.out]; exact S3)
      exact hK.out _ _ ⟨_, G', rfl, hG, hi, S4⟩
end
end Go.Proofs.Ytkjelbnkfnifgaa

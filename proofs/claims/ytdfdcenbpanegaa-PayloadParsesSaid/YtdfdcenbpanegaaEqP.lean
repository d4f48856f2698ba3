/- Pairs are compared. -/
import Derived.Test.YtdfdcenbpanegaaEq
set_option linter.unusedSimpArgs false
set_option linter.unusedVariables false
namespace Go.Proofs.Ytdfdcenbpanegaa
open Go.RowKit

theorem take_eq_snoc {α : Type} {ps qs : List α} {k : Nat} {p : α} (h : ps.take k = qs.take k) (hp : ps[k]? = some p) (hq : qs[k]? = some p) : ps.take (k + 1) = qs.take (k + 1) := by
  obtain ⟨h1, e1⟩ := List.getElem?_eq_some_iff.1 hp
  obtain ⟨h2, e2⟩ := List.getElem?_eq_some_iff.1 hq
  rw [List.take_succ_eq_append_getElem h1, List.take_succ_eq_append_getElem h2, h, e1, e2]
section
variable {G : Gnd} {w : World} {l : List Asrt}
set_option maxHeartbeats 4000000 in
theorem pr_equal (H : Sat G w l) (v v' : Value) (ps qs : List (Int × Int)) (h1 : RPr G.ro v ps) (h2 : RPr G.ro v' qs) :
    Calls Try.prog 26 #[v, v'] w fun e w' => e = .returned (.bool (decide (ps = qs))) ∧ Sat G w' l := by
  refine calls_any fun K hK => ?_
  obtain ⟨A, c, rfl, hl1, hc1, hp⟩ := h1
  obtain ⟨B, d, rfl, hl2, hc2, hq⟩ := h2
  have hm1 : ps.length ≤ 9223372036854775807 := Nat.le_trans (Nat.le_trans hl1 hc1) (by decide)
  have hm2 : qs.length ≤ 9223372036854775807 := Nat.le_trans (Nat.le_trans hl2 hc2) (by decide)
  have HP := Lib.hid hp
  have HQ' := Lib.hid hq
  clear hp hq hl1 hl2 hc1 hc2
  by_cases hn : ps.length = qs.length
  · have hne : ((ps.length : Int) != (qs.length : Int)) = false := by simp [hn]
    have HN := Lib.hid hn
    generalize hpl : ps.length = n at *
    have HPLn := Lib.hid hpl
    clear hn hpl
    have hqn : qs.length = n := HN.out.symm
    rw [hqn] at hne hm2 ⊢
    have HQL := Lib.hid hqn
    clear hqn HN
    go_enter Try.func26, Try.ntmps26
    go_wp2_with fail
    go_loopw [13] (fun i wr => ∃ k : Nat, k ≤ n ∧ i = .int .i64 k ∧ ps.take k = qs.take k ∧ Sat G wr l) (fun i _ => n - (intOf i).toNat)
    case atStart => exact ⟨0, Nat.zero_le _, rfl, rfl, H⟩
    case round =>
      obtain ⟨k, hk, rfl, hte, S⟩ := hrel
      clear H
      by_cases hlt : k < n
      · have hpk := List.getElem?_eq_getElem (show k < ps.length by rw [HPLn.out]; exact hlt)
        have hqk := List.getElem?_eq_getElem (show k < qs.length by rw [HQL.out]; exact hlt)
        obtain ⟨g, rfl, x0, x1⟩ := HP.out k _ hpk
        obtain ⟨g', rfl, y0, y1⟩ := HQ'.out k _ hqk
        have c0 := S.cellR x0
        have c1 := S.cellR x1
        have d0 := S.cellR y0
        have d1 := S.cellR y1
        clear x0 x1 y0 y1
        generalize ps[k]'_ = p at *
        generalize qs[k]'_ = q at *
        obtain ⟨p1, p2⟩ := p
        obtain ⟨q1, q2⟩ := q
        have hea := fun w => eq_arr2 p1 p2 q1 q2 w
        have HT := Lib.hid hte
        have HPK := Lib.hid hpk
        have HQK := Lib.hid hqk
        have HS := Lib.hid S
        simp only at c0 c1 d0 d1
        by_cases he : p1 = q1 ∧ p2 = q2
        · obtain ⟨rfl, rfl⟩ := he
          rw [decide_eq_true ⟨rfl, rfl⟩] at hea
          clear hte hpk hqk S
          go_wp2_with fail
          go_quiet (fail)
          go_wp2_with fail
          go_roundw
          case rel => exact ⟨k + 1, by omega, by go_num, take_eq_snoc HT.out HPK.out HQK.out, HS.out.drewP _⟩
          case measure => simp [intOf]; omega
        · rw [decide_eq_false he] at hea
          have hf : decide (ps = qs) = false := decide_eq_false fun h => by
            rw [h, hqk] at hpk
            cases hpk
            exact he ⟨rfl, rfl⟩
          rw [hf] at hK
          clear hte hpk hqk S he hf
          go_wp2_with fail
          go_quiet (fail)
          go_wp2_with fail
          exact hK.out _ _ ⟨rfl, HS.out.drewP _⟩
      · obtain rfl : k = n := by omega
        have hf : decide (ps = qs) = true := decide_eq_true (by
          rw [List.take_of_length_le (by rw [HPLn.out]; exact Nat.le_refl _), List.take_of_length_le (by rw [HQL.out]; exact Nat.le_refl _)] at hte
          exact hte)
        rw [hf] at hK
        clear hte hf
        go_wp2_with fail
        exact hK.out _ _ ⟨rfl, S⟩
  · have hne : ((ps.length : Int) != (qs.length : Int)) = true := by simp; omega
    have hf : decide (ps = qs) = false := decide_eq_false fun h => hn (by rw [h])
    rw [hf] at hK
    clear hf hn
    go_enter Try.func26, Try.ntmps26
    go_wp2_with fail
    exact hK.out _ _ ⟨rfl, H⟩
end
end Go.Proofs.Ytdfdcenbpanegaa

/- settings.Frame: the walk. -/
import Derived.Test.YtohknaoklcehaaaParse
import Derived.Test.YtohknaoklcehaaaEq
import Derived.Test.YtohknaoklcehaaaLaws
set_option linter.unusedSimpArgs false
set_option linter.unusedVariables false
namespace Go.Proofs.Ytohknaoklcehaaa
open Go.RowKit

def wrongP (p : Int × Int) : Bool := !(decide (0 ≤ p.1 ∧ p.1 ≤ 65535 ∧ 0 ≤ p.2 ∧ p.2 ≤ 4294967295))
theorem no_of5 {f : Nat → Bool} {i j : Nat} (h : f j = true → f i = true) (hi : f i = false) : f j = false := by
  cases hj : f j with
  | false => rfl
  | true => rw [h hj] at hi; cases hi
section
variable {G : Gnd} {w : World} {l : List Asrt}
theorem sf_value (n : Int) (w : World) : Calls Try.prog 24 #[.int .i64 n] w fun e w' => e = .returned (.bool (decide (0 ≤ n ∧ n ≤ 4294967295))) ∧ w = w' := by
  refine calls_any fun K hK => ?_
  by_cases h1 : 0 ≤ n
  · by_cases h2 : n ≤ 4294967295
    · rw [decide_eq_true ⟨h1, h2⟩] at hK
      go_enter Try.func24, Try.ntmps24
      go_wp2_with fail
      exact hK.out _ _ ⟨rfl, rfl⟩
    · rw [decide_eq_false (by omega)] at hK
      go_enter Try.func24, Try.ntmps24
      go_wp2_with fail
      exact hK.out _ _ ⟨rfl, rfl⟩
  · rw [decide_eq_false (by omega)] at hK
    go_enter Try.func24, Try.ntmps24
    go_wp2_with fail
    exact hK.out _ _ ⟨rfl, rfl⟩
set_option maxHeartbeats 1000000 in
theorem sf_wrong (H : Sat G w l) (a b : Int) : Calls Try.prog 23 #[.agg #[.int .i64 a, .int .i64 b]] w fun e w' => e = .returned (.bool (wrongP (a, b))) ∧ Sat G w' l := by
  refine calls_any fun K hK => ?_
  have S := H.newBlk #[.int .i64 a, .int .i64 b] 31
  have c0 := S.cell 0
  have c1 := S.cell 1
  have HS := Lib.hid S
  have hv := sf_value b
  clear S H
  unfold wrongP at hK
  by_cases h1 : a < 0
  · rw [decide_eq_false (by simp only; omega)] at hK
    clear hv
    go_enter Try.func23, Try.ntmps23
    go_wp2_with fail
    exact hK.out _ _ ⟨rfl, HS.out.drop⟩
  by_cases h2 : 65535 < a
  · rw [decide_eq_false (by simp only; omega)] at hK
    clear hv
    go_enter Try.func23, Try.ntmps23
    go_wp2_with fail
    exact hK.out _ _ ⟨rfl, HS.out.drop⟩
  by_cases h3 : 0 ≤ b ∧ b ≤ 4294967295
  · rw [decide_eq_true (by simp only; omega)] at hK
    rw [decide_eq_true h3] at hv
    clear h3
    go_enter Try.func23, Try.ntmps23
    go_wp2_with fail
    (with_reducible refine (hv _).mono ?_)
    rintro e w1 ⟨rfl, rfl⟩
    go_wp2_with fail
    exact hK.out _ _ ⟨rfl, HS.out.drop⟩
  · rw [decide_eq_false (by simp only; omega)] at hK
    rw [decide_eq_false h3] at hv
    clear h3
    go_enter Try.func23, Try.ntmps23
    go_wp2_with fail
    (with_reducible refine (hv _).mono ?_)
    rintro e w1 ⟨rfl, rfl⟩
    go_wp2_with fail
    exact hK.out _ _ ⟨rfl, HS.out.drop⟩
theorem ptake {L : List (Int × Int)} {k : Nat} {x : Int × Int} (h : L[k]? = some x) : L.take (k + 1) = L.take k ++ [x] := by
  rw [List.take_add_one, h]; rfl
set_option maxHeartbeats 1000000 in
theorem sf_index (H : Sat G w l) (v : Value) (ps : List (Int × Int)) (hv : RPairs G.ro v ps) : Calls Try.prog 35 #[v, .func (.func 23) #[] #[]] w fun e w' => ∃ i : Int, e = .returned (.int .i64 i) ∧ decide (i ≥ 0) = ps.any wrongP ∧ Sat G w' l := by
  refine calls_any fun K hK => ?_
  obtain ⟨A, c, rfl, hm, hel⟩ := hv
  have HEL := Lib.hid hel
  clear hel
  go_enter Try.func35, Try.ntmps35
  go_wp2_with fail
  go_loopw [8] (fun i wr => ∃ k : Nat, k ≤ ps.length ∧ i = .int .i64 k ∧ (ps.take k).any wrongP = false ∧ Sat G wr l) (fun i _ => ps.length - (intOf i).toNat)
  case atStart => exact ⟨0, Nat.zero_le _, rfl, rfl, H⟩
  case round =>
    obtain ⟨k, hk, rfl, hno, S⟩ := hrel
    clear H
    by_cases hlt : k < ps.length
    · have hx := List.getElem?_eq_getElem hlt
      have htk := ptake hx
      obtain ⟨a, b, off, rfl, hab, e1, e2⟩ := HEL.out k _ hx
      have hsp : ps = ps.take (k + 1) ++ ps.drop (k + 1) := (List.take_append_drop _ _).symm
      generalize ps[k] = x at *
      obtain ⟨xa, xb⟩ := x
      have d0 := S.cellR e1
      have d1 := S.cellR e2
      have hw := sf_wrong S xa xb
      have hany : (ps.take (k + 1)).any wrongP = wrongP (xa, xb) := by rw [htk, List.any_append, hno]; simp
      have HA : Hid (wrongP (xa, xb) = true → ps.any wrongP = true) := Lib.hid fun h => by rw [hsp, List.any_append, hany, h]; rfl
      have HANY := Lib.hid hany
      clear e1 e2 hx htk hno hsp hany S
      go_wp2_with fail
      (with_reducible refine hw.mono ?_)
      clear hw d0 d1
      cases hwx : wrongP (xa, xb) with
      | true =>
        rintro e w1 ⟨rfl, S1⟩
        have hax := HA.out hwx
        have HS := Lib.hid S1
        clear S1 hwx
        go_wp2_with fail
        exact hK.out _ _ ⟨_, rfl, by rw [hax]; exact decide_eq_true (by omega), HS.out⟩
      | false =>
        rintro e w1 ⟨rfl, S1⟩
        have hax := HANY.out
        rw [hwx] at hax
        have HS := Lib.hid S1
        have HAX := Lib.hid hax
        clear S1 hwx hax
        go_wp2_with fail
        go_roundw
        case rel => exact ⟨k + 1, by omega, by go_num, HAX.out, HS.out⟩
        case measure => simp [intOf]; omega
    · have hkl : ps.take k = ps := List.take_of_length_le (by omega)
      rw [hkl] at hno
      have HS := Lib.hid S
      have HNO := Lib.hid hno
      clear S hno hkl
      go_wp2_with fail
      exact hK.out _ _ ⟨_, rfl, by rw [HNO.out]; rfl, HS.out⟩
theorem sf_contains (H : Sat G w l) (v : Value) (ps : List (Int × Int)) (hv : RPairs G.ro v ps) : Calls Try.prog 25 #[v, .func (.func 23) #[] #[]] w fun e w' => e = .returned (.bool (ps.any wrongP)) ∧ Sat G w' l := by
  refine calls_any fun K hK => ?_
  have hi := sf_index H v ps hv
  obtain ⟨A, c, rfl, -⟩ := id hv
  generalize ps.any wrongP = b at *
  clear H hv
  go_enter Try.func25, Try.ntmps25
  go_wp2_with fail
  (with_reducible refine hi.mono ?_)
  clear hi
  rintro e w1 ⟨i, rfl, hb, S1⟩
  have HS := Lib.hid S1
  clear S1
  cases b with
  | true =>
    have h0 : 0 ≤ i := of_decide_eq_true hb
    clear hb
    go_wp2_with fail
    exact hK.out _ _ ⟨rfl, HS.out⟩
  | false =>
    have h0 : ¬ (0 ≤ i) := of_decide_eq_false hb
    clear hb
    go_wp2_with fail
    exact hK.out _ _ ⟨by have e : decide (0 ≤ i) = false := decide_eq_false (by omega); simp [e], HS.out⟩
end
end Go.Proofs.Ytohknaoklcehaaa

/- The walk of the law WindowCan. -/
import Derived.Test.YtffdininmidkhaaLawB
set_option linter.unusedSimpArgs false
set_option linter.unusedVariables false
namespace Go.Proofs.Ytffdininmidkhaa
open Go.RowKit

theorem shift_cases (m x y : Int) : (∃ c : Int, c ≠ 0 ∧ winShift m x y = (m, c)) ∨ (winShift m x y = (m + y - x, 0) ∧ m + y - x ≤ 2147483647 ∧ -2147483648 ≤ m + y - x) := by
  unfold winShift winSet
  cases h : winRight x with
  | false => exact .inl ⟨11, by omega, by simp⟩
  | true =>
    cases h' : winRight y with
    | false => exact .inl ⟨11, by omega, by simp⟩
    | true =>
      by_cases h2 : 2147483647 < m + y - x
      · exact .inl ⟨103, by omega, by simp [h2]⟩
      · by_cases h3 : m + y - x < -2147483648
        · exact .inl ⟨11, by omega, by simp [h2, h3]⟩
        · exact .inr ⟨by simp [h2, h3], by omega, by omega⟩
set_option maxHeartbeats 1000000 in
set_option maxRecDepth 100000 in
theorem windowCan_walk (w : World) (v0 v1 v2 : Value) (h0 : ∃ d, ArgV w (.int .i64) v0 d) (h1 : ∃ d, ArgV w (.int .i64) v1 d) (h2 : ∃ d, ArgV w (.int .i64) v2 d) :
    Calls Try.prog 4 #[v0, v1, v2] w fun e w' => e = .returned (.bool true) ∧ Below w.heap.size w w' := by
  refine calls_any fun K hK => ?_
  obtain ⟨_, h0⟩ := h0
  obtain ⟨n, rfl, hn⟩ := arg_int h0
  obtain ⟨_, h1⟩ := h1
  obtain ⟨y, rfl, hy⟩ := arg_int h1
  obtain ⟨_, h2⟩ := h2
  obtain ⟨m, rfl, hm⟩ := arg_int h2
  clear h0 h1 h2 hn hy
  obtain ⟨m0, m1⟩ := bounds_i64 hm
  clear hm
  have hnew := win_new n w
  rcases new_cases n with ⟨x, hx, e1, _, _⟩ | ⟨e1, n0, n1⟩
  · rw [e1] at hnew
    clear e1
    have hxb : (x != 0) = true := by simpa using hx
    clear hx
    go_enter Try.func4, Try.ntmps4
    go_wp2_with fail
    (with_reducible refine hnew.mono ?_)
    rintro e w1 ⟨rfl, hb1⟩
    have HB := Lib.hid hb1
    clear hb1 hnew
    go_wp2_with ((go_at_call 8; (with_reducible refine (awake_true _).mono ?_); rintro e w9 ⟨rfl, hb9⟩))
    exact hK.out _ _ ⟨rfl, (HB.out.alloc HB.out.size _).trans (hb9.mono (by have := HB.out.size; simp; omega))⟩
  · rw [e1] at hnew
    clear e1
    go_enter Try.func4, Try.ntmps4
    go_wp2_with fail
    (with_reducible refine hnew.mono ?_)
    rintro e w1 ⟨rfl, hb1⟩
    have S1 := ((Sat.start w).below hb1).newBlk #[.int .i64 n] 25
    clear hb1 hnew
    go_wp2_with fail
    generalize w1.heap.size = b at *
    have hsh := shift_sat S1 y 0 (by omega) (by omega)
    rcases shift_cases n y 0 with ⟨x, hx, e1⟩ | ⟨e1, s0, s1⟩
    · rw [e1] at hsh
      have hxb : (x != 0) = true := by simpa using hx
      clear hx e1
      (with_reducible refine hsh.mono ?_)
      rintro e w2 ⟨rfl, S2⟩
      clear hsh S1
      go_wp2_with ((go_at_call 8; (with_reducible refine (awake_true _).mono ?_); rintro e w9 ⟨rfl, hb9⟩))
      exact hK.out _ _ ⟨rfl, (S2.below hb9).above Gnd.le.rfl'⟩
    · rw [e1] at hsh
      clear e1
      (with_reducible refine hsh.mono ?_)
      rintro e w2 ⟨rfl, S2⟩
      clear hsh S1
      generalize n + 0 - y = q at *
      have hc2 := S2.cell 0
      have hcan := win_can q m w2
      go_wp2_with fail
      (with_reducible refine hcan.mono ?_)
      clear hcan
      rintro e w3 ⟨rfl, hb3⟩
      have S3 := S2.below hb3
      clear S2 hb3 hc2
      have hc3 := S3.cell 0
      go_wp2_with fail
      (with_reducible refine (win_size _ _).mono ?_)
      rintro e w4 ⟨rfl, hb4⟩
      have S4 := S3.below hb4
      clear S3 hb4 hc3
      go_wp2_with fail
      have hsp := spend_sat S4 m (by omega) (by omega)
      rcases spend_cases q m (by omega) (by omega) with ⟨z, hz, e1⟩ | ⟨e1, y0, y1, y2⟩
      · rw [e1] at hsp
        have hzb : (z == 0) = false := by simpa using hz
        have hznb : (z != 0) = true := by simpa using hz
        by_cases hbig : 2147483647 < m
        · have hz11 : z = 11 := by
            have : winSpend q m = (q, 11) := by
              unfold winSpend
              rw [if_neg (by simp [winRight]; omega)]
            rw [this] at e1; injection e1 with _ e1; exact e1.symm
          subst hz11
          have hcf : ∀ b, winCan q m = b → b = false := by
            rintro b rfl; simp [winCan]; omega
          cases hcc : winCan q m with
          | true => exact absurd (hcf _ hcc) (by simp)
          | false =>
            clear hcf hz hzb hznb e1
            (with_reducible refine hsp.mono ?_)
            rintro e w5 ⟨rfl, S5⟩
            clear hsp S4
            go_wp2_with ((go_at_call 8; (with_reducible refine (awake_true _).mono ?_); rintro e w9 ⟨rfl, hb9⟩))
            exact hK.out _ _ ⟨rfl, (S5.below hb9).above Gnd.le.rfl'⟩
        · have hcf : winCan q m = false := by
            cases hcc : winCan q m with
            | false => rfl
            | true =>
              exfalso
              have : winSpend q m = (q - m, 0) := by
                have hcc' := hcc
                simp [winCan] at hcc'
                unfold winSpend winSet
                rw [if_pos (by simp [winRight]; omega), if_pos hcc, if_neg (by omega), if_neg (by omega)]
              rw [this] at e1; injection e1 with _ e1; exact hz e1.symm
          simp only [hcf]
          clear hz e1 hcf
          (with_reducible refine hsp.mono ?_)
          rintro e w5 ⟨rfl, S5⟩
          clear hsp S4
          have hc5 := S5.cell 0
          go_wp2_with fail
          (with_reducible refine (win_size _ _).mono ?_)
          rintro e w6 ⟨rfl, hb6⟩
          have S6 := S5.below hb6
          clear S5 hb6 hc5
          go_wp2_with ((go_at_call 8; (with_reducible refine (awake_true _).mono ?_); rintro e w9 ⟨rfl, hb9⟩))
          exact hK.out _ _ ⟨rfl, (S6.below hb9).above Gnd.le.rfl'⟩
      · rw [e1] at hsp
        have hct : winCan q m = true := by simp [winCan]; omega
        simp only [hct]
        clear e1 hct
        (with_reducible refine hsp.mono ?_)
        rintro e w5 ⟨rfl, S5⟩
        clear hsp S4
        have hc5 := S5.cell 0
        go_wp2_with fail
        (with_reducible refine (win_size _ _).mono ?_)
        rintro e w6 ⟨rfl, hb6⟩
        have S6 := S5.below hb6
        clear S5 hb6 hc5
        go_wp2_with ((go_at_call 8; (with_reducible refine (awake_true _).mono ?_); rintro e w9 ⟨rfl, hb9⟩))
        exact hK.out _ _ ⟨rfl, (S6.below hb9).above Gnd.le.rfl'⟩
end Go.Proofs.Ytffdininmidkhaa

/- The walk of the law WindowPlays. -/
import Derived.Test.YtffdininmidkhaaCan
set_option linter.unusedSimpArgs false
set_option linter.unusedVariables false
namespace Go.Proofs.Ytffdininmidkhaa
open Go.RowKit

/-- The reference's step is the window's. -/
theorem step_grow (m x y : Int) (h0 : -2147483648 ≤ m) (h1 : m ≤ 2147483647) : refStep m 1 x y = winGrow m x := by
  unfold refStep winGrow winSet winRight
  by_cases a1 : x < 0
  · simp [a1]; omega
  · by_cases a2 : 2147483647 < x
    · simp [a2]; omega
    · have : (decide (0 ≤ x) && decide (x ≤ 2147483647)) = true := by simp; omega
      rw [if_neg (by omega), if_neg (by omega), if_pos rfl, if_pos this]
      by_cases a3 : x = 0
      · simp [a3]
      · rw [if_neg a3, if_neg a3]
        by_cases a4 : 2147483647 < m + x
        · simp [a4]
        · rw [if_neg a4, if_neg a4, if_neg (by omega)]
theorem step_spend (m x y : Int) (h0 : -2147483648 ≤ m) (h1 : m ≤ 2147483647) : refStep m 2 x y = winSpend m x := by
  unfold refStep winSpend winSet winRight winCan
  by_cases a1 : x < 0
  · simp [a1]; omega
  · by_cases a2 : 2147483647 < x
    · simp [a2]; omega
    · have : (decide (0 ≤ x) && decide (x ≤ 2147483647)) = true := by simp; omega
      rw [if_neg (by omega), if_neg (by omega), if_neg (by omega), if_pos this]
      by_cases a3 : 0 < x ∧ m < x
      · rw [if_pos a3, if_neg (by simp; omega)]
      · rw [if_neg a3, if_pos (by simp; omega), if_neg (by omega), if_neg (by omega)]
theorem step_shift (m x y : Int) : refStep m 3 x y = winShift m x y := by
  unfold refStep winShift winSet winRight
  rw [if_pos rfl]
  by_cases a1 : 0 ≤ x ∧ x ≤ 2147483647
  · have e1 : (decide (0 ≤ x) && decide (x ≤ 2147483647)) = true := by simp; omega
    rw [if_pos e1]
    by_cases a2 : 0 ≤ y ∧ y ≤ 2147483647
    · have e2 : (decide (0 ≤ y) && decide (y ≤ 2147483647)) = true := by simp; omega
      rw [if_pos e2, if_neg (by omega)]
    · have e2 : ¬ (decide (0 ≤ y) && decide (y ≤ 2147483647)) = true := by simp; omega
      rw [if_neg e2, if_pos (by omega)]
  · have e1 : ¬ (decide (0 ≤ x) && decide (x ≤ 2147483647)) = true := by simp; omega
    rw [if_neg e1, if_pos (by omega)]
theorem step_range (m k x y : Int) (hk : k = 1 ∨ k = 2 ∨ k = 3) (h0 : -2147483648 ≤ m) (h1 : m ≤ 2147483647) : -2147483648 ≤ (refStep m k x y).1 ∧ (refStep m k x y).1 ≤ 2147483647 := by
  rcases hk with rfl | rfl | rfl
  · rw [step_grow m x y h0 h1]; rcases grow_cases m x with ⟨_, _, e⟩ | ⟨e, _, _, _, _⟩ <;> rw [e] <;> simp <;> omega
  · rw [step_spend m x y h0 h1]; rcases spend_cases m x h0 h1 with ⟨_, _, e⟩ | ⟨e, _, _, _⟩ <;> rw [e] <;> simp <;> omega
  · rw [step_shift m x y]; rcases shift_cases m x y with ⟨_, _, e⟩ | ⟨e, _, _⟩ <;> rw [e] <;> simp <;> omega
set_option maxHeartbeats 2000000 in
set_option maxRecDepth 100000 in
theorem windowPlays_walk (w : World) (v0 v1 : Value) (h0 : ∃ d, ArgV w (.int .i64) v0 d) (h1 : ∃ d, ArgV w (.sl 24 (.agg [.int .i64, .int .i64, .int .i64])) v1 d) :
    Calls Try.prog 3 #[v0, v1] w fun e w' => e = .returned (.bool true) ∧ Below w.heap.size w w' := by
  refine calls_any fun K hK => ?_
  obtain ⟨_, h0⟩ := h0
  obtain ⟨n, rfl, hn⟩ := arg_int h0
  obtain ⟨_, h1⟩ := h1
  obtain ⟨l, h1⟩ := arg_sl h1
  obtain ⟨A, c, rfl, hlc, hc, hl, _, hel⟩ := h1.form
  have HEL := Lib.hid hel
  clear hel h1 h0 hn
  by_cases hlen : 200 < (l.length : Int)
  · go_enter Try.func3, Try.ntmps3
    go_wp2_with ((go_at_call 8; (with_reducible refine (awake_true _).mono ?_); rintro e w9 ⟨rfl, hb9⟩))
    exact hK.out _ _ ⟨rfl, hb9⟩
  have hnew := win_new n w
  rcases new_cases n with ⟨x, hx, e1, rfl, hor⟩ | ⟨e1, n0, n1⟩
  · rw [e1] at hnew
    clear e1 hx
    by_cases hneg : n < 0
    · clear hor
      go_enter Try.func3, Try.ntmps3
      go_wp2_with fail
      (with_reducible refine hnew.mono ?_)
      rintro e w1 ⟨rfl, hb1⟩
      have S1 := ((Sat.start w).below hb1).alloc (.cells #[.int .i64 0] 25)
      clear hb1 hnew
      go_wp2_with fail
      (with_reducible refine (win_size _ _).mono ?_)
      rintro e w4 ⟨rfl, hb4⟩
      have S4 := S1.below hb4
      clear S1 hb4
      go_wp2_with ((go_at_call 8; (with_reducible refine (awake_true _).mono ?_); rintro e w9 ⟨rfl, hb9⟩))
      exact hK.out _ _ ⟨rfl, (S4.below hb9).above Gnd.le.rfl'⟩
    · have hbig : 2147483647 < n := by omega
      clear hor
      go_enter Try.func3, Try.ntmps3
      go_wp2_with fail
      (with_reducible refine hnew.mono ?_)
      rintro e w1 ⟨rfl, hb1⟩
      have S1 := ((Sat.start w).below hb1).alloc (.cells #[.int .i64 0] 25)
      clear hb1 hnew
      go_wp2_with fail
      (with_reducible refine (win_size _ _).mono ?_)
      rintro e w4 ⟨rfl, hb4⟩
      have S4 := S1.below hb4
      clear S1 hb4
      go_wp2_with ((go_at_call 8; (with_reducible refine (awake_true _).mono ?_); rintro e w9 ⟨rfl, hb9⟩))
      exact hK.out _ _ ⟨rfl, (S4.below hb9).above Gnd.le.rfl'⟩
  · rw [e1] at hnew
    clear e1
    go_enter Try.func3, Try.ntmps3
    go_wp2_with fail
    (with_reducible refine hnew.mono ?_)
    rintro e w1 ⟨rfl, hb1⟩
    have S1 := ((Sat.start w).below hb1).newBlk #[.int .i64 n] 25
    clear hb1 hnew
    go_wp2_with fail
    (with_reducible refine (win_size _ _).mono ?_)
    rintro e w4 ⟨rfl, hb4⟩
    have S4 := S1.below hb4
    clear S1 hb4
    generalize w1.heap.size = b at *
    go_wp2_with fail
    clear n0 n1
    go_loopw [0, 46] (fun g i wr => ∃ (k : Nat) (m : Int), k ≤ l.length ∧ g = .int .i64 m ∧ i = .int .i64 k ∧ (-2147483648 ≤ m ∧ m ≤ 2147483647) ∧ Sat (Gnd.of w) wr [blk b #[.int .i64 m] 25]) (fun _ i _ => l.length - (intOf i).toNat)
    case atStart => exact ⟨0, n, Nat.zero_le _, rfl, rfl, ⟨by omega, by omega⟩, S4⟩
    case round =>
      obtain ⟨k, m, hk, rfl, rfl, ⟨m0, m1⟩, hsat⟩ := hrel
      clear S4
      by_cases hlt : k < l.length
      · obtain ⟨a, rfl, es, hes, hcell, hrd⟩ := HEL.out k (l[k]) (List.getElem?_eq_getElem hlt)
        obtain ⟨o, x, y, rfl, ⟨x0, x1⟩, ⟨y0, y1⟩⟩ := op3_cells hrd
        obtain ⟨bo, off, ha, c0, c1, c2⟩ := three_cells hsat hcell
        clear hes hcell hrd
        have HS := (hsat.newBlk #[.int .i64 o, .int .i64 x, .int .i64 y] 31).swap
        by_cases o1 : o = 1
        · subst o1
          have hgr := grow_sat HS x (by omega) (by omega)
          have hst := fun W => ref_step m 1 x y W m0 m1
          have hrg := step_range m 1 x y (.inl rfl) m0 m1
          rw [step_grow m x y m0 m1] at hst hrg
          obtain ⟨r0, r1⟩ := hrg
          generalize winGrow m x = r at *
          obtain ⟨m', z⟩ := r
          simp only at r0 r1
          go_wp2_with fail
          (with_reducible refine hgr.mono ?_); clear hgr hsat HS; rintro e w2 ⟨rfl, S2⟩; have hd0 := S2.swap.cell 0; have hd1 := S2.swap.cell 1; have hd2 := S2.swap.cell 2
          go_wp2_with fail
          (with_reducible refine (hst _).mono ?_)
          clear hst
          rintro e w3 ⟨rfl, rfl⟩
          have hc3 := S2.cell 0
          go_wp2_with fail
          (with_reducible refine (win_size _ _).mono ?_)
          rintro e w5 ⟨rfl, hb5⟩
          have S5 := S2.drop2.below hb5
          clear S2 hb5 hc3 hd0 hd1 hd2
          go_wp2_with fail
          go_roundw
          case rel => exact ⟨k + 1, m', by omega, rfl, by go_num, ⟨by omega, by omega⟩, S5⟩
          case measure => simp [intOf]; omega
        by_cases o2 : o = 2
        · subst o2
          have hgr := spend_sat HS x (by omega) (by omega)
          have hst := fun W => ref_step m 2 x y W m0 m1
          have hrg := step_range m 2 x y (.inr (.inl rfl)) m0 m1
          rw [step_spend m x y m0 m1] at hst hrg
          obtain ⟨r0, r1⟩ := hrg
          generalize winSpend m x = r at *
          obtain ⟨m', z⟩ := r
          simp only at r0 r1
          go_wp2_with fail
          (with_reducible refine hgr.mono ?_); clear hgr hsat HS; rintro e w2 ⟨rfl, S2⟩; have hd0 := S2.swap.cell 0; have hd1 := S2.swap.cell 1; have hd2 := S2.swap.cell 2
          go_wp2_with fail
          (with_reducible refine (hst _).mono ?_)
          clear hst
          rintro e w3 ⟨rfl, rfl⟩
          have hc3 := S2.cell 0
          go_wp2_with fail
          (with_reducible refine (win_size _ _).mono ?_)
          rintro e w5 ⟨rfl, hb5⟩
          have S5 := S2.drop2.below hb5
          clear S2 hb5 hc3 hd0 hd1 hd2
          go_wp2_with fail
          go_roundw
          case rel => exact ⟨k + 1, m', by omega, rfl, by go_num, ⟨by omega, by omega⟩, S5⟩
          case measure => simp [intOf]; omega
        by_cases o3 : o = 3
        · subst o3
          have hgr := shift_sat HS x y (by omega) (by omega)
          have hst := fun W => ref_step m 3 x y W m0 m1
          have hrg := step_range m 3 x y (.inr (.inr rfl)) m0 m1
          rw [step_shift m x y] at hst hrg
          obtain ⟨r0, r1⟩ := hrg
          generalize winShift m x y = r at *
          obtain ⟨m', z⟩ := r
          simp only at r0 r1
          go_wp2_with fail
          (with_reducible refine hgr.mono ?_); clear hgr hsat HS; rintro e w2 ⟨rfl, S2⟩; have hd0 := S2.swap.cell 0; have hd1 := S2.swap.cell 1; have hd2 := S2.swap.cell 2
          go_wp2_with fail
          (with_reducible refine (hst _).mono ?_)
          clear hst
          rintro e w3 ⟨rfl, rfl⟩
          have hc3 := S2.cell 0
          go_wp2_with fail
          (with_reducible refine (win_size _ _).mono ?_)
          rintro e w5 ⟨rfl, hb5⟩
          have S5 := S2.drop2.below hb5
          clear S2 hb5 hc3 hd0 hd1 hd2
          go_wp2_with fail
          go_roundw
          case rel => exact ⟨k + 1, m', by omega, rfl, by go_num, ⟨by omega, by omega⟩, S5⟩
          case measure => simp [intOf]; omega
        · have b1 : (o == 1) = false := by simpa using o1
          have b2 : (o == 2) = false := by simpa using o2
          have b3 : (o == 3) = false := by simpa using o3
          have S5 := HS.drop2
          clear o1 o2 o3
          go_wp2_with fail
          go_roundw
          case rel => exact ⟨k + 1, m, by omega, rfl, by go_num, ⟨by omega, by omega⟩, S5⟩
          case measure => simp [intOf]; omega
      · go_wp2_with ((go_at_call 8; (with_reducible refine (awake_true _).mono ?_); rintro e w9 ⟨rfl, hb9⟩))
        exact hK.out _ _ ⟨rfl, (hsat.below hb9).above Gnd.le.rfl'⟩
end Go.Proofs.Ytffdininmidkhaa

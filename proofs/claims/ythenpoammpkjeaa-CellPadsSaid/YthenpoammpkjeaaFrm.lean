/- The walks over frames: Right, Len, Equal, number. -/
import Derived.Test.YthenpoammpkjeaaCat
import Derived.Test.YthenpoammpkjeaaRdrL
set_option linter.unusedSimpArgs false
set_option linter.unusedVariables false
namespace Go.Proofs.Ythenpoammpkjeaa
open Go.RowKit

/-- May a frame be? -/
def frRight (t f s n : Int) : Bool := decide (0 ≤ t ∧ t ≤ 255 ∧ 0 ≤ f ∧ f ≤ 255 ∧ 0 ≤ s ∧ s ≤ 2147483647 ∧ n ≤ 16777215)
theorem frame_right {G : Gnd} {w : World} {l : List Asrt} (H : Sat G w l) (t f s : Int) (A : Option Addr) (n c : Nat) :
    Calls Try.prog 19 #[.agg #[.int .i64 t, .int .i64 f, .int .i64 s, .slice A n c]] w fun e w' => e = .returned (.bool (frRight t f s n)) ∧ Sat G w' l := by
  refine calls_any fun K hK => ?_
  have S := H.alloc (.cells #[.int .i64 t, .int .i64 f, .int .i64 s, .slice A n c] 40)
  by_cases a1 : t ≥ 0
  · by_cases a2 : t ≤ 255
    · by_cases a3 : f ≥ 0
      · by_cases a4 : f ≤ 255
        · by_cases a5 : s ≥ 0
          · by_cases a6 : s ≤ 2147483647
            · have er : frRight t f s n = decide ((n : Int) ≤ 16777215) := by unfold frRight; congr 1; exact propext ⟨fun h => h.2.2.2.2.2.2, fun h => ⟨a1, a2, a3, a4, a5, a6, h⟩⟩
              rw [er] at hK
              replace a1 := decide_eq_true a1
              replace a2 := decide_eq_true a2
              replace a3 := decide_eq_true a3
              replace a4 := decide_eq_true a4
              replace a5 := decide_eq_true a5
              replace a6 := decide_eq_true a6
              go_enter Try.func19, Try.ntmps19
              go_wp2_with fail
              exact hK.out _ _ ⟨rfl, S⟩
            · have er : frRight t f s n = false := decide_eq_false (by omega)
              rw [er] at hK
              replace a1 := decide_eq_true a1
              replace a2 := decide_eq_true a2
              replace a3 := decide_eq_true a3
              replace a4 := decide_eq_true a4
              replace a5 := decide_eq_true a5
              replace a6 := decide_eq_false a6
              go_enter Try.func19, Try.ntmps19
              go_wp2_with fail
              exact hK.out _ _ ⟨rfl, S⟩
          · have er : frRight t f s n = false := decide_eq_false (by omega)
            rw [er] at hK
            replace a1 := decide_eq_true a1
            replace a2 := decide_eq_true a2
            replace a3 := decide_eq_true a3
            replace a4 := decide_eq_true a4
            replace a5 := decide_eq_false a5
            go_enter Try.func19, Try.ntmps19
            go_wp2_with fail
            exact hK.out _ _ ⟨rfl, S⟩
        · have er : frRight t f s n = false := decide_eq_false (by omega)
          rw [er] at hK
          replace a1 := decide_eq_true a1
          replace a2 := decide_eq_true a2
          replace a3 := decide_eq_true a3
          replace a4 := decide_eq_false a4
          go_enter Try.func19, Try.ntmps19
          go_wp2_with fail
          exact hK.out _ _ ⟨rfl, S⟩
      · have er : frRight t f s n = false := decide_eq_false (by omega)
        rw [er] at hK
        replace a1 := decide_eq_true a1
        replace a2 := decide_eq_true a2
        replace a3 := decide_eq_false a3
        go_enter Try.func19, Try.ntmps19
        go_wp2_with fail
        exact hK.out _ _ ⟨rfl, S⟩
    · have er : frRight t f s n = false := decide_eq_false (by omega)
      rw [er] at hK
      replace a1 := decide_eq_true a1
      replace a2 := decide_eq_false a2
      go_enter Try.func19, Try.ntmps19
      go_wp2_with fail
      exact hK.out _ _ ⟨rfl, S⟩
  · have er : frRight t f s n = false := decide_eq_false (by omega)
    rw [er] at hK
    replace a1 := decide_eq_false a1
    go_enter Try.func19, Try.ntmps19
    go_wp2_with fail
    exact hK.out _ _ ⟨rfl, S⟩
set_option maxHeartbeats 1000000 in
theorem eq_arr3 (t f s t' f' s' : Int) (w : World) : (Op.equalIn 10000 65 (.agg #[.int .i64 t, .int .i64 f, .int .i64 s]) (.agg #[.int .i64 t', .int .i64 f', .int .i64 s'])).run Try.prog w = .ok (decide (t = t' ∧ f = f' ∧ s = s')) w := by
  have u3 := Try.underlying3
  have a3 := Try.isAgg3
  have z3 := Try.sizeOf3
  rw [show (10000 : Nat) = 9999 + 1 from rfl, Op.equalIn]
  simp only [Sem.run_bind, run_underlying Try.underlying65, Result.andThen_ok]
  simp only [Std.Legacy.Range.forIn_eq_forIn_range', Std.Legacy.Range.size, Nat.sub_zero, Nat.add_sub_cancel, Nat.div_one, List.range'_succ, List.range'_zero, List.forIn_cons, List.forIn_nil]
  by_cases e1 : t = t'
  · by_cases e2 : f = f'
    · by_cases e3 : s = s'
      · subst e1; subst e2; subst e3
        rw [decide_eq_true ⟨rfl, rfl, rfl⟩]
        go_simp
      · subst e1; subst e2
        have b3 : (s == s') = false := by simpa using e3
        rw [decide_eq_false (fun h => e3 h.2.2)]
        go_simp
    · subst e1
      have b3 : (f == f') = false := by simpa using e2
      rw [decide_eq_false (fun h => e2 h.2.1)]
      go_simp
  · have b3 : (t == t') = false := by simpa using e1
    rw [decide_eq_false (fun h => e1 h.1)]
    go_simp
theorem frame_equal {G : Gnd} {w : World} {l : List Asrt} (H : Sat G w l) (t f s t' f' s' : Int) (v v' : Value) (bs bs' : List UInt8) (hb : ∀ W, Sat G W l → SlV W.cell? v bs.length (bs.map byteV)) (hb' : ∀ W, Sat G W l → SlV W.cell? v' bs'.length (bs'.map byteV)) :
    Calls Try.prog 21 #[.agg #[.int .i64 t, .int .i64 f, .int .i64 s, v], .agg #[.int .i64 t', .int .i64 f', .int .i64 s', v']] w fun e w' => e = .returned (.bool (decide (t = t' ∧ f = f' ∧ s = s' ∧ bs = bs'))) ∧ Sat G w' l := by
  refine calls_any fun K hK => ?_
  have S := (H.alloc (.cells #[.int .i64 t, .int .i64 f, .int .i64 s, v] 40)).alloc (.cells #[.int .i64 t', .int .i64 f', .int .i64 s', v'] 40)
  have hq := bytes_equal v v' bs bs' (hb _ S) (hb' _ S)
  clear H
  by_cases e1 : t = t' ∧ f = f' ∧ s = s'
  · obtain ⟨rfl, rfl, rfl⟩ := e1
    have er : decide (t = t ∧ f = f ∧ s = s ∧ bs = bs') = (bs == bs') := by by_cases h : bs = bs' <;> simp [h]
    rw [er] at hK
    have ea := fun w => eq_arr3 t f s t f s w
    rw [decide_eq_true ⟨rfl, rfl, rfl⟩] at ea
    clear hb hb'
    go_enter Try.func21, Try.ntmps21
    go_wp2_with fail
    (with_reducible refine hq.mono ?_)
    rintro e w1 ⟨rfl, rfl⟩
    go_wp2_with fail
    exact hK.out _ _ ⟨rfl, S⟩
  · have er : decide (t = t' ∧ f = f' ∧ s = s' ∧ bs = bs') = false := decide_eq_false (fun h => e1 ⟨h.1, h.2.1, h.2.2.1⟩)
    rw [er] at hK
    have ea := fun w => eq_arr3 t f s t' f' s' w
    rw [decide_eq_false e1] at ea
    clear hb hb' hq
    go_enter Try.func21, Try.ntmps21
    go_wp2_with fail
    exact hK.out _ _ ⟨rfl, S⟩
theorem frame_number {G : Gnd} {w : World} {l : List Asrt} {r : Nat} {bs : List UInt8} (H : RdrS G w r bs l) (k : Nat) (hk : k ≤ bs.length) (h8 : k ≤ 7) :
    Calls Try.prog 55 #[.pointer (some ⟨r, 0, none⟩), .int .i64 k] w fun e w' => e = .returned (.int .i64 (numOf (bs.take k))) ∧ RdrS G w' r (bs.drop k) l := by
  refine calls_any fun K hK => ?_
  have hn := rd_num H k hk (by omega)
  have hlt : numOf (bs.take k) < 72057594037927936 := Nat.lt_of_lt_of_le (numOf_lt _) (Nat.le_trans (Nat.pow_le_pow_right (by omega) (show (bs.take k).length ≤ 7 by rw [List.length_take]; omega)) (by decide))
  clear H
  generalize numOf (bs.take k) = x at *
  go_enter Try.func55, Try.ntmps55
  go_wp2_with fail
  (with_reducible refine hn.mono ?_)
  clear hn
  rintro e w1 ⟨rfl, S1⟩
  go_wp2_with fail
  exact hK.out _ _ ⟨rfl, S1⟩
end Go.Proofs.Ythenpoammpkjeaa

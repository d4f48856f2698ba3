/- The walks over frames: Right, Len, Equal, number. -/
import Derived.Test.YtohknaoklcehaaaCat
import Derived.Test.YtohknaoklcehaaaRdrL
set_option linter.unusedSimpArgs false
set_option linter.unusedVariables false
namespace Go.Proofs.Ytohknaoklcehaaa
open Go.RowKit

/-- May a frame be? -/
def frRight (t f s n : Int) : Bool := decide (0 ≤ t ∧ t ≤ 255 ∧ 0 ≤ f ∧ f ≤ 255 ∧ 0 ≤ s ∧ s ≤ 2147483647 ∧ n ≤ 16777215)
set_option maxHeartbeats 1000000 in
theorem eq_arr3 (t f s t' f' s' : Int) (w : World) : (Op.equalIn 10000 71 (.agg #[.int .i64 t, .int .i64 f, .int .i64 s]) (.agg #[.int .i64 t', .int .i64 f', .int .i64 s'])).run Try.prog w = .ok (decide (t = t' ∧ f = f' ∧ s = s')) w := by
  have u3 := Try.underlying3
  have a3 := Try.isAgg3
  have z3 := Try.sizeOf3
  rw [show (10000 : Nat) = 9999 + 1 from rfl, Op.equalIn]
  simp only [Sem.run_bind, run_underlying Try.underlying71, Result.andThen_ok]
  simp only [Std.Legacy.Range.forIn_eq_forIn_range', Std.Legacy.Range.size, Nat.sub_zero, Nat.add_sub_cancel, Nat.div_one, List.range'_succ, List.range'_zero, List.forIn_cons, List.forIn_nil]
  by_cases e1 : t = t'
  · by_cases e2 : f = f'
    · by_cases e3 : s = s'
      · subst e1; subst e2; subst e3
        rw [decide_eq_true ⟨rfl, rfl, rfl⟩]
        go_simp
      · subst e1; subst e2
        have b3 : (s == s') = false := by simpa using e3
        rw [decide_eq_false (fun h => e3 h.2.2)]
        go_simp
    · subst e1
      have b3 : (f == f') = false := by simpa using e2
      rw [decide_eq_false (fun h => e2 h.2.1)]
      go_simp
  · have b3 : (t == t') = false := by simpa using e1
    rw [decide_eq_false (fun h => e1 h.1)]
    go_simp
theorem frame_equal {G : Gnd} {w : World} {l : List Asrt} (H : Sat G w l) (t f s t' f' s' : Int) (v v' : Value) (bs bs' : List UInt8) (hb : ∀ W, Sat G W l → SlV W.cell? v bs.length (bs.map byteV)) (hb' : ∀ W, Sat G W l → SlV W.cell? v' bs'.length (bs'.map byteV)) :
    Calls Try.prog 18 #[.agg #[.int .i64 t, .int .i64 f, .int .i64 s, v], .agg #[.int .i64 t', .int .i64 f', .int .i64 s', v']] w fun e w' => e = .returned (.bool (decide (t = t' ∧ f = f' ∧ s = s' ∧ bs = bs'))) ∧ Sat G w' l := by
  refine calls_any fun K hK => ?_
  have S := (H.alloc (.cells #[.int .i64 t, .int .i64 f, .int .i64 s, v] 49)).alloc (.cells #[.int .i64 t', .int .i64 f', .int .i64 s', v'] 49)
  have hq := bytes_equal v v' bs bs' (hb _ S) (hb' _ S)
  clear H
  by_cases e1 : t = t' ∧ f = f' ∧ s = s'
  · obtain ⟨rfl, rfl, rfl⟩ := e1
    have er : decide (t = t ∧ f = f ∧ s = s ∧ bs = bs') = (bs == bs') := by by_cases h : bs = bs' <;> simp [h]
    rw [er] at hK
    have ea := fun w => eq_arr3 t f s t f s w
    rw [decide_eq_true ⟨rfl, rfl, rfl⟩] at ea
    clear hb hb'
    go_enter Try.func18, Try.ntmps18
    go_wp2_with fail
    (with_reducible refine hq.mono ?_)
    rintro e w1 ⟨rfl, rfl⟩
    go_wp2_with fail
    exact hK.out _ _ ⟨rfl, S⟩
  · have er : decide (t = t' ∧ f = f' ∧ s = s' ∧ bs = bs') = false := decide_eq_false (fun h => e1 ⟨h.1, h.2.1, h.2.2.1⟩)
    rw [er] at hK
    have ea := fun w => eq_arr3 t f s t' f' s' w
    rw [decide_eq_false e1] at ea
    clear hb hb' hq
    go_enter Try.func18, Try.ntmps18
    go_wp2_with fail
    exact hK.out _ _ ⟨rfl, S⟩
end Go.Proofs.Ytohknaoklcehaaa

/- The walk of the law QueueNew. -/
import Derived.Test.YtidaafpfkbfiaaaOps
set_option linter.unusedSimpArgs false
set_option linter.unusedVariables false
namespace Go.Proofs.Ytidaafpfkbfiaaa
open Go.RowKit

set_option maxHeartbeats 1000000 in
theorem queueNew_walk (w : World) (v0 v1 v2 : Value) (h0 : ∃ d, ArgV w (.int .i64) v0 d) (h1 : ∃ d, ArgV w (.int .i64) v1 d) (h2 : ∃ d, ArgV w (.int .i64) v2 d) :
    Calls Try.prog 4 #[v0, v1, v2] w fun e w' => e = .returned (.bool true) ∧ Below w.heap.size w w' := by
  refine calls_any fun K hK => ?_
  obtain ⟨_, h0⟩ := h0
  obtain ⟨t, rfl, -⟩ := arg_int h0
  obtain ⟨_, h1⟩ := h1
  obtain ⟨b, rfl, -⟩ := arg_int h1
  obtain ⟨_, h2⟩ := h2
  obtain ⟨i, rfl, -⟩ := arg_int h2
  clear h0 h1 h2
  have S0 := Sat.start w
  have hG := Gnd.le.rfl' (G := Gnd.of w)
  cases hq : qRight t b i with
  | false =>
    have hn := qu_new_not t b i hq w
    have hr := law_right S0 t b i (.slice none 0 0) [] (ROps.nil _)
    rw [hq, Bool.and_false] at hr
    go_enter Try.func4, Try.ntmps4
    go_wp2_with fail
    (with_reducible refine hn.mono ?_)
    clear hn
    rintro e w1 ⟨rfl, rfl⟩
    go_wp2_with fail
    (with_reducible refine hr.mono ?_)
    clear hr
    rintro e w2 ⟨rfl, S2⟩
    go_wp2_with fail
    (with_reducible refine (law_awake (S2)).mono ?_); rintro e w9 ⟨rfl, G9, hG9, S9⟩; go_wp2_with fail; exact hK.out _ _ ⟨rfl, S9.above (Gnd.le.trans (hG) hG9)⟩
  | true =>
    obtain ⟨a1, a2, a3, a4, a5, a6⟩ := of_decide_eq_true hq
    obtain ⟨t, rfl⟩ : ∃ j : Nat, t = j := ⟨t.toNat, by omega⟩
    have hn := qu_new S0 t b i hq
    have hr := fun {W : World} {l : List Asrt} (S : Sat (Gnd.of w) W l) => law_right S t b i (.slice none 0 0) [] (ROps.nil _)
    rw [hq, show decide (osum [] ≤ 200) = true from rfl, Bool.true_and] at hr
    have hw0 : QWf (List.replicate t []) b i := ⟨by simp; omega, by simp; omega, a3, a4, a5, a6, fun L hL => by
      obtain ⟨-, rfl⟩ := List.mem_replicate.1 hL
      simp [qsz]; omega⟩
    go_enter Try.func4, Try.ntmps4
    go_wp2_with fail
    (with_reducible refine hn.mono ?_)
    clear hn
    rintro e w1 ⟨q, rfl, S1⟩
    have hr1 := hr S1
    clear hr S1
    go_wp2_with fail
    (with_reducible refine hr1.mono ?_)
    clear hr1
    rintro e w2 ⟨rfl, S2⟩
    have hl := qu_len S2 hw0 0
    have hz : qAt (List.replicate t []) 0 = [] := by
      rw [show (0 : Int) = ((0 : Nat) : Int) from rfl, qAt_nat, List.getD_eq_getElem?_getD, List.getElem?_replicate, if_pos (by omega)]; rfl
    rw [hz] at hl
    have hc := qu_clear S2 hw0
    have ht0 : tot (List.replicate t []) = 0 := by unfold tot; simp
    rw [ht0] at hc
    clear S2 hz
    go_wp2_with fail
    (with_reducible refine hl.mono ?_)
    clear hl
    rintro e w3 ⟨rfl, rfl⟩
    go_wp2_with fail
    (with_reducible refine hc.mono ?_)
    clear hc
    rintro e w3 ⟨rfl, S3⟩
    go_wp2_with fail
    (with_reducible refine (law_awake (S3.drop)).mono ?_); rintro e w9 ⟨rfl, G9, hG9, S9⟩; go_wp2_with fail; exact hK.out _ _ ⟨rfl, S9.above (Gnd.le.trans (hG) hG9)⟩
end Go.Proofs.Ytidaafpfkbfiaaa

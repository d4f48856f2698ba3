/- The walk over New; a slice's empty elements. -/
import Derived.Test.YtidaafpfkbfiaaaQu
import Derived.Test.YtidaafpfkbfiaaaMk
set_option linter.unusedSimpArgs false
set_option linter.unusedVariables false
namespace Go.Proofs.Ytidaafpfkbfiaaa
open Go.RowKit

def qRight (t b i : Int) : Bool := decide (1 ≤ t ∧ t ≤ 64 ∧ 0 ≤ b ∧ b ≤ 1048576 ∧ 1 ≤ i ∧ i ≤ 4096)
section
variable {G : Gnd} {w w' : World} {l : List Asrt}
theorem qu_new_not (t b i : Int) (h : qRight t b i = false) (w : World) : Calls Try.prog 8 #[.int .i64 t, .int .i64 b, .int .i64 i] w fun e w' => e = .returned (.tuple #[.pointer none, .int .i64 11]) ∧ w = w' := by
  refine calls_any fun K hK => ?_
  have h := of_decide_eq_false h
  by_cases a1 : t < 1
  · go_enter Try.func8, Try.ntmps8
    go_wp2_with fail
    exact hK.out _ _ ⟨rfl, rfl⟩
  by_cases a2 : 64 < t
  · go_enter Try.func8, Try.ntmps8
    go_wp2_with fail
    exact hK.out _ _ ⟨rfl, rfl⟩
  by_cases a3 : b < 0
  · go_enter Try.func8, Try.ntmps8
    go_wp2_with fail
    exact hK.out _ _ ⟨rfl, rfl⟩
  by_cases a4 : 1048576 < b
  · go_enter Try.func8, Try.ntmps8
    go_wp2_with fail
    exact hK.out _ _ ⟨rfl, rfl⟩
  by_cases a5 : i < 1
  · go_enter Try.func8, Try.ntmps8
    go_wp2_with fail
    exact hK.out _ _ ⟨rfl, rfl⟩
  · have a6 : 4096 < i := by omega
    go_enter Try.func8, Try.ntmps8
    go_wp2_with fail
    exact hK.out _ _ ⟨rfl, rfl⟩
theorem lns_nil (m : Nat) (H : Sat G w l) : Sat G w ((List.replicate m (⟨.slice none 0 0, []⟩ : Ln)).map lnA ++ l) := by
  induction m with
  | zero => exact H
  | succ m ih =>
    rw [List.replicate_succ, List.map_cons, List.cons_append]
    exact ln_iff.2 ⟨[], rfl, (fun e he => by cases he), ih.ownNil _ _⟩
set_option maxHeartbeats 1000000 in
theorem qu_new (H : Sat G w l) (t : Nat) (b i : Int) (h : qRight t b i = true) : Calls Try.prog 8 #[.int .i64 t, .int .i64 b, .int .i64 i] w fun e w' => ∃ q, e = .returned (.tuple #[.pointer (some ⟨q, 0, none⟩), .int .i64 0]) ∧ Sat G w' (quA q (List.replicate t []) b i :: l) := by
  refine calls_any fun K hK => ?_
  obtain ⟨a1, a2, a3, a4, a5, a6⟩ := of_decide_eq_true h
  clear h
  have hmk := run_make_any (P := Try.prog) 55 62 (.agg #[.slice none 0 0, .int .i64 0]) 2 32 Try.underlying55 (by kernel_rfl) t (by omega) (by omega)
  have S1 := (lns_nil t H).newBlk (madeCells #[.slice none 0 0, .int .i64 0] (t * 2)) 62
  have hme := made_encs ln_len (by decide) (⟨.slice none 0 0, []⟩ : Ln) #[.slice none 0 0, .int .i64 0] rfl t
  have S2 := (S1.ownBlk (size := 2) t (by simp [madeCells]) (Nat.le_trans (show t ≤ 64 by omega) (by decide))).newBlk #[.slice (some ⟨w.heap.size, 0, none⟩) t t, .int .i64 b, .int .i64 i] 57
  rw [hme] at S2
  simp only [World.size_alloc] at S2
  have HS : Hid (Sat G _ (quA _ (List.replicate t []) b i :: l)) := Lib.hid (qu_iff.2 ⟨List.replicate t ⟨.slice none 0 0, []⟩, _, by simp, by rw [List.length_replicate]; exact S2⟩)
  clear S1 S2 hme
  go_enter Try.func8, Try.ntmps8
  go_wp2_with fail
  exact hK.out _ _ ⟨_, rfl, HS.out⟩
end
end Go.Proofs.Ytidaafpfkbfiaaa

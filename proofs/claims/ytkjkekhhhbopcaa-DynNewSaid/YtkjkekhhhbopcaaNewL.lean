/- The walk of the law DynNew. -/
import Derived.Test.YtkjkekhhhbopcaaAwd
set_option linter.unusedSimpArgs false
set_option linter.unusedVariables false
namespace Go.Proofs.Ytkjkekhhhbopcaa
open Go.RowKit

set_option maxHeartbeats 4000000 in
theorem dynNew_walk (w : World) (v0 v1 : Value) (h0 : ∃ d, ArgV w (.int .i64) v0 d) (h1 : ∃ d, ArgV w (Ty.agg [.str, .str]) v1 d) :
    Calls Try.prog 3 #[v0, v1] w fun e w' => e = .returned (.bool true) ∧ Below w.heap.size w w' := by
  refine calls_any fun K hK => ?_
  obtain ⟨_, h0⟩ := h0
  obtain ⟨n, rfl, -⟩ := arg_int h0
  obtain ⟨_, h1⟩ := h1
  obtain ⟨x, rfl, hx1, hx2⟩ := arg_field h1
  clear h0 h1
  have hG := Gnd.le.rfl' (G := Gnd.of w)
  have S0 := (Sat.start w).newBlk #[.string (bstr x.1), .string (bstr x.2)] 23
  by_cases hn : lRight n = true
  · obtain ⟨a1, a2⟩ := of_decide_eq_true hn
    have z1 : decide (n < 0) = false := decide_eq_false (by omega)
    have z2 : decide (n > 65536) = false := decide_eq_false (by omega)
    have hnew := tb_new S0 n hn
    clear hn S0
    go_enter Try.func3, Try.ntmps3
    go_wp2_with fail
    (with_reducible refine hnew.mono ?_)
    clear hnew
    generalize w.heap.size = r
    rintro e w1 ⟨p, rfl, S1⟩
    have hwf : TWf [] [] n := ⟨a1, a2, by simpa [fsz] using a1, Nat.le_refl _⟩
    have hlen := tb_len S1 (by decide) (by decide)
    change Calls _ _ _ _ (fun e w' => e = .returned (.int .i64 0) ∧ _) at hlen
    go_wp2_with fail
    (with_reducible refine hlen.mono ?_)
    clear hlen S1
    rintro e w2 ⟨rfl, S2⟩
    have hsz := tb_size S2
    change Calls _ _ _ _ (fun e w' => e = .returned (.int .i64 0) ∧ _) at hsz
    have hlm := tb_limit S2
    go_wp2_with fail
    (with_reducible refine hsz.mono ?_)
    clear hsz
    rintro e w3 ⟨rfl, rfl⟩
    go_wp2_with fail
    (with_reducible refine hlm.mono ?_)
    clear hlm
    rintro e w3 ⟨rfl, rfl⟩
    have hadd := tb_add S2 hwf x (by omega) (by omega)
    change Calls _ _ _ _ (fun e w' => e = .returned (.int .i64 0) ∧ _) at hadd
    have d0 := S2.swap.cell 0
    have d1 := S2.swap.cell 1
    clear S2
    go_wp2_with fail
    (with_reducible refine hadd.mono ?_)
    clear hadd d0 d1
    rintro e w4 ⟨rfl, Z1, wf1, S4⟩
    have d0 := S4.swap.cell 0
    have d1 := S4.swap.cell 1
    have hfs := fd_size S4 x.1 x.2 (by omega) (by omega)
    have hzl := wf1.z
    obtain ⟨F1, hF1⟩ : ∃ F1, F1 = addF n [] x := ⟨_, rfl⟩
    rw [← hF1] at S4 hzl hfs
    have hsx : ((fsz1 (x.1, x.2) : Nat) : Int) = (fsz1 x : Nat) := rfl
    obtain ⟨sx, hs⟩ : ∃ sx, sx = fsz1 x := ⟨_, rfl⟩
    rw [hsx, ← hs] at hfs
    by_cases hf : (sx : Int) ≤ n
    · have hl : F1.length = 1 := by rw [hF1]; unfold addF; rw [← hs, if_pos hf]; rfl
      have HL := Lib.hid hl
      have HZ : Hid (Z1.length ≤ 1) := Lib.hid (by omega)
      clear hF1 hs hsx S4 hzl wf1 hl
      go_wp2_with fail
      (with_reducible refine hfs.mono ?_)
      clear hfs d0 d1
      rintro e w5 ⟨rfl, S5⟩
      have hlen := tb_len S5 (Nat.le_trans HZ.out (by decide)) (by rw [HL.out]; decide)
      rw [HL.out] at hlen
      change Calls _ _ _ _ (fun e w' => e = .returned (.int .i64 1) ∧ _) at hlen
      clear S5
      go_wp2_with fail
      (with_reducible refine hlen.mono ?_)
      clear hlen
      rintro e w6 ⟨rfl, S6⟩
      go_wp2_with fail
      (with_reducible refine (law_awake (S6.drop.drop)).mono ?_); rintro e w9 ⟨rfl, S9⟩; go_wp2_with fail; exact hK.out _ _ ⟨rfl, S9.above hG⟩
    · have hl : F1.length = 0 := by rw [hF1]; unfold addF; rw [← hs, if_neg hf]; rfl
      have HL := Lib.hid hl
      have HZ : Hid (Z1.length ≤ 1) := Lib.hid (by omega)
      clear hF1 hs hsx S4 hzl wf1 hl
      go_wp2_with fail
      (with_reducible refine hfs.mono ?_)
      clear hfs d0 d1
      rintro e w5 ⟨rfl, S5⟩
      have hlen := tb_len S5 (Nat.le_trans HZ.out (by decide)) (by rw [HL.out]; decide)
      rw [HL.out] at hlen
      change Calls _ _ _ _ (fun e w' => e = .returned (.int .i64 0) ∧ _) at hlen
      clear S5
      go_wp2_with fail
      (with_reducible refine hlen.mono ?_)
      clear hlen
      rintro e w6 ⟨rfl, S6⟩
      go_wp2_with fail
      (with_reducible refine (law_awake (S6.drop.drop)).mono ?_); rintro e w9 ⟨rfl, S9⟩; go_wp2_with fail; exact hK.out _ _ ⟨rfl, S9.above hG⟩
  · have hn := eq_false_of_ne_true hn
    have h3 : ¬ (0 ≤ n ∧ n ≤ 65536) := of_decide_eq_false hn
    have hnew := tb_new_not n hn
    have HS := Lib.hid S0
    clear hn S0
    by_cases h4 : n < 0
    · go_enter Try.func3, Try.ntmps3
      go_wp2_with fail
      (with_reducible refine (hnew _).mono ?_)
      clear hnew
      rintro e w1 ⟨rfl, rfl⟩
      go_wp2_with fail
      (with_reducible refine (law_awake (HS.out.drop)).mono ?_); rintro e w9 ⟨rfl, S9⟩; go_wp2_with fail; exact hK.out _ _ ⟨rfl, S9.above hG⟩
    · have h5 : 65536 < n := by omega
      go_enter Try.func3, Try.ntmps3
      go_wp2_with fail
      (with_reducible refine (hnew _).mono ?_)
      clear hnew
      rintro e w1 ⟨rfl, rfl⟩
      go_wp2_with fail
      (with_reducible refine (law_awake (HS.out.drop)).mono ?_); rintro e w9 ⟨rfl, S9⟩; go_wp2_with fail; exact hK.out _ _ ⟨rfl, S9.above hG⟩
end Go.Proofs.Ytkjkekhhhbopcaa

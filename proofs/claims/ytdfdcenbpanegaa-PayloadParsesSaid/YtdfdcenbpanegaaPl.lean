/- The walks over payload.place and payload.length. -/
import Derived.Test.YtdfdcenbpanegaaRdF
set_option linter.unusedSimpArgs false
set_option linter.unusedVariables false
namespace Go.Proofs.Ytdfdcenbpanegaa
open Go.RowKit

def placeBad (k s : Int) : Bool := if k == 4 || k == 6 || k == 7 then !(s == 0) else if k == 0 || k == 1 || k == 2 || k == 3 || k == 9 then s == 0 else k == 5
def lenF (k f : Int) (n : Nat) : Int × Bool :=
  if k == 2 then (if n == 5 then (0, false) else (106, false))
  else if (if k == 3 || k == 8 then !(n == 4) else if k == 4 then !(n % 6 == 0) || (hasF f 1 && decide (0 < n)) else if k == 6 then !(n == 8) else if k == 7 then decide (n < 8) else false) then (106, true) else (0, false)
theorem kinds (k : Int) : k = 0 ∨ k = 1 ∨ k = 2 ∨ k = 3 ∨ k = 4 ∨ k = 5 ∨ k = 6 ∨ k = 7 ∨ k = 8 ∨ k = 9 ∨ ((k == 0) = false ∧ (k == 1) = false ∧ (k == 2) = false ∧ (k == 3) = false ∧ (k == 4) = false ∧ (k == 5) = false ∧ (k == 6) = false ∧ (k == 7) = false ∧ (k == 8) = false ∧ (k == 9) = false) := by
  by_cases h0 : k = 0; exact .inl h0
  by_cases h1 : k = 1; exact .inr (.inl h1)
  by_cases h2 : k = 2; exact .inr (.inr (.inl h2))
  by_cases h3 : k = 3; exact .inr (.inr (.inr (.inl h3)))
  by_cases h4 : k = 4; exact .inr (.inr (.inr (.inr (.inl h4))))
  by_cases h5 : k = 5; exact .inr (.inr (.inr (.inr (.inr (.inl h5)))))
  by_cases h6 : k = 6; exact .inr (.inr (.inr (.inr (.inr (.inr (.inl h6))))))
  by_cases h7 : k = 7; exact .inr (.inr (.inr (.inr (.inr (.inr (.inr (.inl h7)))))))
  by_cases h8 : k = 8; exact .inr (.inr (.inr (.inr (.inr (.inr (.inr (.inr (.inl h8))))))))
  by_cases h9 : k = 9; exact .inr (.inr (.inr (.inr (.inr (.inr (.inr (.inr (.inr (.inl h9)))))))))
  exact .inr (.inr (.inr (.inr (.inr (.inr (.inr (.inr (.inr (.inr ⟨beq_eq_false_iff_ne.2 h0, beq_eq_false_iff_ne.2 h1, beq_eq_false_iff_ne.2 h2, beq_eq_false_iff_ne.2 h3, beq_eq_false_iff_ne.2 h4, beq_eq_false_iff_ne.2 h5, beq_eq_false_iff_ne.2 h6, beq_eq_false_iff_ne.2 h7, beq_eq_false_iff_ne.2 h8, beq_eq_false_iff_ne.2 h9⟩)))))))))
section
variable {G : Gnd} {w : World} {l : List Asrt}
set_option maxHeartbeats 4000000 in
theorem pl_place (H : Sat G w l) (k f s : Int) (v : Value) :
    Calls Try.prog 16 #[.agg #[.int .i64 k, .int .i64 f, .int .i64 s, v]] w fun e w' => e = .returned (.agg #[.int .i64 (if placeBad k s then 101 else 0), .bool (placeBad k s)]) ∧ Sat G w' l := by
  refine calls_any fun K hK => ?_
  have S1 := (H.newBlk #[.int .i64 k, .int .i64 f, .int .i64 s, v] 24).newBlk #[.int .i64 0, .bool false] 31
  simp only [World.size_alloc] at S1
  have HS0 := Lib.hid S1
  have HS1 := Lib.hid S1
  have hn : (s != 0) = !(s == 0) := rfl
  clear H S1
  rcases kinds k with rfl | rfl | rfl | rfl | rfl | rfl | rfl | rfl | rfl | rfl | ⟨k0, k1, k2, k3, k4, k5, k6, k7, k8, k9⟩
  · cases hs : (s == 0) with
    | true =>
      rw [show placeBad 0 s = (s == 0) from rfl, hs] at hK
      rw [hs] at hn
      go_enter Try.func16, Try.ntmps16
      go_wp2_with fail; (with_reducible refine (pl_conn HS1.out 101).mono ?_); rintro e w2 ⟨rfl, S2⟩; have f0 := S2.frozen 0; have f1 := S2.frozen 1; have c0 := S2.cell 0; have c1 := S2.cell 1; have HS2 := Lib.hid ((S2.setCell 0 (.int .i64 101)).setCell 1 (.bool true)); clear S2; go_wp2_with fail; refine ret_cell HS2.out 2 31 rfl _ rfl Try.underlying31 rfl (by kernel_rfl) rfl ?_; exact hK.out _ _ ⟨rfl, HS2.out.drop.drop⟩
    | false =>
      rw [show placeBad 0 s = (s == 0) from rfl, hs] at hK
      rw [hs] at hn
      go_enter Try.func16, Try.ntmps16
      go_wp2_with fail; refine ret_cell HS0.out 2 31 rfl _ rfl Try.underlying31 rfl (by kernel_rfl) rfl ?_; exact hK.out _ _ ⟨rfl, HS0.out.drop.drop⟩
  · cases hs : (s == 0) with
    | true =>
      rw [show placeBad 1 s = (s == 0) from rfl, hs] at hK
      rw [hs] at hn
      go_enter Try.func16, Try.ntmps16
      go_wp2_with fail; (with_reducible refine (pl_conn HS1.out 101).mono ?_); rintro e w2 ⟨rfl, S2⟩; have f0 := S2.frozen 0; have f1 := S2.frozen 1; have c0 := S2.cell 0; have c1 := S2.cell 1; have HS2 := Lib.hid ((S2.setCell 0 (.int .i64 101)).setCell 1 (.bool true)); clear S2; go_wp2_with fail; refine ret_cell HS2.out 2 31 rfl _ rfl Try.underlying31 rfl (by kernel_rfl) rfl ?_; exact hK.out _ _ ⟨rfl, HS2.out.drop.drop⟩
    | false =>
      rw [show placeBad 1 s = (s == 0) from rfl, hs] at hK
      rw [hs] at hn
      go_enter Try.func16, Try.ntmps16
      go_wp2_with fail; refine ret_cell HS0.out 2 31 rfl _ rfl Try.underlying31 rfl (by kernel_rfl) rfl ?_; exact hK.out _ _ ⟨rfl, HS0.out.drop.drop⟩
  · cases hs : (s == 0) with
    | true =>
      rw [show placeBad 2 s = (s == 0) from rfl, hs] at hK
      rw [hs] at hn
      go_enter Try.func16, Try.ntmps16
      go_wp2_with fail; (with_reducible refine (pl_conn HS1.out 101).mono ?_); rintro e w2 ⟨rfl, S2⟩; have f0 := S2.frozen 0; have f1 := S2.frozen 1; have c0 := S2.cell 0; have c1 := S2.cell 1; have HS2 := Lib.hid ((S2.setCell 0 (.int .i64 101)).setCell 1 (.bool true)); clear S2; go_wp2_with fail; refine ret_cell HS2.out 2 31 rfl _ rfl Try.underlying31 rfl (by kernel_rfl) rfl ?_; exact hK.out _ _ ⟨rfl, HS2.out.drop.drop⟩
    | false =>
      rw [show placeBad 2 s = (s == 0) from rfl, hs] at hK
      rw [hs] at hn
      go_enter Try.func16, Try.ntmps16
      go_wp2_with fail; refine ret_cell HS0.out 2 31 rfl _ rfl Try.underlying31 rfl (by kernel_rfl) rfl ?_; exact hK.out _ _ ⟨rfl, HS0.out.drop.drop⟩
  · cases hs : (s == 0) with
    | true =>
      rw [show placeBad 3 s = (s == 0) from rfl, hs] at hK
      rw [hs] at hn
      go_enter Try.func16, Try.ntmps16
      go_wp2_with fail; (with_reducible refine (pl_conn HS1.out 101).mono ?_); rintro e w2 ⟨rfl, S2⟩; have f0 := S2.frozen 0; have f1 := S2.frozen 1; have c0 := S2.cell 0; have c1 := S2.cell 1; have HS2 := Lib.hid ((S2.setCell 0 (.int .i64 101)).setCell 1 (.bool true)); clear S2; go_wp2_with fail; refine ret_cell HS2.out 2 31 rfl _ rfl Try.underlying31 rfl (by kernel_rfl) rfl ?_; exact hK.out _ _ ⟨rfl, HS2.out.drop.drop⟩
    | false =>
      rw [show placeBad 3 s = (s == 0) from rfl, hs] at hK
      rw [hs] at hn
      go_enter Try.func16, Try.ntmps16
      go_wp2_with fail; refine ret_cell HS0.out 2 31 rfl _ rfl Try.underlying31 rfl (by kernel_rfl) rfl ?_; exact hK.out _ _ ⟨rfl, HS0.out.drop.drop⟩
  · cases hs : (s == 0) with
    | true =>
      rw [show placeBad 4 s = !(s == 0) from rfl, hs] at hK
      rw [hs] at hn
      go_enter Try.func16, Try.ntmps16
      go_wp2_with fail; refine ret_cell HS0.out 2 31 rfl _ rfl Try.underlying31 rfl (by kernel_rfl) rfl ?_; exact hK.out _ _ ⟨rfl, HS0.out.drop.drop⟩
    | false =>
      rw [show placeBad 4 s = !(s == 0) from rfl, hs] at hK
      rw [hs] at hn
      go_enter Try.func16, Try.ntmps16
      go_wp2_with fail; (with_reducible refine (pl_conn HS1.out 101).mono ?_); rintro e w2 ⟨rfl, S2⟩; have f0 := S2.frozen 0; have f1 := S2.frozen 1; have c0 := S2.cell 0; have c1 := S2.cell 1; have HS2 := Lib.hid ((S2.setCell 0 (.int .i64 101)).setCell 1 (.bool true)); clear S2; go_wp2_with fail; refine ret_cell HS2.out 2 31 rfl _ rfl Try.underlying31 rfl (by kernel_rfl) rfl ?_; exact hK.out _ _ ⟨rfl, HS2.out.drop.drop⟩
  · rw [show placeBad 5 s = true from rfl] at hK
    go_enter Try.func16, Try.ntmps16
    go_wp2_with fail; (with_reducible refine (pl_conn HS1.out 101).mono ?_); rintro e w2 ⟨rfl, S2⟩; have f0 := S2.frozen 0; have f1 := S2.frozen 1; have c0 := S2.cell 0; have c1 := S2.cell 1; have HS2 := Lib.hid ((S2.setCell 0 (.int .i64 101)).setCell 1 (.bool true)); clear S2; go_wp2_with fail; refine ret_cell HS2.out 2 31 rfl _ rfl Try.underlying31 rfl (by kernel_rfl) rfl ?_; exact hK.out _ _ ⟨rfl, HS2.out.drop.drop⟩
  · cases hs : (s == 0) with
    | true =>
      rw [show placeBad 6 s = !(s == 0) from rfl, hs] at hK
      rw [hs] at hn
      go_enter Try.func16, Try.ntmps16
      go_wp2_with fail; refine ret_cell HS0.out 2 31 rfl _ rfl Try.underlying31 rfl (by kernel_rfl) rfl ?_; exact hK.out _ _ ⟨rfl, HS0.out.drop.drop⟩
    | false =>
      rw [show placeBad 6 s = !(s == 0) from rfl, hs] at hK
      rw [hs] at hn
      go_enter Try.func16, Try.ntmps16
      go_wp2_with fail; (with_reducible refine (pl_conn HS1.out 101).mono ?_); rintro e w2 ⟨rfl, S2⟩; have f0 := S2.frozen 0; have f1 := S2.frozen 1; have c0 := S2.cell 0; have c1 := S2.cell 1; have HS2 := Lib.hid ((S2.setCell 0 (.int .i64 101)).setCell 1 (.bool true)); clear S2; go_wp2_with fail; refine ret_cell HS2.out 2 31 rfl _ rfl Try.underlying31 rfl (by kernel_rfl) rfl ?_; exact hK.out _ _ ⟨rfl, HS2.out.drop.drop⟩
  · cases hs : (s == 0) with
    | true =>
      rw [show placeBad 7 s = !(s == 0) from rfl, hs] at hK
      rw [hs] at hn
      go_enter Try.func16, Try.ntmps16
      go_wp2_with fail; refine ret_cell HS0.out 2 31 rfl _ rfl Try.underlying31 rfl (by kernel_rfl) rfl ?_; exact hK.out _ _ ⟨rfl, HS0.out.drop.drop⟩
    | false =>
      rw [show placeBad 7 s = !(s == 0) from rfl, hs] at hK
      rw [hs] at hn
      go_enter Try.func16, Try.ntmps16
      go_wp2_with fail; (with_reducible refine (pl_conn HS1.out 101).mono ?_); rintro e w2 ⟨rfl, S2⟩; have f0 := S2.frozen 0; have f1 := S2.frozen 1; have c0 := S2.cell 0; have c1 := S2.cell 1; have HS2 := Lib.hid ((S2.setCell 0 (.int .i64 101)).setCell 1 (.bool true)); clear S2; go_wp2_with fail; refine ret_cell HS2.out 2 31 rfl _ rfl Try.underlying31 rfl (by kernel_rfl) rfl ?_; exact hK.out _ _ ⟨rfl, HS2.out.drop.drop⟩
  · rw [show placeBad 8 s = false from rfl] at hK
    go_enter Try.func16, Try.ntmps16
    go_wp2_with fail; refine ret_cell HS0.out 2 31 rfl _ rfl Try.underlying31 rfl (by kernel_rfl) rfl ?_; exact hK.out _ _ ⟨rfl, HS0.out.drop.drop⟩
  · cases hs : (s == 0) with
    | true =>
      rw [show placeBad 9 s = (s == 0) from rfl, hs] at hK
      rw [hs] at hn
      go_enter Try.func16, Try.ntmps16
      go_wp2_with fail; (with_reducible refine (pl_conn HS1.out 101).mono ?_); rintro e w2 ⟨rfl, S2⟩; have f0 := S2.frozen 0; have f1 := S2.frozen 1; have c0 := S2.cell 0; have c1 := S2.cell 1; have HS2 := Lib.hid ((S2.setCell 0 (.int .i64 101)).setCell 1 (.bool true)); clear S2; go_wp2_with fail; refine ret_cell HS2.out 2 31 rfl _ rfl Try.underlying31 rfl (by kernel_rfl) rfl ?_; exact hK.out _ _ ⟨rfl, HS2.out.drop.drop⟩
    | false =>
      rw [show placeBad 9 s = (s == 0) from rfl, hs] at hK
      rw [hs] at hn
      go_enter Try.func16, Try.ntmps16
      go_wp2_with fail; refine ret_cell HS0.out 2 31 rfl _ rfl Try.underlying31 rfl (by kernel_rfl) rfl ?_; exact hK.out _ _ ⟨rfl, HS0.out.drop.drop⟩
  · rw [show placeBad k s = false by simp [placeBad, k0, k1, k2, k3, k4, k5, k6, k7, k9]] at hK
    go_enter Try.func16, Try.ntmps16
    go_wp2_with fail; refine ret_cell HS0.out 2 31 rfl _ rfl Try.underlying31 rfl (by kernel_rfl) rfl ?_; exact hK.out _ _ ⟨rfl, HS0.out.drop.drop⟩
set_option maxHeartbeats 8000000 in
theorem pl_length (H : Sat G w l) (k f s : Int) (A : Option Addr) (n c : Nat) (hnl : n ≤ 140737488355328) :
    Calls Try.prog 18 #[.agg #[.int .i64 k, .int .i64 f, .int .i64 s, .slice A n c]] w fun e w' => e = .returned (.agg #[.int .i64 (lenF k f n).1, .bool (lenF k f n).2]) ∧ Sat G w' l := by
  refine calls_any fun K hK => ?_
  have S1 := (H.newBlk #[.int .i64 k, .int .i64 f, .int .i64 s, .slice A n c] 24).newBlk #[.int .i64 0, .bool false] 31
  have S9 := (H.newBlk #[.int .i64 k, .int .i64 f, .int .i64 s, .slice A n c] 24).newBlk #[.int .i64 106, .bool false] 31
  simp only [World.size_alloc] at S1 S9
  have HS0 := Lib.hid S1
  have HS1 := Lib.hid S1
  have HS9 := Lib.hid S9
  clear H S1 S9
  rcases kinds k with rfl | rfl | rfl | rfl | rfl | rfl | rfl | rfl | rfl | rfl | ⟨k0, k1, k2, k3, k4, k5, k6, k7, k8, k9⟩
  · rw [show lenF 0 f n = (0, false) from rfl] at hK
    go_enter Try.func18, Try.ntmps18
    go_wp2_with fail; refine ret_cell HS0.out 2 31 rfl _ rfl Try.underlying31 rfl (by kernel_rfl) rfl ?_; exact hK.out _ _ ⟨rfl, HS0.out.drop.drop⟩
  · rw [show lenF 1 f n = (0, false) from rfl] at hK
    go_enter Try.func18, Try.ntmps18
    go_wp2_with fail; refine ret_cell HS0.out 2 31 rfl _ rfl Try.underlying31 rfl (by kernel_rfl) rfl ?_; exact hK.out _ _ ⟨rfl, HS0.out.drop.drop⟩
  · by_cases hc : n = 5
    · have hl : lenF 2 f n = (0, false) := by simp [lenF, hc]
      rw [hl] at hK
      subst hc
      clear hl
      go_enter Try.func18, Try.ntmps18
      go_wp2_with fail; refine ret_cell HS0.out 2 31 rfl _ rfl Try.underlying31 rfl (by kernel_rfl) rfl ?_; exact hK.out _ _ ⟨rfl, HS0.out.drop.drop⟩
    · have hl : lenF 2 f n = (106, false) := by simp [lenF, hc]
      rw [hl] at hK
      have hb : ((n : Int) != 5) = true := by simp; omega
      clear hl
      go_enter Try.func18, Try.ntmps18
      go_wp2_with fail; refine ret_cell HS9.out 2 31 rfl _ rfl Try.underlying31 rfl (by kernel_rfl) rfl ?_; exact hK.out _ _ ⟨rfl, HS9.out.drop.drop⟩
  · by_cases hc : n = 4
    · have hl : lenF 3 f n = (0, false) := by simp [lenF, hc]
      rw [hl] at hK
      subst hc
      clear hl
      go_enter Try.func18, Try.ntmps18
      go_wp2_with fail; refine ret_cell HS0.out 2 31 rfl _ rfl Try.underlying31 rfl (by kernel_rfl) rfl ?_; exact hK.out _ _ ⟨rfl, HS0.out.drop.drop⟩
    · have hl : lenF 3 f n = (106, true) := by simp [lenF, hc]
      rw [hl] at hK
      have hb : ((n : Int) != 4) = true := by simp; omega
      clear hl
      go_enter Try.func18, Try.ntmps18
      go_wp2_with fail; (with_reducible refine (pl_conn HS1.out 106).mono ?_); rintro e w2 ⟨rfl, S2⟩; have f0 := S2.frozen 0; have f1 := S2.frozen 1; have c0 := S2.cell 0; have c1 := S2.cell 1; have HS2 := Lib.hid ((S2.setCell 0 (.int .i64 106)).setCell 1 (.bool true)); clear S2; go_wp2_with fail; refine ret_cell HS2.out 2 31 rfl _ rfl Try.underlying31 rfl (by kernel_rfl) rfl ?_; exact hK.out _ _ ⟨rfl, HS2.out.drop.drop⟩
  · by_cases hc : n % 6 = 0
    · have hm : Int.tmod (n : Int) 6 = 0 := by rw [Int.tmod_eq_emod_of_nonneg (Int.natCast_nonneg n)]; omega
      have hb : (Int.tmod (n : Int) 6 != 0) = false := by rw [hm]; rfl
      have hh := fun {W : World} {l' : List Asrt} (S : Sat G W l') => pl_has S 4 f s 1 (.slice A n c) (.inl rfl)
      cases hf : hasF f 1 with
      | false =>
        have hl : lenF 4 f n = (0, false) := by simp [lenF, hc, hf]
        rw [hl] at hK
        rw [hf] at hh
        clear hl hc
        go_enter Try.func18, Try.ntmps18
        go_wp2_with fail
        (with_reducible refine (hh HS1.out).mono ?_)
        rintro e w2 ⟨rfl, S2⟩
        have f0 := S2.frozen 0
        have f1 := S2.frozen 1
        have c0 := S2.cell 0
        have c1 := S2.cell 1
        have HS2 := Lib.hid ((S2.setCell 0 (.int .i64 0)).setCell 1 (.bool false))
        clear S2
        go_wp2_with fail
        refine ret_cell HS2.out 2 31 rfl _ rfl Try.underlying31 rfl (by kernel_rfl) rfl ?_
        exact hK.out _ _ ⟨rfl, HS2.out.drop.drop⟩
      | true =>
        rw [hf] at hh
        by_cases h0 : n = 0
        · have hl : lenF 4 f n = (0, false) := by simp [lenF, hf, h0]
          rw [hl] at hK
          subst h0
          clear hl hc
          go_enter Try.func18, Try.ntmps18
          go_wp2_with fail
          (with_reducible refine (hh HS1.out).mono ?_)
          rintro e w2 ⟨rfl, S2⟩
          have f0 := S2.frozen 0
          have f1 := S2.frozen 1
          have c0 := S2.cell 0
          have c1 := S2.cell 1
          have HS2 := Lib.hid ((S2.setCell 0 (.int .i64 0)).setCell 1 (.bool false))
          clear S2
          go_wp2_with fail
          refine ret_cell HS2.out 2 31 rfl _ rfl Try.underlying31 rfl (by kernel_rfl) rfl ?_
          exact hK.out _ _ ⟨rfl, HS2.out.drop.drop⟩
        · have hl : lenF 4 f n = (106, true) := by simp [lenF, hf, h0] <;> omega
          rw [hl] at hK
          have hp : decide ((0 : Int) < (n : Int)) = true := decide_eq_true (by omega)
          clear hl hc
          go_enter Try.func18, Try.ntmps18
          go_wp2_with fail
          (with_reducible refine (hh HS1.out).mono ?_)
          clear hh
          rintro e w2 ⟨rfl, S2⟩
          have HS1 := Lib.hid S2
          clear S2
          go_wp2_with fail; (with_reducible refine (pl_conn HS1.out 106).mono ?_); rintro e w2 ⟨rfl, S2⟩; have f0 := S2.frozen 0; have f1 := S2.frozen 1; have c0 := S2.cell 0; have c1 := S2.cell 1; have HS2 := Lib.hid ((S2.setCell 0 (.int .i64 106)).setCell 1 (.bool true)); clear S2; go_wp2_with fail; refine ret_cell HS2.out 2 31 rfl _ rfl Try.underlying31 rfl (by kernel_rfl) rfl ?_; exact hK.out _ _ ⟨rfl, HS2.out.drop.drop⟩
    · have hl : lenF 4 f n = (106, true) := by simp [lenF, hc]
      have hm : Int.tmod (n : Int) 6 ≠ 0 := by rw [Int.tmod_eq_emod_of_nonneg (Int.natCast_nonneg n)]; omega
      have hb : (Int.tmod (n : Int) 6 != 0) = true := bne_iff_ne.2 hm
      have hz := fun W => pl_has (Sat.start W) 4 f s 1 (.slice A n c) (.inl rfl)
      rw [hl] at hK
      clear hl hc
      go_enter Try.func18, Try.ntmps18
      go_wp2_with fail; (with_reducible refine (pl_conn HS1.out 106).mono ?_); rintro e w2 ⟨rfl, S2⟩; have f0 := S2.frozen 0; have f1 := S2.frozen 1; have c0 := S2.cell 0; have c1 := S2.cell 1; have HS2 := Lib.hid ((S2.setCell 0 (.int .i64 106)).setCell 1 (.bool true)); clear S2; go_wp2_with fail; refine ret_cell HS2.out 2 31 rfl _ rfl Try.underlying31 rfl (by kernel_rfl) rfl ?_; exact hK.out _ _ ⟨rfl, HS2.out.drop.drop⟩
  · rw [show lenF 5 f n = (0, false) from rfl] at hK
    go_enter Try.func18, Try.ntmps18
    go_wp2_with fail; refine ret_cell HS0.out 2 31 rfl _ rfl Try.underlying31 rfl (by kernel_rfl) rfl ?_; exact hK.out _ _ ⟨rfl, HS0.out.drop.drop⟩
  · by_cases hc : n = 8
    · have hl : lenF 6 f n = (0, false) := by simp [lenF, hc]
      rw [hl] at hK
      subst hc
      clear hl
      go_enter Try.func18, Try.ntmps18
      go_wp2_with fail; refine ret_cell HS0.out 2 31 rfl _ rfl Try.underlying31 rfl (by kernel_rfl) rfl ?_; exact hK.out _ _ ⟨rfl, HS0.out.drop.drop⟩
    · have hl : lenF 6 f n = (106, true) := by simp [lenF, hc]
      rw [hl] at hK
      have hb : ((n : Int) != 8) = true := by simp; omega
      clear hl
      go_enter Try.func18, Try.ntmps18
      go_wp2_with fail; (with_reducible refine (pl_conn HS1.out 106).mono ?_); rintro e w2 ⟨rfl, S2⟩; have f0 := S2.frozen 0; have f1 := S2.frozen 1; have c0 := S2.cell 0; have c1 := S2.cell 1; have HS2 := Lib.hid ((S2.setCell 0 (.int .i64 106)).setCell 1 (.bool true)); clear S2; go_wp2_with fail; refine ret_cell HS2.out 2 31 rfl _ rfl Try.underlying31 rfl (by kernel_rfl) rfl ?_; exact hK.out _ _ ⟨rfl, HS2.out.drop.drop⟩
  · by_cases hc : n < 8
    · have hl : lenF 7 f n = (106, true) := by simp [lenF, hc]
      rw [hl] at hK
      have hb : decide ((n : Int) < 8) = true := decide_eq_true (by omega)
      clear hl
      go_enter Try.func18, Try.ntmps18
      go_wp2_with fail; (with_reducible refine (pl_conn HS1.out 106).mono ?_); rintro e w2 ⟨rfl, S2⟩; have f0 := S2.frozen 0; have f1 := S2.frozen 1; have c0 := S2.cell 0; have c1 := S2.cell 1; have HS2 := Lib.hid ((S2.setCell 0 (.int .i64 106)).setCell 1 (.bool true)); clear S2; go_wp2_with fail; refine ret_cell HS2.out 2 31 rfl _ rfl Try.underlying31 rfl (by kernel_rfl) rfl ?_; exact hK.out _ _ ⟨rfl, HS2.out.drop.drop⟩
    · have hl : lenF 7 f n = (0, false) := by simp [lenF, hc]
      rw [hl] at hK
      have hb : decide ((n : Int) < 8) = false := decide_eq_false (by omega)
      clear hl
      go_enter Try.func18, Try.ntmps18
      go_wp2_with fail; refine ret_cell HS0.out 2 31 rfl _ rfl Try.underlying31 rfl (by kernel_rfl) rfl ?_; exact hK.out _ _ ⟨rfl, HS0.out.drop.drop⟩
  · by_cases hc : n = 4
    · have hl : lenF 8 f n = (0, false) := by simp [lenF, hc]
      rw [hl] at hK
      subst hc
      clear hl
      go_enter Try.func18, Try.ntmps18
      go_wp2_with fail; refine ret_cell HS0.out 2 31 rfl _ rfl Try.underlying31 rfl (by kernel_rfl) rfl ?_; exact hK.out _ _ ⟨rfl, HS0.out.drop.drop⟩
    · have hl : lenF 8 f n = (106, true) := by simp [lenF, hc]
      rw [hl] at hK
      have hb : ((n : Int) != 4) = true := by simp; omega
      clear hl
      go_enter Try.func18, Try.ntmps18
      go_wp2_with fail; (with_reducible refine (pl_conn HS1.out 106).mono ?_); rintro e w2 ⟨rfl, S2⟩; have f0 := S2.frozen 0; have f1 := S2.frozen 1; have c0 := S2.cell 0; have c1 := S2.cell 1; have HS2 := Lib.hid ((S2.setCell 0 (.int .i64 106)).setCell 1 (.bool true)); clear S2; go_wp2_with fail; refine ret_cell HS2.out 2 31 rfl _ rfl Try.underlying31 rfl (by kernel_rfl) rfl ?_; exact hK.out _ _ ⟨rfl, HS2.out.drop.drop⟩
  · rw [show lenF 9 f n = (0, false) from rfl] at hK
    go_enter Try.func18, Try.ntmps18
    go_wp2_with fail; refine ret_cell HS0.out 2 31 rfl _ rfl Try.underlying31 rfl (by kernel_rfl) rfl ?_; exact hK.out _ _ ⟨rfl, HS0.out.drop.drop⟩
  · rw [show lenF k f n = (0, false) by simp [lenF, k2, k3, k4, k6, k7, k8]] at hK
    go_enter Try.func18, Try.ntmps18
    go_wp2_with fail; refine ret_cell HS0.out 2 31 rfl _ rfl Try.underlying31 rfl (by kernel_rfl) rfl ?_; exact hK.out _ _ ⟨rfl, HS0.out.drop.drop⟩
end
end Go.Proofs.Ytdfdcenbpanegaa

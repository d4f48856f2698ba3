/- The walk over awake of chapter 20. -/
import Derived.Test.YthenpoammpkjeaaPad
set_option linter.unusedSimpArgs false
set_option linter.unusedVariables false
namespace Go.Proofs.Ythenpoammpkjeaa
open Go.RowKit

theorem slb_ro {G : Gnd} {q : Nat} {bs : List UInt8} {t : TypeId} {fr : Nat × Nat} (h : G.ro q = some (.cells (bs.map byteV).toArray t fr)) (hl : bs.length ≤ maxLen) : SlB (cellR G.ro) (.slice (some ⟨q, 0, none⟩) bs.length bs.length) bs := by
  refine ⟨⟨_, _, rfl, Nat.le_refl _, hl, fun j u hj => ⟨_, rfl, ?_⟩⟩, fun n c e => by cases e⟩
  have e : (⟨q, 0, none⟩ : Addr).add j = ⟨q, j, none⟩ := by unfold Addr.add; split <;> simp_all
  rw [e]
  simp only [cellR, h]
  simpa using hj
set_option maxHeartbeats 4000000 in
set_option maxRecDepth 100000 in
theorem law_awake {G : Gnd} {w : World} {l : List Asrt} (H : Sat G w l) :
    Calls Try.prog 9 #[] w fun e w' => e = .returned (.bool true) ∧ ∃ G', G.le G' ∧ Sat G' w' l := by
  refine calls_any fun K hK => ?_
  have hf := cell_fill H (.slice none 0 0) [] 10 (SlB.nil _) (by decide)
  have hlen : ∀ w, Calls Try.prog 12 #[.int .i64 10] w fun e w' => e = .returned (.int .i64 28) ∧ w = w' := fun w => cell_len 10 w
  have hroom : ∀ w, Calls Try.prog 13 #[.int .i64 10] w fun e w' => e = .returned (.int .i64 19) ∧ w = w' := fun w => cell_room 10 w
  have hcells : ∀ w, Calls Try.prog 15 #[.int .i64 10, .int .i64 6] w fun e w' => e = .returned (.int .i64 2) ∧ w = w' := fun w => cell_cells 10 6 (by decide) (by decide) w
  go_enter Try.func9, Try.ntmps9
  go_wp2_with fail
  (with_reducible refine hf.mono ?_)
  clear hf H
  rintro e w1 ⟨G1, hG1, S1, ⟨h, -⟩ | ⟨-, h, -⟩ | ⟨-, z, hz, u, rfl, hu⟩⟩
  · exact absurd h (by decide)
  · exact absurd h (by decide)
  obtain rfl : z = 19 := by simp at hz; omega
  obtain ⟨U, cu, he, -, -, -⟩ := hu.form
  rw [show (fillB [] 19).length = 28 by decide] at he
  subst he
  have hcv := Go.Lib.run_convert_bytes_const (P := Try.prog) w1 22 5 #[.int .u8 97, .int .u8 98] 2 2 Try.underlying22 Try.underlying5
  obtain ⟨G2, hG2, hq, S2⟩ := (S1.new (.cells ([97, 98].map byteV).toArray 5 (2, 3))).freeze
  have hab := slb_ro hq (by decide)
  change Sat _ (w1.alloc (.cells #[.int .u8 97, .int .u8 98] 5 (2, 3))) _ at S2
  change SlB _ (.slice _ 2 2) _ at hab
  have hp := cell_pad S2 3 10 _ [97, 98] true hab (by decide) 7 (by decide) (by decide)
  clear S1 hu hz hab
  go_wp2_with fail
  (with_reducible refine hp.mono ?_)
  clear hp S2
  rintro e w2 ⟨G3, u, hG3, rfl, S3, hu⟩
  obtain ⟨V, cv, he, -, -, -⟩ := hu.form
  rw [show (padB [97, 98] 7).length = 10 by decide] at he
  subst he
  have S4 := S3.newBlk #[.int .i64 0, .int .i64 9, .int .i64 3, .slice V 10 cv] 40
  have h0 : (SlB (Go.Proofs.Ythenpoammpkjeaa.cellR G3.ro) (.slice V 10 cv) (padB [97, 98] 7)) := hu
  have hmk := run_make_row' (P := Try.prog) 22 5 (.int .u8 0) 1 Try.underlying22 info_u8 rfl .i64 .i64 20 (by omega) (by omega)
  change ∀ w, Sem.run _ (Instr.makeSlice _ (.int .i64 20) (.int .i64 20)) w = _ at hmk
  obtain ⟨G4, hG4, S5, hzs⟩ := noughts S4 20 (by decide)
  have hf2 := cell_fill S5 _ (List.replicate 20 0) 10 hzs (by decide)
  have e0 : ∀ o, (w2.alloc o).heap.size = w2.heap.size + 1 := fun o => by simp
  rw [e0] at hf2
  clear S3 S4 S5 hzs hcv
  go_wp2_with fail
  (with_reducible refine hf2.mono ?_)
  clear hf2 hmk
  rintro e w3 ⟨G5, hG5, S6, ⟨h, -⟩ | ⟨-, -, rfl⟩ | ⟨-, z, hz, -⟩⟩
  · exact absurd h (by decide)
  rotate_left
  · exact absurd hz (by simp; omega)
  generalize w2.heap.size = q at *
  have c1 : w3.cell? ⟨q, 1, none⟩ = some (.int .i64 9) := S6.cell 1
  have c3 : w3.cell? ⟨q, 3, none⟩ = some (.slice V 10 cv) := S6.cell 3
  have c7 : ∃ a, V = some a ∧ w3.cell? (a.add 0) = some (.int .u8 7) := by
    obtain ⟨A, c, e, h1, h2, h3⟩ := (((hu.mono hG4).mono hG5).sat S6).1
    cases e
    exact h3 0 _ rfl
  obtain ⟨⟨vb, vo, vf⟩, rfl, c7⟩ := c7
  have e7 : (⟨vb, vo, vf⟩ : Addr).add 0 = ⟨vb, vo, vf⟩ := by unfold Addr.add; split <;> simp_all
  rw [e7] at c7
  clear e0 hq hu h0 e7
  go_wp2_with (first | (go_at_call 12; (with_reducible refine (hlen _).mono ?_); rintro e w9 ⟨rfl, rfl⟩) | (go_at_call 13; (with_reducible refine (hroom _).mono ?_); rintro e w9 ⟨rfl, rfl⟩) | (go_at_call 15; (with_reducible refine (hcells _).mono ?_); rintro e w9 ⟨rfl, rfl⟩))
  exact hK.out _ _ ⟨rfl, G5, (((hG1.trans hG2).trans hG3).trans hG4).trans hG5, S6.drop⟩
end Go.Proofs.Ythenpoammpkjeaa

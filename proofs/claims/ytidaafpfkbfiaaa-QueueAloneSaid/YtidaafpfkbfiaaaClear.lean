/- The walk over Clear. -/
import Derived.Test.YtidaafpfkbfiaaaDropq
set_option linter.unusedSimpArgs false
set_option linter.unusedVariables false
namespace Go.Proofs.Ytidaafpfkbfiaaa
open Go.RowKit

def tot (Q : List (List It)) : Nat := (Q.map List.length).sum
theorem tot_take {Q : List (List It)} {k : Nat} (h : k < Q.length) : tot (Q.take (k + 1)) = tot (Q.take k) + (Q.getD k []).length := by
  unfold tot
  rw [List.take_succ_eq_append_getElem h, List.map_append, List.sum_append, List.getD_eq_getElem?_getD, List.getElem?_eq_getElem h]
  simp
theorem tot_le {Q : List (List It)} {b : Nat} (h : ∀ L ∈ Q, L.length ≤ b) : tot Q ≤ Q.length * b := by
  induction Q with
  | nil => simp [tot]
  | cons L Q ih =>
    have h1 := ih fun K hK => h K (.tail _ hK)
    have h2 := h L (.head _)
    simp only [tot, List.map_cons, List.sum_cons, List.length_cons, Nat.add_mul] at h1 ⊢
    omega
theorem clr_getD {Q : List (List It)} {k : Nat} (h : k < Q.length) : (List.replicate k [] ++ Q.drop k).getD k [] = Q.getD k [] := by
  rw [List.getD_eq_getElem?_getD, List.getD_eq_getElem?_getD, List.getElem?_append_right (by simp)]
  simp
theorem clr_set {Q : List (List It)} {k : Nat} (h : k < Q.length) : (List.replicate k ([] : List It) ++ Q.drop k).set k [] = List.replicate (k + 1) [] ++ Q.drop (k + 1) := by
  rw [List.set_append_right _ _ (by simp)]
  simp only [List.length_replicate, Nat.sub_self]
  rw [List.drop_eq_getElem_cons h, List.set_cons_zero, List.replicate_succ', List.append_assoc]
  rfl
theorem clr_len {Q : List (List It)} {k : Nat} (h : k ≤ Q.length) : (List.replicate k ([] : List It) ++ Q.drop k).length = Q.length := by simp; omega
section
variable {G : Gnd} {w w' : World} {l : List Asrt} {q : Nat} {Q : List (List It)} {B I : Int}
set_option maxHeartbeats 1000000 in
theorem qu_clear (H : Sat G w (quA q Q B I :: l)) (hw : QWf Q B I) : Calls Try.prog 16 #[.pointer (some ⟨q, 0, none⟩)] w fun e w' => e = .returned (.int .i64 (tot Q)) ∧ Sat G w' (quA q (List.replicate Q.length []) B I :: l) := by
  refine calls_any fun K hK => ?_
  have hm64 := hw.m1
  have hi1 := hw.i1
  have HTT := Lib.hid fun k (h : k < Q.length) => tot_take h
  have HTB : Hid (∀ k, tot (Q.take k) ≤ 262144) := Lib.hid fun k => by
    have h1 := tot_le (Q := Q.take k) (b := 4096) fun L hL => by have := (hw.sz L (List.mem_of_mem_take hL)).2; omega
    have h2 : (Q.take k).length * 4096 ≤ 64 * 4096 := Nat.mul_le_mul_right _ (by rw [List.length_take]; omega)
    omega
  obtain ⟨A, cap, hc⟩ := qu_lines H
  go_enter Try.func16, Try.ntmps16
  go_wp2_with fail
  go_loopw [3, 10] (fun s i wr => ∃ k : Nat, k ≤ Q.length ∧ i = .int .i64 k ∧ s = .int .i64 (tot (Q.take k)) ∧ Sat G wr (quA q (List.replicate k [] ++ Q.drop k) B I :: l)) (fun _ i _ => Q.length - (intOf i).toNat)
  case atStart => exact ⟨0, Nat.zero_le _, rfl, by simp [tot], by simpa using H⟩
  case round =>
    obtain ⟨k, hk, rfl, rfl, S1⟩ := hrel
    clear H hc
    by_cases hlt : k < Q.length
    · obtain ⟨M, g, cap, cur, ⟨xv, xL⟩, hM, hml, hL, hcap, hx, hxL, S⟩ := qu_open S1 k (by rw [clr_len hk]; exact hlt)
      simp only at hxL
      rw [clr_getD hlt] at hxL
      rw [clr_len hk] at hml
      subst hxL
      obtain ⟨F, hF, hFo, S2⟩ := ln_iff.1 S
      simp only at hF S2
      obtain ⟨X, cx, rfl, -, -, -⟩ := S2.ownSlice
      obtain ⟨k0, k1, ksz⟩ := lay_two hL hx
      simp only at k0 k1
      have hfl : F.length = (Q.getD k []).length := by rw [← hF, List.length_map]
      have q0 := S2.pull2.cell 0
      simp only [List.getElem?_toArray, List.getElem?_cons_zero] at q0
      have c0 := (S2.swap.cell (k * 2)).trans k0
      have c1 := (S2.swap.cell (k * 2 + 1)).trans k1
      have f0 := S2.swap.frozen (k * 2)
      have f1 := S2.swap.frozen (k * 2 + 1)
      have htt := HTT.out k hlt
      have ht1 := HTB.out k
      have ht2 := HTB.out (k + 1)
      have HTK := Lib.hid htt
      rw [← hfl] at htt
      have hwr : IntKind.i64.wrap ((tot (Q.take k) : Int) + (F.length : Int)) = ((tot (Q.take (k + 1)) : Nat) : Int) := by rw [IntWalk.i64_in _ (by omega)]; omega
      have S3 := (S2.swap.setCell (k * 2) (.slice none 0 0)).setCell (k * 2 + 1) (.int .i64 0)
      have S4 := S3.swap.drop
      have S5 : Sat G _ (lnA ⟨.slice none 0 0, []⟩ :: _) := ln_iff.2 ⟨[], rfl, (fun e he => by cases he), S4.ownNil _ _⟩
      have S6 := qu_close S5 rfl hM (by omega) (lay_put hL (by omega) ⟨.slice none 0 0, []⟩ 0 rfl) hcap
      rw [clr_set hlt] at S6
      have HS6 := Lib.hid S6
      have hbd : (tot (Q.take k) : Int) + (F.length : Int) ≤ 300000 := by omega
      have hml2 : k < M.length := by omega
      clear S S1 S2 S3 S4 S5 S6 hL hF hx htt ht2 hfl hFo hM k0 k1
      generalize tot (Q.take k) = t1 at *
      obtain ⟨t2, ht2e⟩ : ∃ t2, t2 = tot (Q.take (k + 1)) := ⟨_, rfl⟩
      rw [← ht2e] at hwr
      have HT2 := Lib.hid ht2e
      clear ht2e
      generalize hFn : F.length = fn at *
      clear hFn
      go_wp2_with fail
      go_roundw
      case rel => exact ⟨k + 1, by omega, by go_num, by rw [← HT2.out], HS6.out⟩
      case measure => simp [intOf]; omega
    · obtain rfl : k = Q.length := by omega
      rw [List.take_length]
      simp only [List.drop_length, List.append_nil] at S1
      have HS := Lib.hid S1
      clear S1
      go_wp2_with fail
      exact hK.out _ _ ⟨rfl, HS.out⟩
end
end Go.Proofs.Ytidaafpfkbfiaaa

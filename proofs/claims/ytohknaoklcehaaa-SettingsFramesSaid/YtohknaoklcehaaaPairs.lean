/- The walks over Pairs and Share. -/
import Derived.Test.YtohknaoklcehaaaApp
import Derived.Test.YtohknaoklcehaaaOwn
import Derived.IntWalk
set_option linter.unusedSimpArgs false
set_option linter.unusedVariables false
namespace Go.Proofs.Ytohknaoklcehaaa
open Go.RowKit

def share6 (s : S6) (t : Int) : Int := if t < 1 ∨ 64 < t then 0 else min (s.c / t) 65536
theorem set_share (s : S6) (t : Int) (w : World) (h0 : 0 ≤ s.c) (hc : s.c ≤ 4294967295) : Calls Try.prog 16 #[.agg (cells6 s), .int .i64 t] w fun e w' => e = .returned (.int .i64 (share6 s t)) ∧ Below w.heap.size w w' := by
  refine calls_any fun K hK => ?_
  have BB : ∀ A, Below w.heap.size w (w.alloc A) := fun A => (Below.refl _ _).alloc (Nat.le_refl _) A
  unfold cells6
  by_cases h1 : t < 1
  · go_enter Try.func16, Try.ntmps16
    go_wp2_with fail
    exact hK.out _ _ ⟨by unfold share6; rw [if_pos (.inl h1)]; rfl, BB _⟩
  · by_cases h2 : 64 < t
    · go_enter Try.func16, Try.ntmps16
      go_wp2_with fail
      exact hK.out _ _ ⟨by unfold share6; rw [if_pos (.inr h2)], BB _⟩
    · have h3 : share6 s t = min (s.c / t) 65536 := by unfold share6; rw [if_neg (by omega)]
      have h4 : s.c.tdiv t = s.c / t := Int.tdiv_eq_ediv_of_nonneg h0
      have h5 : 0 ≤ s.c / t := Int.ediv_nonneg h0 (by omega)
      have h6 : s.c / t ≤ s.c := Int.ediv_le_self _ h0
      have h7 : IntKind.i64.wrap (s.c.tdiv t) = s.c / t := by rw [h4]; exact IntWalk.i64_in _ ⟨by omega, by omega⟩
      generalize s.c / t = d at *
      by_cases h8 : d ≤ 65536
      · go_enter Try.func16, Try.ntmps16
        go_wp2_with fail
        all_goals exact hK.out _ _ ⟨by rw [h3]; congr 2; omega, BB _⟩
      · go_enter Try.func16, Try.ntmps16
        go_wp2_with fail
        all_goals exact hK.out _ _ ⟨by rw [h3]; congr 2; omega, BB _⟩
def vals6 (s : S6) : List Int := [s.a, s.b, s.c, s.d, s.e, s.f]
def pairs6 (s : S6) : List (Int × Int) := [(1, s.a), (2, s.b), (3, s.c), (4, s.d), (5, s.e), (6, s.f)]
def pcells (ps : List (Int × Int)) : List Value := ps.flatMap fun p => [.int .i64 p.1, .int .i64 p.2]
theorem pcells_get : ∀ (ps : List (Int × Int)) (i : Nat) (p : Int × Int), ps[i]? = some p → (pcells ps)[2 * i]? = some (.int .i64 p.1) ∧ (pcells ps)[2 * i + 1]? = some (.int .i64 p.2)
  | [], i, p, h => by simp at h
  | q :: ps, 0, p, h => by simp at h; subst h; simp [pcells]
  | q :: ps, i + 1, p, h => by
    have := pcells_get ps i p (by simpa using h)
    have e : 2 * (i + 1) = 2 * i + 1 + 1 := by omega
    simp only [pcells, List.flatMap_cons, List.cons_append, List.nil_append, e, List.getElem?_cons_succ] at this ⊢
    exact this
theorem pcells_length (ps : List (Int × Int)) : (pcells ps).length = ps.length * 2 := by
  induction ps with
  | nil => rfl
  | cons p ps ih => simp only [pcells, List.flatMap_cons, List.length_append, List.length_cons, List.length_nil] at ih ⊢; omega
/-- A slice of one's own, that nobody turns any more. -/
theorem RPairs.of_own {G : Gnd} {w : World} {l : List Asrt} {v : Value} {ps : List (Int × Int)} (H : Sat G w (ownS 31 2 v ps.length (pcells ps) :: l)) : ∃ G', G.le G' ∧ Sat G' w l ∧ RPairs G'.ro v ps := by
  obtain ⟨G', hG, H', A, c, hv, hm, hl, hr⟩ := H.ownFreeze
  refine ⟨G', hG, H', A, c, hv, Nat.le_trans hm (Nat.le_of_eq (by decide : maxLen = 9223372036854775807)), fun i p hp => ?_⟩
  obtain ⟨h0, h1⟩ := pcells_get ps i p hp
  obtain ⟨g, rfl, hc0⟩ := hr _ _ h0
  obtain ⟨g', hg, hc1⟩ := hr _ _ h1
  cases hg
  exact ⟨_, g, 2 * i, rfl, by
    rcases Nat.eq_zero_or_pos i with h | h
    · subst h; rfl
    · have : i * 2 ≠ 0 := by omega
      simp [Addr.add, this, Nat.mul_comm], hc0, hc1⟩
theorem info_p2 : (Try.prog.info? 31).map (fun i => (i.zero, i.size, i.bytes)) = some (some (.agg #[.int .i64 0, .int .i64 0]), 2, 16) := by kernel_rfl
theorem run_index_rule (q k : Nat) (hk : k < 6) : ∃ lo hi c : Int, ∀ w, (Instr.index 63 (.agg (rules q)) (.int .i64 k)).run Try.prog w = .ok (.agg #[.pointer (some ⟨q, k, none⟩), .int .i64 lo, .int .i64 hi, .int .i64 c]) w := by
  have h6 : k = 0 ∨ k = 1 ∨ k = 2 ∨ k = 3 ∨ k = 4 ∨ k = 5 := by omega
  rcases h6 with rfl | rfl | rfl | rfl | rfl | rfl
  · exact ⟨0, 4294967295, 101, fun w => by simp [Instr.index, go_sem, run_underlying Try.underlying63, rules]⟩
  · exact ⟨0, 1, 101, fun w => by simp [Instr.index, go_sem, run_underlying Try.underlying63, rules]⟩
  · exact ⟨0, 4294967295, 101, fun w => by simp [Instr.index, go_sem, run_underlying Try.underlying63, rules]⟩
  · exact ⟨0, 2147483647, 103, fun w => by simp [Instr.index, go_sem, run_underlying Try.underlying63, rules]⟩
  · exact ⟨16384, 16777215, 101, fun w => by simp [Instr.index, go_sem, run_underlying Try.underlying63, rules]⟩
  · exact ⟨0, 4294967295, 101, fun w => by simp [Instr.index, go_sem, run_underlying Try.underlying63, rules]⟩
theorem pairs6_take (s : S6) (k : Nat) (hk : k < 6) : ∃ x, (cells6 s)[k]? = some (.int .i64 x) ∧ pcells ((pairs6 s).take (k + 1)) = pcells ((pairs6 s).take k) ++ [.int .i64 (k + 1), .int .i64 x] := by
  have h6 : k = 0 ∨ k = 1 ∨ k = 2 ∨ k = 3 ∨ k = 4 ∨ k = 5 := by omega
  rcases h6 with rfl | rfl | rfl | rfl | rfl | rfl <;> exact ⟨_, rfl, rfl⟩
set_option maxHeartbeats 4000000 in
set_option maxRecDepth 100000 in
theorem set_pairs {G : Gnd} {w : World} {l : List Asrt} (H : Sat G w l) (s : S6) :
    Calls Try.prog 15 #[.agg (cells6 s)] w fun e w' => ∃ v G', e = .returned v ∧ G.le G' ∧ RPairs G'.ro v (pairs6 s) ∧ Sat G' w' l := by
  refine calls_any fun K hK => ?_
  have S0 := H.newBlk (cells6 s) 26
  have HS := Lib.hid S0
  clear S0 H
  go_enter Try.func15, Try.ntmps15
  go_wp2_with fail
  (with_reducible refine (set_rules _ _).mono ?_)
  rintro e w1 ⟨rfl, hb1⟩
  have S1 := (HS.out.below hb1).ownNil 31 2
  clear hb1 HS
  go_wp2_with fail
  generalize w.heap.size = q at *
  go_loopw [3, 7] (fun x i wr => ∃ k : Nat, k ≤ 6 ∧ i = .int .i64 k ∧ Sat G wr (ownS 31 2 x k (pcells ((pairs6 s).take k)) :: blk q (cells6 s) 26 :: l)) (fun _ i _ => 6 - (intOf i).toNat)
  case atStart => exact ⟨0, Nat.zero_le _, rfl, S1⟩
  case round =>
    obtain ⟨k, hk, rfl, S⟩ := hrel
    clear S1
    by_cases hlt : k < 6
    · obtain ⟨x, hx, hp⟩ := pairs6_take s k hlt
      have hc : wr.cell? ⟨q, k, none⟩ = some (.int .i64 x) := (S.swap.cell k).trans hx
      obtain ⟨lo, hi, cd, hidx⟩ := run_index_rule q k hlt
      have hq := S.swap.blk_lt
      have HP := Lib.hid hp
      clear hp hx
      have HS : ∀ W, Below wr.heap.size wr W → Sat G W (ownS 31 2 u3 k (pcells ((pairs6 s).take k)) :: blk q (cells6 s) 26 :: l) := fun W h => S.below h
      clear S
      go_wp2_with (at_builtin; refine st_append rfl _ _ 23 rfl 31 (.agg #[.int .i64 0, .int .i64 0]) 2 16 Try.underlying23 info_p2 rfl (by omega) u3 k (pcells ((pairs6 s).take k)) rfl (HS _ (by (repeat (first | exact Below.refl _ _ | refine Below.setCell ?_ (by simp; try omega) _ | refine Below.alloc ?_ (by simp; try omega) _ | refine Below.drew ?_)))) ⟨wr.heap.size + 1, 0, none⟩ 1 1 [.int .i64 (k + 1), .int .i64 x] rfl rfl (alloc_cells _ _ #[.int .i64 (k + 1), .int .i64 x] _ (by simp)) rfl (Nat.le_trans (show k + 1 ≤ 6 by omega) (by decide)) (by omega) ?_; intro v' w' S')
      go_roundw
      case rel => exact ⟨k + 1, by omega, by go_num, by rw [HP.out]; exact S'⟩
      case measure => simp [intOf]; omega
    · have e6 : k = 6 := by omega
      subst e6
      have HS := Lib.hid S
      clear S
      go_wp2_with fail
      obtain ⟨G', hG, H', hr⟩ := RPairs.of_own (ps := pairs6 s) HS.out
      exact hK.out _ _ ⟨_, G', rfl, hG, hr, H'.drop⟩
end Go.Proofs.Ytohknaoklcehaaa

/- The walks over Apply, over the reference's One, and over the small ones beside them. -/
import Derived.Test.YtohknaoklcehaaaSet
import Derived.Test.YtohknaoklcehaaaArgs
set_option linter.unusedSimpArgs false
set_option linter.unusedVariables false
namespace Go.Proofs.Ytohknaoklcehaaa
open Go.RowKit

def first6 : S6 := ⟨4096, 1, 4294967295, 65535, 16384, 4294967295⟩
theorem set_first (w : World) : Calls Try.prog 9 #[] w fun e w' => e = .returned (.agg (cells6 first6)) ∧ Below w.heap.size w w' := by
  refine calls_any fun K hK => ?_
  go_enter Try.func9, Try.ntmps9
  go_wp2_with fail
  refine bodyPost_ret (v := .agg (cells6 first6)) (by simp [cells6, first6, results, Try.results9, go_sem]) rfl ?_
  exact hK.out _ _ ⟨rfl, (Below.refl _ _).alloc (Nat.le_refl _) _⟩
theorem ref_first (w : World) : Calls Try.prog 10 #[] w fun e w' => e = .returned (.agg (cells6 first6)) ∧ Below w.heap.size w w' := by
  refine calls_any fun K hK => ?_
  go_enter Try.func10, Try.ntmps10
  go_wp2_with fail
  refine bodyPost_ret (v := .agg (cells6 first6)) (by simp [cells6, first6, results, Try.results10, go_sem]) rfl ?_
  exact hK.out _ _ ⟨rfl, (Below.refl _ _).alloc (Nat.le_refl _) _⟩
theorem law_numbers (s : S6) (w : World) : Calls Try.prog 11 #[.agg (cells6 s)] w fun e w' => e = .returned (.agg (cells6 s)) ∧ Below w.heap.size w w' := by
  refine calls_any fun K hK => ?_
  unfold cells6
  go_enter Try.func11, Try.ntmps11
  go_wp2_with fail
  refine bodyPost_ret (v := .agg (cells6 s)) (by simp [cells6, results, Try.results11, go_sem]) rfl ?_
  exact hK.out _ _ ⟨rfl, ((Below.refl _ _).alloc (Nat.le_refl _) _).alloc (by simp) _⟩
set_option maxHeartbeats 4000000 in
set_option maxRecDepth 100000 in
theorem ref_one (s : S6) (n v : Int) (w : World) : Calls Try.prog 12 #[.agg (cells6 s), .int .i64 n, .int .i64 v] w fun e w' => e = .returned (.tuple #[.agg (cells6 (one6 s n v).1), .int .i64 (one6 s n v).2]) ∧ Below w.heap.size w w' := by
  refine calls_any fun K hK => ?_
  have hone : ∀ r : S6 × Int, one6 s n v = r → Hid (∀ (e : Ending) (w' : World), e = .returned (.tuple #[.agg (cells6 r.1), .int .i64 r.2]) ∧ Below w.heap.size w w' → K e w') := by
    rintro r rfl; exact hK
  clear hK
  have BB : ∀ A B, Below w.heap.size w ((w.alloc A).alloc B) := fun A B => ((Below.refl _ _).alloc (Nat.le_refl _) A).alloc (by simp) B
  have HB := Lib.hid BB
  clear BB
  unfold cells6
  by_cases h1 : v < 0
  · have hK := hone (s, 101) (by unfold one6; rw [if_pos (.inl h1)])
    clear hone
    go_enter Try.func12, Try.ntmps12
    go_wp2_with fail
    refine bodyPost_ret (v := .tuple #[.agg (cells6 s), .int .i64 101]) (by simp [cells6, results, Try.results12, go_sem]) rfl ?_
    exact hK.out _ _ ⟨rfl, HB.out _ _⟩
  by_cases h2 : 4294967295 < v
  · have hK := hone (s, 101) (by unfold one6; rw [if_pos (.inr h2)])
    clear hone
    go_enter Try.func12, Try.ntmps12
    go_wp2_with fail
    refine bodyPost_ret (v := .tuple #[.agg (cells6 s), .int .i64 101]) (by simp [cells6, results, Try.results12, go_sem]) rfl ?_
    exact hK.out _ _ ⟨rfl, HB.out _ _⟩
  by_cases h3 : n < 1
  · have hK := hone (s, 0) (by unfold one6; rw [if_neg (by omega), if_pos (.inl h3)])
    clear hone
    go_enter Try.func12, Try.ntmps12
    go_wp2_with fail
    refine bodyPost_ret (v := .tuple #[.agg (cells6 s), .int .i64 0]) (by simp [cells6, results, Try.results12, go_sem]) rfl ?_
    exact hK.out _ _ ⟨rfl, HB.out _ _⟩
  by_cases h4 : 6 < n
  · have hK := hone (s, 0) (by unfold one6; rw [if_neg (by omega), if_pos (.inr h4)])
    clear hone
    go_enter Try.func12, Try.ntmps12
    go_wp2_with fail
    refine bodyPost_ret (v := .tuple #[.agg (cells6 s), .int .i64 0]) (by simp [cells6, results, Try.results12, go_sem]) rfl ?_
    exact hK.out _ _ ⟨rfl, HB.out _ _⟩
  by_cases n1 : n = 1
  · subst n1
    have hK := hone ({ s with a := v }, 0) (by unfold one6 S6.set; rw [if_neg (by omega), if_neg (by omega), if_neg (by omega), if_neg (by omega), if_neg (by omega)]; rfl)
    clear hone
    go_enter Try.func12, Try.ntmps12; go_wp2_with fail; refine bodyPost_ret (v := .tuple #[.agg (cells6 { s with a := v }), .int .i64 0]) (by simp [cells6, results, Try.results12, go_sem]) rfl ?_; exact hK.out _ _ ⟨rfl, HB.out _ _⟩
  by_cases n2 : n = 2
  · subst n2
    by_cases bad : 1 < v
    · have hK := hone (s, 101) (by unfold one6; rw [if_neg (by omega), if_neg (by omega), if_pos ⟨rfl, bad⟩])
      clear hone
      go_enter Try.func12, Try.ntmps12
      go_wp2_with fail
      refine bodyPost_ret (v := .tuple #[.agg (cells6 s), .int .i64 101]) (by simp [cells6, results, Try.results12, go_sem]) rfl ?_
      exact hK.out _ _ ⟨rfl, HB.out _ _⟩
    have hK := hone ({ s with b := v }, 0) (by unfold one6 S6.set; rw [if_neg (by omega), if_neg (by omega), if_neg (by omega), if_neg (by omega), if_neg (by omega)]; rfl)
    clear hone
    go_enter Try.func12, Try.ntmps12; go_wp2_with fail; refine bodyPost_ret (v := .tuple #[.agg (cells6 { s with b := v }), .int .i64 0]) (by simp [cells6, results, Try.results12, go_sem]) rfl ?_; exact hK.out _ _ ⟨rfl, HB.out _ _⟩
  by_cases n3 : n = 3
  · subst n3
    have hK := hone ({ s with c := v }, 0) (by unfold one6 S6.set; rw [if_neg (by omega), if_neg (by omega), if_neg (by omega), if_neg (by omega), if_neg (by omega)]; rfl)
    clear hone
    go_enter Try.func12, Try.ntmps12; go_wp2_with fail; refine bodyPost_ret (v := .tuple #[.agg (cells6 { s with c := v }), .int .i64 0]) (by simp [cells6, results, Try.results12, go_sem]) rfl ?_; exact hK.out _ _ ⟨rfl, HB.out _ _⟩
  by_cases n4 : n = 4
  · subst n4
    by_cases bad : 2147483647 < v
    · have hK := hone (s, 103) (by unfold one6; rw [if_neg (by omega), if_neg (by omega), if_neg (by omega), if_pos ⟨rfl, bad⟩])
      clear hone
      go_enter Try.func12, Try.ntmps12
      go_wp2_with fail
      refine bodyPost_ret (v := .tuple #[.agg (cells6 s), .int .i64 103]) (by simp [cells6, results, Try.results12, go_sem]) rfl ?_
      exact hK.out _ _ ⟨rfl, HB.out _ _⟩
    have hK := hone ({ s with d := v }, 0) (by unfold one6 S6.set; rw [if_neg (by omega), if_neg (by omega), if_neg (by omega), if_neg (by omega), if_neg (by omega)]; rfl)
    clear hone
    go_enter Try.func12, Try.ntmps12; go_wp2_with fail; refine bodyPost_ret (v := .tuple #[.agg (cells6 { s with d := v }), .int .i64 0]) (by simp [cells6, results, Try.results12, go_sem]) rfl ?_; exact hK.out _ _ ⟨rfl, HB.out _ _⟩
  by_cases n5 : n = 5
  · subst n5
    by_cases bad : v < 16384
    · have hK := hone (s, 101) (by unfold one6; rw [if_neg (by omega), if_neg (by omega), if_neg (by omega), if_neg (by omega), if_pos ⟨rfl, .inl bad⟩])
      clear hone
      go_enter Try.func12, Try.ntmps12
      go_wp2_with fail
      refine bodyPost_ret (v := .tuple #[.agg (cells6 s), .int .i64 101]) (by simp [cells6, results, Try.results12, go_sem]) rfl ?_
      exact hK.out _ _ ⟨rfl, HB.out _ _⟩
    by_cases bad2 : 16777215 < v
    · have hK := hone (s, 101) (by unfold one6; rw [if_neg (by omega), if_neg (by omega), if_neg (by omega), if_neg (by omega), if_pos ⟨rfl, .inr bad2⟩])
      clear hone
      go_enter Try.func12, Try.ntmps12
      go_wp2_with fail
      refine bodyPost_ret (v := .tuple #[.agg (cells6 s), .int .i64 101]) (by simp [cells6, results, Try.results12, go_sem]) rfl ?_
      exact hK.out _ _ ⟨rfl, HB.out _ _⟩
    have hK := hone ({ s with e := v }, 0) (by unfold one6 S6.set; rw [if_neg (by omega), if_neg (by omega), if_neg (by omega), if_neg (by omega), if_neg (by omega)]; rfl)
    clear hone
    go_enter Try.func12, Try.ntmps12; go_wp2_with fail; refine bodyPost_ret (v := .tuple #[.agg (cells6 { s with e := v }), .int .i64 0]) (by simp [cells6, results, Try.results12, go_sem]) rfl ?_; exact hK.out _ _ ⟨rfl, HB.out _ _⟩
  have n6 : n = 6 := by omega
  subst n6
  have hK := hone ({ s with f := v }, 0) (by unfold one6 S6.set; rw [if_neg (by omega), if_neg (by omega), if_neg (by omega), if_neg (by omega), if_neg (by omega)]; rfl)
  clear hone
  go_enter Try.func12, Try.ntmps12; go_wp2_with fail; refine bodyPost_ret (v := .tuple #[.agg (cells6 { s with f := v }), .int .i64 0]) (by simp [cells6, results, Try.results12, go_sem]) rfl ?_; exact hK.out _ _ ⟨rfl, HB.out _ _⟩
end Go.Proofs.Ytohknaoklcehaaa

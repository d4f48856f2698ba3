/- The walks over the window's functions: what each answers, and what it leaves. -/
import Derived.Test.YtkjelbnkfnifgaaSat
import Derived.Test.YtkjelbnkfnifgaaCall
set_option linter.unusedSimpArgs false
set_option linter.unusedVariables false
namespace Go.Proofs.Ytkjelbnkfnifgaa
open Go.RowKit

def winRight (n : Int) : Bool := decide (0 ≤ n) && decide (n ≤ 2147483647)
theorem win_right (n : Int) (w : World) : Calls Try.prog 28 #[.int .i64 n] w fun e w' => e = .returned (.bool (winRight n)) ∧ w = w' := by
  refine calls_any fun K hK => ?_
  by_cases h : 0 ≤ n
  · go_enter Try.func28, Try.ntmps28
    go_wp2
    exact hK.out _ _ ⟨by simp [winRight, h], rfl⟩
  · go_enter Try.func28, Try.ntmps28
    go_wp2
    exact hK.out _ _ ⟨by simp [winRight]; omega, rfl⟩
/-- What set leaves, and answers. -/
def winSet (m n : Int) : Int × Int := if 2147483647 < n then (m, 103) else if n < -2147483648 then (m, 11) else (n, 0)
theorem win_set (b off : Nat) (m n : Int) (w : World) (hc : w.cell? ⟨b, off, none⟩ = some (.int .i64 m)) (hf : w.frozen? ⟨b, off, none⟩ = false) :
    Calls Try.prog 29 #[.pointer (some ⟨b, off, none⟩), .int .i64 n] w fun e w' => e = .returned (.int .i64 (winSet m n).2) ∧ w' = w.setCell ⟨b, off, none⟩ (.int .i64 (winSet m n).1) := by
  refine calls_any fun K hK => ?_
  by_cases h1 : 2147483647 < n
  · go_enter Try.func29, Try.ntmps29
    go_wp2
    exact hK.out _ _ ⟨by simp [winSet, h1], by simp only [winSet, if_pos h1]; exact (setCell_self hc).symm⟩
  · by_cases h2 : n < -2147483648
    · go_enter Try.func29, Try.ntmps29
      go_wp2
      exact hK.out _ _ ⟨by simp only [winSet]; rw [if_neg (by omega), if_pos h2], by simp only [winSet]; rw [if_neg (by omega), if_pos h2]; exact (setCell_self hc).symm⟩
    · go_enter Try.func29, Try.ntmps29
      go_wp2
      exact hK.out _ _ ⟨by simp only [winSet]; rw [if_neg (by omega), if_neg (by omega)], by simp only [winSet]; rw [if_neg (by omega), if_neg (by omega)]⟩
theorem win_size (n : Int) (w : World) : Calls Try.prog 23 #[.agg #[.int .i64 n]] w fun e w' => e = .returned (.int .i64 n) ∧ Below w.heap.size w w' := by
  refine calls_any fun K hK => ?_
  go_enter Try.func23, Try.ntmps23
  go_wp2
  exact hK.out _ _ ⟨rfl, (Below.refl _ _).alloc (Nat.le_refl _) _⟩
def winNew (n : Int) : Int × Int := if winRight n = true then (n, 0) else (0, 11)
theorem win_new (n : Int) (w : World) : Calls Try.prog 19 #[.int .i64 n] w fun e w' => e = .returned (.tuple #[.agg #[.int .i64 (winNew n).1], .int .i64 (winNew n).2]) ∧ Below w.heap.size w w' := by
  refine calls_any fun K hK => ?_
  cases h : winRight n with
  | true =>
    have hc := win_right n
    rw [h] at hc
    go_enter Try.func19, Try.ntmps19
    go_wp2_with (go_at_call 28; refine (hc _).mono ?_; rintro e w' ⟨rfl, rfl⟩)
    refine bodyPost_ret (v := .tuple #[.agg #[.int .i64 n], .int .i64 0]) (by simp [results, Try.results19, go_sem]) rfl ?_
    exact hK.out _ _ ⟨by simp [winNew, h], (Below.refl _ _).alloc (Nat.le_refl _) _⟩
  | false =>
    have hc := win_right n
    rw [h] at hc
    go_enter Try.func19, Try.ntmps19
    go_wp2_with (go_at_call 28; refine (hc _).mono ?_; rintro e w' ⟨rfl, rfl⟩)
    refine bodyPost_ret (v := .tuple #[.agg #[.int .i64 0], .int .i64 11]) (by simp [results, Try.results19, go_sem]) rfl ?_
    exact hK.out _ _ ⟨by simp [winNew, h], (Below.refl _ _).alloc (Nat.le_refl _) _⟩
def winCan (m n : Int) : Bool := n == 0 || (decide (0 < n) && decide (n ≤ m))
theorem win_can (m n : Int) (w : World) : Calls Try.prog 30 #[.agg #[.int .i64 m], .int .i64 n] w fun e w' => e = .returned (.bool (winCan m n)) ∧ Below w.heap.size w w' := by
  refine calls_any fun K hK => ?_
  by_cases h : n = 0
  · subst h
    go_enter Try.func30, Try.ntmps30
    go_wp2
    exact hK.out _ _ ⟨by simp [winCan], (Below.refl _ _).alloc (Nat.le_refl _) _⟩
  · have hb : (n == 0) = false := by simpa using h
    by_cases h2 : 0 < n
    · go_enter Try.func30, Try.ntmps30
      go_wp2
      exact hK.out _ _ ⟨by simp [winCan, h, h2], (Below.refl _ _).alloc (Nat.le_refl _) _⟩
    · go_enter Try.func30, Try.ntmps30
      go_wp2
      exact hK.out _ _ ⟨by simp [winCan, h]; omega, (Below.refl _ _).alloc (Nat.le_refl _) _⟩
def winGrow (m n : Int) : Int × Int := if winRight n = true then (if n = 0 then (m, 11) else winSet m (m + n)) else (m, 11)
theorem win_grow (b off : Nat) (m n : Int) (w : World) (h0 : -2147483648 ≤ m) (h1 : m ≤ 2147483647) (hc : w.cell? ⟨b, off, none⟩ = some (.int .i64 m)) (hf : w.frozen? ⟨b, off, none⟩ = false) :
    Calls Try.prog 20 #[.pointer (some ⟨b, off, none⟩), .int .i64 n] w fun e w' => e = .returned (.int .i64 (winGrow m n).2) ∧ w' = w.setCell ⟨b, off, none⟩ (.int .i64 (winGrow m n).1) := by
  refine calls_any fun K hK => ?_
  have hs := setCell_self hc
  cases h : winRight n with
  | true =>
    have hr := win_right n
    rw [h] at hr
    have hn : 0 ≤ n ∧ n ≤ 2147483647 := by simpa [winRight] using h
    obtain ⟨n0, n1⟩ := hn
    by_cases hz : n = 0
    · subst hz
      clear hs
      go_enter Try.func20, Try.ntmps20
      go_wp2_with (go_at_call 28; refine (hr _).mono ?_; rintro e w' ⟨rfl, rfl⟩)
      exact hK.out _ _ ⟨by simp [winGrow, h], by simp only [winGrow, h, if_true]; exact (setCell_self hc).symm⟩
    · have hb : (n == 0) = false := by simpa using hz
      clear hs
      go_enter Try.func20, Try.ntmps20
      go_wp2_with (first | (go_at_call 28; refine (hr _).mono ?_; rintro e w' ⟨rfl, rfl⟩) | (go_at_call 29; refine (win_set b off m (m + n) _ hc hf).mono ?_; rintro e w' ⟨rfl, rfl⟩))
      exact hK.out _ _ ⟨by simp [winGrow, h, hz], by simp [winGrow, h, hz]⟩
  | false =>
    have hr := win_right n
    rw [h] at hr
    clear hs
    go_enter Try.func20, Try.ntmps20
    go_wp2_with (go_at_call 28; refine (hr _).mono ?_; rintro e w' ⟨rfl, rfl⟩)
    exact hK.out _ _ ⟨by simp [winGrow, h], by simp only [winGrow, h]; exact (setCell_self hc).symm⟩
def winSpend (m n : Int) : Int × Int := if winRight n = true then (if winCan m n = true then winSet m (m - n) else (m, 15)) else (m, 11)
theorem win_spend (b off : Nat) (m n : Int) (w : World) (h0 : -2147483648 ≤ m) (h1 : m ≤ 2147483647) (hc : w.cell? ⟨b, off, none⟩ = some (.int .i64 m)) (hf : w.frozen? ⟨b, off, none⟩ = false) :
    Calls Try.prog 22 #[.pointer (some ⟨b, off, none⟩), .int .i64 n] w fun e w' => e = .returned (.int .i64 (winSpend m n).2) ∧
      ∃ w1, Below w.heap.size w w1 ∧ w' = w1.setCell ⟨b, off, none⟩ (.int .i64 (winSpend m n).1) := by
  refine calls_any fun K hK => ?_
  cases h : winRight n with
  | true =>
    have hr := win_right n
    rw [h] at hr
    have hn : 0 ≤ n ∧ n ≤ 2147483647 := by simpa [winRight] using h
    obtain ⟨n0, n1⟩ := hn
    have hcan := win_can m n
    cases h2 : winCan m n with
    | true =>
      rw [h2] at hcan
      go_enter Try.func22, Try.ntmps22
      go_wp2_with (first | (go_at_call 28; refine (hr _).mono ?_; rintro e w' ⟨rfl, rfl⟩) | (go_at_call 30; refine (hcan _).mono ?_; rintro e w1 ⟨rfl, hb⟩; have hb' := Lib.hid hb; obtain ⟨hcb, hfb⟩ := And.intro ((hb.cell (p := ⟨b, off, none⟩) (World.block_lt_of_cell? _ _ hc)).trans hc) ((hb.frozen (p := ⟨b, off, none⟩) (World.block_lt_of_cell? _ _ hc)).trans hf)) | (go_at_call 29; refine (win_set b off m (m - n) _ hcb hfb).mono ?_; rintro e w' ⟨rfl, rfl⟩))
      exact hK.out _ _ ⟨by simp [winSpend, h, h2], _, hb'.out, by simp [winSpend, h, h2]⟩
    | false =>
      rw [h2] at hcan
      go_enter Try.func22, Try.ntmps22
      go_wp2_with (first | (go_at_call 28; refine (hr _).mono ?_; rintro e w' ⟨rfl, rfl⟩) | (go_at_call 30; refine (hcan _).mono ?_; rintro e w1 ⟨rfl, hb⟩; have hb' := Lib.hid hb))
      exact hK.out _ _ ⟨by simp [winSpend, h, h2], _, hb'.out, by simp only [winSpend, h, h2, if_true]; exact (setCell_self ((hb'.out.cell (p := ⟨b, off, none⟩) (World.block_lt_of_cell? _ _ hc)).trans hc)).symm⟩
  | false =>
    have hr := win_right n
    rw [h] at hr
    go_enter Try.func22, Try.ntmps22
    go_wp2_with (go_at_call 28; refine (hr _).mono ?_; rintro e w' ⟨rfl, rfl⟩)
    exact hK.out _ _ ⟨by simp [winSpend, h], _, Below.refl _ _, by simp only [winSpend, h]; exact (setCell_self hc).symm⟩
end Go.Proofs.Ytkjelbnkfnifgaa

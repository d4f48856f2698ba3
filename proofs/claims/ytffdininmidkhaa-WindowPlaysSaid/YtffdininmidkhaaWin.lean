/- The walks over the window's functions: what each answers, and what it leaves. -/
import Derived.Test.YtffdininmidkhaaSat
import Derived.Test.YtffdininmidkhaaCall
set_option linter.unusedSimpArgs false
set_option linter.unusedVariables false
namespace Go.Proofs.Ytffdininmidkhaa
open Go.RowKit

def winRight (n : Int) : Bool := decide (0 ≤ n) && decide (n ≤ 2147483647)
theorem win_right (n : Int) (w : World) : Calls Try.prog 18 #[.int .i64 n] w fun e w' => e = .returned (.bool (winRight n)) ∧ w = w' := by
  refine calls_any fun K hK => ?_
  by_cases h : 0 ≤ n
  · go_enter Try.func18, Try.ntmps18
    go_wp2
    exact hK.out _ _ ⟨by simp [winRight, h], rfl⟩
  · go_enter Try.func18, Try.ntmps18
    go_wp2
    exact hK.out _ _ ⟨by simp [winRight]; omega, rfl⟩
/-- What set leaves, and answers. -/
def winSet (m n : Int) : Int × Int := if 2147483647 < n then (m, 103) else if n < -2147483648 then (m, 11) else (n, 0)
theorem win_set (b off : Nat) (m n : Int) (w : World) (hc : w.cell? ⟨b, off, none⟩ = some (.int .i64 m)) (hf : w.frozen? ⟨b, off, none⟩ = false) :
    Calls Try.prog 19 #[.pointer (some ⟨b, off, none⟩), .int .i64 n] w fun e w' => e = .returned (.int .i64 (winSet m n).2) ∧ w' = w.setCell ⟨b, off, none⟩ (.int .i64 (winSet m n).1) := by
  refine calls_any fun K hK => ?_
  by_cases h1 : 2147483647 < n
  · go_enter Try.func19, Try.ntmps19
    go_wp2
    exact hK.out _ _ ⟨by simp [winSet, h1], by simp only [winSet, if_pos h1]; exact (setCell_self hc).symm⟩
  · by_cases h2 : n < -2147483648
    · go_enter Try.func19, Try.ntmps19
      go_wp2
      exact hK.out _ _ ⟨by simp only [winSet]; rw [if_neg (by omega), if_pos h2], by simp only [winSet]; rw [if_neg (by omega), if_pos h2]; exact (setCell_self hc).symm⟩
    · go_enter Try.func19, Try.ntmps19
      go_wp2
      exact hK.out _ _ ⟨by simp only [winSet]; rw [if_neg (by omega), if_neg (by omega)], by simp only [winSet]; rw [if_neg (by omega), if_neg (by omega)]⟩
theorem win_size (n : Int) (w : World) : Calls Try.prog 10 #[.agg #[.int .i64 n]] w fun e w' => e = .returned (.int .i64 n) ∧ Below w.heap.size w w' := by
  refine calls_any fun K hK => ?_
  go_enter Try.func10, Try.ntmps10
  go_wp2
  exact hK.out _ _ ⟨rfl, (Below.refl _ _).alloc (Nat.le_refl _) _⟩
def winNew (n : Int) : Int × Int := if winRight n = true then (n, 0) else (0, 11)
theorem win_new (n : Int) (w : World) : Calls Try.prog 9 #[.int .i64 n] w fun e w' => e = .returned (.tuple #[.agg #[.int .i64 (winNew n).1], .int .i64 (winNew n).2]) ∧ Below w.heap.size w w' := by
  refine calls_any fun K hK => ?_
  cases h : winRight n with
  | true =>
    have hc := win_right n
    rw [h] at hc
    go_enter Try.func9, Try.ntmps9
    go_wp2_with (go_at_call 18; refine (hc _).mono ?_; rintro e w' ⟨rfl, rfl⟩)
    refine bodyPost_ret (v := .tuple #[.agg #[.int .i64 n], .int .i64 0]) (by simp [results, Try.results9, go_sem]) rfl ?_
    exact hK.out _ _ ⟨by simp [winNew, h], (Below.refl _ _).alloc (Nat.le_refl _) _⟩
  | false =>
    have hc := win_right n
    rw [h] at hc
    go_enter Try.func9, Try.ntmps9
    go_wp2_with (go_at_call 18; refine (hc _).mono ?_; rintro e w' ⟨rfl, rfl⟩)
    refine bodyPost_ret (v := .tuple #[.agg #[.int .i64 0], .int .i64 11]) (by simp [results, Try.results9, go_sem]) rfl ?_
    exact hK.out _ _ ⟨by simp [winNew, h], (Below.refl _ _).alloc (Nat.le_refl _) _⟩
def winCan (m n : Int) : Bool := n == 0 || (decide (0 < n) && decide (n ≤ m))
theorem win_can (m n : Int) (w : World) : Calls Try.prog 15 #[.agg #[.int .i64 m], .int .i64 n] w fun e w' => e = .returned (.bool (winCan m n)) ∧ Below w.heap.size w w' := by
  refine calls_any fun K hK => ?_
  by_cases h : n = 0
  · subst h
    go_enter Try.func15, Try.ntmps15
    go_wp2
    exact hK.out _ _ ⟨by simp [winCan], (Below.refl _ _).alloc (Nat.le_refl _) _⟩
  · have hb : (n == 0) = false := by simpa using h
    by_cases h2 : 0 < n
    · go_enter Try.func15, Try.ntmps15
      go_wp2
      exact hK.out _ _ ⟨by simp [winCan, h, h2], (Below.refl _ _).alloc (Nat.le_refl _) _⟩
    · go_enter Try.func15, Try.ntmps15
      go_wp2
      exact hK.out _ _ ⟨by simp [winCan, h]; omega, (Below.refl _ _).alloc (Nat.le_refl _) _⟩
def winGrow (m n : Int) : Int × Int := if winRight n = true then (if n = 0 then (m, 11) else winSet m (m + n)) else (m, 11)
theorem win_grow (b off : Nat) (m n : Int) (w : World) (h0 : -2147483648 ≤ m) (h1 : m ≤ 2147483647) (hc : w.cell? ⟨b, off, none⟩ = some (.int .i64 m)) (hf : w.frozen? ⟨b, off, none⟩ = false) :
    Calls Try.prog 11 #[.pointer (some ⟨b, off, none⟩), .int .i64 n] w fun e w' => e = .returned (.int .i64 (winGrow m n).2) ∧ w' = w.setCell ⟨b, off, none⟩ (.int .i64 (winGrow m n).1) := by
  refine calls_any fun K hK => ?_
  have hs := setCell_self hc
  cases h : winRight n with
  | true =>
    have hr := win_right n
    rw [h] at hr
    have hn : 0 ≤ n ∧ n ≤ 2147483647 := by simpa [winRight] using h
    obtain ⟨n0, n1⟩ := hn
    by_cases hz : n = 0
    · subst hz
      clear hs
      go_enter Try.func11, Try.ntmps11
      go_wp2_with (go_at_call 18; refine (hr _).mono ?_; rintro e w' ⟨rfl, rfl⟩)
      exact hK.out _ _ ⟨by simp [winGrow, h], by simp only [winGrow, h, if_true]; exact (setCell_self hc).symm⟩
    · have hb : (n == 0) = false := by simpa using hz
      clear hs
      go_enter Try.func11, Try.ntmps11
      go_wp2_with (first | (go_at_call 18; refine (hr _).mono ?_; rintro e w' ⟨rfl, rfl⟩) | (go_at_call 19; refine (win_set b off m (m + n) _ hc hf).mono ?_; rintro e w' ⟨rfl, rfl⟩))
      exact hK.out _ _ ⟨by simp [winGrow, h, hz], by simp [winGrow, h, hz]⟩
  | false =>
    have hr := win_right n
    rw [h] at hr
    clear hs
    go_enter Try.func11, Try.ntmps11
    go_wp2_with (go_at_call 18; refine (hr _).mono ?_; rintro e w' ⟨rfl, rfl⟩)
    exact hK.out _ _ ⟨by simp [winGrow, h], by simp only [winGrow, h]; exact (setCell_self hc).symm⟩
def winSpend (m n : Int) : Int × Int := if winRight n = true then (if winCan m n = true then winSet m (m - n) else (m, 15)) else (m, 11)
theorem win_spend (b off : Nat) (m n : Int) (w : World) (h0 : -2147483648 ≤ m) (h1 : m ≤ 2147483647) (hc : w.cell? ⟨b, off, none⟩ = some (.int .i64 m)) (hf : w.frozen? ⟨b, off, none⟩ = false) :
    Calls Try.prog 12 #[.pointer (some ⟨b, off, none⟩), .int .i64 n] w fun e w' => e = .returned (.int .i64 (winSpend m n).2) ∧
      ∃ w1, Below w.heap.size w w1 ∧ w' = w1.setCell ⟨b, off, none⟩ (.int .i64 (winSpend m n).1) := by
  refine calls_any fun K hK => ?_
  cases h : winRight n with
  | true =>
    have hr := win_right n
    rw [h] at hr
    have hn : 0 ≤ n ∧ n ≤ 2147483647 := by simpa [winRight] using h
    obtain ⟨n0, n1⟩ := hn
    have hcan := win_can m n
    cases h2 : winCan m n with
    | true =>
      rw [h2] at hcan
      go_enter Try.func12, Try.ntmps12
      go_wp2_with (first | (go_at_call 18; refine (hr _).mono ?_; rintro e w' ⟨rfl, rfl⟩) | (go_at_call 15; refine (hcan _).mono ?_; rintro e w1 ⟨rfl, hb⟩; have hb' := Lib.hid hb; obtain ⟨hcb, hfb⟩ := And.intro ((hb.cell (p := ⟨b, off, none⟩) (World.block_lt_of_cell? _ _ hc)).trans hc) ((hb.frozen (p := ⟨b, off, none⟩) (World.block_lt_of_cell? _ _ hc)).trans hf)) | (go_at_call 19; refine (win_set b off m (m - n) _ hcb hfb).mono ?_; rintro e w' ⟨rfl, rfl⟩))
      exact hK.out _ _ ⟨by simp [winSpend, h, h2], _, hb'.out, by simp [winSpend, h, h2]⟩
    | false =>
      rw [h2] at hcan
      go_enter Try.func12, Try.ntmps12
      go_wp2_with (first | (go_at_call 18; refine (hr _).mono ?_; rintro e w' ⟨rfl, rfl⟩) | (go_at_call 15; refine (hcan _).mono ?_; rintro e w1 ⟨rfl, hb⟩; have hb' := Lib.hid hb))
      exact hK.out _ _ ⟨by simp [winSpend, h, h2], _, hb'.out, by simp only [winSpend, h, h2, if_true]; exact (setCell_self ((hb'.out.cell (p := ⟨b, off, none⟩) (World.block_lt_of_cell? _ _ hc)).trans hc)).symm⟩
  | false =>
    have hr := win_right n
    rw [h] at hr
    go_enter Try.func12, Try.ntmps12
    go_wp2_with (go_at_call 18; refine (hr _).mono ?_; rintro e w' ⟨rfl, rfl⟩)
    exact hK.out _ _ ⟨by simp [winSpend, h], _, Below.refl _ _, by simp only [winSpend, h]; exact (setCell_self hc).symm⟩
def winShift (m a b : Int) : Int × Int := if winRight a = true then (if winRight b = true then winSet m (m + b - a) else (m, 11)) else (m, 11)
theorem win_shift (b off : Nat) (m x y : Int) (w : World) (h0 : -2147483648 ≤ m) (h1 : m ≤ 2147483647) (hc : w.cell? ⟨b, off, none⟩ = some (.int .i64 m)) (hf : w.frozen? ⟨b, off, none⟩ = false) :
    Calls Try.prog 13 #[.pointer (some ⟨b, off, none⟩), .int .i64 x, .int .i64 y] w fun e w' => e = .returned (.int .i64 (winShift m x y).2) ∧ w' = w.setCell ⟨b, off, none⟩ (.int .i64 (winShift m x y).1) := by
  refine calls_any fun K hK => ?_
  have hrx := win_right x
  have hry := win_right y
  cases h : winRight x with
  | true =>
    rw [h] at hrx
    have hn : 0 ≤ x ∧ x ≤ 2147483647 := by simpa [winRight] using h
    obtain ⟨n0, n1⟩ := hn
    cases h2 : winRight y with
    | true =>
      rw [h2] at hry
      have hn : 0 ≤ y ∧ y ≤ 2147483647 := by simpa [winRight] using h2
      obtain ⟨y0, y1⟩ := hn
      go_enter Try.func13, Try.ntmps13
      go_wp2_with fail
      with_reducible refine (hrx _).mono ?_
      rintro e w' ⟨rfl, rfl⟩
      go_wp2_with fail
      with_reducible refine (hry _).mono ?_
      rintro e w' ⟨rfl, rfl⟩
      go_wp2_with fail
      refine (win_set b off m (m + y - x) _ hc hf).mono ?_
      rintro e w' ⟨rfl, rfl⟩
      go_wp2_with fail
      exact hK.out _ _ ⟨by simp [winShift, h, h2], by simp [winShift, h, h2]⟩
    | false =>
      rw [h2] at hry
      go_enter Try.func13, Try.ntmps13
      go_wp2_with fail
      with_reducible refine (hrx _).mono ?_
      rintro e w' ⟨rfl, rfl⟩
      go_wp2_with fail
      with_reducible refine (hry _).mono ?_
      rintro e w' ⟨rfl, rfl⟩
      go_wp2_with fail
      exact hK.out _ _ ⟨by simp [winShift, h, h2], by simp only [winShift, h, h2, if_true]; exact (setCell_self hc).symm⟩
  | false =>
    rw [h] at hrx
    go_enter Try.func13, Try.ntmps13
    go_wp2_with fail
    with_reducible refine (hrx _).mono ?_
    rintro e w' ⟨rfl, rfl⟩
    go_wp2_with fail
    exact hK.out _ _ ⟨by simp [winShift, h], by simp only [winShift, h]; exact (setCell_self hc).symm⟩
def winOwed (g b l : Int) : Int := if g - b < l ∨ g - b < 1 then 0 else g - b
theorem win_owed (g b l : Int) (w : World) (hg : 0 ≤ g) (hg2 : g ≤ 2199023255552) (hb : 0 ≤ b) (hb2 : b ≤ 4398046511104) :
    Calls Try.prog 17 #[.int .i64 g, .int .i64 b, .int .i64 l] w fun e w' => e = .returned (.int .i64 (winOwed g b l)) ∧ w = w' := by
  refine calls_any fun K hK => ?_
  by_cases h : g - b < l
  · go_enter Try.func17, Try.ntmps17
    go_wp2_with fail
    exact hK.out _ _ ⟨by simp [winOwed, h], rfl⟩
  · by_cases h2 : g - b < 1
    · go_enter Try.func17, Try.ntmps17
      go_wp2_with fail
      exact hK.out _ _ ⟨by simp only [winOwed]; rw [if_pos (.inr h2)], rfl⟩
    · go_enter Try.func17, Try.ntmps17
      go_wp2_with fail
      exact hK.out _ _ ⟨by simp only [winOwed]; rw [if_neg (by omega)], rfl⟩
end Go.Proofs.Ytffdininmidkhaa

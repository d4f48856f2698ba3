/- The walk of the law WindowParts. -/
import Derived.Test.YtffdininmidkhaaLawB
import Derived.StillTailTactics
import Derived.IntWalk
set_option linter.unusedSimpArgs false
set_option linter.unusedVariables false
namespace Go.Proofs.Ytffdininmidkhaa
open Go.RowKit

def psum (t : Int) (m : Nat) : Nat → Int
  | 0 => 0
  | k + 1 => psum t m k + part t m k
theorem psum_eq (t : Int) (m k : Nat) (h0 : 0 ≤ t) (hm : 0 < m) : psum t m k = k * (t / m) + min (k : Int) (t % m) := by
  have hr := Int.emod_nonneg t (show (m : Int) ≠ 0 by omega)
  induction k with
  | zero => simp [psum]; omega
  | succ k ih =>
    rw [psum, ih]
    unfold part
    have : ((k + 1 : Nat) : Int) * (t / m) = k * (t / m) + t / m := by rw [Int.natCast_add, Int.add_mul]; simp
    rw [this]
    split <;> omega
theorem psum_all (t : Int) (m : Nat) (h0 : 0 ≤ t) (hm : 0 < m) : psum t m m = t := by
  rw [psum_eq t m m h0 hm]
  have e1 := Int.mul_ediv_add_emod t m
  have e2 := Int.emod_lt_of_pos t (show (0 : Int) < m by omega)
  omega
theorem part_nonneg (t : Int) (m k : Nat) (h0 : 0 ≤ t) : 0 ≤ part t m k := by
  unfold part
  have := Int.ediv_nonneg h0 (show (0 : Int) ≤ m by omega)
  split <;> omega
theorem psum_mono (t : Int) (m : Nat) (h0 : 0 ≤ t) : ∀ k d, psum t m k ≤ psum t m (k + d) := by
  intro k d
  induction d with
  | zero => exact Int.le_refl _
  | succ d ih =>
    have := part_nonneg t m (k + d) h0
    show _ ≤ psum t m (k + d) + part t m (k + d)
    omega
theorem psum_range (t : Int) (m k : Nat) (h0 : 0 ≤ t) (hm : 0 < m) (hk : k ≤ m) : 0 ≤ psum t m k ∧ psum t m k ≤ t := by
  have h1 := psum_mono t m h0 0 k
  have h2 := psum_mono t m h0 k (m - k)
  rw [show k + (m - k) = m by omega, psum_all t m h0 hm] at h2
  rw [Nat.zero_add] at h1
  exact ⟨h1, h2⟩
theorem part_fall (t : Int) (m i j : Nat) (h : i ≤ j) : part t m j ≤ part t m i := by
  unfold part
  split <;> split <;> omega
theorem part_near (t : Int) (m i j : Nat) : part t m i - part t m j ≤ 1 := by
  unfold part
  split <;> split <;> omega
theorem part_lt (t : Int) (m k : Nat) (h0 : 0 ≤ t) (h1 : t ≤ 9223372036854775807) (hm : 0 < m) (hk : k < m) : part t m k ≤ t := by
  have h1 := psum_range t m k h0 hm (by omega)
  have h2 := psum_range t m (k + 1) h0 hm (by omega)
  have : psum t m (k + 1) = psum t m k + part t m k := rfl
  omega
set_option maxHeartbeats 1000000 in
set_option maxRecDepth 100000 in
theorem windowParts_walk (w : World) (v0 v1 : Value) (h0 : ∃ d, ArgV w (.int .i64) v0 d) (h1 : ∃ d, ArgV w (.int .i64) v1 d) :
    Calls Try.prog 6 #[v0, v1] w fun e w' => e = .returned (.bool true) ∧ Below w.heap.size w w' := by
  refine calls_any fun K hK => ?_
  obtain ⟨_, h0⟩ := h0
  obtain ⟨t, rfl, ht⟩ := arg_int h0
  obtain ⟨_, h1⟩ := h1
  obtain ⟨n, rfl, hn⟩ := arg_int h1
  clear h0 h1 hn
  obtain ⟨t0, t1⟩ := bounds_i64 ht
  clear ht
  by_cases hbad : n < 1 ∨ 64 < n ∨ t < 0
  · have hp := win_parts_none t n w hbad
    by_cases c1 : t < 0
    · clear hbad
      go_enter Try.func6, Try.ntmps6
      go_wp2_with fail
      (with_reducible refine hp.mono ?_)
      rintro e w1 ⟨rfl, rfl⟩
      go_wp2_with ((go_at_call 8; (with_reducible refine (awake_true _).mono ?_); rintro e w9 ⟨rfl, hb9⟩))
      exact hK.out _ _ ⟨rfl, hb9⟩
    by_cases c2 : n < 1
    · clear hbad
      go_enter Try.func6, Try.ntmps6
      go_wp2_with fail
      (with_reducible refine hp.mono ?_)
      rintro e w1 ⟨rfl, rfl⟩
      go_wp2_with ((go_at_call 8; (with_reducible refine (awake_true _).mono ?_); rintro e w9 ⟨rfl, hb9⟩))
      exact hK.out _ _ ⟨rfl, hb9⟩
    · have c3 : 64 < n := by omega
      clear hbad
      go_enter Try.func6, Try.ntmps6
      go_wp2_with fail
      (with_reducible refine hp.mono ?_)
      rintro e w1 ⟨rfl, rfl⟩
      go_wp2_with ((go_at_call 8; (with_reducible refine (awake_true _).mono ?_); rintro e w9 ⟨rfl, hb9⟩))
      exact hK.out _ _ ⟨rfl, hb9⟩
  · obtain ⟨m, rfl⟩ := Int.eq_ofNat_of_zero_le (show 0 ≤ n by omega)
    have hm0 : 1 ≤ m := by omega
    have hm1 : m ≤ 64 := by omega
    have ht0 : 0 ≤ t := by omega
    clear hbad t0
    go_enter Try.func6, Try.ntmps6
    go_wp2_with fail
    (with_reducible refine (win_parts t m w ht0 t1 hm0 hm1).mono ?_)
    rintro e w1 ⟨rfl, hb1, hrow⟩
    have HB := Lib.hid hb1
    have hcell : ∀ j, j < m → w1.cell? ⟨w.heap.size, j, none⟩ = some (.int .i64 (part t m j)) := fun j hj => by
      rw [cell_of_block hrow j]; simp [parts, hj]
    have HC := Lib.hid hcell
    clear hb1 hrow hcell
    go_wp2_with fail
    go_loop [6, 30] (fun s i => ∃ k : Nat, k ≤ m ∧ i = .int .i64 k ∧ s = .int .i64 (psum t m k)) (fun _ i => m - (intOf i).toNat)
    case atStart => exact ⟨0, Nat.zero_le _, rfl, rfl⟩
    case round =>
      obtain ⟨k, hk, rfl, rfl⟩ := hrel
      by_cases hlt : k < m
      · obtain ⟨s0, s1⟩ := psum_range t m k ht0 (by omega) hk
        obtain ⟨s2, s3⟩ := psum_range t m (k + 1) ht0 (by omega) (by omega)
        have e1 : psum t m (k + 1) = psum t m k + part t m k := rfl
        rw [e1] at s2 s3
        have E1 := Lib.hid e1
        have c0 := HC.out k hlt
        have c1 := HC.out 0 (by omega)
        have c2 := HC.out (m - 1) (by omega)
        have f1 := part_fall t m k (m - 1) (by omega)
        have f2 := part_fall t m 0 k (by omega)
        have p0 := part_nonneg t m k ht0
        clear e1
        by_cases hk0 : k = 0
        · subst hk0
          go_wp2_with fail
          go_round
          case rel => exact ⟨1, by omega, by go_num, by rw [E1.out]⟩
          case measure => simp [intOf]; omega
        · have hk1 : 0 < k := by omega
          have c3 := HC.out (k - 1) (by omega)
          have f3 := part_fall t m (k - 1) k (by omega)
          go_wp2_with fail
          go_round
          case rel => exact ⟨k + 1, by omega, by go_num, by rw [E1.out]⟩
          case measure => simp [intOf]; omega
      · have hkm : k = m := by omega
        subst hkm
        rw [psum_all t k ht0 (by omega)]
        have c1 := HC.out 0 (by omega)
        have c2 := HC.out (k - 1) (by omega)
        have f1 := part_near t k 0 (k - 1)
        have f2 := part_fall t k 0 (k - 1) (by omega)
        have p0 := part_nonneg t k (k - 1) ht0
        have p1 := part_lt t k 0 ht0 t1 (by omega) (by omega)
        go_wp2_with fail
        have z1 : IntKind.i64.wrap ((k : Int) - 1) = (k : Int) - 1 := IntWalk.i64_in _ (by omega)
        have z2 : 0 ≤ (k : Int) - 1 := by omega
        have z3 : (1 : Int) ≤ k := by omega
        have z4 : ((k : Int) - 1).toNat = k - 1 := by omega
        have z5 : IntKind.i64.wrap (part t k 0 - part t k (k - 1)) = part t k 0 - part t k (k - 1) := IntWalk.i64_in _ (by omega)
        have z6 : (0 : Int) < k := by omega
        have z7 : 0 < k := by omega
        have z8 : (k : Int) - 1 < k := by omega
        go_still_tail 22, (by kernel_rfl)
        change wpList _ _ _ _ _ w1.drew
        have HB2 := Lib.hid HB.out.drew
        generalize w1.drew = w2 at *
        clear z1 z2 z3 z4 z5 z6 z7 z8
        go_wp2_with ((go_at_call 8; (with_reducible refine (awake_true _).mono ?_); rintro e w9 ⟨rfl, hb9⟩))
        exact hK.out _ _ ⟨rfl, HB2.out.trans (hb9.mono HB2.out.size)⟩
end Go.Proofs.Ytffdininmidkhaa

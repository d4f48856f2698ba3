/- The walk of the law OctetBig. -/
import Derived.Test.YtblocdfpdabbiaaAwake
import Derived.Test.YtblocdfpdabbiaaOpt
set_option linter.unusedSimpArgs false
set_option linter.unusedVariables false
namespace Go.Proofs.Ytblocdfpdabbiaa
open Go.RowKit

theorem numOf_bigOf (x : Nat) : ∀ n, numOf (bigOf x n) = x % 256 ^ n := by
  have key : ∀ (bs : List UInt8) (a : Nat), bs.foldl (fun x c => x * 256 + c.toNat) a = a * 256 ^ bs.length + numOf bs := by
    intro bs
    induction bs with
    | nil => intro a; simp [numOf]
    | cons c bs ih =>
      intro a
      simp only [List.foldl_cons, numOf, List.length_cons]
      rw [ih, ih (0 * 256 + c.toNat), Nat.pow_succ]
      rw [Nat.add_mul, Nat.mul_assoc, Nat.mul_comm 256]
      simp only [Nat.zero_mul, Nat.zero_add]
      omega
  intro n
  induction n with
  | zero => simp [bigOf, numOf, Nat.mod_one]
  | succ n ih =>
    rw [bigOf_succ]
    unfold numOf
    rw [List.foldl_cons, key, bigOf_length, ih]
    have e1 : (UInt8.ofNat (x / 256 ^ n % 256)).toNat = x / 256 ^ n % 256 := by simp
    rw [e1, Nat.pow_succ, Nat.mod_mul]
    rw [Nat.zero_mul, Nat.zero_add, Nat.mul_comm]
    omega
set_option maxHeartbeats 4000000 in
set_option maxRecDepth 100000 in
theorem octetBig_walk (w : World) (v0 v1 : Value) (h0 : ∃ d, ArgV w (.int .u64) v0 d) (h1 : ∃ d, ArgV w (.int .i64) v1 d) :
    Calls Try.prog 3 #[v0, v1] w fun e w' => e = .returned (.bool true) ∧ Below w.heap.size w w' := by
  refine calls_any fun K hK => ?_
  obtain ⟨_, h0⟩ := h0
  obtain ⟨x0, rfl, hx0⟩ := arg_int h0
  obtain ⟨_, h1⟩ := h1
  obtain ⟨n0, rfl, hn0⟩ := arg_int h1
  have hx1 : 0 ≤ x0 ∧ x0 ≤ 18446744073709551615 := by
    simp [Lit.wf] at hx0
    exact hx0
  obtain ⟨x, rfl⟩ : ∃ x : Nat, x0 = x := ⟨x0.toNat, by omega⟩
  have hx : x < 18446744073709551616 := by omega
  clear hx0 hx1 h0 h1 hn0
  have S0 := Sat.start w
  have AWK : ∀ (W : World) (l : List Asrt), Sat (Gnd.of w) W l → Calls Try.prog 8 #[] W fun e w' => e = .returned (.bool true) ∧ Below w.heap.size w w' :=
    fun W l S => (law_awake S).mono fun e w' h => ⟨h.1, h.2.above Gnd.le.rfl'⟩
  by_cases hn : n0 < 1 ∨ 64 < n0
  · have hbig := octet_big_none x n0 w hn
    have haw := AWK w _ S0
    rcases hn with hn | hn
    · go_enter Try.func3, Try.ntmps3
      go_wp2_with fail
      (with_reducible refine hbig.mono ?_)
      rintro e w1 ⟨rfl, rfl⟩
      go_wp2_with fail
      (with_reducible refine haw.mono ?_)
      rintro e w1 ⟨rfl, hb⟩
      go_wp2_with fail
      exact hK.out _ _ ⟨rfl, hb⟩
    · go_enter Try.func3, Try.ntmps3
      go_wp2_with fail
      (with_reducible refine hbig.mono ?_)
      rintro e w1 ⟨rfl, rfl⟩
      go_wp2_with fail
      (with_reducible refine haw.mono ?_)
      rintro e w1 ⟨rfl, hb⟩
      go_wp2_with fail
      exact hK.out _ _ ⟨rfl, hb⟩
  · obtain ⟨n, rfl⟩ : ∃ n : Nat, n0 = n := ⟨n0.toNat, by omega⟩
    have hn1 : 1 ≤ n := by omega
    have hn2 : n ≤ 64 := by omega
    clear hn
    have hbig := octet_big S0 x n hx hn1 hn2
    clear S0
    go_enter Try.func3, Try.ntmps3
    go_wp2_with fail
    (with_reducible refine hbig.mono ?_)
    clear hbig
    rintro e w1 ⟨g, rfl, S1⟩
    go_upto_region 4 with fail
    refine wp_act fun a0 ha0 => ?_
    have HSZ : a0.tmps.size = 71 := by rw [ha0]; rfl
    have E5 : a0.eval (.tmp 5) = .slice (some ⟨g, 0, none⟩) n n := by rw [ha0]; rfl
    have E0 : a0.eval (.tmp 0) = .int .u64 x := by rw [ha0]; rfl
    have E1 : a0.eval (.tmp 1) = .int .i64 n := by rw [ha0]; rfl
    refine wp_region_sat (by kernel_rfl) 6 (by kernel_rfl) [[], [0], [], [], [2, 3], [1, 4]] (by kernel_rfl) (by kernel_rfl) [(0, 23, .slice (some ⟨g, 0, none⟩) n n), (1, 24, .string (bstr (bigOf x n))), (2, 25, .int .u64 x), (3, 26, .int .i64 n), (4, 27, .string (bstr (bigOf x n))), (5, 28, .bool false)]
      (fun _ => [blk g ((bigOf x n).map byteV).toArray 5]) (by kernel_rfl) S1 ?_ ?_
    · refine ⟨?_, ?_, ?_, ?_, ?_, ?_, trivial⟩
      · intro f W hf hd S
        refine wpOp_run (v := .slice (some ⟨g, 0, none⟩) n n) rfl rfl (fun ρ hρ => ?_) ⟨(acts_some 0 rfl (by kernel_rfl) (by kernel_rfl)).symm, S⟩
        have e1 : ρ (.tmp 5) = .slice (some ⟨g, 0, none⟩) n n := by rw [hρ]; exact (acts_eval_tmp 5 (by kernel_rfl)).trans E5
        clear hρ
        go_simp
      · intro f W hf hd S
        refine wpOp_run (v := .string (bstr (bigOf x n))) rfl rfl (fun ρ hρ => ?_) ⟨(acts_some 1 rfl (by kernel_rfl) (by kernel_rfl)).symm, S⟩
        have e1 : ρ (.tmp 23) = .slice (some ⟨g, 0, none⟩) n n := by rw [hρ]; exact acts_eval_hit 0 rfl hd.1 (by rw [HSZ]; rfl) (by kernel_rfl)
        have hcv := conv_bytes _ (bigOf x n) W (slv_blk S (by rw [bigOf_length]; exact Nat.le_trans hn2 (by decide)))
        rw [bigOf_length] at hcv
        clear hρ
        go_simp
      · intro f W hf hd S
        refine wpOp_run (v := .int .u64 x) rfl rfl (fun ρ hρ => ?_) ⟨(acts_some 2 rfl (by kernel_rfl) (by kernel_rfl)).symm, S⟩
        have e1 : ρ (.tmp 0) = .int .u64 x := by rw [hρ]; exact (acts_eval_tmp 0 (by kernel_rfl)).trans E0
        clear hρ
        go_simp
      · intro f W hf hd S
        refine wpOp_run (v := .int .i64 n) rfl rfl (fun ρ hρ => ?_) ⟨(acts_some 3 rfl (by kernel_rfl) (by kernel_rfl)).symm, S⟩
        have e1 : ρ (.tmp 1) = .int .i64 n := by rw [hρ]; exact (acts_eval_tmp 1 (by kernel_rfl)).trans E1
        clear hρ
        go_simp
      · intro f W hf hd S
        refine wpOp_call rfl rfl (fun ρ hρ => ?_) (ref_big x n hx hn2 W) ?_
        · have e0 : ρ (.func 9) = .func (.func 9) #[] #[] := by rw [hρ]; rfl
          have e1 : ρ (.tmp 25) = .int .u64 x := by rw [hρ]; exact acts_eval_hit 2 rfl hd.1 (by rw [HSZ]; rfl) (by kernel_rfl)
          have e2 : ρ (.tmp 26) = .int .i64 n := by rw [hρ]; exact acts_eval_hit 3 rfl hd.2.1 (by rw [HSZ]; rfl) (by kernel_rfl)
          clear hρ
          go_simp
        · rintro e W' ⟨rfl, hb⟩
          exact ⟨_, rfl, (acts_some 4 rfl (by kernel_rfl) (by kernel_rfl)).symm, S.below hb⟩
      · intro f W hf hd S
        refine wpOp_run (v := .bool false) rfl rfl (fun ρ hρ => ?_) ⟨(acts_some 5 rfl (by kernel_rfl) (by kernel_rfl)).symm, S⟩
        have e1 : ρ (.tmp 24) = .string (bstr (bigOf x n)) := by rw [hρ]; exact acts_eval_hit 1 rfl hd.1 (by rw [HSZ]; rfl) (by kernel_rfl)
        have e2 : ρ (.tmp 27) = .string (bstr (bigOf x n)) := by rw [hρ]; exact acts_eval_hit 4 rfl hd.2.1 (by rw [HSZ]; rfl) (by kernel_rfl)
        clear hρ
        go_simp
    · intro W S
      subst ha0
      simp only [acts, if_true, Act.put, List.setIfInBounds_toArray, List.set_cons_succ, List.set_cons_zero]
      clear S1
      have hnum := octet_num (bigOf x n) _ W (slv_blk S (by rw [bigOf_length]; exact Nat.le_trans hn2 (by decide)))
      rw [bigOf_length, numOf_bigOf] at hnum
      have haw := AWK W _ S
      clear S AWK
      go_wp2_with fail
      (with_reducible refine hnum.mono ?_)
      clear hnum
      rintro e w2 ⟨rfl, rfl⟩
      by_cases h8 : 8 < n
      · rw [if_neg (by omega), decide_eq_false (by omega)]
        go_wp2_with fail
        (with_reducible refine haw.mono ?_)
        rintro e w3 ⟨rfl, hb⟩
        go_wp2_with fail
        exact hK.out _ _ ⟨rfl, hb⟩
      · rw [if_pos (by omega), decide_eq_true (by omega)]
        have n8 : n = 1 ∨ n = 2 ∨ n = 3 ∨ n = 4 ∨ n = 5 ∨ n = 6 ∨ n = 7 ∨ n = 8 := by omega
        rcases n8 with rfl | rfl | rfl | rfl | rfl | rfl | rfl | rfl
        · go_wp2_with fail
          (with_reducible refine haw.mono ?_)
          rintro e w3 ⟨rfl, hb⟩
          go_wp2_with fail
          exact hK.out _ _ ⟨rfl, hb⟩
        · go_wp2_with fail
          (with_reducible refine haw.mono ?_)
          rintro e w3 ⟨rfl, hb⟩
          go_wp2_with fail
          exact hK.out _ _ ⟨rfl, hb⟩
        · go_wp2_with fail
          (with_reducible refine haw.mono ?_)
          rintro e w3 ⟨rfl, hb⟩
          go_wp2_with fail
          exact hK.out _ _ ⟨rfl, hb⟩
        · go_wp2_with fail
          (with_reducible refine haw.mono ?_)
          rintro e w3 ⟨rfl, hb⟩
          go_wp2_with fail
          exact hK.out _ _ ⟨rfl, hb⟩
        · go_wp2_with fail
          (with_reducible refine haw.mono ?_)
          rintro e w3 ⟨rfl, hb⟩
          go_wp2_with fail
          exact hK.out _ _ ⟨rfl, hb⟩
        · go_wp2_with fail
          (with_reducible refine haw.mono ?_)
          rintro e w3 ⟨rfl, hb⟩
          go_wp2_with fail
          exact hK.out _ _ ⟨rfl, hb⟩
        · go_wp2_with fail
          (with_reducible refine haw.mono ?_)
          rintro e w3 ⟨rfl, hb⟩
          go_wp2_with fail
          exact hK.out _ _ ⟨rfl, hb⟩
        · rw [Nat.mod_eq_of_lt (show x < 256 ^ 8 from Nat.lt_of_lt_of_le hx (by decide))]
          go_wp2_with fail
          (with_reducible refine haw.mono ?_)
          rintro e w3 ⟨rfl, hb⟩
          go_wp2_with fail
          exact hK.out _ _ ⟨rfl, hb⟩
end Go.Proofs.Ytblocdfpdabbiaa

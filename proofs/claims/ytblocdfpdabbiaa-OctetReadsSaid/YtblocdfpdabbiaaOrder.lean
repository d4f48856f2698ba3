/- The walk of the law OctetOrder. -/
import Derived.Test.YtblocdfpdabbiaaBigLaw
set_option linter.unusedSimpArgs false
set_option linter.unusedVariables false
namespace Go.Proofs.Ytblocdfpdabbiaa
open Go.RowKit

theorem numOf_cons (c : UInt8) (bs : List UInt8) : numOf (c :: bs) = c.toNat * 256 ^ bs.length + numOf bs := by
  have key : ∀ (bs : List UInt8) (a : Nat), bs.foldl (fun x c => x * 256 + c.toNat) a = a * 256 ^ bs.length + numOf bs := by
    intro bs
    induction bs with
    | nil => intro a; simp [numOf]
    | cons c bs ih =>
      intro a
      simp only [List.foldl_cons, numOf, List.length_cons]
      rw [ih, ih (0 * 256 + c.toNat), Nat.pow_succ]
      rw [Nat.add_mul, Nat.mul_assoc, Nat.mul_comm 256]
      simp only [Nat.zero_mul, Nat.zero_add]
      omega
  unfold numOf
  rw [List.foldl_cons, key]
  simp [numOf]
theorem less_num : ∀ (a b : List UInt8), a.length = b.length → Op.bytesLess a b = decide (numOf a < numOf b)
  | [], [], _ => by simp [Op.bytesLess, numOf]
  | [], _ :: _, h => by simp at h
  | _ :: _, [], h => by simp at h
  | c :: a, d :: b, h => by
    have hl : a.length = b.length := by simpa using h
    have ih := less_num a b hl
    have h1 := numOf_lt a
    have h2 := numOf_lt b
    rw [numOf_cons, numOf_cons, hl]
    rw [hl] at h1
    unfold Op.bytesLess
    rw [ih]
    generalize 256 ^ b.length = P at *
    have hcd : (c = d) ↔ c.toNat = d.toNat := ⟨fun h => by rw [h], fun h => UInt8.toNat_inj.1 h⟩
    have hlt : (c < d) ↔ c.toNat < d.toNat := UInt8.lt_iff_toNat_lt
    by_cases h3 : c.toNat < d.toNat
    · have e1 : (c.toNat + 1) * P ≤ d.toNat * P := Nat.mul_le_mul_right _ h3
      rw [Nat.add_mul, Nat.one_mul] at e1
      rw [decide_eq_true (hlt.2 h3), Bool.true_or, decide_eq_true (show c.toNat * P + numOf a < d.toNat * P + numOf b by omega)]
    · by_cases h4 : c.toNat = d.toNat
      · have h5 := hcd.2 h4
        subst h5
        simp
      · have e1 : (d.toNat + 1) * P ≤ c.toNat * P := Nat.mul_le_mul_right _ (by omega)
        rw [Nat.add_mul, Nat.one_mul] at e1
        rw [decide_eq_false (fun h => h3 (hlt.1 h)), beq_eq_false_iff_ne.2 (fun h => h4 (hcd.1 h)), decide_eq_false (show ¬ (c.toNat * P + numOf a < d.toNat * P + numOf b) by omega)]
        rfl
theorem eq_num (a b : List UInt8) (h : a.length = b.length) : (a == b) = decide (numOf a = numOf b) := by
  by_cases e : a = b
  · subst e; simp
  · have : numOf a ≠ numOf b := by
      induction a generalizing b with
      | nil => cases b with
        | nil => exact absurd rfl e
        | cons d b => simp at h
      | cons c a ih => cases b with
        | nil => simp at h
        | cons d b =>
          have hl : a.length = b.length := by simpa using h
          have h1 := numOf_lt a
          have h2 := numOf_lt b
          rw [numOf_cons, numOf_cons, hl]
          rw [hl] at h1
          intro hh
          by_cases h4 : c.toNat = d.toNat
          · have h5 := UInt8.toNat_inj.1 h4
            subst h5
            exact ih b hl (fun h6 => e (by rw [h6])) (by omega)
          · generalize 256 ^ b.length = P at *
            rcases Nat.lt_or_gt_of_ne h4 with h6 | h6
            · have e1 : (c.toNat + 1) * P ≤ d.toNat * P := Nat.mul_le_mul_right _ h6
              rw [Nat.add_mul, Nat.one_mul] at e1
              omega
            · have e1 : (d.toNat + 1) * P ≤ c.toNat * P := Nat.mul_le_mul_right _ h6
              rw [Nat.add_mul, Nat.one_mul] at e1
              omega
    simp [e, this]
set_option maxHeartbeats 4000000 in
set_option maxRecDepth 100000 in
theorem octetOrder_walk (w : World) (v0 v1 v2 : Value) (h0 : ∃ d, ArgV w (.int .u64) v0 d) (h1 : ∃ d, ArgV w (.int .u64) v1 d) (h2 : ∃ d, ArgV w (.int .i64) v2 d) :
    Calls Try.prog 6 #[v0, v1, v2] w fun e w' => e = .returned (.bool true) ∧ Below w.heap.size w w' := by
  refine calls_any fun K hK => ?_
  obtain ⟨_, h0⟩ := h0
  obtain ⟨x0, rfl, hx0⟩ := arg_int h0
  obtain ⟨_, h1⟩ := h1
  obtain ⟨y0, rfl, hy0⟩ := arg_int h1
  obtain ⟨_, h2⟩ := h2
  obtain ⟨n0, rfl, hn0⟩ := arg_int h2
  have hx1 : 0 ≤ x0 ∧ x0 ≤ 18446744073709551615 := by
    simp [Lit.wf] at hx0
    exact hx0
  have hy1 : 0 ≤ y0 ∧ y0 ≤ 18446744073709551615 := by
    simp [Lit.wf] at hy0
    exact hy0
  obtain ⟨x, rfl⟩ : ∃ x : Nat, x0 = x := ⟨x0.toNat, by omega⟩
  obtain ⟨y, rfl⟩ : ∃ x : Nat, y0 = x := ⟨y0.toNat, by omega⟩
  have hx : x < 18446744073709551616 := by omega
  have hy : y < 18446744073709551616 := by omega
  clear hx0 hx1 hy0 hy1 h0 h1 h2 hn0
  have S0 := Sat.start w
  by_cases hn : n0 < 8 ∨ 64 < n0
  · have haw := law_awake S0
    rcases hn with hn | hn
    all_goals
      go_enter Try.func6, Try.ntmps6
      go_wp2_with fail
      (with_reducible refine haw.mono ?_)
      rintro e w1 ⟨rfl, hb⟩
      go_wp2_with fail
      exact hK.out _ _ ⟨rfl, hb.above Gnd.le.rfl'⟩
  · obtain ⟨n, rfl⟩ : ∃ n : Nat, n0 = n := ⟨n0.toNat, by omega⟩
    have hn1 : 8 ≤ n := by omega
    have hn2 : n ≤ 64 := by omega
    clear hn
    go_enter Try.func6, Try.ntmps6
    go_upto_region 3 with fail
    refine wp_act fun a0 ha0 => ?_
    have HSZ : a0.tmps.size = 43 := by rw [ha0]; rfl
    have E0 : a0.eval (.tmp 0) = .int .u64 x := by rw [ha0]; rfl
    have E1 : a0.eval (.tmp 1) = .int .u64 y := by rw [ha0]; rfl
    have E2 : a0.eval (.tmp 2) = .int .i64 n := by rw [ha0]; rfl
    refine wp_region_J (by kernel_rfl) 10 (by kernel_rfl) [[], [], [0, 1], [2], [], [], [4, 5, 2], [6], [3, 6, 0, 1, 2, 3], [7, 8, 0, 1, 2, 3, 4, 5, 6, 7, 8]] (by kernel_rfl) (by kernel_rfl) (fun f a' W => ∃ g1 g2, a' = acts [(0, 16, .int .u64 x), (1, 17, .int .i64 n), (2, 18, .slice (some ⟨g1, 0, none⟩) n n), (3, 19, .string (bstr (bigOf x n))), (4, 20, .int .u64 y), (5, 21, .int .i64 n), (6, 22, .slice (some ⟨g2, 0, none⟩) n n), (7, 23, .string (bstr (bigOf y n))), (8, 7, .string (bstr (bigOf x n))), (9, 8, .string (bstr (bigOf y n)))] f a0 ∧ Sat (Gnd.of w) W (opt (f 2) (blk g1 ((bigOf x n).map byteV).toArray 5) :: opt (f 6) (blk g2 ((bigOf y n).map byteV).toArray 5) :: [])) ?_ ?_ ?_
    · exact ⟨0, 0, rfl, S0.drew.opt0.opt0⟩
    · refine ⟨?_, ?_, ?_, ?_, ?_, ?_, ?_, ?_, ?_, ?_, trivial⟩
      · rintro f a' W h0 hd ⟨g1, g2, rfl, S⟩
        refine wpOp_run (v := .int .u64 x) rfl rfl (fun ρ hρ => ?_) ⟨g1, g2, (acts_some 0 rfl (by kernel_rfl) (by kernel_rfl)).symm, S⟩
        have e0 : ρ (.tmp 0) = .int .u64 x := by rw [hρ]; exact (acts_eval_tmp 0 (by kernel_rfl)).trans E0
        clear hρ
        go_simp
      · rintro f a' W h1 hd ⟨g1, g2, rfl, S⟩
        refine wpOp_run (v := .int .i64 n) rfl rfl (fun ρ hρ => ?_) ⟨g1, g2, (acts_some 1 rfl (by kernel_rfl) (by kernel_rfl)).symm, S⟩
        have e0 : ρ (.tmp 2) = .int .i64 n := by rw [hρ]; exact (acts_eval_tmp 2 (by kernel_rfl)).trans E2
        clear hρ
        go_simp
      · rintro f a' W h2 hd ⟨g1, g2, rfl, S⟩
        refine wpOp_call rfl rfl (fun ρ hρ => ?_) (octet_big S x n hx (by omega) hn2) ?_
        · skip
          have e0 : ρ (.tmp 16) = .int .u64 x := by rw [hρ]; exact acts_eval_hit 0 rfl hd.1 (by rw [HSZ]; rfl) (by kernel_rfl)
          have e1 : ρ (.tmp 17) = .int .i64 n := by rw [hρ]; exact acts_eval_hit 1 rfl hd.2.1 (by rw [HSZ]; rfl) (by kernel_rfl)
          have ef : ρ (.func 7) = .func (.func 7) #[] #[] := by rw [hρ]; rfl
          clear hρ
          go_simp
        · (rintro e W' ⟨g, rfl, S'⟩; exact ⟨_, rfl, g, g2, acts_swap (by simp only [acts, h2, Bool.false_eq_true, if_false]) (k := 2) rfl (by kernel_rfl) (by kernel_rfl), Sat.optI rfl S'.drop2⟩)
      · rintro f a' W h3 hd ⟨g1, g2, rfl, S⟩
        refine wpOp_run (v := .string (bstr (bigOf x n))) rfl rfl (fun ρ hρ => ?_) ⟨g1, g2, (acts_some 3 rfl (by kernel_rfl) (by kernel_rfl)).symm, S⟩
        have e0 : ρ (.tmp 18) = .slice (some ⟨g1, 0, none⟩) n n := by rw [hρ]; exact acts_eval_hit 2 rfl hd.1 (by rw [HSZ]; rfl) (by kernel_rfl)
        clear hρ
        (have hcv := conv_bytes _ (bigOf x n) W (slv_blk (Sat.optE hd.1 S) (by rw [bigOf_length]; exact Nat.le_trans hn2 (by decide))); rw [bigOf_length] at hcv)
        go_simp
      · rintro f a' W h4 hd ⟨g1, g2, rfl, S⟩
        refine wpOp_run (v := .int .u64 y) rfl rfl (fun ρ hρ => ?_) ⟨g1, g2, (acts_some 4 rfl (by kernel_rfl) (by kernel_rfl)).symm, S⟩
        have e0 : ρ (.tmp 1) = .int .u64 y := by rw [hρ]; exact (acts_eval_tmp 1 (by kernel_rfl)).trans E1
        clear hρ
        go_simp
      · rintro f a' W h5 hd ⟨g1, g2, rfl, S⟩
        refine wpOp_run (v := .int .i64 n) rfl rfl (fun ρ hρ => ?_) ⟨g1, g2, (acts_some 5 rfl (by kernel_rfl) (by kernel_rfl)).symm, S⟩
        have e0 : ρ (.tmp 2) = .int .i64 n := by rw [hρ]; exact (acts_eval_tmp 2 (by kernel_rfl)).trans E2
        clear hρ
        go_simp
      · rintro f a' W h6 hd ⟨g1, g2, rfl, S⟩
        refine wpOp_call rfl rfl (fun ρ hρ => ?_) (octet_big S y n hy (by omega) hn2) ?_
        · skip
          have e0 : ρ (.tmp 20) = .int .u64 y := by rw [hρ]; exact acts_eval_hit 4 rfl hd.1 (by rw [HSZ]; rfl) (by kernel_rfl)
          have e1 : ρ (.tmp 21) = .int .i64 n := by rw [hρ]; exact acts_eval_hit 5 rfl hd.2.1 (by rw [HSZ]; rfl) (by kernel_rfl)
          have ef : ρ (.func 7) = .func (.func 7) #[] #[] := by rw [hρ]; rfl
          clear hρ
          go_simp
        · (rintro e W' ⟨g, rfl, S'⟩; exact ⟨_, rfl, g1, g, acts_swap (by simp only [acts, h6, Bool.false_eq_true, if_false]) (k := 6) rfl (by kernel_rfl) (by kernel_rfl), (Sat.optI rfl S'.pull2.drop).swap⟩)
      · rintro f a' W h7 hd ⟨g1, g2, rfl, S⟩
        refine wpOp_run (v := .string (bstr (bigOf y n))) rfl rfl (fun ρ hρ => ?_) ⟨g1, g2, (acts_some 7 rfl (by kernel_rfl) (by kernel_rfl)).symm, S⟩
        have e0 : ρ (.tmp 22) = .slice (some ⟨g2, 0, none⟩) n n := by rw [hρ]; exact acts_eval_hit 6 rfl hd.1 (by rw [HSZ]; rfl) (by kernel_rfl)
        clear hρ
        (have hcv := conv_bytes _ (bigOf y n) W (slv_blk (Sat.optE hd.1 S.swap) (by rw [bigOf_length]; exact Nat.le_trans hn2 (by decide))); rw [bigOf_length] at hcv)
        go_simp
      · rintro f a' W h8 hd ⟨g1, g2, rfl, S⟩
        refine wpOp_run (v := .string (bstr (bigOf x n))) rfl rfl (fun ρ hρ => ?_) ⟨g1, g2, (acts_some 8 rfl (by kernel_rfl) (by kernel_rfl)).symm, S⟩
        have e0 : ρ (.tmp 19) = .string (bstr (bigOf x n)) := by rw [hρ]; exact acts_eval_hit 3 rfl hd.1 (by rw [HSZ]; rfl) (by kernel_rfl)
        clear hρ
        go_simp
      · rintro f a' W h9 hd ⟨g1, g2, rfl, S⟩
        refine wpOp_run (v := .string (bstr (bigOf y n))) rfl rfl (fun ρ hρ => ?_) ⟨g1, g2, (acts_some 9 rfl (by kernel_rfl) (by kernel_rfl)).symm, S⟩
        have e0 : ρ (.tmp 23) = .string (bstr (bigOf y n)) := by rw [hρ]; exact acts_eval_hit 7 rfl hd.1 (by rw [HSZ]; rfl) (by kernel_rfl)
        clear hρ
        go_simp
    · rintro a' W ⟨g1, g2, rfl, S⟩
      subst ha0
      simp only [acts, if_true, Act.put, List.setIfInBounds_toArray, List.set_cons_succ, List.set_cons_zero]
      have haw := law_awake S
      clear S S0 HSZ E0 E1 E2
      have hbig : ∀ z, z < 18446744073709551616 → numOf (bigOf z n) = z := fun z hz => by
        rw [numOf_bigOf]
        exact Nat.mod_eq_of_lt (Nat.lt_of_lt_of_le hz (Nat.le_trans (by decide : 18446744073709551616 ≤ 256 ^ 8) (Nat.pow_le_pow_right (by omega) hn1)))
      have f1 : Op.bytesLess (bstr (bigOf x n)).toList (bstr (bigOf y n)).toList = decide (x < y) := by
        rw [show (bstr (bigOf x n)).toList = bigOf x n from ByteArray.toList_mk _, show (bstr (bigOf y n)).toList = bigOf y n from ByteArray.toList_mk _, less_num _ _ (by rw [bigOf_length, bigOf_length]), hbig x hx, hbig y hy]
      have f2 : ((bstr (bigOf x n)).toList == (bstr (bigOf y n)).toList) = ((x : Int) == (y : Int)) := by
        rw [show (bstr (bigOf x n)).toList = bigOf x n from ByteArray.toList_mk _, show (bstr (bigOf y n)).toList = bigOf y n from ByteArray.toList_mk _, eq_num _ _ (by rw [bigOf_length, bigOf_length]), hbig x hx, hbig y hy]
        by_cases e : x = y
        · simp [e]
        · have : (x : Int) ≠ y := by omega
          simp [e, this]
      clear hbig
      go_wp2_with fail
      (with_reducible refine haw.mono ?_)
      rintro e w3 ⟨rfl, hb⟩
      go_wp2_with fail
      exact hK.out _ _ ⟨rfl, hb.above Gnd.le.rfl'⟩
end Go.Proofs.Ytblocdfpdabbiaa

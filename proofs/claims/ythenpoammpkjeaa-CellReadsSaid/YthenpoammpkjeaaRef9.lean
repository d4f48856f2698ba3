/- The walk over the reference of frame.Parse. -/
import Derived.Test.YthenpoammpkjeaaParse
import Derived.Test.YthenpoammpkjeaaApp2
set_option linter.unusedSimpArgs false
set_option linter.unusedVariables false
namespace Go.Proofs.Ythenpoammpkjeaa
open Go.RowKit

/-- The frame at the beginning, as the reference says it. -/
def refHead (bs : List UInt8) (most : Int) : Value :=
  if headE bs most = 0 then .tuple #[.agg #[.int .i64 (hdT bs), .int .i64 (hdF bs), .int .i64 (hdS bs), .int .i64 (9 + hdN bs)], .int .i64 0]
  else .tuple #[.agg #[.int .i64 0, .int .i64 0, .int .i64 0, .int .i64 0], .int .i64 (headE bs most)]
set_option maxHeartbeats 4000000 in
set_option maxRecDepth 100000 in
theorem ref9_parse {G : Gnd} {w : World} {l : List Asrt} (H : Sat G w l) (bs : List UInt8) (most : Int) (hn : bs.length ≤ 140737488351232) :
    Calls Try.prog 18 #[.string (bstr bs), .int .i64 most] w fun e w' => e = .returned (refHead bs most) ∧ Sat G w' l := by
  refine calls_any fun K hK => ?_
  have S := H.newBlk #[.int .i64 0, .int .i64 0, .int .i64 0, .int .i64 0] 36
  have hsz := bstr_size bs
  clear H
  by_cases h9 : bs.length < 9
  · have e1 : headE bs most = 16 := if_pos h9
    rw [show refHead bs most = .tuple #[.agg #[.int .i64 0, .int .i64 0, .int .i64 0, .int .i64 0], .int .i64 16] by unfold refHead; rw [e1]; rfl] at hK
    clear e1
    go_enter Try.func18, Try.ntmps18
    go_wp2_with fail
    exact bodyPost_ret (results_cell_t rfl _ _ _ _ _ _ rfl (S).blk_at Try.underlying36 rfl (by kernel_rfl)) rfl (hK.out _ _ ⟨rfl, (S).drop⟩)
  have ht3 := bstr_take bs 3
  have hrn := fun W => ref_num (bs.take 3) (by rw [List.length_take]; omega) W
  change ∀ W, Calls _ _ _ _ (fun e w' => e = .returned (.int .u64 (hdN bs)) ∧ _) at hrn
  have hN : hdN bs < 16777216 := Nat.lt_of_lt_of_le (numOf_lt _) (Nat.le_trans (Nat.pow_le_pow_right (by omega) (show (bs.take 3).length ≤ 3 by rw [List.length_take]; omega)) (by decide))
  by_cases hm : most < hdN bs
  · have e1 : headE bs most = 106 := by unfold headE; rw [if_neg h9, if_pos hm]
    rw [show refHead bs most = .tuple #[.agg #[.int .i64 0, .int .i64 0, .int .i64 0, .int .i64 0], .int .i64 106] by unfold refHead; rw [e1]; rfl] at hK
    clear e1
    go_enter Try.func18, Try.ntmps18
    go_wp2_with fail
    (with_reducible refine (hrn _).mono ?_)
    clear hrn
    rintro e w1 ⟨rfl, rfl⟩
    go_wp2_with fail
    exact bodyPost_ret (results_cell_t rfl _ _ _ _ _ _ rfl (S).blk_at Try.underlying36 rfl (by kernel_rfl)) rfl (hK.out _ _ ⟨rfl, (S).drop⟩)
  by_cases hs : bs.length < 9 + hdN bs
  · have e1 : headE bs most = 16 := by unfold headE; rw [if_neg h9, if_neg hm, if_pos hs]
    rw [show refHead bs most = .tuple #[.agg #[.int .i64 0, .int .i64 0, .int .i64 0, .int .i64 0], .int .i64 16] by unfold refHead; rw [e1]; rfl] at hK
    clear e1
    go_enter Try.func18, Try.ntmps18
    go_wp2_with fail
    (with_reducible refine (hrn _).mono ?_)
    clear hrn
    rintro e w1 ⟨rfl, rfl⟩
    go_wp2_with fail
    exact bodyPost_ret (results_cell_t rfl _ _ _ _ _ _ rfl (S).blk_at Try.underlying36 rfl (by kernel_rfl)) rfl (hK.out _ _ ⟨rfl, (S).drop⟩)
  · have e1 : headE bs most = 0 := by unfold headE; rw [if_neg h9, if_neg hm, if_neg hs]
    rw [show refHead bs most = .tuple #[.agg #[.int .i64 (hdT bs), .int .i64 (hdF bs), .int .i64 (hdS bs), .int .i64 (9 + hdN bs)], .int .i64 0] by unfold refHead; rw [e1]; rfl] at hK
    clear e1
    go_enter Try.func18, Try.ntmps18
    go_wp2_with fail
    (with_reducible refine (hrn _).mono ?_)
    clear hrn
    rintro e w1 ⟨rfl, rfl⟩
    go_upto_region 8 with fail
    generalize w.heap.size = p at *
    refine wp_world S fun W1 S1 => ?_
    clear S
    have hi3 : ∀ h, (bstr bs)[3]'h = bs[3] := fun h => bstr_get bs 3 (by omega) h
    have hi4 : ∀ h, (bstr bs)[4]'h = bs[4] := fun h => bstr_get bs 4 (by omega) h
    have ht : hdT bs = (bs[3]).toNat := by
      unfold hdT
      rw [List.drop_eq_getElem_cons (by omega)]; simp only [List.take_succ_cons, List.take_zero, numOf, List.foldl_cons, List.foldl_nil]; omega
    have hf : hdF bs = (bs[4]).toNat := by
      unfold hdF
      rw [List.drop_eq_getElem_cons (by omega)]; simp only [List.take_succ_cons, List.take_zero, numOf, List.foldl_cons, List.foldl_nil]; omega
    have q3 := (bs[3]).toNat_lt
    have q4 := (bs[4]).toNat_lt
    rw [ht, hf] at hK
    have hsl : (bstr bs).extract 5 9 = bstr ((bs.drop 5).take 4) := by unfold bstr; rw [Go.ByteArray.extract_mk]
    have hl4 : ((bs.drop 5).take 4).length = 4 := by rw [List.length_take, List.length_drop]; omega
    have hlt4 : numOf ((bs.drop 5).take 4) < 4294967296 := by have := numOf_lt ((bs.drop 5).take 4); rw [hl4] at this; exact this
    have hrn := fun W => ref_num ((bs.drop 5).take 4) (by rw [hl4]; decide) W
    have hS : hdS bs = numOf ((bs.drop 5).take 4) % 2147483648 := rfl
    rw [hS] at hK
    clear hl4 hS ht hf
    generalize (bs.drop 5).take 4 = b4 at *
    generalize numOf b4 = x at *
    generalize hdN bs = n at *
    have wx : IntKind.u64.wrap (x : Int) = x := IntWalk.u64_in _ ⟨by omega, by omega⟩
    have hj3 : ∀ h, ((bstr bs)[3]'h).toNat = (bs[3]).toNat := fun h => by rw [hi3]
    have hj4 : ∀ h, ((bstr bs)[4]'h).toNat = (bs[4]).toNat := fun h => by rw [hi4]
    have w3 : IntKind.i64.wrap ((bs[3]).toNat : Int) = (bs[3]).toNat := IntWalk.i64_in _ ⟨by omega, by omega⟩
    have w4 : IntKind.i64.wrap ((bs[4]).toNat : Int) = (bs[4]).toNat := IntWalk.i64_in _ ⟨by omega, by omega⟩
    clear hi3 hi4
    generalize hx3 : (bs[3]).toNat = x3 at *
    generalize hx4 : (bs[4]).toNat = x4 at *
    have w7 : IntKind.i64.wrap (9 + (n : Int)) = 9 + n := IntWalk.i64_in _ ⟨by omega, by omega⟩
    have wy : (x : Int).tmod 2147483648 = (x % 2147483648 : Nat) := by rw [Int.tmod_eq_emod_of_nonneg (by omega)]; omega
    have hy : x % 2147483648 < 2147483648 := Nat.mod_lt _ (by omega)
    have w5 : IntKind.i64.wrap ((x % 2147483648 : Nat) : Int) = (x % 2147483648 : Nat) := IntWalk.i64_in _ ⟨by omega, by omega⟩
    have w6 : IntKind.u64.wrap ((x % 2147483648 : Nat) : Int) = (x % 2147483648 : Nat) := IntWalk.u64_in _ ⟨by omega, by omega⟩
    generalize x % 2147483648 = y at *
    have h3l : (3 : Int) < bs.length := by omega
    have h4l : (4 : Int) < bs.length := by omega
    refine wp_act fun a0 ha0 => ?_
    have HSZ : a0.tmps.size = 39 := by rw [ha0]; rfl
    have E0 : a0.eval (.tmp 0) = .string (bstr bs) := by rw [ha0]; rfl
    have E4 : a0.eval (.tmp 4) = .pointer (some ⟨p, 0, none⟩) := by rw [ha0]; rfl
    have E6 : a0.eval (.tmp 6) = .int .i64 n := by rw [ha0]; rfl
    refine wp_region_sat (by kernel_rfl) 16 (by kernel_rfl) [[], [0], [1], [], [3], [4], [], [6], [7], [8], [9], [], [11], [2, 5, 10, 12], [13, 8, 0, 1, 2, 3, 4, 5, 6, 7, 8, 9, 10, 11, 12, 13], [14, 0, 1, 2, 3, 4, 5, 6, 7, 8, 9, 10, 11, 12, 13, 14]] (by kernel_rfl) (by kernel_rfl) [(0, 25, .string (bstr bs)), (1, 26, .int .u8 x3), (2, 27, .int .i64 x3), (3, 28, .string (bstr bs)), (4, 29, .int .u8 x4), (5, 30, .int .i64 x4), (6, 31, .string (bstr bs)), (7, 32, .string (bstr b4)), (8, 33, .int .u64 x), (9, 34, .int .u64 y), (10, 35, .int .i64 y), (11, 36, .int .i64 n), (12, 37, .int .i64 (9 + n)), (13, 38, .agg #[.int .i64 x3, .int .i64 x4, .int .i64 y, .int .i64 (9 + n)]), (15, 5, .int .i64 0)] (fun f => [blk p (cond (f 14) #[.int .i64 x3, .int .i64 x4, .int .i64 y, .int .i64 (9 + n)] #[.int .i64 0, .int .i64 0, .int .i64 0, .int .i64 0]) 36] ++ l) (by kernel_rfl) S1 ?_ ?_
    · refine ⟨?_, ?_, ?_, ?_, ?_, ?_, ?_, ?_, ?_, ?_, ?_, ?_, ?_, ?_, ?_, ?_, trivial⟩
      · intro f W h0 hd S
        refine wpOp_run (v := .string (bstr bs)) rfl rfl (fun ρ hρ => ?_) ⟨(acts_some 0 rfl (by kernel_rfl) (by kernel_rfl)).symm, S⟩
        have e0 : ρ (.tmp 0) = .string (bstr bs) := by rw [hρ]; exact (acts_eval_tmp 0 (by kernel_rfl)).trans E0
        clear hρ
        go_simp
      · intro f W h1 hd S
        refine wpOp_run (v := .int .u8 x3) rfl rfl (fun ρ hρ => ?_) ⟨(acts_some 1 rfl (by kernel_rfl) (by kernel_rfl)).symm, S⟩
        have e0 : ρ (.tmp 25) = .string (bstr bs) := by rw [hρ]; exact acts_eval_hit 0 rfl hd.1 (by rw [HSZ]; rfl) (by kernel_rfl)
        have ec : ∀ v, ρ (.const v) = v := by rw [hρ]; exact fun _ => rfl
        clear hρ
        skip
        go_simp
        exact congrArg _ hx3
      · intro f W h2 hd S
        refine wpOp_run (v := .int .i64 x3) rfl rfl (fun ρ hρ => ?_) ⟨(acts_some 2 rfl (by kernel_rfl) (by kernel_rfl)).symm, S⟩
        have e0 : ρ (.tmp 26) = .int .u8 x3 := by rw [hρ]; exact acts_eval_hit 1 rfl hd.1 (by rw [HSZ]; rfl) (by kernel_rfl)
        clear hρ
        go_simp
      · intro f W h3 hd S
        refine wpOp_run (v := .string (bstr bs)) rfl rfl (fun ρ hρ => ?_) ⟨(acts_some 3 rfl (by kernel_rfl) (by kernel_rfl)).symm, S⟩
        have e0 : ρ (.tmp 0) = .string (bstr bs) := by rw [hρ]; exact (acts_eval_tmp 0 (by kernel_rfl)).trans E0
        clear hρ
        go_simp
      · intro f W h4 hd S
        refine wpOp_run (v := .int .u8 x4) rfl rfl (fun ρ hρ => ?_) ⟨(acts_some 4 rfl (by kernel_rfl) (by kernel_rfl)).symm, S⟩
        have e0 : ρ (.tmp 28) = .string (bstr bs) := by rw [hρ]; exact acts_eval_hit 3 rfl hd.1 (by rw [HSZ]; rfl) (by kernel_rfl)
        have ec : ∀ v, ρ (.const v) = v := by rw [hρ]; exact fun _ => rfl
        clear hρ
        skip
        go_simp
        exact congrArg _ hx4
      · intro f W h5 hd S
        refine wpOp_run (v := .int .i64 x4) rfl rfl (fun ρ hρ => ?_) ⟨(acts_some 5 rfl (by kernel_rfl) (by kernel_rfl)).symm, S⟩
        have e0 : ρ (.tmp 29) = .int .u8 x4 := by rw [hρ]; exact acts_eval_hit 4 rfl hd.1 (by rw [HSZ]; rfl) (by kernel_rfl)
        clear hρ
        go_simp
      · intro f W h6 hd S
        refine wpOp_run (v := .string (bstr bs)) rfl rfl (fun ρ hρ => ?_) ⟨(acts_some 6 rfl (by kernel_rfl) (by kernel_rfl)).symm, S⟩
        have e0 : ρ (.tmp 0) = .string (bstr bs) := by rw [hρ]; exact (acts_eval_tmp 0 (by kernel_rfl)).trans E0
        clear hρ
        go_simp
      · intro f W h7 hd S
        refine wpOp_run (v := .string (bstr b4)) rfl rfl (fun ρ hρ => ?_) ⟨(acts_some 7 rfl (by kernel_rfl) (by kernel_rfl)).symm, S⟩
        have e0 : ρ (.tmp 31) = .string (bstr bs) := by rw [hρ]; exact acts_eval_hit 6 rfl hd.1 (by rw [HSZ]; rfl) (by kernel_rfl)
        have ec : ∀ v, ρ (.const v) = v := by rw [hρ]; exact fun _ => rfl
        clear hρ
        go_simp
      · intro f W h8 hd S
        refine wpOp_call rfl rfl (fun ρ hρ => ?_) (hrn W) ?_
        · skip
          have e0 : ρ (.tmp 32) = .string (bstr b4) := by rw [hρ]; exact acts_eval_hit 7 rfl hd.1 (by rw [HSZ]; rfl) (by kernel_rfl)
          have ef : ρ (.func 32) = .func (.func 32) #[] #[] := by rw [hρ]; rfl
          clear hρ
          go_simp
        · (rintro e W' ⟨rfl, rfl⟩; exact ⟨_, rfl, (acts_some 8 rfl (by kernel_rfl) (by kernel_rfl)).symm, S⟩)
      · intro f W h9 hd S
        refine wpOp_run (v := .int .u64 y) rfl rfl (fun ρ hρ => ?_) ⟨(acts_some 9 rfl (by kernel_rfl) (by kernel_rfl)).symm, S⟩
        have e0 : ρ (.tmp 33) = .int .u64 x := by rw [hρ]; exact acts_eval_hit 8 rfl hd.1 (by rw [HSZ]; rfl) (by kernel_rfl)
        have ec : ∀ v, ρ (.const v) = v := by rw [hρ]; exact fun _ => rfl
        clear hρ
        go_simp
      · intro f W h10 hd S
        refine wpOp_run (v := .int .i64 y) rfl rfl (fun ρ hρ => ?_) ⟨(acts_some 10 rfl (by kernel_rfl) (by kernel_rfl)).symm, S⟩
        have e0 : ρ (.tmp 34) = .int .u64 y := by rw [hρ]; exact acts_eval_hit 9 rfl hd.1 (by rw [HSZ]; rfl) (by kernel_rfl)
        clear hρ
        go_simp
      · intro f W h11 hd S
        refine wpOp_run (v := .int .i64 n) rfl rfl (fun ρ hρ => ?_) ⟨(acts_some 11 rfl (by kernel_rfl) (by kernel_rfl)).symm, S⟩
        have e0 : ρ (.tmp 6) = .int .i64 n := by rw [hρ]; exact (acts_eval_tmp 6 (by kernel_rfl)).trans E6
        clear hρ
        go_simp
      · intro f W h12 hd S
        refine wpOp_run (v := .int .i64 (9 + n)) rfl rfl (fun ρ hρ => ?_) ⟨(acts_some 12 rfl (by kernel_rfl) (by kernel_rfl)).symm, S⟩
        have e0 : ρ (.tmp 36) = .int .i64 n := by rw [hρ]; exact acts_eval_hit 11 rfl hd.1 (by rw [HSZ]; rfl) (by kernel_rfl)
        have ec : ∀ v, ρ (.const v) = v := by rw [hρ]; exact fun _ => rfl
        clear hρ
        go_simp
      · intro f W h13 hd S
        refine wpOp_run (v := .agg #[.int .i64 x3, .int .i64 x4, .int .i64 y, .int .i64 (9 + n)]) rfl rfl (fun ρ hρ => ?_) ⟨(acts_some 13 rfl (by kernel_rfl) (by kernel_rfl)).symm, S⟩
        have e0 : ρ (.tmp 27) = .int .i64 x3 := by rw [hρ]; exact acts_eval_hit 2 rfl hd.1 (by rw [HSZ]; rfl) (by kernel_rfl)
        have e1 : ρ (.tmp 30) = .int .i64 x4 := by rw [hρ]; exact acts_eval_hit 5 rfl hd.2.1 (by rw [HSZ]; rfl) (by kernel_rfl)
        have e2 : ρ (.tmp 35) = .int .i64 y := by rw [hρ]; exact acts_eval_hit 10 rfl hd.2.2.1 (by rw [HSZ]; rfl) (by kernel_rfl)
        have e3 : ρ (.tmp 37) = .int .i64 (9 + n) := by rw [hρ]; exact acts_eval_hit 12 rfl hd.2.2.2.1 (by rw [HSZ]; rfl) (by kernel_rfl)
        clear hρ
        go_simp
      · intro f W h14 hd S
        rw [h14] at S
        refine wpOp_list rfl ?_
        refine st_store rfl _ _ _ rfl _ _ ((acts_eval_tmp 4 (by kernel_rfl)).trans E4) (acts_eval_hit 13 rfl hd.1 (by rw [HSZ]; rfl) (by kernel_rfl)) _ _ (S) rfl rfl (by simp [Value.oneCell']) fun W' S' => ?_
        exact ⟨(acts_none 14 (by kernel_rfl)).symm, S'⟩
      · intro f W h15 hd S
        refine wpOp_run (v := .int .i64 0) rfl rfl (fun ρ hρ => ?_) ⟨(acts_some 14 rfl (by kernel_rfl) (by kernel_rfl)).symm, S⟩
        have ec : ∀ v, ρ (.const v) = v := by rw [hρ]; exact fun _ => rfl
        clear hρ
        go_simp
    · intro W2 S2
      subst ha0
      simp only [acts, if_true, Act.put, List.setIfInBounds_toArray, List.set_cons_succ, List.set_cons_zero]
      clear S1 HSZ E0 E4 E6
      go_wp2_with fail
      exact bodyPost_ret (results_cell_t rfl _ _ _ _ _ _ rfl (S2).blk_at Try.underlying36 rfl (by kernel_rfl)) rfl (hK.out _ _ ⟨rfl, (S2).drop⟩)
end Go.Proofs.Ythenpoammpkjeaa

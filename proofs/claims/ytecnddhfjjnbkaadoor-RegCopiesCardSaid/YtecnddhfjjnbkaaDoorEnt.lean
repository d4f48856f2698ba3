/- reg: a stream as an entry; the document's stream as one: the walks. -/
import Derived.Test.YtecnddhfjjnbkaaDoorStepR
import Derived.Deep.Cut
set_option linter.unusedSimpArgs false
set_option linter.unusedVariables false
namespace Go.Proofs.YtecnddhfjjnbkaaDoor
open Go.RowKit

/-- An entry: number, tenant, state. -/
def eenc (x : Int × Int × Int) : Array Value := #[.int .i64 x.1, .int .i64 x.2.1, .int .i64 x.2.2]
section
variable {G : Gnd} {w w' : World} {l : List Asrt} {g : Nat} {ten quo last : Int} {F : List Ent} {L : List Int}
set_option maxHeartbeats 4000000 in
set_option maxRecDepth 100000 in
theorem rg_entry (H : Sat G w l) (hg : ∀ W : World, Sat G W l → W.cell? ⟨g, 0, none⟩ = some (.int .i64 ten)) (x : Ent) :
    Calls Tryd.prog 34 #[.pointer (some ⟨g, 0, none⟩), .agg x.enc.toArray] w fun e w' => e = .returned (.agg (eenc (absF ten x))) ∧ Sat G w' l := by
  refine calls_any fun K hK => ?_
  obtain ⟨id, n, C, hC⟩ := x
  obtain ⟨c0, c1, c2, c3, c4, c5, c6, c7, c8, rfl⟩ := nine hC
  simp only [absF, eenc] at hK
  show Calls _ _ #[.pointer (some ⟨g, 0, none⟩), .agg #[.int .i64 id, .int .i64 n, .int .i64 c0, .int .i64 c1, .int .i64 c2, .int .i64 c3, .int .i64 c4, .int .i64 c5, .int .i64 c6, .int .i64 c7, .int .i64 c8]] _ _
  obtain ⟨tn, htn⟩ : ∃ tn, tn = ownT id ten := ⟨_, rfl⟩
  rw [← htn] at hK
  have S1 := (H.newBlk #[.int .i64 id, .int .i64 n, .int .i64 c0, .int .i64 c1, .int .i64 c2, .int .i64 c3, .int .i64 c4, .int .i64 c5, .int .i64 c6, .int .i64 c7, .int .i64 c8] 72).newBlk #[.int .i64 0, .int .i64 0, .int .i64 0] 52
  simp only [World.size_alloc] at S1
  clear H
  go_enter Tryd.func34, Tryd.ntmps34
  go_upto_region 1 with fail
  generalize w.heap.size + 1 = q at *
  generalize w.heap.size = r at *
  refine wp_world S1 fun W2 S2 => ?_
  clear S1
  refine wp_act fun a0 ha0 => ?_
  have HSZ : a0.tmps.size = 14 := by rw [ha0]; rfl
  have E0 : a0.eval (.tmp 0) = .pointer (some ⟨g, 0, none⟩) := by rw [ha0]; rfl
  have E3 : a0.eval (.tmp 3) = .pointer (some ⟨r, 0, none⟩) := by rw [ha0]; rfl
  have E4 : a0.eval (.tmp 4) = .pointer (some ⟨q, 0, none⟩) := by rw [ha0]; rfl
  refine wp_region_J (by kernel_rfl) 10 (by kernel_rfl) [[], [0], [], [], [3], [2, 4], [], [6, 5], [1, 5, 7], [8, 7, 0, 1, 2, 3, 4, 5, 6, 7, 8]] (by kernel_rfl) (by kernel_rfl) (fun f a' W => a' = acts [(0, 5, .pointer (some ⟨r, 0, none⟩)), (1, 6, .int .i64 id), (2, 7, .pointer (some ⟨g, 0, none⟩)), (3, 8, .pointer (some ⟨r, 0, none⟩)), (4, 9, .int .i64 id), (5, 10, .int .i64 tn), (6, 11, .pointer (some ⟨r, 1, none⟩)), (7, 12, .int .i64 n), (8, 13, .agg #[.int .i64 id, .int .i64 tn, .int .i64 n])] f a0 ∧ Sat G W (blk q (cond (f 9) #[.int .i64 id, .int .i64 tn, .int .i64 n] #[.int .i64 0, .int .i64 0, .int .i64 0]) 52 :: blk r #[.int .i64 id, .int .i64 n, .int .i64 c0, .int .i64 c1, .int .i64 c2, .int .i64 c3, .int .i64 c4, .int .i64 c5, .int .i64 c6, .int .i64 c7, .int .i64 c8] 72 :: l)) ?_ ?_ ?_
  · exact ⟨rfl, S2.drew⟩
  · refine ⟨?_, ?_, ?_, ?_, ?_, ?_, ?_, ?_, ?_, ?_, trivial⟩
    · rintro f a' W h0 hd ⟨rfl, S⟩
      refine wpOp_run (v := .pointer (some ⟨r, 0, none⟩)) rfl rfl (fun ρ hρ => ?_) ⟨(acts_some 0 rfl (by kernel_rfl) (by kernel_rfl)).symm, S⟩
      have e0 : ρ (.tmp 3) = .pointer (some ⟨r, 0, none⟩) := by rw [hρ]; exact (acts_eval_tmp 3 (by kernel_rfl)).trans E3
      clear hρ
      go_simp
    · rintro f a' W h1 hd ⟨rfl, S⟩
      refine wpOp_run (v := .int .i64 id) rfl rfl (fun ρ hρ => ?_) ⟨(acts_some 1 rfl (by kernel_rfl) (by kernel_rfl)).symm, S⟩
      have e0 : ρ (.tmp 5) = .pointer (some ⟨r, 0, none⟩) := by rw [hρ]; exact acts_eval_hit 0 rfl hd.1 (by rw [HSZ]; rfl) (by kernel_rfl)
      clear hρ
      (have z : W.cell? ⟨r, 0, none⟩ = some (.int .i64 id) := S.swap.cell 0)
      go_simp
    · rintro f a' W h2 hd ⟨rfl, S⟩
      refine wpOp_run (v := .pointer (some ⟨g, 0, none⟩)) rfl rfl (fun ρ hρ => ?_) ⟨(acts_some 2 rfl (by kernel_rfl) (by kernel_rfl)).symm, S⟩
      have e0 : ρ (.tmp 0) = .pointer (some ⟨g, 0, none⟩) := by rw [hρ]; exact (acts_eval_tmp 0 (by kernel_rfl)).trans E0
      clear hρ
      go_simp
    · rintro f a' W h3 hd ⟨rfl, S⟩
      refine wpOp_run (v := .pointer (some ⟨r, 0, none⟩)) rfl rfl (fun ρ hρ => ?_) ⟨(acts_some 3 rfl (by kernel_rfl) (by kernel_rfl)).symm, S⟩
      have e0 : ρ (.tmp 3) = .pointer (some ⟨r, 0, none⟩) := by rw [hρ]; exact (acts_eval_tmp 3 (by kernel_rfl)).trans E3
      clear hρ
      go_simp
    · rintro f a' W h4 hd ⟨rfl, S⟩
      refine wpOp_run (v := .int .i64 id) rfl rfl (fun ρ hρ => ?_) ⟨(acts_some 4 rfl (by kernel_rfl) (by kernel_rfl)).symm, S⟩
      have e0 : ρ (.tmp 8) = .pointer (some ⟨r, 0, none⟩) := by rw [hρ]; exact acts_eval_hit 3 rfl hd.1 (by rw [HSZ]; rfl) (by kernel_rfl)
      clear hρ
      (have z : W.cell? ⟨r, 0, none⟩ = some (.int .i64 id) := S.swap.cell 0)
      go_simp
    · rintro f a' W h5 hd ⟨rfl, S⟩
      refine wpOp_call rfl rfl (fun ρ hρ => ?_) ((rg_owner (hg W S.drop.drop) id)) ?_
      · skip
        have e0 : ρ (.tmp 7) = .pointer (some ⟨g, 0, none⟩) := by rw [hρ]; exact acts_eval_hit 2 rfl hd.1 (by rw [HSZ]; rfl) (by kernel_rfl)
        have e1 : ρ (.tmp 9) = .int .i64 id := by rw [hρ]; exact acts_eval_hit 4 rfl hd.2.1 (by rw [HSZ]; rfl) (by kernel_rfl)
        have ef : ρ (.func 23) = .func (.func 23) #[] #[] := by rw [hρ]; rfl
        clear hρ
        go_simp
      · (rintro e W' ⟨rfl, rfl⟩; rw [← htn]; exact ⟨_, rfl, acts_swap rfl (k := 5) rfl (by kernel_rfl) (by kernel_rfl), S⟩)
    · rintro f a' W h6 hd ⟨rfl, S⟩
      refine wpOp_run (v := .pointer (some ⟨r, 1, none⟩)) rfl rfl (fun ρ hρ => ?_) ⟨(acts_some 6 rfl (by kernel_rfl) (by kernel_rfl)).symm, S⟩
      have e0 : ρ (.tmp 3) = .pointer (some ⟨r, 0, none⟩) := by rw [hρ]; exact (acts_eval_tmp 3 (by kernel_rfl)).trans E3
      clear hρ
      go_simp
    · rintro f a' W h7 hd ⟨rfl, S⟩
      refine wpOp_call rfl rfl (fun ρ hρ => ?_) ((rn_at2 (S.swap.cell 1))) ?_
      · skip
        have e0 : ρ (.tmp 11) = .pointer (some ⟨r, 1, none⟩) := by rw [hρ]; exact acts_eval_hit 6 rfl hd.1 (by rw [HSZ]; rfl) (by kernel_rfl)
        have ef : ρ (.func 26) = .func (.func 26) #[] #[] := by rw [hρ]; rfl
        clear hρ
        go_simp
      · (rintro e W' ⟨rfl, rfl⟩; exact ⟨_, rfl, acts_swap rfl (k := 7) rfl (by kernel_rfl) (by kernel_rfl), S⟩)
    · rintro f a' W h8 hd ⟨rfl, S⟩
      refine wpOp_run (v := .agg #[.int .i64 id, .int .i64 tn, .int .i64 n]) rfl rfl (fun ρ hρ => ?_) ⟨(acts_some 8 rfl (by kernel_rfl) (by kernel_rfl)).symm, S⟩
      have e0 : ρ (.tmp 6) = .int .i64 id := by rw [hρ]; exact acts_eval_hit 1 rfl hd.1 (by rw [HSZ]; rfl) (by kernel_rfl)
      have e1 : ρ (.tmp 10) = .int .i64 tn := by rw [hρ]; exact acts_eval_hit 5 rfl hd.2.1 (by rw [HSZ]; rfl) (by kernel_rfl)
      have e2 : ρ (.tmp 12) = .int .i64 n := by rw [hρ]; exact acts_eval_hit 7 rfl hd.2.2.1 (by rw [HSZ]; rfl) (by kernel_rfl)
      clear hρ
      go_simp
    · rintro f a' W h9 hd ⟨rfl, S⟩
      rw [h9] at S
      refine wpOp_list rfl ?_
      refine st_store rfl _ _ _ rfl _ _ ((acts_eval_tmp 4 (by kernel_rfl)).trans E4) (acts_eval_hit 8 rfl hd.1 (by rw [HSZ]; rfl) (by kernel_rfl)) _ _ (S) rfl rfl (by simp [Value.oneCell']) fun W' S' => ?_
      exact ⟨(acts_none 9 (by kernel_rfl)).symm, S'⟩
  · rintro a' W3 ⟨rfl, S3⟩
    subst ha0
    simp only [acts, if_true, Act.put, List.setIfInBounds_toArray, List.set_cons_succ, List.set_cons_zero]
    change Sat _ _ (blk q #[.int .i64 id, .int .i64 tn, .int .i64 n] _ :: _) at S3
    clear S2 HSZ E0 E3 E4
    go_wp2_with fail
    exact ret_cell S3 _ _ rfl _ rfl Tryd.underlying52 rfl (by kernel_rfl) rfl (hK.out _ _ ⟨rfl, S3.drop.drop⟩)
set_option maxHeartbeats 4000000 in
set_option maxRecDepth 100000 in
theorem law_entry (H : Sat G w l) (y : RSt) (hy : y.s ∈ goods) :
    Calls Tryd.prog 19 #[.agg (renc y).toArray] w fun e w' => e = .returned (.agg (eenc (absX y))) ∧ Sat G w' l := by
  refine calls_any fun K hK => ?_
  obtain ⟨id, t, ⟨b, ww, tt, rr⟩⟩ := y
  have hn := fun W => ref_number ⟨b, ww, tt, rr⟩ hy W
  simp only [absX, eenc] at hK
  simp only [R4.cells] at hn
  show Calls _ _ #[.agg #[.int .i64 id, .int .i64 t, .int .i64 b, .int .i64 ww, .int .i64 tt, .int .i64 rr]] _ _
  generalize rNum ⟨b, ww, tt, rr⟩ = n at *
  have S1 := (H.newBlk #[.int .i64 id, .int .i64 t, .int .i64 b, .int .i64 ww, .int .i64 tt, .int .i64 rr] 59).newBlk #[.int .i64 0, .int .i64 0, .int .i64 0] 52
  simp only [World.size_alloc] at S1
  clear H hy
  go_enter Tryd.func19, Tryd.ntmps19
  go_upto_region 1 with fail
  generalize w.heap.size + 1 = q at *
  generalize w.heap.size = r at *
  refine wp_world S1 fun W2 S2 => ?_
  clear S1
  refine wp_act fun a0 ha0 => ?_
  have HSZ : a0.tmps.size = 11 := by rw [ha0]; rfl
  have E1 : a0.eval (.tmp 1) = .pointer (some ⟨r, 0, none⟩) := by rw [ha0]; rfl
  have E2 : a0.eval (.tmp 2) = .pointer (some ⟨q, 0, none⟩) := by rw [ha0]; rfl
  refine wp_region_J (by kernel_rfl) 9 (by kernel_rfl) [[], [0], [], [2], [], [4], [5], [1, 3, 6], [7, 6, 0, 1, 2, 3, 4, 5, 6, 7]] (by kernel_rfl) (by kernel_rfl) (fun f a' W => a' = acts [(0, 3, .pointer (some ⟨r, 0, none⟩)), (1, 4, .int .i64 id), (2, 5, .pointer (some ⟨r, 1, none⟩)), (3, 6, .int .i64 t), (4, 7, .pointer (some ⟨r, 2, none⟩)), (5, 8, .agg #[.int .i64 b, .int .i64 ww, .int .i64 tt, .int .i64 rr]), (6, 9, .int .i64 n), (7, 10, .agg #[.int .i64 id, .int .i64 t, .int .i64 n])] f a0 ∧ Sat G W (blk q (cond (f 8) #[.int .i64 id, .int .i64 t, .int .i64 n] #[.int .i64 0, .int .i64 0, .int .i64 0]) 52 :: blk r #[.int .i64 id, .int .i64 t, .int .i64 b, .int .i64 ww, .int .i64 tt, .int .i64 rr] 59 :: l)) ?_ ?_ ?_
  · exact ⟨rfl, S2.drew⟩
  · refine ⟨?_, ?_, ?_, ?_, ?_, ?_, ?_, ?_, ?_, trivial⟩
    · rintro f a' W h0 hd ⟨rfl, S⟩
      refine wpOp_run (v := .pointer (some ⟨r, 0, none⟩)) rfl rfl (fun ρ hρ => ?_) ⟨(acts_some 0 rfl (by kernel_rfl) (by kernel_rfl)).symm, S⟩
      have e0 : ρ (.tmp 1) = .pointer (some ⟨r, 0, none⟩) := by rw [hρ]; exact (acts_eval_tmp 1 (by kernel_rfl)).trans E1
      clear hρ
      go_simp
    · rintro f a' W h1 hd ⟨rfl, S⟩
      refine wpOp_run (v := .int .i64 id) rfl rfl (fun ρ hρ => ?_) ⟨(acts_some 1 rfl (by kernel_rfl) (by kernel_rfl)).symm, S⟩
      have e0 : ρ (.tmp 3) = .pointer (some ⟨r, 0, none⟩) := by rw [hρ]; exact acts_eval_hit 0 rfl hd.1 (by rw [HSZ]; rfl) (by kernel_rfl)
      clear hρ
      (have z : W.cell? ⟨r, 0, none⟩ = some (.int .i64 id) := S.swap.cell 0)
      go_simp
    · rintro f a' W h2 hd ⟨rfl, S⟩
      refine wpOp_run (v := .pointer (some ⟨r, 1, none⟩)) rfl rfl (fun ρ hρ => ?_) ⟨(acts_some 2 rfl (by kernel_rfl) (by kernel_rfl)).symm, S⟩
      have e0 : ρ (.tmp 1) = .pointer (some ⟨r, 0, none⟩) := by rw [hρ]; exact (acts_eval_tmp 1 (by kernel_rfl)).trans E1
      clear hρ
      go_simp
    · rintro f a' W h3 hd ⟨rfl, S⟩
      refine wpOp_run (v := .int .i64 t) rfl rfl (fun ρ hρ => ?_) ⟨(acts_some 3 rfl (by kernel_rfl) (by kernel_rfl)).symm, S⟩
      have e0 : ρ (.tmp 5) = .pointer (some ⟨r, 1, none⟩) := by rw [hρ]; exact acts_eval_hit 2 rfl hd.1 (by rw [HSZ]; rfl) (by kernel_rfl)
      clear hρ
      (have z : W.cell? ⟨r, 1, none⟩ = some (.int .i64 t) := S.swap.cell 1)
      go_simp
    · rintro f a' W h4 hd ⟨rfl, S⟩
      refine wpOp_run (v := .pointer (some ⟨r, 2, none⟩)) rfl rfl (fun ρ hρ => ?_) ⟨(acts_some 4 rfl (by kernel_rfl) (by kernel_rfl)).symm, S⟩
      have e0 : ρ (.tmp 1) = .pointer (some ⟨r, 0, none⟩) := by rw [hρ]; exact (acts_eval_tmp 1 (by kernel_rfl)).trans E1
      clear hρ
      go_simp
    · rintro f a' W h5 hd ⟨rfl, S⟩
      have q7 : (acts [(0, 3, .pointer (some ⟨r, 0, none⟩)), (1, 4, .int .i64 id), (2, 5, .pointer (some ⟨r, 1, none⟩)), (3, 6, .int .i64 t), (4, 7, .pointer (some ⟨r, 2, none⟩)), (5, 8, .agg #[.int .i64 b, .int .i64 ww, .int .i64 tt, .int .i64 rr]), (6, 9, .int .i64 n), (7, 10, .agg #[.int .i64 id, .int .i64 t, .int .i64 n])] f a0).eval (.tmp 7) = .pointer (some ⟨r, 2, none⟩) := acts_eval_hit 4 rfl hd.1 (by rw [HSZ]; rfl) (by kernel_rfl)
      (refine wpOp_list rfl ?_; refine st_get rfl _ _ rfl r 2 q7 _ _ S.swap [.int .i64 b, .int .i64 ww, .int .i64 tt, .int .i64 rr] (fun i v hv => by rcases i with _ | _ | _ | _ | i <;> simp at hv ⊢ <;> exact hv) _ Tryd.underlying57 rfl (by kernel_rfl) ?_; exact ⟨(acts_some 5 rfl (by kernel_rfl) (by kernel_rfl)).symm, S⟩)
    · rintro f a' W h6 hd ⟨rfl, S⟩
      refine wpOp_call rfl rfl (fun ρ hρ => ?_) ((hn W)) ?_
      · skip
        have e0 : ρ (.tmp 8) = .agg #[.int .i64 b, .int .i64 ww, .int .i64 tt, .int .i64 rr] := by rw [hρ]; exact acts_eval_hit 5 rfl hd.1 (by rw [HSZ]; rfl) (by kernel_rfl)
        have ef : ρ (.func 35) = .func (.func 35) #[] #[] := by rw [hρ]; rfl
        clear hρ
        go_simp
      · (rintro e W' ⟨rfl, rfl⟩; exact ⟨_, rfl, acts_swap rfl (k := 6) rfl (by kernel_rfl) (by kernel_rfl), (S.newBlk _ _).drop⟩)
    · rintro f a' W h7 hd ⟨rfl, S⟩
      refine wpOp_run (v := .agg #[.int .i64 id, .int .i64 t, .int .i64 n]) rfl rfl (fun ρ hρ => ?_) ⟨(acts_some 7 rfl (by kernel_rfl) (by kernel_rfl)).symm, S⟩
      have e0 : ρ (.tmp 4) = .int .i64 id := by rw [hρ]; exact acts_eval_hit 1 rfl hd.1 (by rw [HSZ]; rfl) (by kernel_rfl)
      have e1 : ρ (.tmp 6) = .int .i64 t := by rw [hρ]; exact acts_eval_hit 3 rfl hd.2.1 (by rw [HSZ]; rfl) (by kernel_rfl)
      have e2 : ρ (.tmp 9) = .int .i64 n := by rw [hρ]; exact acts_eval_hit 6 rfl hd.2.2.1 (by rw [HSZ]; rfl) (by kernel_rfl)
      clear hρ
      go_simp
    · rintro f a' W h8 hd ⟨rfl, S⟩
      rw [h8] at S
      refine wpOp_list rfl ?_
      refine st_store rfl _ _ _ rfl _ _ ((acts_eval_tmp 2 (by kernel_rfl)).trans E2) (acts_eval_hit 7 rfl hd.1 (by rw [HSZ]; rfl) (by kernel_rfl)) _ _ (S) rfl rfl (by simp [Value.oneCell']) fun W' S' => ?_
      exact ⟨(acts_none 8 (by kernel_rfl)).symm, S'⟩
  · rintro a' W3 ⟨rfl, S3⟩
    subst ha0
    simp only [acts, if_true, Act.put, List.setIfInBounds_toArray, List.set_cons_succ, List.set_cons_zero]
    change Sat _ _ (blk q #[.int .i64 id, .int .i64 t, .int .i64 n] _ :: _) at S3
    clear S2 HSZ E1 E2
    go_wp2_with fail
    exact ret_cell S3 _ _ rfl _ rfl Tryd.underlying52 rfl (by kernel_rfl) rfl (hK.out _ _ ⟨rfl, S3.drop.drop⟩)
end
end Go.Proofs.YtecnddhfjjnbkaaDoor

/- slices.IndexFunc, slices.DeleteFunc of nil; outbound: forget. outbound: Get, where the stream goes away. outbound, in plain Lean: the streams of each tenant are counted; what a stream leaves behind that goes away. outbound: Reset. outbound: Fail, in plain Lean. outbound: Fail. -/
import Derived.Test.YtcecfhfbcdbofaaGreatDoorOps
import Derived.Deep.Cut
set_option linter.unusedSimpArgs false
set_option linter.unusedVariables false
namespace Go.Proofs.YtcecfhfbcdbofaaGreatDoor
open Go.RowKit
attribute [local go_sem] Oper.semAt_some

section
variable {G : Gnd} {w w' : World} {l : List Asrt} {o : Nat} {c : Oc} {s : Os}
theorem ix_nil (v : Value) (w : World) : Calls Tryz.prog 107 #[.slice none 0 0, v] w fun e w' => e = .returned (.int .i64 (-1)) ∧ w = w' := by
  refine calls_any fun K hK => ?_
  go_enter Tryz.func107, Tryz.ntmps107
  go_wp2_with fail
  go_loopw [8] (fun i wr => i = .int .i64 0 ∧ wr = w) (fun _ _ => 0)
  case atStart => exact ⟨rfl, rfl⟩
  case round =>
    obtain ⟨rfl, rfl⟩ := hrel
    go_wp2_with fail
    exact hK.out _ _ ⟨rfl, rfl⟩
theorem df_nil (v : Value) (w : World) : Calls Tryz.prog 87 #[.slice none 0 0, v] w fun e w' => e = .returned (.slice none 0 0) ∧ w = w' := by
  refine calls_any fun K hK => ?_
  have h := ix_nil v w
  go_enter Tryz.func87, Tryz.ntmps87
  go_wp2_with fail
  (with_reducible refine h.mono ?_)
  rintro e w1 ⟨rfl, rfl⟩
  go_wp2_with fail
  exact hK.out _ _ ⟨rfl, rfl⟩
theorem str_filter (p : Sm → Bool) : ∀ {M : List Sm} {l : List Asrt}, Sat G w (strA M :: l) → Sat G w (strA (M.filter p) :: l)
  | [], l, H => H
  | y :: M, l, H => by
    have S := (str_cons.1 H).swap
    have S2 := (str_filter p S).swap
    cases hp : p y with
    | true => rw [List.filter_cons_of_pos hp]; exact str_cons.2 S2
    | false => rw [List.filter_cons_of_neg (by rw [hp]; decide)]; exact S2.drop
def noS (M : List Sm) (id : Int) : List Sm := M.filter fun y => !(y.id == id)
theorem noS_map (M : List Sm) (id : Int) : (M.map Sm.kp).filter (fun x => !(x.1 == id)) = (noS M id).map Sm.kp := by
  unfold noS
  rw [List.filter_map]; rfl
set_option maxHeartbeats 8000000 in
set_option maxRecDepth 100000 in
theorem ob_forget (H : Sat G w (outA o c s :: l)) (id : Int) (hk : (Lit.int .i64 id).wf = true) (t : Nat) (ht : t < c.ten) (ht1 : c.ten ≤ 64) (hot : ownT id c.ten = t) :
    Calls Tryz.prog 58 #[.pointer (some ⟨o, 0, none⟩), .int .i64 id] w fun e w' => e = .returned (.tuple #[]) ∧ Sat G w' (outA o c { s with M := noS s.M id } :: l) := by
  refine calls_any fun K hK => ?_
  obtain ⟨a, S⟩ := out_iff.1 (H.newBlk #[.int .i64 id] 3).swap
  have k0 : (w.alloc (.cells #[.int .i64 id] 3)).cell? ⟨o, 0, none⟩ = some (.int .i64 c.ten) := S.cell 0
  have how := ob_owner k0 id
  rw [hot] at how
  have S1 : Sat G _ (mpA a.mb (s.M.map Sm.kp) :: blk o (obC c a s.last) 72 :: blk w.heap.size #[.int .i64 id] 3 :: ownS 98 1 a.gv c.ten (noG c.ten) :: quA a.q s.Q c.byt c.itm :: rgA a.g c.ten c.str s.F s.L s.rl :: crA a.p s.C 0 :: strA s.M :: ctA a.cv s.D :: l) := Sat.re S [4, 0, 8, 7, 1, 2, 3, 5, 6]
  have i0 := S1.pull2.cell 0
  obtain ⟨E, hE⟩ : ∃ E : List Asrt, E = quA a.q s.Q c.byt c.itm :: rgA a.g c.ten c.str s.F s.L s.rl :: crA a.p s.C 0 :: strA s.M :: ctA a.cv s.D :: l := ⟨_, rfl⟩
  rw [← hE] at S1
  have HE := Lib.hid hE
  have HS1 := Lib.hid S1
  clear H S hE S1
  go_enter Tryz.func58, Tryz.ntmps58
  go_wp2_with fail
  (with_reducible refine how.mono ?_)
  rintro e w1 ⟨rfl, rfl⟩
  clear how
  go_upto_region 2 with (fail)
  generalize w.heap.size = pi at HS1 ⊢
  refine wp_world HS1.out fun W S2 => ?_
  clear k0 i0 HS1
  refine wp_act fun a0 ha0 => ?_
  have HSZ : a0.tmps.size = 28 := by rw [ha0]; rfl
  have E0 : a0.eval (.tmp 0) = .pointer (some ⟨o, 0, none⟩) := by rw [ha0]; rfl
  have E3 : a0.eval (.tmp 3) = .pointer (some ⟨pi, 0, none⟩) := by rw [ha0]; rfl
  refine wp_region_J (by kernel_rfl) 6 (by kernel_rfl) [[], [0], [1], [2], [], [3, 4]] (by kernel_rfl) (by kernel_rfl) (fun f a' W => a' = acts [(0, 8, .pointer (some ⟨o, 0, none⟩)), (1, 9, .pointer (some ⟨o, 0, none⟩)), (2, 10, .pointer (some ⟨o, 8, none⟩)), (3, 11, .map (some a.mb)), (4, 12, .int .i64 id)] f a0 ∧ Sat G W (mpA a.mb (cond (f 5) ((noS s.M id).map Sm.kp) (s.M.map Sm.kp)) :: blk o (obC c a s.last) 72 :: blk pi #[.int .i64 id] 3 :: ownS 98 1 a.gv c.ten (noG c.ten) :: E)) ?_ ?_ ?_
  · exact ⟨rfl, S2.drew⟩
  · refine ⟨?_, ?_, ?_, ?_, ?_, ?_, trivial⟩
    · rintro f a' W h0 hd ⟨rfl, S⟩
      refine wpOp_run (v := .pointer (some ⟨o, 0, none⟩)) rfl rfl (fun ρ hρ => ?_) ⟨(acts_some 0 rfl (by kernel_rfl) (by kernel_rfl)).symm, S⟩
      have e0 : ρ (.tmp 0) = .pointer (some ⟨o, 0, none⟩) := by rw [hρ]; exact (acts_eval_tmp 0 (by kernel_rfl)).trans E0
      clear hρ
      go_simp
    · rintro f a' W h1 hd ⟨rfl, S⟩
      refine wpOp_run (v := .pointer (some ⟨o, 0, none⟩)) rfl rfl (fun ρ hρ => ?_) ⟨(acts_some 1 rfl (by kernel_rfl) (by kernel_rfl)).symm, S⟩
      have e0 : ρ (.tmp 8) = .pointer (some ⟨o, 0, none⟩) := by rw [hρ]; exact acts_eval_hit 0 rfl hd.1 (by rw [HSZ]; rfl) (by kernel_rfl)
      clear hρ
      go_simp
    · rintro f a' W h2 hd ⟨rfl, S⟩
      refine wpOp_run (v := .pointer (some ⟨o, 8, none⟩)) rfl rfl (fun ρ hρ => ?_) ⟨(acts_some 2 rfl (by kernel_rfl) (by kernel_rfl)).symm, S⟩
      have e0 : ρ (.tmp 9) = .pointer (some ⟨o, 0, none⟩) := by rw [hρ]; exact acts_eval_hit 1 rfl hd.1 (by rw [HSZ]; rfl) (by kernel_rfl)
      clear hρ
      go_simp
    · rintro f a' W h3 hd ⟨rfl, S⟩
      refine wpOp_run (v := .map (some a.mb)) rfl rfl (fun ρ hρ => ?_) ⟨(acts_some 3 rfl (by kernel_rfl) (by kernel_rfl)).symm, S⟩
      have e0 : ρ (.tmp 10) = .pointer (some ⟨o, 8, none⟩) := by rw [hρ]; exact acts_eval_hit 2 rfl hd.1 (by rw [HSZ]; rfl) (by kernel_rfl)
      clear hρ
      (have z8 : W.cell? ⟨o, 8, none⟩ = some (.map (some a.mb)) := S.swap.cell 8)
      go_simp
    · rintro f a' W h4 hd ⟨rfl, S⟩
      refine wpOp_run (v := .int .i64 id) rfl rfl (fun ρ hρ => ?_) ⟨(acts_some 4 rfl (by kernel_rfl) (by kernel_rfl)).symm, S⟩
      have e0 : ρ (.tmp 3) = .pointer (some ⟨pi, 0, none⟩) := by rw [hρ]; exact (acts_eval_tmp 3 (by kernel_rfl)).trans E3
      clear hρ
      (have z0 := S.pull2.cell 0)
      go_simp
    · rintro f a' W h5 hd ⟨rfl, S⟩
      have q11 : (acts [(0, 8, .pointer (some ⟨o, 0, none⟩)), (1, 9, .pointer (some ⟨o, 0, none⟩)), (2, 10, .pointer (some ⟨o, 8, none⟩)), (3, 11, .map (some a.mb)), (4, 12, .int .i64 id)] f a0).eval (.tmp 11) = .map (some a.mb) := acts_eval_hit 3 rfl hd.1 (by rw [HSZ]; rfl) (by kernel_rfl)
      have q12 : (acts [(0, 8, .pointer (some ⟨o, 0, none⟩)), (1, 9, .pointer (some ⟨o, 0, none⟩)), (2, 10, .pointer (some ⟨o, 8, none⟩)), (3, 11, .map (some a.mb)), (4, 12, .int .i64 id)] f a0).eval (.tmp 12) = .int .i64 id := acts_eval_hit 4 rfl hd.2.1 (by rw [HSZ]; rfl) (by kernel_rfl)
      (rw [h5] at S; simp only [cond_false] at S; obtain ⟨w9, hr, S9⟩ := mp_drop S id 0 hk; rw [noS_map] at S9; refine wpOp_mem (v := .tuple #[]) (w' := w9) rfl rfl (fun ρ hρ => (by have e0 : ρ (.tmp 11) = .map (some a.mb) := (by rw [hρ]; exact q11); have e1 : ρ (.tmp 12) = .int .i64 id := (by rw [hρ]; exact q12); clear hρ q11 q12; go_simp)) ⟨(acts_none 5 (by kernel_rfl)).symm, S9⟩)
  · rintro a' W2 ⟨rfl, S3⟩
    subst ha0
    simp only [acts, if_true, Act.put, List.setIfInBounds_toArray, List.set_cons_succ, List.set_cons_zero]
    simp only [cond_true] at S3
    clear S2 HSZ E0 E3
    have S4 : Sat G W2 (ownS 98 1 a.gv c.ten (noG c.ten) :: blk o (obC c a s.last) 72 :: mpA a.mb ((noS s.M id).map Sm.kp) :: blk pi #[.int .i64 id] 3 :: E) := Sat.re S3 [3, 1, 0, 2]
    obtain ⟨hl, ⟨-, hn0, -⟩ | ⟨gb, cap, cur, hgv, hc, hcm, hcs, hct, S5⟩⟩ := own_iff.1 S4
    · omega
    have hci : cur[t]? = some (.slice none 0 0) := by
      have e1 : (cur.toList.take (c.ten * 1))[t]? = (noG c.ten)[t]? := by rw [hct]
      rw [List.getElem?_take, if_pos (by omega)] at e1
      rw [← Array.getElem?_toList, e1]
      simp [noG, ht]
    have hcz : t < cur.size := (Array.getElem?_eq_some_iff.1 hci).1
    have hsame : cur.setIfInBounds t (.slice none 0 0) = cur := by
      apply Array.ext_getElem?
      intro j
      rw [Array.getElem?_setIfInBounds]
      split
      · rename_i h
        subst h
        exact hci.symm
      · rfl
    have hti : (t : Int) < (c.ten : Int) := by omega
    have hcap : cap ≤ 9223372036854775807 := hcm
    have HCL : Hid (∀ W', Sat G W' (blk gb cur 98 :: blk o (obC c a s.last) 72 :: mpA a.mb ((noS s.M id).map Sm.kp) :: blk pi #[.int .i64 id] 3 :: E) → Sat G W' (outA o c { s with M := noS s.M id } :: l)) := Lib.hid fun W' S => by
      have S6 : Sat G W' (ownS 98 1 a.gv c.ten (noG c.ten) :: _) := own_iff.2 ⟨hl, .inr ⟨gb, cap, cur, hgv, hc, hcm, hcs, hct, S⟩⟩
      rw [HE.out] at S6
      have S7 := (Sat.re S6 [3, 1, 4, 5, 6, 2, 7, 8, 0]).drop
      have S8 := str_filter (fun y => !(y.id == id)) (Sat.re S7 [5, 0, 1, 2, 3, 4, 6, 7])
      exact out_iff.2 ⟨a, Sat.re S8 [1, 2, 3, 4, 5, 0, 6, 7]⟩
    have k10 : ∀ W', Sat G W' (blk gb cur 98 :: blk o (obC c a s.last) 72 :: mpA a.mb ((noS s.M id).map Sm.kp) :: blk pi #[.int .i64 id] 3 :: E) → W'.cell? ⟨o, 10, none⟩ = some (.slice (some ⟨gb, 0, none⟩) c.ten cap) := fun W' S => by
      have h := S.swap.cell 10
      rw [show (obC c a s.last)[10]? = some a.gv from rfl, hgv] at h
      exact h
    clear S3 S4 hl hct hcs hgv hc hcm
    go_upto_region 3 with (fail)
    refine wp_act fun a0 ha0 => ?_
    have HSZ : a0.tmps.size = 28 := by rw [ha0]; rfl
    have E0 : a0.eval (.tmp 0) = .pointer (some ⟨o, 0, none⟩) := by rw [ha0]; rfl
    have E3 : a0.eval (.tmp 3) = .pointer (some ⟨pi, 0, none⟩) := by rw [ha0]; rfl
    have E4 : a0.eval (.tmp 4) = .int .i64 t := by rw [ha0]; rfl
    refine wp_region_J (by kernel_rfl) 16 (by kernel_rfl) [[], [0], [1], [2], [], [], [5], [6], [7], [], [8, 9], [10], [], [11, 12], [3, 4, 0, 1, 2, 3, 4, 5, 6, 7, 8, 9, 10, 11, 12, 13], [14, 13, 13, 0, 1, 2, 3, 4, 5, 6, 7, 8, 9, 10, 11, 12, 13]] (by kernel_rfl) (by kernel_rfl) (fun f a' W => a' = acts [(0, 13, .pointer (some ⟨o, 0, none⟩)), (1, 14, .pointer (some ⟨o, 0, none⟩)), (2, 15, .pointer (some ⟨o, 10, none⟩)), (3, 16, .slice (some ⟨gb, 0, none⟩) c.ten cap), (4, 17, .int .i64 t), (5, 18, .pointer (some ⟨o, 0, none⟩)), (6, 19, .pointer (some ⟨o, 0, none⟩)), (7, 20, .pointer (some ⟨o, 10, none⟩)), (8, 21, .slice (some ⟨gb, 0, none⟩) c.ten cap), (9, 22, .int .i64 t), (10, 23, .pointer (some ⟨gb, t, none⟩)), (11, 24, .slice none 0 0), (12, 25, .func (.func 88) #[] #[.pointer (some ⟨pi, 0, none⟩)]), (13, 26, .slice none 0 0), (14, 27, .pointer (some ⟨gb, t, none⟩))] f a0 ∧ Sat G W (blk gb cur 98 :: blk o (obC c a s.last) 72 :: mpA a.mb ((noS s.M id).map Sm.kp) :: blk pi #[.int .i64 id] 3 :: E)) ?_ ?_ ?_
    · exact ⟨rfl, S5.drew⟩
    · refine ⟨?_, ?_, ?_, ?_, ?_, ?_, ?_, ?_, ?_, ?_, ?_, ?_, ?_, ?_, ?_, ?_, trivial⟩
      · rintro f a' W h0 hd ⟨rfl, S⟩
        refine wpOp_run (v := .pointer (some ⟨o, 0, none⟩)) rfl rfl (fun ρ hρ => ?_) ⟨(acts_some 0 rfl (by kernel_rfl) (by kernel_rfl)).symm, S⟩
        have e0 : ρ (.tmp 0) = .pointer (some ⟨o, 0, none⟩) := by rw [hρ]; exact (acts_eval_tmp 0 (by kernel_rfl)).trans E0
        clear hρ
        go_simp
      · rintro f a' W h1 hd ⟨rfl, S⟩
        refine wpOp_run (v := .pointer (some ⟨o, 0, none⟩)) rfl rfl (fun ρ hρ => ?_) ⟨(acts_some 1 rfl (by kernel_rfl) (by kernel_rfl)).symm, S⟩
        have e0 : ρ (.tmp 13) = .pointer (some ⟨o, 0, none⟩) := by rw [hρ]; exact acts_eval_hit 0 rfl hd.1 (by rw [HSZ]; rfl) (by kernel_rfl)
        clear hρ
        go_simp
      · rintro f a' W h2 hd ⟨rfl, S⟩
        refine wpOp_run (v := .pointer (some ⟨o, 10, none⟩)) rfl rfl (fun ρ hρ => ?_) ⟨(acts_some 2 rfl (by kernel_rfl) (by kernel_rfl)).symm, S⟩
        have e0 : ρ (.tmp 14) = .pointer (some ⟨o, 0, none⟩) := by rw [hρ]; exact acts_eval_hit 1 rfl hd.1 (by rw [HSZ]; rfl) (by kernel_rfl)
        clear hρ
        go_simp
      · rintro f a' W h3 hd ⟨rfl, S⟩
        refine wpOp_run (v := .slice (some ⟨gb, 0, none⟩) c.ten cap) rfl rfl (fun ρ hρ => ?_) ⟨(acts_some 3 rfl (by kernel_rfl) (by kernel_rfl)).symm, S⟩
        have e0 : ρ (.tmp 15) = .pointer (some ⟨o, 10, none⟩) := by rw [hρ]; exact acts_eval_hit 2 rfl hd.1 (by rw [HSZ]; rfl) (by kernel_rfl)
        clear hρ
        (have z := k10 W S)
        go_simp
      · rintro f a' W h4 hd ⟨rfl, S⟩
        refine wpOp_run (v := .int .i64 t) rfl rfl (fun ρ hρ => ?_) ⟨(acts_some 4 rfl (by kernel_rfl) (by kernel_rfl)).symm, S⟩
        have e0 : ρ (.tmp 4) = .int .i64 t := by rw [hρ]; exact (acts_eval_tmp 4 (by kernel_rfl)).trans E4
        clear hρ
        go_simp
      · rintro f a' W h5 hd ⟨rfl, S⟩
        refine wpOp_run (v := .pointer (some ⟨o, 0, none⟩)) rfl rfl (fun ρ hρ => ?_) ⟨(acts_some 5 rfl (by kernel_rfl) (by kernel_rfl)).symm, S⟩
        have e0 : ρ (.tmp 0) = .pointer (some ⟨o, 0, none⟩) := by rw [hρ]; exact (acts_eval_tmp 0 (by kernel_rfl)).trans E0
        clear hρ
        go_simp
      · rintro f a' W h6 hd ⟨rfl, S⟩
        refine wpOp_run (v := .pointer (some ⟨o, 0, none⟩)) rfl rfl (fun ρ hρ => ?_) ⟨(acts_some 6 rfl (by kernel_rfl) (by kernel_rfl)).symm, S⟩
        have e0 : ρ (.tmp 18) = .pointer (some ⟨o, 0, none⟩) := by rw [hρ]; exact acts_eval_hit 5 rfl hd.1 (by rw [HSZ]; rfl) (by kernel_rfl)
        clear hρ
        go_simp
      · rintro f a' W h7 hd ⟨rfl, S⟩
        refine wpOp_run (v := .pointer (some ⟨o, 10, none⟩)) rfl rfl (fun ρ hρ => ?_) ⟨(acts_some 7 rfl (by kernel_rfl) (by kernel_rfl)).symm, S⟩
        have e0 : ρ (.tmp 19) = .pointer (some ⟨o, 0, none⟩) := by rw [hρ]; exact acts_eval_hit 6 rfl hd.1 (by rw [HSZ]; rfl) (by kernel_rfl)
        clear hρ
        go_simp
      · rintro f a' W h8 hd ⟨rfl, S⟩
        refine wpOp_run (v := .slice (some ⟨gb, 0, none⟩) c.ten cap) rfl rfl (fun ρ hρ => ?_) ⟨(acts_some 8 rfl (by kernel_rfl) (by kernel_rfl)).symm, S⟩
        have e0 : ρ (.tmp 20) = .pointer (some ⟨o, 10, none⟩) := by rw [hρ]; exact acts_eval_hit 7 rfl hd.1 (by rw [HSZ]; rfl) (by kernel_rfl)
        clear hρ
        (have z := k10 W S)
        go_simp
      · rintro f a' W h9 hd ⟨rfl, S⟩
        refine wpOp_run (v := .int .i64 t) rfl rfl (fun ρ hρ => ?_) ⟨(acts_some 9 rfl (by kernel_rfl) (by kernel_rfl)).symm, S⟩
        have e0 : ρ (.tmp 4) = .int .i64 t := by rw [hρ]; exact (acts_eval_tmp 4 (by kernel_rfl)).trans E4
        clear hρ
        go_simp
      · rintro f a' W h10 hd ⟨rfl, S⟩
        refine wpOp_run (v := .pointer (some ⟨gb, t, none⟩)) rfl rfl (fun ρ hρ => ?_) ⟨(acts_some 10 rfl (by kernel_rfl) (by kernel_rfl)).symm, S⟩
        have e0 : ρ (.tmp 21) = .slice (some ⟨gb, 0, none⟩) c.ten cap := by rw [hρ]; exact acts_eval_hit 8 rfl hd.1 (by rw [HSZ]; rfl) (by kernel_rfl)
        have e1 : ρ (.tmp 22) = .int .i64 t := by rw [hρ]; exact acts_eval_hit 9 rfl hd.2.1 (by rw [HSZ]; rfl) (by kernel_rfl)
        clear hρ
        go_simp
      · rintro f a' W h11 hd ⟨rfl, S⟩
        refine wpOp_run (v := .slice none 0 0) rfl rfl (fun ρ hρ => ?_) ⟨(acts_some 11 rfl (by kernel_rfl) (by kernel_rfl)).symm, S⟩
        have e0 : ρ (.tmp 23) = .pointer (some ⟨gb, t, none⟩) := by rw [hρ]; exact acts_eval_hit 10 rfl hd.1 (by rw [HSZ]; rfl) (by kernel_rfl)
        clear hρ
        (have z : W.cell? ⟨gb, t, none⟩ = some (.slice none 0 0) := (S.cell t).trans hci)
        go_simp
      · rintro f a' W h12 hd ⟨rfl, S⟩
        refine wpOp_run (v := .func (.func 88) #[] #[.pointer (some ⟨pi, 0, none⟩)]) rfl rfl (fun ρ hρ => ?_) ⟨(acts_some 12 rfl (by kernel_rfl) (by kernel_rfl)).symm, S⟩
        have e0 : ρ (.tmp 3) = .pointer (some ⟨pi, 0, none⟩) := by rw [hρ]; exact (acts_eval_tmp 3 (by kernel_rfl)).trans E3
        clear hρ
        go_simp
      · rintro f a' W h13 hd ⟨rfl, S⟩
        refine wpOp_call rfl rfl (fun ρ hρ => ?_) (df_nil (.func (.func 88) #[] #[.pointer (some ⟨pi, 0, none⟩)]) W) ?_
        · skip
          have e0 : ρ (.tmp 24) = .slice none 0 0 := by rw [hρ]; exact acts_eval_hit 11 rfl hd.1 (by rw [HSZ]; rfl) (by kernel_rfl)
          have e1 : ρ (.tmp 25) = .func (.func 88) #[] #[.pointer (some ⟨pi, 0, none⟩)] := by rw [hρ]; exact acts_eval_hit 12 rfl hd.2.1 (by rw [HSZ]; rfl) (by kernel_rfl)
          have ef : ρ (.func 87) = .func (.func 87) #[] #[] := by rw [hρ]; rfl
          clear hρ
          go_simp
        · (rintro e W' ⟨rfl, rfl⟩; exact ⟨_, rfl, (acts_some 13 rfl (by kernel_rfl) (by kernel_rfl)).symm, S⟩)
      · rintro f a' W h14 hd ⟨rfl, S⟩
        refine wpOp_run (v := .pointer (some ⟨gb, t, none⟩)) rfl rfl (fun ρ hρ => ?_) ⟨(acts_some 14 rfl (by kernel_rfl) (by kernel_rfl)).symm, S⟩
        have e0 : ρ (.tmp 16) = .slice (some ⟨gb, 0, none⟩) c.ten cap := by rw [hρ]; exact acts_eval_hit 3 rfl hd.1 (by rw [HSZ]; rfl) (by kernel_rfl)
        have e1 : ρ (.tmp 17) = .int .i64 t := by rw [hρ]; exact acts_eval_hit 4 rfl hd.2.1 (by rw [HSZ]; rfl) (by kernel_rfl)
        clear hρ
        go_simp
      · rintro f a' W h15 hd ⟨rfl, S⟩
        have q27 : (acts [(0, 13, .pointer (some ⟨o, 0, none⟩)), (1, 14, .pointer (some ⟨o, 0, none⟩)), (2, 15, .pointer (some ⟨o, 10, none⟩)), (3, 16, .slice (some ⟨gb, 0, none⟩) c.ten cap), (4, 17, .int .i64 t), (5, 18, .pointer (some ⟨o, 0, none⟩)), (6, 19, .pointer (some ⟨o, 0, none⟩)), (7, 20, .pointer (some ⟨o, 10, none⟩)), (8, 21, .slice (some ⟨gb, 0, none⟩) c.ten cap), (9, 22, .int .i64 t), (10, 23, .pointer (some ⟨gb, t, none⟩)), (11, 24, .slice none 0 0), (12, 25, .func (.func 88) #[] #[.pointer (some ⟨pi, 0, none⟩)]), (13, 26, .slice none 0 0), (14, 27, .pointer (some ⟨gb, t, none⟩))] f a0).eval (.tmp 27) = .pointer (some ⟨gb, t, none⟩) := acts_eval_hit 14 rfl hd.1 (by rw [HSZ]; rfl) (by kernel_rfl)
        have q26 : (acts [(0, 13, .pointer (some ⟨o, 0, none⟩)), (1, 14, .pointer (some ⟨o, 0, none⟩)), (2, 15, .pointer (some ⟨o, 10, none⟩)), (3, 16, .slice (some ⟨gb, 0, none⟩) c.ten cap), (4, 17, .int .i64 t), (5, 18, .pointer (some ⟨o, 0, none⟩)), (6, 19, .pointer (some ⟨o, 0, none⟩)), (7, 20, .pointer (some ⟨o, 10, none⟩)), (8, 21, .slice (some ⟨gb, 0, none⟩) c.ten cap), (9, 22, .int .i64 t), (10, 23, .pointer (some ⟨gb, t, none⟩)), (11, 24, .slice none 0 0), (12, 25, .func (.func 88) #[] #[.pointer (some ⟨pi, 0, none⟩)]), (13, 26, .slice none 0 0), (14, 27, .pointer (some ⟨gb, t, none⟩))] f a0).eval (.tmp 26) = .slice none 0 0 := acts_eval_hit 13 rfl hd.2.1 (by rw [HSZ]; rfl) (by kernel_rfl)
        (refine wpOp_list rfl ?_; refine st_set rfl _ _ _ rfl _ _ _ q27 q26 rfl _ _ S (by kernel_rfl) hcz fun W' S' => ?_; rw [hsame] at S'; exact ⟨(acts_none 15 (by kernel_rfl)).symm, S'⟩)
    · rintro a' W3 ⟨rfl, S6⟩
      subst ha0
      simp only [acts, if_true, Act.put, List.setIfInBounds_toArray, List.set_cons_succ, List.set_cons_zero]
      have HS6 := Lib.hid (HCL.out _ S6)
      clear S5 S6 HSZ E0 E3 E4 k10 hsame hci
      go_wp2_with fail
      go_end0
      exact hK.out _ _ ⟨rfl, HS6.out⟩
end
end Go.Proofs.YtcecfhfbcdbofaaGreatDoor
set_option linter.unusedSimpArgs false
set_option linter.unusedVariables false
namespace Go.Proofs.YtcecfhfbcdbofaaGreatDoor
open Go.RowKit
attribute [local go_sem] Oper.semAt_some

/-- A sender behind a stream that went away. -/
def goneS (c : Oc) (s : Os) (i : Nat) (x : Ent) : Os := { s with F := s.F.take i ++ s.F.drop (i + 1), L := s.L.set (ownT x.id c.ten).toNat (liveAt s.L (ownT x.id c.ten) - 1), M := noS s.M x.id }
theorem gone_sub {F : List Ent} {i : Nat} : (F.take i ++ F.drop (i + 1)).Sublist F := by
  rw [← List.eraseIdx_eq_take_drop_succ]
  exact List.eraseIdx_sublist F i
theorem gone_rising {F : List Ent} {i : Nat} (h : Rising F) : Rising (F.take i ++ F.drop (i + 1)) := by
  rw [rising_ids] at h ⊢
  exact h.sublist (gone_sub.map _)
theorem gone_no {F : List Ent} {i : Nat} {x : Ent} (h : Rising F) (hx : F[i]? = some x) : ∀ z ∈ F.take i ++ F.drop (i + 1), z.id ≠ x.id := by
  have hi := (List.getElem?_eq_some_iff.1 hx).1
  have hF : F = F.take i ++ x :: F.drop (i + 1) := by
    obtain ⟨h1, rfl⟩ := List.getElem?_eq_some_iff.1 hx
    rw [List.getElem_cons_drop, List.take_append_drop]
  rw [rising_ids, hF, List.map_append, List.map_cons, List.pairwise_append] at h
  obtain ⟨-, h2, h3⟩ := h
  intro z hz
  rcases List.mem_append.1 hz with hz | hz
  · have := h3 z.id (List.mem_map_of_mem hz) x.id (by simp)
    omega
  · have := (List.pairwise_cons.1 h2).1 z.id (List.mem_map_of_mem hz)
    omega
section
variable {G : Gnd} {w w' : World} {l : List Asrt} {o : Nat} {c : Oc} {s : Os}
set_option maxHeartbeats 8000000 in
set_option maxRecDepth 100000 in
theorem ob_get_gone (H : Sat G w (outA o c s :: l)) (hw : OWf c s) (ht : TabG G) (i : Nat) (x : Ent) (hx : s.F[i]? = some x) (e : Int) (h4 : (pDo x.n e).n = 4) (y : Sm) (hy : smAt s.M x.id = some y) (hk : (Lit.int .i64 x.id).wf = true) (t : Nat) (htt : t < c.ten) (hot : ownT x.id c.ten = t) :
    Calls Tryz.prog 36 #[.pointer (some ⟨o, 0, none⟩), .int .i64 x.id, .int .i64 e] w fun z w' => ∃ (u1 u2 : Int) (u3 : Bool), z = .returned (.tuple #[.int .i64 u1, .agg #[.int .i64 u2, .bool u3]]) ∧ Sat G w' (outA o c (goneS c s i x) :: l) := by
  refine calls_any fun K hK => ?_
  obtain ⟨a, S⟩ := out_iff.1 H
  have S0 : Sat G w (rgA a.g c.ten c.str s.F s.L s.rl :: blk o (obC c a s.last) 72 :: quA a.q s.Q c.byt c.itm :: crA a.p s.C 0 :: mpA a.mb (s.M.map Sm.kp) :: strA s.M :: ctA a.cv s.D :: ownS 98 1 a.gv c.ten (noG c.ten) :: l) := Sat.re S [2, 0, 1, 3, 4, 5, 6, 7]
  have S1 := S0.newBlk #[.int .i64 0, .bool false] 95
  have hdo := rg_do_gone S1.swap hw.r hw.rf ht i x hx (hw.rb x (List.mem_of_getElem? hx)) e h4
  have hF : (gDoAt c.ten s.F s.L i x e).F = s.F.take i ++ s.F.drop (i + 1) := by unfold gDoAt; rw [if_pos h4]
  have hL : (gDoAt c.ten s.F s.L i x e).L = s.L.set (ownT x.id c.ten).toNat (liveAt s.L (ownT x.id c.ten) - 1) := by unfold gDoAt; rw [if_pos h4]
  rw [hF, hL] at hdo
  have hn2 : (s.F.take i ++ s.F.drop (i + 1)).length ≤ 10000 := Nat.le_trans gone_sub.length_le hw.r.few
  have HG := Lib.hid (fun (L2 : List Int) (W : World) (L' : List Asrt) (S : Sat G W (rgA a.g c.ten c.str (s.F.take i ++ s.F.drop (i + 1)) L2 s.rl :: L')) => rg_get_none S (gone_rising hw.rf) hn2 x.id (gone_no hw.rf hx))
  obtain ⟨F', hF'⟩ : ∃ F', F' = s.F.take i ++ s.F.drop (i + 1) := ⟨_, rfl⟩
  obtain ⟨L', hL'⟩ : ∃ L', L' = s.L.set (ownT x.id c.ten).toNat (liveAt s.L (ownT x.id c.ten) - 1) := ⟨_, rfl⟩
  rw [← hF', ← hL'] at hdo
  rw [← hF'] at HG
  have hgs : goneS c s i x = { s with F := F', L := L', M := noS s.M x.id } := by unfold goneS; rw [hF', hL']
  rw [hgs] at hK
  have HC : Hid (∀ W l', Sat G W (rgA a.g c.ten c.str F' L' s.rl :: blk o (obC c a s.last) 72 :: quA a.q s.Q c.byt c.itm :: crA a.p s.C 0 :: mpA a.mb (s.M.map Sm.kp) :: strA s.M :: ctA a.cv s.D :: ownS 98 1 a.gv c.ten (noG c.ten) :: l') → Sat G W (outA o c { s with F := F', L := L' } :: l')) := Lib.hid fun W l' S => out_iff.2 ⟨a, Sat.re S [1, 2, 0, 3, 4, 5, 6, 7]⟩
  have k6 : (w.alloc (.cells #[.int .i64 0, .bool false] 95)).cell? ⟨o, 6, none⟩ = some (.pointer (some ⟨a.g, 0, none⟩)) := (Sat.re S1 [2, 0, 1]).cell 6
  obtain ⟨err, her⟩ : ∃ err, err = (pDo x.n e).err := ⟨_, rfl⟩
  obtain ⟨code, hcd⟩ : ∃ code, code = (pDo x.n e).code := ⟨_, rfl⟩
  obtain ⟨conn, hcn⟩ : ∃ conn, conn = (pDo x.n e).conn := ⟨_, rfl⟩
  rw [← her, ← hcd, ← hcn] at hdo
  obtain ⟨xid, hxid⟩ : ∃ xid, xid = x.id := ⟨_, rfl⟩
  have hat : mpAt (s.M.map Sm.kp) xid = .pointer (some ⟨y.p, 0, none⟩) := by rw [mpAt_eq, hxid, hy]
  rw [← hxid] at hdo HG hK hk hot ⊢
  have HX := Lib.hid (And.intro hk (And.intro htt (And.intro hot (And.intro hw.t1 hat))))
  clear H S S0 S1 hx hn2 hF hL her hcd hcn hF' hL' h4 hw ht hxid hy hgs hk htt hot hat
  go_enter Tryz.func36, Tryz.ntmps36
  go_wp2_with fail
  (with_reducible refine hdo.mono ?_)
  rintro e w1 ⟨rfl, S2⟩
  have S3 := S2.newBlk #[.int .i64 code, .bool conn] 95
  have k6b : _ = some (Value.pointer (some ⟨a.g, 0, none⟩)) := (S3.pull3).cell 6
  have hg := HG.out _ _ _ S3.swap
  clear S2 hdo k6
  go_wp2_with fail
  (with_reducible refine hg.mono ?_)
  rintro e w2 ⟨rfl, S4⟩
  clear hg S3 k6b
  have S5 := S4.newBlk #[.int .i64 0, .int .i64 0, .int .i64 0] 133
  have S6 : Sat G _ (rgA a.g c.ten c.str F' L' s.rl :: blk o (obC c a s.last) 72 :: quA a.q s.Q c.byt c.itm :: crA a.p s.C 0 :: mpA a.mb (s.M.map Sm.kp) :: strA s.M :: ctA a.cv s.D :: ownS 98 1 a.gv c.ten (noG c.ten) :: blk w.heap.size #[.int .i64 0, .bool false] 95 :: blk w1.heap.size #[.int .i64 code, .bool conn] 95 :: blk w2.heap.size #[.int .i64 0, .int .i64 0, .int .i64 0] 133 :: l) := Sat.re S5 [1, 4, 5, 6, 7, 8, 9, 10, 3, 2, 0]
  have k8 : _ = some (Value.map (some a.mb)) := S6.swap.cell 8
  have hlk := mp_look (Sat.re S6 [4, 0, 1, 2, 3]) xid HX.out.1
  rw [HX.out.2.2.2.2] at hlk
  have hfg := ob_forget (HC.out _ _ S6) xid HX.out.1 t HX.out.2.1 HX.out.2.2.2.1 HX.out.2.2.1
  clear S4 S5 S6
  go_wp2_with fail
  (with_reducible refine hfg.mono ?_)
  rintro e w3 ⟨rfl, S7⟩
  clear hfg hlk k8
  go_upto_region 5 with (fail)
  generalize w.heap.size = r at S7 ⊢
  generalize w1.heap.size = q at S7 ⊢
  have S8 : Sat G w3 (blk r #[.int .i64 0, .bool false] 95 :: blk q #[.int .i64 code, .bool conn] 95 :: outA o c { s with F := F', L := L', M := noS s.M xid } :: l) := (Sat.re S7 [3, 1, 2, 0]).drop
  clear S7
  refine wp_act fun a0 ha0 => ?_
  have HSZ : a0.tmps.size = 47 := by rw [ha0]; rfl
  have E8 : a0.eval (.tmp 8) = .int .i64 err := by rw [ha0]; rfl
  have E9 : a0.eval (.tmp 9) = .pointer (some ⟨q, 0, none⟩) := by rw [ha0]; rfl
  have E7 : a0.eval (.tmp 7) = .pointer (some ⟨r, 0, none⟩) := by rw [ha0]; rfl
  refine wp_region_J (by kernel_rfl) 4 (by kernel_rfl) [[], [], [0, 0], [1, 2, 0, 1, 2]] (by kernel_rfl) (by kernel_rfl) (fun f a' W => a' = acts [(0, 45, .int .i64 err), (1, 46, .agg #[.int .i64 code, .bool conn]), (2, 6, .int .i64 err)] f a0 ∧ Sat G W (blk r (cond (f 3) #[.int .i64 code, .bool conn] #[.int .i64 0, .bool false]) 95 :: blk q #[.int .i64 code, .bool conn] 95 :: outA o c { s with F := F', L := L', M := noS s.M xid } :: l)) ?_ ?_ ?_
  · exact ⟨rfl, S8.drew⟩
  · refine ⟨?_, ?_, ?_, ?_, trivial⟩
    · rintro f a' W h0 hd ⟨rfl, S⟩
      refine wpOp_run (v := .int .i64 err) rfl rfl (fun ρ hρ => ?_) ⟨(acts_some 0 rfl (by kernel_rfl) (by kernel_rfl)).symm, S⟩
      have e0 : ρ (.tmp 8) = .int .i64 err := by rw [hρ]; exact (acts_eval_tmp 8 (by kernel_rfl)).trans E8
      clear hρ
      go_simp
    · rintro f a' W h1 hd ⟨rfl, S⟩
      refine wpOp_list rfl ?_
      refine st_load rfl _ _ rfl _ ((acts_eval_tmp 9 (by kernel_rfl)).trans E9) _ _ (S.swap) _ rfl rfl rfl ?_
      exact ⟨(acts_some 1 rfl (by kernel_rfl) (by kernel_rfl)).symm, S⟩
    · rintro f a' W h2 hd ⟨rfl, S⟩
      refine wpOp_run (v := .int .i64 err) rfl rfl (fun ρ hρ => ?_) ⟨(acts_some 2 rfl (by kernel_rfl) (by kernel_rfl)).symm, S⟩
      have e0 : ρ (.tmp 45) = .int .i64 err := by rw [hρ]; exact acts_eval_hit 0 rfl hd.1 (by rw [HSZ]; rfl) (by kernel_rfl)
      clear hρ
      go_simp
    · rintro f a' W h3 hd ⟨rfl, S⟩
      rw [h3] at S
      refine wpOp_list rfl ?_
      refine st_store rfl _ _ _ rfl _ _ ((acts_eval_tmp 7 (by kernel_rfl)).trans E7) (acts_eval_hit 1 rfl hd.1 (by rw [HSZ]; rfl) (by kernel_rfl)) _ _ (S) rfl rfl (by simp [Value.oneCell']) fun W' S' => ?_
      exact ⟨(acts_none 3 (by kernel_rfl)).symm, S'⟩
  · rintro a' W2 ⟨rfl, S9⟩
    subst ha0
    simp only [acts, if_true, Act.put, List.setIfInBounds_toArray, List.set_cons_succ, List.set_cons_zero]
    have HS : Hid (Sat G W2 (blk r #[.int .i64 code, .bool conn] 95 :: blk q #[.int .i64 code, .bool conn] 95 :: outA o c { s with F := F', L := L', M := noS s.M xid } :: l)) := Lib.hid S9
    clear S8 S9 HSZ E7 E8 E9
    go_wp2_with fail
    refine bodyPost_ret (results_t_cell rfl _ _ _ _ _ _ rfl HS.out.blk_at Tryz.underlying95 rfl (by kernel_rfl)) rfl ?_
    exact hK.out _ _ ⟨err, code, conn, rfl, HS.out.drop.drop⟩
end
end Go.Proofs.YtcecfhfbcdbofaaGreatDoor
set_option linter.unusedSimpArgs false
set_option linter.unusedVariables false
namespace Go.Proofs.YtcecfhfbcdbofaaGreatDoor
open Go.RowKit

def cntM (c : Oc) (M : List Sm) (t : Nat) : Nat := (M.filter fun y => decide (ownT y.id c.ten = (t : Int))).length
def CntI (c : Oc) (s : Os) : Prop := ∀ t : Nat, t < c.ten → liveAt s.L t = (cntM c s.M t : Int)
theorem cntM_perm {c : Oc} {M N : List Sm} (h : M.Perm N) (t : Nat) : cntM c M t = cntM c N t := (h.filter _).length_eq
theorem cntM_cons {c : Oc} {y : Sm} {M : List Sm} (t : Nat) : cntM c (y :: M) t = (if ownT y.id c.ten = (t : Int) then 1 else 0) + cntM c M t := by
  unfold cntM
  by_cases h : ownT y.id c.ten = (t : Int)
  · rw [List.filter_cons_of_pos (by simpa using h), if_pos h, List.length_cons]; omega
  · rw [List.filter_cons_of_neg (by simpa using h), if_neg h]; omega
theorem cnt_new (t : Nat) (z b i q : Int) : CntI ⟨t, z, b, i, q⟩ (newO t) := fun j hj => by
  show liveAt (List.replicate t 0) j = 0
  unfold liveAt
  rw [if_pos (by omega), Int.toNat_natCast, List.getD_eq_getElem?_getD, List.getElem?_replicate]
  split <;> rfl
theorem live_set {L : List Int} {t : Nat} (v : Int) (ht : t < L.length) (j : Nat) : liveAt (L.set t v) j = if j = t then v else liveAt L j := by
  have e : ∀ L' : List Int, liveAt L' (j : Int) = L'.getD j 0 := fun L' => by unfold liveAt; rw [if_pos (by omega), Int.toNat_natCast]
  rw [e, e]
  by_cases h : j = t
  · subst h
    rw [if_pos rfl, List.getD_eq_getElem?_getD, List.getElem?_set_self ht]; rfl
  · rw [if_neg h, List.getD_eq_getElem?_getD, List.getElem?_set_ne (by omega), ← List.getD_eq_getElem?_getD]
theorem cnt_step {c : Oc} {s s' : Os} {t : Nat} {tick : Int} {d : Dv} (hw : OInv c s) (ht : t < c.ten) (h0 : 0 ≤ tick) (h1 : tick ≤ 1073741823) (htk : tick % (c.ten : Int) = (t : Int)) (hc : CntI c s) (h : StepR c s t tick d s') : CntI c s' := by
  rcases h with ⟨x, X, -, -, rfl⟩ | ⟨-, y, hy, -, -, -, hM, -, -, hL, -⟩ | ⟨-, -, x, L, p, F', -, -, -, rfl⟩ | ⟨-, -, -, -, rfl⟩
  · exact hc
  · intro j hj
    rw [hL, hc j hj, hM, cntM_cons, cntM_perm (List.perm_cons_erase hy), cntM_cons]
    rfl
  · intro j hj
    obtain ⟨-, hown⟩ := own_tick h0 h1 hw.t0 hw.t1 htk
    show liveAt (s.L.set t (liveAt s.L t + 1)) j = (cntM c (newS (2 * tick + 1) p x :: s.M) j : Int)
    rw [live_set _ (by rw [hw.len]; exact ht), cntM_cons]
    have e : ownT (newS (2 * tick + 1) p x).id c.ten = (t : Int) := hown
    rw [e]
    by_cases hjt : j = t
    · subst hjt
      rw [if_pos rfl, if_pos rfl, hc j hj]; omega
    · rw [if_neg hjt, if_neg (by omega), hc j hj]; omega
  · exact hc
theorem ids_nodup {c : Oc} {s : Os} (hw : OInv c s) : (s.M.map Sm.id).Nodup := by
  have h1 := rising_ids.1 hw.rf
  have h2 : (s.F.map Ent.id).Nodup := h1.imp (fun h => by omega)
  have h3 : (s.F.map Ent.id).Perm (s.M.map Sm.id) := by
    have := hw.mf.map Ent.id
    rw [List.map_map] at this
    rwa [show Ent.id ∘ entOf = Sm.id from funext fun x => entOf_id x] at this
  exact h3.nodup_iff.1 h2
theorem noS_perm {M : List Sm} {y : Sm} (hn : (M.map Sm.id).Nodup) (hy : y ∈ M) : M.Perm (y :: noS M y.id) := by
  induction M with
  | nil => cases hy
  | cons z M ih =>
    rw [List.map_cons, List.nodup_cons] at hn
    rcases List.mem_cons.1 hy with rfl | hy
    · have : noS (y :: M) y.id = M := by
        unfold noS
        rw [List.filter_cons_of_neg (by simp)]
        refine List.filter_eq_self.2 fun x hx => ?_
        have : x.id ≠ y.id := fun h => hn.1 (by rw [← h]; exact List.mem_map_of_mem hx)
        simpa using this
      rw [this]
    · have hne : z.id ≠ y.id := fun h => hn.1 (by rw [h]; exact List.mem_map_of_mem hy)
      have : noS (z :: M) y.id = z :: noS M y.id := by
        unfold noS
        rw [List.filter_cons_of_pos (by simpa using hne)]
      rw [this]
      exact ((ih hn.2 hy).cons z).trans (List.Perm.swap _ _ _)
theorem gone_perm {F : List Ent} {i : Nat} {x : Ent} (hx : F[i]? = some x) : F.Perm (x :: (F.take i ++ F.drop (i + 1))) := by
  have hF : F = F.take i ++ x :: F.drop (i + 1) := by
    obtain ⟨h1, rfl⟩ := List.getElem?_eq_some_iff.1 hx
    rw [List.getElem_cons_drop, List.take_append_drop]
  conv => lhs; rw [hF]
  exact List.perm_middle
theorem noS_mem {M : List Sm} {id : Int} {x : Sm} (h : x ∈ noS M id) : x ∈ M ∧ x.id ≠ id := by
  have := List.mem_filter.1 h
  exact ⟨this.1, by simpa using this.2⟩
/-- A stream goes away. -/
theorem gone_inv {c : Oc} {s : Os} (hw : OInv c s) (hc : CntI c s) {y : Sm} (hy : y ∈ s.M) {i : Nat} (hx : s.F[i]? = some (entOf y)) {t : Nat} (ht : t < c.ten) (hot : ownT y.id c.ten = (t : Int)) : OInv c (goneS c s i (entOf y)) ∧ CntI c (goneS c s i (entOf y)) := by
  have hid := entOf_id y
  have hM := noS_perm (ids_nodup hw) hy
  have hgM : (goneS c s i (entOf y)).M = noS s.M y.id := by unfold goneS; rw [hid]
  have hgL : (goneS c s i (entOf y)).L = s.L.set t (liveAt s.L t - 1) := by unfold goneS; rw [hid, hot, Int.toNat_natCast]
  have hgF : (goneS c s i (entOf y)).F = s.F.take i ++ s.F.drop (i + 1) := rfl
  have hlt : t < s.L.length := by rw [hw.len]; exact ht
  have hcnt := hc t ht
  rw [cntM_perm hM, cntM_cons, if_pos hot] at hcnt
  have hFl : s.F.length = (s.F.take i ++ s.F.drop (i + 1)).length + 1 := by rw [(gone_perm hx).length_eq, List.length_cons]
  have hMl : s.M.length = (noS s.M y.id).length + 1 := by rw [hM.length_eq, List.length_cons]
  have hmf : (s.F.take i ++ s.F.drop (i + 1)).Perm ((noS s.M y.id).map entOf) := by
    have h1 := (gone_perm hx).symm.trans (hw.mf.trans (hM.map entOf))
    rw [List.map_cons] at h1
    exact (List.perm_cons _).1 h1
  have hg : liveAt s.L t = s.L.getD t 0 := by unfold liveAt; rw [if_pos (by omega), Int.toNat_natCast]
  have hln := hw.ln
  have hll := (live_le' hw ht).2
  refine ⟨?_, ?_⟩
  · exact { t0 := hw.t0, t1 := hw.t1, c0 := hw.c0, c1 := hw.c1, q := hw.q, ql := hw.ql
            r := { t0 := hw.r.t0, t1 := hw.r.t1, q0 := hw.r.q0, q1 := hw.r.q1
                   len := by rw [hgL, List.length_set]; exact hw.r.len
                   few := by rw [hgF]; have := hw.r.few; omega
                   lo := fun v hv => by
                     rw [hgL] at hv
                     rcases List.mem_or_eq_of_mem_set hv with hv | rfl
                     · exact hw.r.lo v hv
                     · have := hw.r.few; omega
                   last0 := hw.r.last0 }
            rf := by rw [hgF]; exact gone_rising hw.rf
            rb := fun z hz => hw.rb z (gone_sub.subset (by rw [hgF] at hz; exact hz))
            cg := hw.cg, cl := hw.cl
            ml := by rw [hgM]; have := hw.ml; omega
            mw := fun z hz => by rw [hgM] at hz; exact hw.mw z (noS_mem hz).1
            mi := fun z hz => by rw [hgM] at hz; exact hw.mi z (noS_mem hz).1
            dl := hw.dl, dn := hw.dn
            mf := by rw [hgF, hgM]; exact hmf
            mo := fun z hz => by rw [hgM] at hz; exact hw.mo z (noS_mem hz).1
            ls := by rw [hgL, hgF, isum_set _ _ _ hlt, hw.ls, hg]; omega
            ln := fun v hv => by
              rw [hgL] at hv
              rcases List.mem_or_eq_of_mem_set hv with hv | rfl
              · exact hw.ln v hv
              · omega
            mr := fun z hz => by rw [hgM] at hz; exact hw.mr z (noS_mem hz).1
            rll := hw.rll, l0 := hw.l0, qh := hw.qh }
  · intro j hj
    rw [hgL, hgM, live_set _ hlt]
    by_cases hjt : j = t
    · subst hjt
      rw [if_pos rfl]; omega
    · rw [if_neg hjt, hc j hj, cntM_perm hM, cntM_cons, if_neg (by rw [hot]; omega)]; omega
theorem gone_four (y : Sm) : (pDo (entOf y).n 3).n = 4 ∧ (pDo (entOf y).n 7).n = 4 := by
  unfold entOf
  split
  · exact ⟨show (pDo 1 3).n = 4 by decide, show (pDo 1 7).n = 4 by decide⟩
  · exact ⟨show (pDo 3 3).n = 4 by decide, show (pDo 3 7).n = 4 by decide⟩
theorem own_nat {c : Oc} {s : Os} (hw : OInv c s) {y : Sm} (hy : y ∈ s.M) : ∃ t : Nat, t < c.ten ∧ ownT y.id c.ten = (t : Int) := by
  have h1 := hw.mi y hy
  have h2 := hw.t0
  have h3 := hw.t1
  have h4 := Int.emod_nonneg (y.id / 2) (b := (c.ten : Int)) (by omega)
  have h5 := Int.emod_lt_of_pos (y.id / 2) (b := (c.ten : Int)) (by omega)
  refine ⟨(y.id / 2 % (c.ten : Int)).toNat, by omega, ?_⟩
  unfold ownT ownR
  rw [if_pos (decide_eq_true ⟨by omega, by omega, by omega, by omega, by omega⟩)]
  omega
theorem ent_at {c : Oc} {s : Os} (hw : OInv c s) {y : Sm} (hy : y ∈ s.M) : ∃ i : Nat, s.F[i]? = some (entOf y) := by
  have h : entOf y ∈ s.F := hw.mf.mem_iff.2 (List.mem_map_of_mem hy)
  exact List.mem_iff_getElem?.1 h
end Go.Proofs.YtcecfhfbcdbofaaGreatDoor
set_option linter.unusedSimpArgs false
set_option linter.unusedVariables false
namespace Go.Proofs.YtcecfhfbcdbofaaGreatDoor
open Go.RowKit
attribute [local go_sem] Oper.semAt_some

theorem smAt_none {M : List Sm} {k : Int} (h : smAt M k = none) : ∀ y ∈ M, y.id ≠ k := fun y hy he => by
  have := List.find?_eq_none.1 h y hy
  simp [he] at this
/-- A sender behind a reset. -/
def cutS (c : Oc) (s : Os) (i : Nat) (y : Sm) (t : Nat) : Os := { goneS c s i (entOf y) with D := s.D.set t (s.D.getD t [] ++ [(y.id, 108)]) }
theorem cutS_inv {c : Oc} {s : Os} (hw : OInv c s) (hc : CntI c s) {y : Sm} (hy : y ∈ s.M) {i : Nat} (hx : s.F[i]? = some (entOf y)) {t : Nat} (ht : t < c.ten) (hot : ownT y.id c.ten = (t : Int)) (hD : (s.D.getD t []).length < 10000) : OInv c (cutS c s i y t) ∧ CntI c (cutS c s i y t) := by
  obtain ⟨h1, h2⟩ := gone_inv hw hc hy hx ht hot
  refine ⟨?_, h2⟩
  have hmi := hw.mi y hy
  exact { h1 with
    dl := by show (s.D.set t _).length = _; rw [List.length_set]; exact hw.dl
    dn := fun X hX => by
      rcases List.mem_or_eq_of_mem_set hX with hX | rfl
      · exact hw.dn X hX
      · have hm : s.D.getD t [] ∈ s.D := by
          have h3 : t < s.D.length := by rw [hw.dl]; exact ht
          rw [List.getD_eq_getElem?_getD, List.getElem?_eq_getElem h3]
          exact List.getElem_mem h3
        refine ⟨by rw [List.length_append]; show _ + 1 ≤ 10000; omega, fun z hz => ?_⟩
        rcases List.mem_append.1 hz with hz | hz
        · exact (hw.dn _ hm).2 z hz
        · obtain rfl := List.mem_singleton.1 hz
          exact ⟨hmi.1, hmi.2.1, show (0 : Int) ≤ 108 by decide, show (108 : Int) ≤ 1000000 by decide⟩ }
section
variable {G : Gnd} {w w' : World} {l : List Asrt} {o : Nat} {c : Oc} {s : Os}
set_option maxHeartbeats 8000000 in
set_option maxRecDepth 100000 in
theorem ob_reset_not (H : Sat G w (outA o c s :: l)) (id code : Int) (hk : (Lit.int .i64 id).wf = true) (hno : smAt s.M id = none) :
    Calls Tryz.prog 17 #[.pointer (some ⟨o, 0, none⟩), .int .i64 id, .int .i64 code] w fun e w' => e = .returned (.int .i64 14) ∧ w = w' := by
  refine calls_any fun K hK => ?_
  obtain ⟨a, S⟩ := out_iff.1 H
  have k8 : w.cell? ⟨o, 8, none⟩ = some (.map (some a.mb)) := S.cell 8
  have hlk := mp_look (Sat.re S [4, 0, 1, 2, 3]) id hk
  rw [mpAt_eq, hno] at hlk
  clear H S
  go_enter Tryz.func17, Tryz.ntmps17
  go_wp2_with fail
  exact hK.out _ _ ⟨rfl, rfl⟩
set_option maxHeartbeats 8000000 in
set_option maxRecDepth 100000 in
theorem ob_reset (H : Sat G w (outA o c s :: l)) (hw : OInv c s) (hT : TabG G) {y : Sm} (hy : y ∈ s.M) {i : Nat} (hx : s.F[i]? = some (entOf y)) {t : Nat} (ht : t < c.ten) (hot : ownT y.id c.ten = (t : Int)) (hD : (s.D.getD t []).length < 10000) :
    Calls Tryz.prog 17 #[.pointer (some ⟨o, 0, none⟩), .int .i64 y.id, .int .i64 108] w fun e w' => e = .returned (.int .i64 0) ∧ Sat G w' (outA o c (cutS c s i y t) :: l) := by
  refine calls_any fun K hK => ?_
  have hmi := hw.mi y hy
  have hk := keyOk hmi.1 hmi.2.1
  have hsm := smAt_of (ids_nodup hw) hy
  obtain ⟨a, S⟩ := out_iff.1 H
  have k8 : w.cell? ⟨o, 8, none⟩ = some (.map (some a.mb)) := S.cell 8
  have hlk := mp_look (Sat.re S [4, 0, 1, 2, 3]) y.id hk
  rw [mpAt_eq, hsm] at hlk
  have hid := entOf_id y
  have hg := ob_get_gone H hw.toOWf hT i (entOf y) hx 3 (gone_four y).1 y (by rw [hid]; exact hsm) (by rw [hid]; exact hk) t ht (by rw [hid]; exact hot)
  rw [hid] at hg
  have HH := Lib.hid (And.intro hw (And.intro hy (And.intro hx (And.intro ht (And.intro hot hD)))))
  obtain ⟨yid, hyid⟩ : ∃ z, z = y.id := ⟨_, rfl⟩
  rw [← hyid] at hg hlk ⊢
  have HY := Lib.hid hyid
  clear H S hw hT hy hx ht hot hD hmi hk hsm hid hyid
  go_enter Tryz.func17, Tryz.ntmps17
  go_wp2_with fail
  (with_reducible refine hg.mono ?_)
  rintro e w1 ⟨u1, u2, u3, rfl, S1⟩
  clear hg hlk k8
  obtain ⟨a1, SA⟩ := out_iff.1 S1
  have k0 : w1.cell? ⟨o, 0, none⟩ = some (.int .i64 c.ten) := SA.cell 0
  have how := ob_owner k0 yid
  rw [HY.out, HH.out.2.2.2.2.1, ← HY.out] at how
  clear S1
  go_wp2_with fail
  (with_reducible refine how.mono ?_)
  rintro e w2 ⟨rfl, rfl⟩
  clear how k0
  go_upto_region 5 with (fail)
  have SC : Sat G w1 (ctA a1.cv s.D :: blk o (obC c a1 s.last) 72 :: quA a1.q s.Q c.byt c.itm :: rgA a1.g c.ten c.str (goneS c s i (entOf y)).F (goneS c s i (entOf y)).L s.rl :: crA a1.p s.C 0 :: mpA a1.mb ((goneS c s i (entOf y)).M.map Sm.kp) :: strA (goneS c s i (entOf y)).M :: ownS 98 1 a1.gv c.ten (noG c.ten) :: l) := Sat.re SA [6, 0, 1, 2, 3, 4, 5, 7]
  have htD : t < s.D.length := by rw [HH.out.1.dl]; exact HH.out.2.2.2.1
  have hDl := HH.out.1.dl
  obtain ⟨g, cap, cur, v, R, hcv, hcap, hcur, S2, hclose⟩ := ct_open SC htD
  obtain ⟨X, hX⟩ : ∃ X, X = s.D.getD t [] := ⟨_, rfl⟩
  rw [← hX] at S2
  have hXl : X.length < 10000 := by rw [hX]; exact HH.out.2.2.2.2.2
  obtain ⟨RR, hRR⟩ : ∃ L : List Asrt, L = quA a1.q s.Q c.byt c.itm :: rgA a1.g c.ten c.str (goneS c s i (entOf y)).F (goneS c s i (entOf y)).L s.rl :: crA a1.p s.C 0 :: mpA a1.mb ((goneS c s i (entOf y)).M.map Sm.kp) :: strA (goneS c s i (entOf y)).M :: ownS 98 1 a1.gv c.ten (noG c.ten) :: l := ⟨_, rfl⟩
  rw [← hRR] at S2
  have S3 : Sat G w1 (ownS 100 2 v X.length (encs nenc X) :: blk g cur 98 :: blk o (obC c a1 s.last) 72 :: star R :: RR) := by
    have h : Sat G w1 (R ++ (blk g cur 98 :: ownS 100 2 v X.length (encs nenc X) :: blk o (obC c a1 s.last) 72 :: RR)) := Sat.perm S2 ((List.Perm.cons _ List.perm_middle.symm).trans List.perm_middle.symm)
    exact Sat.re (Sat.star_iff.2 h) [2, 1, 3, 0]
  have HCL : Hid (∀ W v', Sat G W (ownS 100 2 v' (X ++ [(yid, 108)]).length (encs nenc (X ++ [(yid, 108)])) :: blk g (cur.setIfInBounds t v') 98 :: blk o (obC c a1 s.last) 72 :: star R :: RR) → Sat G W (outA o c (cutS c s i y t) :: l)) := Lib.hid fun W v' S => by
    have h := Sat.star_iff.1 (Sat.re S [3, 1, 0, 2])
    have h2 : Sat G W (blk g (cur.setIfInBounds t v') 98 :: ownS 100 2 v' (X ++ [(yid, 108)]).length (encs nenc (X ++ [(yid, 108)])) :: (R ++ (blk o (obC c a1 s.last) 72 :: RR))) := Sat.perm h (List.perm_middle.trans (List.Perm.cons _ List.perm_middle))
    have h3 := hclose G W _ v' _ h2
    rw [hRR, hX, HY.out] at h3
    exact out_iff.2 ⟨a1, Sat.re h3 [1, 2, 3, 4, 5, 6, 0, 7]⟩
  have k9 : ∀ W cu, Sat G W (blk o (obC c a1 s.last) 72 :: cu) → W.cell? ⟨o, 9, none⟩ = some (.slice (some ⟨g, 0, none⟩) c.ten cap) := fun W cu S => by
    have h := S.cell 9
    rw [show (obC c a1 s.last)[9]? = some a1.cv from rfl, hcv, hDl] at h
    exact h
  have hcz : t < cur.size := (Array.getElem?_eq_some_iff.1 hcur).1
  have hti : (t : Int) < (c.ten : Int) := by have := HH.out.2.2.2.1; omega
  obtain ⟨n, hn⟩ : ∃ n, n = X.length := ⟨_, rfl⟩
  rw [← hn] at S3 hXl
  have HN := Lib.hid hn
  have hcap2 : cap ≤ 9223372036854775807 := hcap
  have hct := HH.out.2.2.2.1
  have hcc : c.ten ≤ cap := by
    rcases ct_iff.1 SC with ⟨N, hN, hS⟩
    obtain ⟨A9, c9, he, h1, -⟩ := hS.ownGet
    rw [hcv] at he
    injection he with e1 e2 e3
    omega
  clear SA SC S2 hclose hX hRR hcv htD hDl hn
  refine wp_act fun a0 ha0 => ?_
  have HSZ : a0.tmps.size = 39 := by rw [ha0]; rfl
  have E0 : a0.eval (.tmp 0) = .pointer (some ⟨o, 0, none⟩) := by rw [ha0]; rfl
  have E1 : a0.eval (.tmp 1) = .int .i64 yid := by rw [ha0]; rfl
  have E2 : a0.eval (.tmp 2) = .int .i64 108 := by rw [ha0]; rfl
  have E7 : a0.eval (.tmp 7) = .int .i64 t := by rw [ha0]; rfl
  refine wp_region_J (by kernel_rfl) 19 (by kernel_rfl) [[], [0], [1], [2], [], [], [5], [6], [7], [], [8, 9], [10], [], [], [12, 13], [14], [11, 15], [3, 4, 0, 1, 2, 3, 4, 5, 6, 7, 8, 9, 10, 11, 12, 13, 14, 15, 16], [17, 16, 16, 0, 1, 2, 3, 4, 5, 6, 7, 8, 9, 10, 11, 12, 13, 14, 15, 16]] (by kernel_rfl) (by kernel_rfl) (fun f a' W => ∃ (q9 : Nat) (v' : Value), ((f 16 = true → f 15 = true ∧ f 11 = true) ∧ (f 18 = true → f 16 = true)) ∧ a' = acts [(0, 21, .pointer (some ⟨o, 0, none⟩)), (1, 22, .pointer (some ⟨o, 0, none⟩)), (2, 23, .pointer (some ⟨o, 9, none⟩)), (3, 24, .slice (some ⟨g, 0, none⟩) c.ten cap), (4, 25, .int .i64 t), (5, 26, .pointer (some ⟨o, 0, none⟩)), (6, 27, .pointer (some ⟨o, 0, none⟩)), (7, 28, .pointer (some ⟨o, 9, none⟩)), (8, 29, .slice (some ⟨g, 0, none⟩) c.ten cap), (9, 30, .int .i64 t), (10, 31, .pointer (some ⟨g, t, none⟩)), (11, 32, v), (12, 33, .int .i64 yid), (13, 34, .int .i64 108), (14, 35, .agg #[.int .i64 yid, .int .i64 108]), (15, 36, .slice (some ⟨q9, 0, none⟩) 1 1), (16, 37, v'), (17, 38, .pointer (some ⟨g, t, none⟩))] f a0 ∧ Sat G W (opt (f 15) (blk q9 #[.int .i64 yid, .int .i64 108] 100) :: ownS 100 2 (cond (f 16) v' v) (cond (f 16) (n + 1) n) (encs nenc (cond (f 16) (X ++ [(yid, 108)]) X)) :: blk g (cond (f 18) (cur.setIfInBounds t v') cur) 98 :: blk o (obC c a1 s.last) 72 :: star R :: RR)) ?_ ?_ ?_
  · exact ⟨0, undef, ⟨fun h => (by cases h), fun h => (by cases h)⟩, rfl, Sat.opt0 S3.drew⟩
  · refine ⟨?_, ?_, ?_, ?_, ?_, ?_, ?_, ?_, ?_, ?_, ?_, ?_, ?_, ?_, ?_, ?_, ?_, ?_, ?_, trivial⟩
    · rintro f a' W h0 hd ⟨q9, v', hh, rfl, S⟩
      refine wpOp_run (v := .pointer (some ⟨o, 0, none⟩)) rfl rfl (fun ρ hρ => ?_) ⟨q9, v', hh, (acts_some 0 rfl (by kernel_rfl) (by kernel_rfl)).symm, S⟩
      have e0 : ρ (.tmp 0) = .pointer (some ⟨o, 0, none⟩) := by rw [hρ]; exact (acts_eval_tmp 0 (by kernel_rfl)).trans E0
      clear hρ
      go_simp
    · rintro f a' W h1 hd ⟨q9, v', hh, rfl, S⟩
      refine wpOp_run (v := .pointer (some ⟨o, 0, none⟩)) rfl rfl (fun ρ hρ => ?_) ⟨q9, v', hh, (acts_some 1 rfl (by kernel_rfl) (by kernel_rfl)).symm, S⟩
      have e0 : ρ (.tmp 21) = .pointer (some ⟨o, 0, none⟩) := by rw [hρ]; exact acts_eval_hit 0 rfl hd.1 (by rw [HSZ]; rfl) (by kernel_rfl)
      clear hρ
      go_simp
    · rintro f a' W h2 hd ⟨q9, v', hh, rfl, S⟩
      refine wpOp_run (v := .pointer (some ⟨o, 9, none⟩)) rfl rfl (fun ρ hρ => ?_) ⟨q9, v', hh, (acts_some 2 rfl (by kernel_rfl) (by kernel_rfl)).symm, S⟩
      have e0 : ρ (.tmp 22) = .pointer (some ⟨o, 0, none⟩) := by rw [hρ]; exact acts_eval_hit 1 rfl hd.1 (by rw [HSZ]; rfl) (by kernel_rfl)
      clear hρ
      go_simp
    · rintro f a' W h3 hd ⟨q9, v', hh, rfl, S⟩
      refine wpOp_run (v := .slice (some ⟨g, 0, none⟩) c.ten cap) rfl rfl (fun ρ hρ => ?_) ⟨q9, v', hh, (acts_some 3 rfl (by kernel_rfl) (by kernel_rfl)).symm, S⟩
      have e0 : ρ (.tmp 23) = .pointer (some ⟨o, 9, none⟩) := by rw [hρ]; exact acts_eval_hit 2 rfl hd.1 (by rw [HSZ]; rfl) (by kernel_rfl)
      clear hρ
      (have z := k9 _ _ S.pull3)
      go_simp
    · rintro f a' W h4 hd ⟨q9, v', hh, rfl, S⟩
      refine wpOp_run (v := .int .i64 t) rfl rfl (fun ρ hρ => ?_) ⟨q9, v', hh, (acts_some 4 rfl (by kernel_rfl) (by kernel_rfl)).symm, S⟩
      have e0 : ρ (.tmp 7) = .int .i64 t := by rw [hρ]; exact (acts_eval_tmp 7 (by kernel_rfl)).trans E7
      clear hρ
      go_simp
    · rintro f a' W h5 hd ⟨q9, v', hh, rfl, S⟩
      refine wpOp_run (v := .pointer (some ⟨o, 0, none⟩)) rfl rfl (fun ρ hρ => ?_) ⟨q9, v', hh, (acts_some 5 rfl (by kernel_rfl) (by kernel_rfl)).symm, S⟩
      have e0 : ρ (.tmp 0) = .pointer (some ⟨o, 0, none⟩) := by rw [hρ]; exact (acts_eval_tmp 0 (by kernel_rfl)).trans E0
      clear hρ
      go_simp
    · rintro f a' W h6 hd ⟨q9, v', hh, rfl, S⟩
      refine wpOp_run (v := .pointer (some ⟨o, 0, none⟩)) rfl rfl (fun ρ hρ => ?_) ⟨q9, v', hh, (acts_some 6 rfl (by kernel_rfl) (by kernel_rfl)).symm, S⟩
      have e0 : ρ (.tmp 26) = .pointer (some ⟨o, 0, none⟩) := by rw [hρ]; exact acts_eval_hit 5 rfl hd.1 (by rw [HSZ]; rfl) (by kernel_rfl)
      clear hρ
      go_simp
    · rintro f a' W h7 hd ⟨q9, v', hh, rfl, S⟩
      refine wpOp_run (v := .pointer (some ⟨o, 9, none⟩)) rfl rfl (fun ρ hρ => ?_) ⟨q9, v', hh, (acts_some 7 rfl (by kernel_rfl) (by kernel_rfl)).symm, S⟩
      have e0 : ρ (.tmp 27) = .pointer (some ⟨o, 0, none⟩) := by rw [hρ]; exact acts_eval_hit 6 rfl hd.1 (by rw [HSZ]; rfl) (by kernel_rfl)
      clear hρ
      go_simp
    · rintro f a' W h8 hd ⟨q9, v', hh, rfl, S⟩
      refine wpOp_run (v := .slice (some ⟨g, 0, none⟩) c.ten cap) rfl rfl (fun ρ hρ => ?_) ⟨q9, v', hh, (acts_some 8 rfl (by kernel_rfl) (by kernel_rfl)).symm, S⟩
      have e0 : ρ (.tmp 28) = .pointer (some ⟨o, 9, none⟩) := by rw [hρ]; exact acts_eval_hit 7 rfl hd.1 (by rw [HSZ]; rfl) (by kernel_rfl)
      clear hρ
      (have z := k9 _ _ S.pull3)
      go_simp
    · rintro f a' W h9 hd ⟨q9, v', hh, rfl, S⟩
      refine wpOp_run (v := .int .i64 t) rfl rfl (fun ρ hρ => ?_) ⟨q9, v', hh, (acts_some 9 rfl (by kernel_rfl) (by kernel_rfl)).symm, S⟩
      have e0 : ρ (.tmp 7) = .int .i64 t := by rw [hρ]; exact (acts_eval_tmp 7 (by kernel_rfl)).trans E7
      clear hρ
      go_simp
    · rintro f a' W h10 hd ⟨q9, v', hh, rfl, S⟩
      refine wpOp_run (v := .pointer (some ⟨g, t, none⟩)) rfl rfl (fun ρ hρ => ?_) ⟨q9, v', hh, (acts_some 10 rfl (by kernel_rfl) (by kernel_rfl)).symm, S⟩
      have e0 : ρ (.tmp 29) = .slice (some ⟨g, 0, none⟩) c.ten cap := by rw [hρ]; exact acts_eval_hit 8 rfl hd.1 (by rw [HSZ]; rfl) (by kernel_rfl)
      have e1 : ρ (.tmp 30) = .int .i64 t := by rw [hρ]; exact acts_eval_hit 9 rfl hd.2.1 (by rw [HSZ]; rfl) (by kernel_rfl)
      clear hρ
      go_simp
    · rintro f a' W h11 hd ⟨q9, v', hh, rfl, S⟩
      (have z16 : f 16 = false := no_of (fun h => (hh.1 h).2) h11; have z18 : f 18 = false := no_of hh.2 z16)
      refine wpOp_run (v := v) rfl rfl (fun ρ hρ => ?_) ⟨q9, v', ⟨fun h => ⟨(hh.1 h).1, rfl⟩, hh.2⟩, (acts_some 11 rfl (by kernel_rfl) (by kernel_rfl)).symm, S⟩
      have e0 : ρ (.tmp 31) = .pointer (some ⟨g, t, none⟩) := by rw [hρ]; exact acts_eval_hit 10 rfl hd.1 (by rw [HSZ]; rfl) (by kernel_rfl)
      clear hρ
      (have z1 : W.cell? ⟨g, t, none⟩ = some v := (by have h := S.pull2.cell t; rw [z18] at h; exact h.trans hcur))
      go_simp
    · rintro f a' W h12 hd ⟨q9, v', hh, rfl, S⟩
      refine wpOp_run (v := .int .i64 yid) rfl rfl (fun ρ hρ => ?_) ⟨q9, v', hh, (acts_some 12 rfl (by kernel_rfl) (by kernel_rfl)).symm, S⟩
      have e0 : ρ (.tmp 1) = .int .i64 yid := by rw [hρ]; exact (acts_eval_tmp 1 (by kernel_rfl)).trans E1
      clear hρ
      go_simp
    · rintro f a' W h13 hd ⟨q9, v', hh, rfl, S⟩
      refine wpOp_run (v := .int .i64 108) rfl rfl (fun ρ hρ => ?_) ⟨q9, v', hh, (acts_some 13 rfl (by kernel_rfl) (by kernel_rfl)).symm, S⟩
      have e0 : ρ (.tmp 2) = .int .i64 108 := by rw [hρ]; exact (acts_eval_tmp 2 (by kernel_rfl)).trans E2
      clear hρ
      go_simp
    · rintro f a' W h14 hd ⟨q9, v', hh, rfl, S⟩
      refine wpOp_run (v := .agg #[.int .i64 yid, .int .i64 108]) rfl rfl (fun ρ hρ => ?_) ⟨q9, v', hh, (acts_some 14 rfl (by kernel_rfl) (by kernel_rfl)).symm, S⟩
      have e0 : ρ (.tmp 33) = .int .i64 yid := by rw [hρ]; exact acts_eval_hit 12 rfl hd.1 (by rw [HSZ]; rfl) (by kernel_rfl)
      have e1 : ρ (.tmp 34) = .int .i64 108 := by rw [hρ]; exact acts_eval_hit 13 rfl hd.2.1 (by rw [HSZ]; rfl) (by kernel_rfl)
      clear hρ
      go_simp
    · rintro f a' W h15 hd ⟨q9, v', hh, rfl, S⟩
      (have z16 : f 16 = false := no_of (fun h => (hh.1 h).1) h15)
      refine wpOp_mem (v := .slice (some ⟨W.heap.size, 0, none⟩) 1 1) (w' := W.alloc (.cells #[.int .i64 yid, .int .i64 108] 100)) rfl rfl (fun ρ hρ => ?_) (⟨W.heap.size, v', ⟨fun h => ⟨rfl, (hh.1 h).2⟩, hh.2⟩, acts_swap (by simp only [acts, h15, Bool.false_eq_true, if_false]) (k := 15) rfl (by kernel_rfl) (by kernel_rfl), Sat.optI rfl (S.newBlk _ _).drop2⟩)
      have e0 : ρ (.tmp 35) = .agg #[.int .i64 yid, .int .i64 108] := by rw [hρ]; exact acts_eval_hit 14 rfl hd.1 (by rw [HSZ]; rfl) (by kernel_rfl)
      clear hρ
      go_simp
    · rintro f a' W h16 hd ⟨q9, v', hh, rfl, S⟩
      have q32 : (acts [(0, 21, .pointer (some ⟨o, 0, none⟩)), (1, 22, .pointer (some ⟨o, 0, none⟩)), (2, 23, .pointer (some ⟨o, 9, none⟩)), (3, 24, .slice (some ⟨g, 0, none⟩) c.ten cap), (4, 25, .int .i64 t), (5, 26, .pointer (some ⟨o, 0, none⟩)), (6, 27, .pointer (some ⟨o, 0, none⟩)), (7, 28, .pointer (some ⟨o, 9, none⟩)), (8, 29, .slice (some ⟨g, 0, none⟩) c.ten cap), (9, 30, .int .i64 t), (10, 31, .pointer (some ⟨g, t, none⟩)), (11, 32, v), (12, 33, .int .i64 yid), (13, 34, .int .i64 108), (14, 35, .agg #[.int .i64 yid, .int .i64 108]), (15, 36, .slice (some ⟨q9, 0, none⟩) 1 1), (16, 37, v'), (17, 38, .pointer (some ⟨g, t, none⟩))] f a0).eval (.tmp 32) = v := acts_eval_hit 11 rfl hd.1 (by rw [HSZ]; rfl) (by kernel_rfl)
      have q36 : (acts [(0, 21, .pointer (some ⟨o, 0, none⟩)), (1, 22, .pointer (some ⟨o, 0, none⟩)), (2, 23, .pointer (some ⟨o, 9, none⟩)), (3, 24, .slice (some ⟨g, 0, none⟩) c.ten cap), (4, 25, .int .i64 t), (5, 26, .pointer (some ⟨o, 0, none⟩)), (6, 27, .pointer (some ⟨o, 0, none⟩)), (7, 28, .pointer (some ⟨o, 9, none⟩)), (8, 29, .slice (some ⟨g, 0, none⟩) c.ten cap), (9, 30, .int .i64 t), (10, 31, .pointer (some ⟨g, t, none⟩)), (11, 32, v), (12, 33, .int .i64 yid), (13, 34, .int .i64 108), (14, 35, .agg #[.int .i64 yid, .int .i64 108]), (15, 36, .slice (some ⟨q9, 0, none⟩) 1 1), (16, 37, v'), (17, 38, .pointer (some ⟨g, t, none⟩))] f a0).eval (.tmp 36) = .slice (some ⟨q9, 0, none⟩) 1 1 := acts_eval_hit 15 rfl hd.2.1 (by rw [HSZ]; rfl) (by kernel_rfl)
      (have z18 : f 18 = false := no_of hh.2 h16; simp only [h16, z18, cond_false] at S; have S2 := Sat.optE hd.2.1 S; refine wpOp_list rfl ?_; refine st_append rfl _ _ 98 rfl 100 (.agg #[.int .i64 0, .int .i64 0]) 2 16 Tryz.underlying98 info_nt rfl (by omega) v n (encs nenc X) q32 S2.swap ⟨q9, 0, none⟩ 1 1 [.int .i64 yid, .int .i64 108] q36 rfl (fun j u hj => blk_cells S2 j u hj) rfl (Nat.le_trans (show n + 1 ≤ 10001 by omega) (by decide)) (by omega) ?_; intro v2 w2 S3; refine ⟨q9, v2, ⟨fun _ => ⟨hd.2.1, hd.1⟩, fun _ => rfl⟩, acts_swap (by simp only [acts, h16, Bool.false_eq_true, if_false]) (k := 16) rfl (by kernel_rfl) (by kernel_rfl), ?_⟩; show Sat G w2 (opt (f 15) _ :: ownS 100 2 v2 (n + 1) (encs nenc (X ++ [(yid, 108)])) :: blk g (cond (f 18) _ _) _ :: _); rw [hd.2.1, z18, encs_append]; exact opt_iff.2 S3.swap)
    · rintro f a' W h17 hd ⟨q9, v', hh, rfl, S⟩
      refine wpOp_run (v := .pointer (some ⟨g, t, none⟩)) rfl rfl (fun ρ hρ => ?_) ⟨q9, v', hh, (acts_some 17 rfl (by kernel_rfl) (by kernel_rfl)).symm, S⟩
      have e0 : ρ (.tmp 24) = .slice (some ⟨g, 0, none⟩) c.ten cap := by rw [hρ]; exact acts_eval_hit 3 rfl hd.1 (by rw [HSZ]; rfl) (by kernel_rfl)
      have e1 : ρ (.tmp 25) = .int .i64 t := by rw [hρ]; exact acts_eval_hit 4 rfl hd.2.1 (by rw [HSZ]; rfl) (by kernel_rfl)
      clear hρ
      go_simp
    · rintro f a' W h18 hd ⟨q9, v', hh, rfl, S⟩
      have q38 : (acts [(0, 21, .pointer (some ⟨o, 0, none⟩)), (1, 22, .pointer (some ⟨o, 0, none⟩)), (2, 23, .pointer (some ⟨o, 9, none⟩)), (3, 24, .slice (some ⟨g, 0, none⟩) c.ten cap), (4, 25, .int .i64 t), (5, 26, .pointer (some ⟨o, 0, none⟩)), (6, 27, .pointer (some ⟨o, 0, none⟩)), (7, 28, .pointer (some ⟨o, 9, none⟩)), (8, 29, .slice (some ⟨g, 0, none⟩) c.ten cap), (9, 30, .int .i64 t), (10, 31, .pointer (some ⟨g, t, none⟩)), (11, 32, v), (12, 33, .int .i64 yid), (13, 34, .int .i64 108), (14, 35, .agg #[.int .i64 yid, .int .i64 108]), (15, 36, .slice (some ⟨q9, 0, none⟩) 1 1), (16, 37, v'), (17, 38, .pointer (some ⟨g, t, none⟩))] f a0).eval (.tmp 38) = .pointer (some ⟨g, t, none⟩) := acts_eval_hit 17 rfl hd.1 (by rw [HSZ]; rfl) (by kernel_rfl)
      have q37 : (acts [(0, 21, .pointer (some ⟨o, 0, none⟩)), (1, 22, .pointer (some ⟨o, 0, none⟩)), (2, 23, .pointer (some ⟨o, 9, none⟩)), (3, 24, .slice (some ⟨g, 0, none⟩) c.ten cap), (4, 25, .int .i64 t), (5, 26, .pointer (some ⟨o, 0, none⟩)), (6, 27, .pointer (some ⟨o, 0, none⟩)), (7, 28, .pointer (some ⟨o, 9, none⟩)), (8, 29, .slice (some ⟨g, 0, none⟩) c.ten cap), (9, 30, .int .i64 t), (10, 31, .pointer (some ⟨g, t, none⟩)), (11, 32, v), (12, 33, .int .i64 yid), (13, 34, .int .i64 108), (14, 35, .agg #[.int .i64 yid, .int .i64 108]), (15, 36, .slice (some ⟨q9, 0, none⟩) 1 1), (16, 37, v'), (17, 38, .pointer (some ⟨g, t, none⟩))] f a0).eval (.tmp 37) = v' := acts_eval_hit 16 rfl hd.2.1 (by rw [HSZ]; rfl) (by kernel_rfl)
      (have z16 := hd.2.1; simp only [h18, z16, cond_true, cond_false] at S; obtain ⟨A', c', rfl, -⟩ := S.swap.ownSlice; refine wpOp_list rfl ?_; refine st_set rfl _ _ _ rfl _ _ _ q38 q37 rfl _ _ S.pull2 (by kernel_rfl) hcz fun W' S' => ?_; refine ⟨q9, _, ⟨hh.1, fun _ => z16⟩, (acts_none 18 (by kernel_rfl)).symm, ?_⟩; show Sat G W' (_ :: ownS 100 2 (cond (f 16) _ v) (cond (f 16) _ n) (encs nenc (cond (f 16) _ X)) :: blk g (cur.setIfInBounds t _) _ :: _); rw [z16]; exact S'.push2)
  · rintro a' W3 ⟨q9, v', -, rfl, S4⟩
    subst ha0
    simp only [acts, if_true, Act.put, List.setIfInBounds_toArray, List.set_cons_succ, List.set_cons_zero]
    simp only [cond_true] at S4
    have S5 := S4.drop
    have HS := Lib.hid (HCL.out W3 v' (by rw [List.length_append, ← HN.out]; exact S5))
    clear S3 S4 S5 HSZ E0 E1 E2 E7 k9
    go_wp2_with fail
    exact hK.out _ _ ⟨rfl, HS.out⟩
end
end Go.Proofs.YtcecfhfbcdbofaaGreatDoor
set_option linter.unusedSimpArgs false
set_option linter.unusedVariables false
namespace Go.Proofs.YtcecfhfbcdbofaaGreatDoor
open Go.RowKit

/-- What is told of a stream that failed: tenant, id, number. -/
abbrev D3 := Int × Int × Int
def fenc (x : D3) : List Value := [.int .i64 0, .int .i64 x.1, .int .i64 x.2.1, .int .i64 x.2.2, .int .i64 0]
theorem fenc_len (x : D3) : (fenc x).length = 5 := rfl
theorem srt_lt {zs : List Int} (h : zs.Nodup) : (srt zs).Pairwise (· < ·) := by
  have h1 : (srt zs).Pairwise fun x y => (decide (x ≤ y)) = true := List.pairwise_mergeSort (fun a b c h1 h2 => by simp only [decide_eq_true_eq] at *; omega) (fun a b => by by_cases h : a ≤ b <;> simp [h]; omega) zs
  have h2 : (srt zs).Nodup := (srt_perm zs).nodup_iff.2 h
  refine (h1.and h2).imp fun hab => ?_
  have h3 := of_decide_eq_true hab.1
  have h4 := hab.2
  omega
/-- Where Fail stands behind j ids. -/
structure FailS (c : Oc) (s : Os) (K : List Int) (above : Int) (j : Nat) (s1 : Os) (N : List D3) : Prop where
  mem : ∀ y, y ∈ s1.M ↔ y ∈ s.M ∧ ¬ (y.id ∈ K.take j ∧ above < y.id)
  cnt : N.length + s1.M.length = s.M.length
  asc : (N.map (fun x => x.2.1)).Pairwise (· < ·)
  ins : ∀ x ∈ N, above < x.2.1 ∧ x.2.1 ∈ K.take j ∧ x.1 = ownT x.2.1 c.ten
  sQ : s1.Q = s.Q
  sD : s1.D = s.D
  sl : s1.last = s.last
  sr : s1.rl = s.rl
theorem fail_zero (c : Oc) (s : Os) (K : List Int) (above : Int) : FailS c s K above 0 s [] :=
  ⟨(fun y => by simp), by simp, List.Pairwise.nil, (fun x hx => by cases hx), rfl, rfl, rfl, rfl⟩
theorem mem_take_succ {K : List Int} {j : Nat} {id : Int} (h : K[j]? = some id) (z : Int) : z ∈ K.take (j + 1) ↔ z ∈ K.take j ∨ z = id := by
  rw [take_snoc h, List.mem_append, List.mem_singleton]
theorem fail_skip {c : Oc} {s s1 : Os} {K : List Int} {above : Int} {j : Nat} {N : List D3} {id : Int} (h : FailS c s K above j s1 N) (hk : K[j]? = some id) (hn : ¬ above < id) : FailS c s K above (j + 1) s1 N :=
  { h with
    mem := fun y => by
      rw [h.mem y, mem_take_succ hk]
      constructor
      · rintro ⟨h1, h2⟩
        refine ⟨h1, ?_⟩
        rintro ⟨h3 | h3, h4⟩
        · exact h2 ⟨h3, h4⟩
        · rw [h3] at h4; exact hn h4
      · rintro ⟨h1, h2⟩
        exact ⟨h1, fun ⟨h3, h4⟩ => h2 ⟨.inl h3, h4⟩⟩
    ins := fun x hx => by
      have := h.ins x hx
      exact ⟨this.1, (mem_take_succ hk _).2 (.inl this.2.1), this.2.2⟩ }
theorem pair_take {K : List Int} (hs : K.Pairwise (· < ·)) {j : Nat} {id : Int} (hk : K[j]? = some id) : ∀ z ∈ K.take j, z < id := by
  have hK : K = K.take j ++ id :: K.drop (j + 1) := by
    obtain ⟨h1, rfl⟩ := List.getElem?_eq_some_iff.1 hk
    rw [List.getElem_cons_drop, List.take_append_drop]
  rw [hK, List.pairwise_append] at hs
  exact fun z hz => hs.2.2 z hz id (by simp)
/-- The stream of the next id is still there. -/
theorem fail_has {c : Oc} {s s1 : Os} {K : List Int} {above : Int} {j : Nat} {N : List D3} {id : Int} (h : FailS c s K above j s1 N) (hs : K.Pairwise (· < ·)) (hK : ∀ z ∈ K, ∃ y ∈ s.M, y.id = z) (hk : K[j]? = some id) : ∃ y ∈ s1.M, y.id = id := by
  obtain ⟨y, hy, rfl⟩ := hK id (List.mem_of_getElem? hk)
  refine ⟨y, (h.mem y).2 ⟨hy, fun h1 => ?_⟩, rfl⟩
  have := pair_take hs hk _ h1.1
  omega
theorem fail_step {c : Oc} {s s1 : Os} {K : List Int} {above : Int} {j : Nat} {N : List D3} {y : Sm} {i : Nat} (h : FailS c s K above j s1 N) (hw : OInv c s1) (hs : K.Pairwise (· < ·)) (hk : K[j]? = some y.id) (ha : above < y.id) (hy : y ∈ s1.M) : FailS c s K above (j + 1) (goneS c s1 i (entOf y)) (N ++ [(ownT y.id c.ten, y.id, y.num)]) := by
  have hgM : (goneS c s1 i (entOf y)).M = noS s1.M y.id := by unfold goneS; rw [entOf_id]
  have hp := noS_perm (ids_nodup hw) hy
  refine { mem := fun z => ?_, cnt := ?_, asc := ?_, ins := fun x hx => ?_, sQ := h.sQ, sD := h.sD, sl := h.sl, sr := h.sr }
  · rw [hgM, mem_take_succ hk]
    constructor
    · intro hz
      obtain ⟨h1, h2⟩ := noS_mem hz
      obtain ⟨h3, h4⟩ := (h.mem z).1 h1
      refine ⟨h3, ?_⟩
      rintro ⟨h5 | h5, h6⟩
      · exact h4 ⟨h5, h6⟩
      · exact h2 h5
    · rintro ⟨h1, h2⟩
      have hz : z ∈ s1.M := (h.mem z).2 ⟨h1, fun ⟨h3, h4⟩ => h2 ⟨.inl h3, h4⟩⟩
      refine List.mem_filter.2 ⟨hz, ?_⟩
      have : z.id ≠ y.id := fun he => h2 ⟨.inr he, by rw [he]; exact ha⟩
      simpa using this
  · have h1 := hp.length_eq
    have h2 := h.cnt
    rw [hgM, List.length_append, List.length_singleton]
    rw [List.length_cons] at h1
    omega
  · rw [List.map_append, List.pairwise_append]
    refine ⟨h.asc, List.pairwise_singleton _ _, fun u hu v hv => ?_⟩
    obtain ⟨x, hx, rfl⟩ := List.mem_map.1 hu
    rw [List.map_singleton, List.mem_singleton] at hv
    subst hv
    exact pair_take hs hk _ (h.ins x hx).2.1
  · rcases List.mem_append.1 hx with hx | hx
    · have := h.ins x hx
      exact ⟨this.1, (mem_take_succ hk _).2 (.inl this.2.1), this.2.2⟩
    · rw [List.mem_singleton.1 hx]
      exact ⟨ha, (mem_take_succ hk _).2 (.inr rfl), rfl⟩
theorem fail_all {c : Oc} {s s1 : Os} {K : List Int} {above : Int} {N : List D3} (h : FailS c s K above K.length s1 N) (hK : ∀ y ∈ s.M, y.id ∈ K) (hi : ∀ y ∈ s.M, 1 ≤ y.id) (ha : above < 0) : s1.M = [] := by
  rw [List.eq_nil_iff_forall_not_mem]
  intro y hy
  obtain ⟨h1, h2⟩ := (h.mem y).1 hy
  rw [List.take_length] at h2
  exact h2 ⟨hK y h1, by have := hi y h1; omega⟩
/-- A sender whose lists are cleared. -/
def clearS (c : Oc) (s : Os) : Os := { s with D := List.replicate c.ten [], Q := List.replicate c.ten [] }
theorem clear_inv {c : Oc} {s : Os} (hw : OInv c s) : OInv c { s with D := List.replicate c.ten [] } :=
  { hw with
    dl := List.length_replicate
    dn := fun X hX => by
      obtain rfl := (List.mem_replicate.1 hX).2
      exact ⟨Nat.zero_le _, fun x hx => by cases hx⟩ }
theorem sum_cnt {c : Oc} {s : Os} (hw : OInv c s) : lsum s.L c.ten = (s.M.length : Int) := by
  have h1 : ∀ (L : List Int) (t : Nat), t ≤ L.length → lsum L t = isum (L.take t) := by
    intro L t
    induction t with
    | zero => intro _; rfl
    | succ t ih =>
      intro ht
      have hlt : t < L.length := by omega
      have e : liveAt L t = L[t] := by
        unfold liveAt
        rw [if_pos (by omega), Int.toNat_natCast, List.getD_eq_getElem?_getD, List.getElem?_eq_getElem hlt]; rfl
      rw [List.take_succ_eq_append_getElem hlt, isum_append]
      show lsum L t + liveAt L t = _
      rw [ih (by omega), e]
      simp [isum]
  rw [h1 _ _ (by rw [hw.len]; exact Nat.le_refl _), ← hw.len, List.take_length, hw.ls, few_of hw]
end Go.Proofs.YtcecfhfbcdbofaaGreatDoor
set_option linter.unusedSimpArgs false
set_option linter.unusedVariables false
namespace Go.Proofs.YtcecfhfbcdbofaaGreatDoor
open Go.RowKit
attribute [local go_sem] Oper.semAt_some

theorem run_append_none {P : Program} (w : World) (t ty e : TypeId) (i : TypeInfo) (ht : P.underlying t = some (.slice e)) (hi : P.info? e = some i) (A : Option Addr) (n c : Nat) (h : n ≤ c) (hA : A = none → c = 0) : (Builtin.append_ #[t, t] ty #[.slice A n c, .slice none 0 0]).run P w = .ok (.slice A n c) w := by
  cases A with
  | none =>
    obtain rfl := hA rfl
    obtain rfl : n = 0 := by omega
    simp [Builtin.append_, run_underlying ht, sizeOf, typeInfo, hi, Builtin.lenOf, Builtin.firstCells, loadCells, loadCellsFrom]
  | some a =>
    simp [Builtin.append_, run_underlying ht, sizeOf, typeInfo, hi, Builtin.lenOf, Builtin.firstCells, loadCells, loadCellsFrom, storeCells, h]
theorem st_appNone {P : Program} {w : World} {ops : Array Oper} {rest : List Oper} {o : Oper} {a : Act} {Q : Exit → Act → World → Prop} (hgd : o.guard = none) (s x : Operand) (t : TypeId)
    (ho : o.op = .call { callee := .builtin .append, args := #[s, x], argTypes := #[t, t] }) (e : TypeId) (z : Value) (size bytes : Nat) (ht : P.underlying t = some (.slice e)) (hi : (P.info? e).map (fun i => (i.zero, i.size, i.bytes)) = some (some z, size, bytes))
    (A : Option Addr) (n c : Nat) (hs : a.eval s = .slice A n c) (hx : a.eval x = .slice none 0 0) (h1 : n ≤ c) (hA : A = none → c = 0) (h : wpList P ops Q rest (a.put o.dst (.slice A n c)) w) : wpList P ops Q (o :: rest) a w := by
  obtain ⟨i, hi0⟩ : ∃ i, P.info? e = some i := by
    cases hi' : P.info? e with
    | none => rw [hi'] at hi; simp at hi
    | some i => exact ⟨i, rfl⟩
  refine wpList_plain hgd fun K hK => ?_
  have hrun := run_append_none w t o.type e i ht hi0 A n c h1 hA
  unfold Oper.wp execOp
  simp only [ho, resolve, invoke, builtin, Sem.run_bind, Sem.run_pure, Result.andThen_ok, List.map_toArray, List.map_cons, List.map_nil, hs, hx, hrun]
  exact hK _ _ h
theorem fenc_one (X : List D3) : (encs fenc X).all (·.oneCell') = true := by
  unfold encs
  induction X with
  | nil => rfl
  | cons x X ih => rw [List.flatMap_cons, List.all_append, ih]; rfl
/-- A slot that the region's last slot writes, as long as it has not come up. -/
theorem acts_eval_last {ps : List (Nat × Tmp × Value)} {f : Nat → Bool} {a : Act} {q : Nat × Tmp × Value} (t : Tmp) (h : (ps.dropLast.map (·.2.1)).contains t = false) (hl : ps.getLast? = some q) (hf : f q.1 = false) : (acts ps f a).eval (.tmp t) = a.eval (.tmp t) := by
  have hps : ps = ps.dropLast ++ [q] := by
    obtain ⟨ys, rfl⟩ := List.getLast?_eq_some_iff.1 hl
    rw [List.dropLast_concat]
  have key : ∀ (ps : List (Nat × Tmp × Value)) (a : Act), acts (ps ++ [q]) f a = acts ps f a := by
    intro ps
    induction ps with
    | nil => intro a; show acts [] f (if f q.1 then _ else a) = a; rw [hf]; rfl
    | cons p ps ih => intro a; exact ih _
  rw [hps, key]
  exact acts_eval_tmp t h
/-- What Fail answers: the streams N, the items E; the sender then. -/
def FailR (c : Oc) (s : Os) (above : Int) (N E : List D3) (s' : Os) : Prop :=
  ∃ s1 K, FailS c s K above K.length s1 N ∧ (∀ z ∈ K, ∃ y ∈ s.M, y.id = z) ∧ OInv c s1 ∧ CntI c s1 ∧ ((0 ≤ above ∧ E = [] ∧ s' = s1) ∨ (above < 0 ∧ s1.M = [] ∧ (∀ x ∈ E, x.2.1 = 0) ∧ s' = clearS c s1))
section
variable {G : Gnd} {w w' : World} {l : List Asrt} {o : Nat} {c : Oc} {s : Os}
set_option maxHeartbeats 8000000 in
set_option maxRecDepth 100000 in
theorem ob_fail (H : Sat G w (outA o c s :: l)) (hw : OInv c s) (hcn : CntI c s) (hT : TabG G) (above : Int) :
    Calls Tryz.prog 18 #[.pointer (some ⟨o, 0, none⟩), .int .i64 above] w fun e w' => ∃ (G' : Gnd) (v : Value) (N E : List D3) (s' : Os), G.le G' ∧ e = .returned v ∧ OInv c s' ∧ FailR c s above N E s' ∧ Sat G' w' (ownS 45 5 v (N ++ E).length (encs fenc (N ++ E)) :: outA o c s' :: l) := by
  refine calls_any fun K hK => ?_
  obtain ⟨a, SA⟩ := out_iff.1 H
  have k8 : w.cell? ⟨o, 8, none⟩ = some (.map (some a.mb)) := SA.cell 8
  have S1 : Sat G w (mpA a.mb (s.M.map Sm.kp) :: blk o (obC c a s.last) 72 :: quA a.q s.Q c.byt c.itm :: rgA a.g c.ten c.str s.F s.L s.rl :: crA a.p s.C 0 :: strA s.M :: ctA a.cv s.D :: ownS 98 1 a.gv c.ten (noG c.ten) :: l) := Sat.re SA [4, 0, 1, 2, 3, 5, 6, 7]
  have hks := ob_keys (mb := a.mb) S1
  have HH := Lib.hid (And.intro hw (And.intro hcn hT))
  have hMl : (s.M.map Sm.kp).length ≤ 10000 := by rw [List.length_map]; exact hw.ml
  clear H SA S1 hw hcn hT
  go_enter Tryz.func18, Tryz.ntmps18
  go_wp2_with fail
  (with_reducible refine hks.mono ?_)
  rintro e w1 ⟨b1, rfl, S2⟩
  have hso := keys_sorted S2 hMl
  clear hks k8 S2
  go_wp2_with fail
  (with_reducible refine hso.mono ?_)
  rintro e w2 ⟨G1, kv, ys, hG1, hys, rfl, S3⟩
  obtain ⟨KL, hKL⟩ : ∃ K, K = srt ys := ⟨_, rfl⟩
  rw [← hKL] at S3
  have hids : (s.M.map Sm.kp).map (·.1) = s.M.map Sm.id := by rw [List.map_map]; rfl
  rw [hids] at hys
  have HKL := Lib.hid (show KL.Pairwise (· < ·) ∧ (∀ z ∈ KL, ∃ y ∈ s.M, y.id = z) ∧ (∀ y ∈ s.M, y.id ∈ KL) ∧ KL.length ≤ 10000 by
    refine ⟨by rw [hKL]; exact srt_lt (hys.nodup_iff.2 (ids_nodup HH.out.1)), fun z hz => ?_, fun y hy => ?_, ?_⟩
    · rw [hKL] at hz
      have := hys.mem_iff.1 ((srt_perm ys).mem_iff.1 hz)
      obtain ⟨y, hy, rfl⟩ := List.mem_map.1 this
      exact ⟨y, hy, rfl⟩
    · rw [hKL]
      exact (srt_perm ys).mem_iff.2 (hys.mem_iff.2 (List.mem_map_of_mem hy))
    · rw [hKL, srt_len, hys.length_eq, List.length_map]; exact HH.out.1.ml)
  have S4 : Sat G1 w2 (ownS 45 5 (.slice none 0 0) ([] : List D3).length (encs fenc []) :: ownS 3 1 kv KL.length (encs lenc_r KL) :: outA o c s :: l) := by
    have h := (out_iff.2 ⟨a, Sat.re S3 [2, 3, 4, 5, 1, 6, 7, 8, 0]⟩).swap
    exact h.ownNil 45 5
  obtain ⟨A, kc, rfl, hkc1, hkc2, -⟩ := S4.swap.ownGet
  obtain ⟨m, hm⟩ : ∃ m, m = KL.length := ⟨_, rfl⟩
  rw [← hm] at S4 hkc1 ⊢
  have HM := Lib.hid hm
  have HG1 := Lib.hid hG1
  clear hso hKL hids hys S3 hm hG1 hMl
  go_wp2_with fail
  go_loopw [5, 16] (fun v i wr => ∃ (j : Nat) (G2 : Gnd) (s1 : Os) (N : List D3), j ≤ m ∧ i = .int .i64 j ∧ G.le G2 ∧ OInv c s1 ∧ CntI c s1 ∧ FailS c s KL above j s1 N ∧ Sat G2 wr (ownS 45 5 v N.length (encs fenc N) :: ownS 3 1 (.slice A m kc) m (encs lenc_r KL) :: outA o c s1 :: l)) (fun _ i _ => m - (intOf i).toNat)
  case atStart => exact ⟨0, G1, s, [], Nat.zero_le _, rfl, HG1.out, HH.out.1, HH.out.2.1, fail_zero c s KL above, S4⟩
  case round =>
    clear S4
    obtain ⟨j, G2, s1, N, hj, rfl, hG2, hI, hC, hF, S5⟩ := hrel
    have hm1 : m ≤ 10000 := by rw [HM.out]; exact HKL.out.2.2.2
    by_cases hlt : j < m
    · obtain ⟨id, hid⟩ : ∃ id, KL[j]? = some id := ⟨_, List.getElem?_eq_getElem (by rw [← HM.out]; exact hlt)⟩
      obtain ⟨A', kc', hA', -, -, hget⟩ := S5.swap.ownGet
      cases hA'
      obtain ⟨gk, rfl, y0⟩ := hget (j * 1) (.int .i64 id) ((encs_get lenc_len KL j id hid 0 (by decide)).trans rfl)
      rw [Nat.mul_one] at y0
      have HF := Lib.hid (And.intro hG2 (And.intro hI (And.intro hC (And.intro hF hid))))
      have hHS := fail_has hF HKL.out.1 HKL.out.2.1 hid
      by_cases hab : above < id
      · obtain ⟨v, rfl⟩ : ∃ v, v = u5 := ⟨_, rfl⟩
        obtain ⟨y, hy, hyid⟩ := hHS
        obtain ⟨i, hx⟩ := ent_at hI hy
        obtain ⟨t, ht, hot⟩ := own_nat hI hy
        have hmi := hI.mi y hy
        have hk := keyOk hmi.1 hmi.2.1
        have hsm := smAt_of (ids_nodup hI) hy
        rw [hyid] at hk hot hsm
        obtain ⟨a2, SA2⟩ := out_iff.1 (Sat.re S5 [2, 0, 1])
        obtain ⟨RR, hRR⟩ : ∃ L : List Asrt, L = quA a2.q s1.Q c.byt c.itm :: rgA a2.g c.ten c.str s1.F s1.L s1.rl :: crA a2.p s1.C 0 :: ctA a2.cv s1.D :: ownS 98 1 a2.gv c.ten (noG c.ten) :: ownS 3 1 (.slice (some ⟨gk, 0, none⟩) m kc) m (encs lenc_r KL) :: l := ⟨_, rfl⟩
        obtain ⟨n, hn⟩ : ∃ n, n = N.length := ⟨_, rfl⟩
        obtain ⟨d, hd⟩ : ∃ d : D3, d = (ownT id c.ten, id, y.num) := ⟨_, rfl⟩
        have hnl : n ≤ 10000 := by
          have h1 := hF.cnt
          have h2 := HH.out.1.ml
          omega
        have S6 : Sat G2 wr (ownS 45 5 v n (encs fenc N) :: blk o (obC c a2 s1.last) 72 :: mpA a2.mb (s1.M.map Sm.kp) :: strA s1.M :: RR) := by rw [hRR, hn]; exact Sat.re SA2 [8, 0, 4, 5, 1, 2, 3, 6, 7, 9]
        have HCL : Hid (∀ W v', Sat G2 W (ownS 45 5 v' (n + 1) (encs fenc (N ++ [d])) :: blk o (obC c a2 s1.last) 72 :: mpA a2.mb (s1.M.map Sm.kp) :: strA s1.M :: RR) → Sat G2 W (outA o c s1 :: ownS 45 5 v' (N ++ [d]).length (encs fenc (N ++ [d])) :: ownS 3 1 (.slice (some ⟨gk, 0, none⟩) m kc) m (encs lenc_r KL) :: l)) := Lib.hid fun W v' S => by
          rw [hRR] at S
          rw [List.length_append, ← hn]
          exact out_iff.2 ⟨a2, Sat.re S [1, 4, 5, 6, 2, 3, 7, 8, 0, 9]⟩
        have HY := Lib.hid (And.intro hy (And.intro hyid (And.intro hx (And.intro ht (And.intro hot (And.intro hk (And.intro hsm hd)))))))
        have hlk : ∀ W, Sat G2 W (mpA a2.mb (s1.M.map Sm.kp) :: ownS 45 5 v n (encs fenc N) :: []) → True := fun _ _ => trivial
        have HAT := Lib.hid (show mpAt (s1.M.map Sm.kp) id = .pointer (some ⟨y.p, 0, none⟩) by rw [mpAt_eq, hsm])
        obtain ⟨yp, hyp⟩ : ∃ q, q = y.p := ⟨_, rfl⟩
        obtain ⟨yn, hyn⟩ : ∃ q, q = y.num := ⟨_, rfl⟩
        have HYP := Lib.hid (And.intro hyp hyn)
        have HDE := Lib.hid (show fenc d = [.int .i64 0, .int .i64 (ownT id c.ten), .int .i64 id, .int .i64 yn, .int .i64 0] by rw [hd, hyn]; rfl)
        clear hG2 hI hC hF hid hget S5 SA2 hRR hn hd hy hyid hx ht hot hmi hk hsm hlk hyp hyn
        go_upto_region 6 with (fail)
        clear y0
        refine wp_act fun a0 ha0 => ?_
        have HSZ : a0.tmps.size = 72 := by rw [ha0]; rfl
        have E5 : a0.eval (.tmp 5) = v := by rw [ha0]; rfl
        have E0 : a0.eval (.tmp 0) = .pointer (some ⟨o, 0, none⟩) := by rw [ha0]; rfl
        have E7 : a0.eval (.tmp 7) = .int .i64 id := by rw [ha0]; rfl
        refine wp_region_J (by kernel_rfl) 18 (by kernel_rfl) [[], [], [], [1, 2], [], [], [5], [6], [7], [], [8, 9], [10], [11], [12], [3, 4, 13], [14], [0, 15, 3], [16, 16, 0, 1, 2, 3, 4, 5, 6, 7, 8, 9, 10, 11, 12, 13, 14, 15, 16]] (by kernel_rfl) (by kernel_rfl) (fun f a' W => ∃ (q9 : Nat) (v' : Value), ((f 16 = true → f 15 = true) ∧ (f 17 = true → f 16 = true ∧ f 0 = true)) ∧ a' = acts [(0, 23, v), (1, 24, .pointer (some ⟨o, 0, none⟩)), (2, 25, .int .i64 id), (3, 26, .int .i64 (ownT id c.ten)), (4, 27, .int .i64 id), (5, 28, .pointer (some ⟨o, 0, none⟩)), (6, 29, .pointer (some ⟨o, 0, none⟩)), (7, 30, .pointer (some ⟨o, 8, none⟩)), (8, 31, .map (some a2.mb)), (9, 32, .int .i64 id), (10, 33, .pointer (some ⟨yp, 0, none⟩)), (11, 34, .pointer (some ⟨yp, 0, none⟩)), (12, 35, .pointer (some ⟨yp, 1, none⟩)), (13, 36, .int .i64 yn), (14, 37, .agg #[.int .i64 0, .int .i64 (ownT id c.ten), .int .i64 id, .int .i64 yn, .int .i64 0]), (15, 38, .slice (some ⟨q9, 0, none⟩) 1 1), (16, 39, v'), (17, 5, v')] f a0 ∧ Sat G2 W (opt (f 15) (blk q9 #[.int .i64 0, .int .i64 (ownT id c.ten), .int .i64 id, .int .i64 yn, .int .i64 0] 45) :: ownS 45 5 (cond (f 16) v' v) (cond (f 16) (n + 1) n) (encs fenc (cond (f 16) (N ++ [d]) N)) :: blk o (obC c a2 s1.last) 72 :: mpA a2.mb (s1.M.map Sm.kp) :: strA s1.M :: RR)) ?_ ?_ ?_
        · exact ⟨0, undef, ⟨fun h => (by cases h), fun h => (by cases h)⟩, rfl, Sat.opt0 S6.drew⟩
        · refine ⟨?_, ?_, ?_, ?_, ?_, ?_, ?_, ?_, ?_, ?_, ?_, ?_, ?_, ?_, ?_, ?_, ?_, ?_, trivial⟩
          · rintro f a' W h0 hd ⟨q9, v', hh, rfl, S⟩
            have late5 : f 17 = false := no_of (fun h => (hh.2 h).2) h0
            refine wpOp_run (v := v) rfl rfl (fun ρ hρ => ?_) ⟨q9, v', ⟨hh.1, fun h => ⟨(hh.2 h).1, rfl⟩⟩, (acts_some 0 rfl (by kernel_rfl) (by kernel_rfl)).symm, S⟩
            have e0 : ρ (.tmp 5) = v := by rw [hρ]; exact (acts_eval_last 5 (by kernel_rfl) rfl late5).trans E5
            clear hρ
            go_simp
          · rintro f a' W h1 hd ⟨q9, v', hh, rfl, S⟩
            refine wpOp_run (v := .pointer (some ⟨o, 0, none⟩)) rfl rfl (fun ρ hρ => ?_) ⟨q9, v', hh, (acts_some 1 rfl (by kernel_rfl) (by kernel_rfl)).symm, S⟩
            have e0 : ρ (.tmp 0) = .pointer (some ⟨o, 0, none⟩) := by rw [hρ]; exact (acts_eval_tmp 0 (by kernel_rfl)).trans E0
            clear hρ
            go_simp
          · rintro f a' W h2 hd ⟨q9, v', hh, rfl, S⟩
            refine wpOp_run (v := .int .i64 id) rfl rfl (fun ρ hρ => ?_) ⟨q9, v', hh, (acts_some 2 rfl (by kernel_rfl) (by kernel_rfl)).symm, S⟩
            have e0 : ρ (.tmp 7) = .int .i64 id := by rw [hρ]; exact (acts_eval_tmp 7 (by kernel_rfl)).trans E7
            clear hρ
            go_simp
          · rintro f a' W h3 hd ⟨q9, v', hh, rfl, S⟩
            refine wpOp_call rfl rfl (fun ρ hρ => ?_) (ob_owner (show W.cell? ⟨o, 0, none⟩ = some (.int .i64 c.ten) from S.pull2.cell 0) id) ?_
            · skip
              have e0 : ρ (.tmp 24) = .pointer (some ⟨o, 0, none⟩) := by rw [hρ]; exact acts_eval_hit 1 rfl hd.1 (by rw [HSZ]; rfl) (by kernel_rfl)
              have e1 : ρ (.tmp 25) = .int .i64 id := by rw [hρ]; exact acts_eval_hit 2 rfl hd.2.1 (by rw [HSZ]; rfl) (by kernel_rfl)
              have ef : ρ (.func 37) = .func (.func 37) #[] #[] := by rw [hρ]; rfl
              clear hρ
              go_simp
            · (rintro e W' ⟨rfl, rfl⟩; exact ⟨_, rfl, q9, v', hh, (acts_some 3 rfl (by kernel_rfl) (by kernel_rfl)).symm, S⟩)
          · rintro f a' W h4 hd ⟨q9, v', hh, rfl, S⟩
            refine wpOp_run (v := .int .i64 id) rfl rfl (fun ρ hρ => ?_) ⟨q9, v', hh, (acts_some 4 rfl (by kernel_rfl) (by kernel_rfl)).symm, S⟩
            have e0 : ρ (.tmp 7) = .int .i64 id := by rw [hρ]; exact (acts_eval_tmp 7 (by kernel_rfl)).trans E7
            clear hρ
            go_simp
          · rintro f a' W h5 hd ⟨q9, v', hh, rfl, S⟩
            refine wpOp_run (v := .pointer (some ⟨o, 0, none⟩)) rfl rfl (fun ρ hρ => ?_) ⟨q9, v', hh, (acts_some 5 rfl (by kernel_rfl) (by kernel_rfl)).symm, S⟩
            have e0 : ρ (.tmp 0) = .pointer (some ⟨o, 0, none⟩) := by rw [hρ]; exact (acts_eval_tmp 0 (by kernel_rfl)).trans E0
            clear hρ
            go_simp
          · rintro f a' W h6 hd ⟨q9, v', hh, rfl, S⟩
            refine wpOp_run (v := .pointer (some ⟨o, 0, none⟩)) rfl rfl (fun ρ hρ => ?_) ⟨q9, v', hh, (acts_some 6 rfl (by kernel_rfl) (by kernel_rfl)).symm, S⟩
            have e0 : ρ (.tmp 28) = .pointer (some ⟨o, 0, none⟩) := by rw [hρ]; exact acts_eval_hit 5 rfl hd.1 (by rw [HSZ]; rfl) (by kernel_rfl)
            clear hρ
            go_simp
          · rintro f a' W h7 hd ⟨q9, v', hh, rfl, S⟩
            refine wpOp_run (v := .pointer (some ⟨o, 8, none⟩)) rfl rfl (fun ρ hρ => ?_) ⟨q9, v', hh, (acts_some 7 rfl (by kernel_rfl) (by kernel_rfl)).symm, S⟩
            have e0 : ρ (.tmp 29) = .pointer (some ⟨o, 0, none⟩) := by rw [hρ]; exact acts_eval_hit 6 rfl hd.1 (by rw [HSZ]; rfl) (by kernel_rfl)
            clear hρ
            go_simp
          · rintro f a' W h8 hd ⟨q9, v', hh, rfl, S⟩
            refine wpOp_run (v := .map (some a2.mb)) rfl rfl (fun ρ hρ => ?_) ⟨q9, v', hh, (acts_some 8 rfl (by kernel_rfl) (by kernel_rfl)).symm, S⟩
            have e0 : ρ (.tmp 30) = .pointer (some ⟨o, 8, none⟩) := by rw [hρ]; exact acts_eval_hit 7 rfl hd.1 (by rw [HSZ]; rfl) (by kernel_rfl)
            clear hρ
            (have z : W.cell? ⟨o, 8, none⟩ = some (.map (some a2.mb)) := S.pull2.cell 8)
            go_simp
          · rintro f a' W h9 hd ⟨q9, v', hh, rfl, S⟩
            refine wpOp_run (v := .int .i64 id) rfl rfl (fun ρ hρ => ?_) ⟨q9, v', hh, (acts_some 9 rfl (by kernel_rfl) (by kernel_rfl)).symm, S⟩
            have e0 : ρ (.tmp 7) = .int .i64 id := by rw [hρ]; exact (acts_eval_tmp 7 (by kernel_rfl)).trans E7
            clear hρ
            go_simp
          · rintro f a' W h10 hd ⟨q9, v', hh, rfl, S⟩
            refine wpOp_run (v := .pointer (some ⟨yp, 0, none⟩)) rfl rfl (fun ρ hρ => ?_) ⟨q9, v', hh, (acts_some 10 rfl (by kernel_rfl) (by kernel_rfl)).symm, S⟩
            have e0 : ρ (.tmp 31) = .map (some a2.mb) := by rw [hρ]; exact acts_eval_hit 8 rfl hd.1 (by rw [HSZ]; rfl) (by kernel_rfl)
            have e1 : ρ (.tmp 32) = .int .i64 id := by rw [hρ]; exact acts_eval_hit 9 rfl hd.2.1 (by rw [HSZ]; rfl) (by kernel_rfl)
            clear hρ
            (have z := mp_look S.pull3 id HY.out.2.2.2.2.2.1; rw [HAT.out, ← HYP.out.1] at z)
            go_simp
          · rintro f a' W h11 hd ⟨q9, v', hh, rfl, S⟩
            refine wpOp_run (v := .pointer (some ⟨yp, 0, none⟩)) rfl rfl (fun ρ hρ => ?_) ⟨q9, v', hh, (acts_some 11 rfl (by kernel_rfl) (by kernel_rfl)).symm, S⟩
            have e0 : ρ (.tmp 33) = .pointer (some ⟨yp, 0, none⟩) := by rw [hρ]; exact acts_eval_hit 10 rfl hd.1 (by rw [HSZ]; rfl) (by kernel_rfl)
            clear hρ
            go_simp
          · rintro f a' W h12 hd ⟨q9, v', hh, rfl, S⟩
            refine wpOp_run (v := .pointer (some ⟨yp, 1, none⟩)) rfl rfl (fun ρ hρ => ?_) ⟨q9, v', hh, (acts_some 12 rfl (by kernel_rfl) (by kernel_rfl)).symm, S⟩
            have e0 : ρ (.tmp 34) = .pointer (some ⟨yp, 0, none⟩) := by rw [hρ]; exact acts_eval_hit 11 rfl hd.1 (by rw [HSZ]; rfl) (by kernel_rfl)
            clear hρ
            go_simp
          · rintro f a' W h13 hd ⟨q9, v', hh, rfl, S⟩
            refine wpOp_run (v := .int .i64 yn) rfl rfl (fun ρ hρ => ?_) ⟨q9, v', hh, (acts_some 13 rfl (by kernel_rfl) (by kernel_rfl)).symm, S⟩
            have e0 : ρ (.tmp 35) = .pointer (some ⟨yp, 1, none⟩) := by rw [hρ]; exact acts_eval_hit 12 rfl hd.1 (by rw [HSZ]; rfl) (by kernel_rfl)
            clear hρ
            (have z : W.cell? ⟨yp, 1, none⟩ = some (.int .i64 yn) := by rw [HYP.out.1, HYP.out.2]; obtain ⟨A9, n9, -, z1, -⟩ := st_cells (Sat.re S [4, 0, 1, 2, 3]) HY.out.1; exact z1)
            go_simp
          · rintro f a' W h14 hd ⟨q9, v', hh, rfl, S⟩
            refine wpOp_run (v := .agg #[.int .i64 0, .int .i64 (ownT id c.ten), .int .i64 id, .int .i64 yn, .int .i64 0]) rfl rfl (fun ρ hρ => ?_) ⟨q9, v', hh, (acts_some 14 rfl (by kernel_rfl) (by kernel_rfl)).symm, S⟩
            have e0 : ρ (.tmp 26) = .int .i64 (ownT id c.ten) := by rw [hρ]; exact acts_eval_hit 3 rfl hd.1 (by rw [HSZ]; rfl) (by kernel_rfl)
            have e1 : ρ (.tmp 27) = .int .i64 id := by rw [hρ]; exact acts_eval_hit 4 rfl hd.2.1 (by rw [HSZ]; rfl) (by kernel_rfl)
            have e2 : ρ (.tmp 36) = .int .i64 yn := by rw [hρ]; exact acts_eval_hit 13 rfl hd.2.2.1 (by rw [HSZ]; rfl) (by kernel_rfl)
            clear hρ
            go_simp
          · rintro f a' W h15 hd ⟨q9, v', hh, rfl, S⟩
            (have z16 : f 16 = false := no_of hh.1 h15)
            refine wpOp_mem (v := .slice (some ⟨W.heap.size, 0, none⟩) 1 1) (w' := W.alloc (.cells #[.int .i64 0, .int .i64 (ownT id c.ten), .int .i64 id, .int .i64 yn, .int .i64 0] 45)) rfl rfl (fun ρ hρ => ?_) (⟨W.heap.size, v', ⟨fun _ => rfl, hh.2⟩, acts_swap (by simp only [acts, h15, Bool.false_eq_true, if_false]) (k := 15) rfl (by kernel_rfl) (by kernel_rfl), Sat.optI rfl (S.newBlk _ _).drop2⟩)
            have e0 : ρ (.tmp 37) = .agg #[.int .i64 0, .int .i64 (ownT id c.ten), .int .i64 id, .int .i64 yn, .int .i64 0] := by rw [hρ]; exact acts_eval_hit 14 rfl hd.1 (by rw [HSZ]; rfl) (by kernel_rfl)
            clear hρ
            go_simp
          · rintro f a' W h16 hd ⟨q9, v', hh, rfl, S⟩
            have q23 : (acts [(0, 23, v), (1, 24, .pointer (some ⟨o, 0, none⟩)), (2, 25, .int .i64 id), (3, 26, .int .i64 (ownT id c.ten)), (4, 27, .int .i64 id), (5, 28, .pointer (some ⟨o, 0, none⟩)), (6, 29, .pointer (some ⟨o, 0, none⟩)), (7, 30, .pointer (some ⟨o, 8, none⟩)), (8, 31, .map (some a2.mb)), (9, 32, .int .i64 id), (10, 33, .pointer (some ⟨yp, 0, none⟩)), (11, 34, .pointer (some ⟨yp, 0, none⟩)), (12, 35, .pointer (some ⟨yp, 1, none⟩)), (13, 36, .int .i64 yn), (14, 37, .agg #[.int .i64 0, .int .i64 (ownT id c.ten), .int .i64 id, .int .i64 yn, .int .i64 0]), (15, 38, .slice (some ⟨q9, 0, none⟩) 1 1), (16, 39, v'), (17, 5, v')] f a0).eval (.tmp 23) = v := acts_eval_hit 0 rfl hd.1 (by rw [HSZ]; rfl) (by kernel_rfl)
            have q38 : (acts [(0, 23, v), (1, 24, .pointer (some ⟨o, 0, none⟩)), (2, 25, .int .i64 id), (3, 26, .int .i64 (ownT id c.ten)), (4, 27, .int .i64 id), (5, 28, .pointer (some ⟨o, 0, none⟩)), (6, 29, .pointer (some ⟨o, 0, none⟩)), (7, 30, .pointer (some ⟨o, 8, none⟩)), (8, 31, .map (some a2.mb)), (9, 32, .int .i64 id), (10, 33, .pointer (some ⟨yp, 0, none⟩)), (11, 34, .pointer (some ⟨yp, 0, none⟩)), (12, 35, .pointer (some ⟨yp, 1, none⟩)), (13, 36, .int .i64 yn), (14, 37, .agg #[.int .i64 0, .int .i64 (ownT id c.ten), .int .i64 id, .int .i64 yn, .int .i64 0]), (15, 38, .slice (some ⟨q9, 0, none⟩) 1 1), (16, 39, v'), (17, 5, v')] f a0).eval (.tmp 38) = .slice (some ⟨q9, 0, none⟩) 1 1 := acts_eval_hit 15 rfl hd.2.1 (by rw [HSZ]; rfl) (by kernel_rfl)
            (simp only [h16, cond_false] at S; have z17 : f 17 = false := no_of (fun h => (hh.2 h).1) h16; have S2 := Sat.optE hd.2.1 S; refine wpOp_list rfl ?_; refine st_append rfl _ _ 49 rfl 45 (.agg #[.int .i64 0, .int .i64 0, .int .i64 0, .int .i64 0, .int .i64 0]) 5 40 Tryz.underlying49 info_di rfl (by omega) v n (encs fenc N) q23 S2.swap ⟨q9, 0, none⟩ 1 1 [.int .i64 0, .int .i64 (ownT id c.ten), .int .i64 id, .int .i64 yn, .int .i64 0] q38 rfl (fun j u hj => blk_cells S2 j u hj) rfl (Nat.le_trans (show n + 1 ≤ 10001 by omega) (by decide)) (by omega) ?_; intro v2 w2 S3; refine ⟨q9, v2, ⟨fun _ => hd.2.1, fun h => ⟨rfl, (hh.2 h).2⟩⟩, acts_swap (by simp only [acts, h16, z17, Bool.false_eq_true, if_false]) (k := 16) rfl (by kernel_rfl) (by kernel_rfl), ?_⟩; show Sat G2 w2 (opt (f 15) _ :: ownS 45 5 v2 (n + 1) (encs fenc (N ++ [d])) :: _); rw [hd.2.1, encs_append, show encs fenc [d] = [.int .i64 0, .int .i64 (ownT id c.ten), .int .i64 id, .int .i64 yn, .int .i64 0] by rw [← HDE.out]; simp [encs]]; exact opt_iff.2 S3.swap)
          · rintro f a' W h17 hd ⟨q9, v', hh, rfl, S⟩
            refine wpOp_run (v := v') rfl rfl (fun ρ hρ => ?_) ⟨q9, v', ⟨hh.1, fun _ => ⟨hd.1, hd.2.2.1⟩⟩, (acts_some 17 rfl (by kernel_rfl) (by kernel_rfl)).symm, S⟩
            have e0 : ρ (.tmp 39) = v' := by rw [hρ]; exact acts_eval_hit 16 rfl hd.1 (by rw [HSZ]; rfl) (by kernel_rfl)
            clear hρ
            go_simp
        · rintro a' W3 ⟨q9, v', -, rfl, S7⟩
          subst ha0
          simp only [acts, if_true, Act.put, List.setIfInBounds_toArray, List.set_cons_succ, List.set_cons_zero]
          simp only [cond_true] at S7
          have S8 := HCL.out W3 v' S7.drop
          have hid := entOf_id y
          have hg := ob_get_gone S8 HF.out.2.1.toOWf (HH.out.2.2.mono HF.out.1) i (entOf y) HY.out.2.2.1 7 (gone_four y).2 y (by rw [hid, HY.out.2.1]; exact HY.out.2.2.2.2.2.2.1) (by rw [hid, HY.out.2.1]; exact HY.out.2.2.2.2.2.1) t HY.out.2.2.2.1 (by rw [hid, HY.out.2.1]; exact HY.out.2.2.2.2.1)
          rw [hid, HY.out.2.1] at hg
          clear S6 S7 S8 HSZ E0 E5 E7 hid
          go_wp2_with fail
          (with_reducible refine hg.mono ?_)
          clear hg
          rintro e w4 ⟨u1, u2, u3, rfl, S9⟩
          have HS9 := Lib.hid S9
          clear S9
          go_wp2_with fail
          go_roundw
          case rel =>
            have hgi := gone_inv HF.out.2.1 HF.out.2.2.1 HY.out.1 HY.out.2.2.1 HY.out.2.2.2.1 (by rw [HY.out.2.1]; exact HY.out.2.2.2.2.1)
            have hst := fail_step (i := i) HF.out.2.2.2.1 HF.out.2.1 HKL.out.1 (by rw [HY.out.2.1]; exact HF.out.2.2.2.2) (by rw [HY.out.2.1]; exact hab) HY.out.1
            rw [HY.out.2.1, ← HY.out.2.2.2.2.2.2.2] at hst
            exact ⟨j + 1, G2, goneS c s1 i (entOf y), N ++ [d], by omega, by go_num, HF.out.1, hgi.1, hgi.2, hst, Sat.re HS9.out [1, 2, 0]⟩
          case measure => simp [intOf]; omega
      · have HS5 := Lib.hid S5
        clear hG2 hI hC hF hid hget hHS S5
        go_wp2_with fail
        go_roundw
        case rel => exact ⟨j + 1, G2, s1, N, by omega, by go_num, HF.out.1, HF.out.2.1, HF.out.2.2.1, fail_skip HF.out.2.2.2.1 HF.out.2.2.2.2 hab, HS5.out⟩
        case measure => simp [intOf]; omega
    · obtain rfl : m = j := by omega
      obtain ⟨v, rfl⟩ : ∃ v, v = u5 := ⟨_, rfl⟩
      rw [HM.out] at hF
      by_cases hab : 0 ≤ above
      · have HS5 := Lib.hid (And.intro hG2 (And.intro hI (And.intro hC (And.intro hF S5))))
        clear hG2 hI hC hF S5
        go_wp2_with fail
        exact hK.out _ _ ⟨G2, v, N, [], s1, HS5.out.1, rfl, HS5.out.2.1, ⟨s1, KL, HS5.out.2.2.2.1, HKL.out.2.1, HS5.out.2.1, HS5.out.2.2.1, .inl ⟨hab, rfl, rfl⟩⟩, by rw [List.append_nil]; exact HS5.out.2.2.2.2.drop2⟩
      · obtain ⟨a3, SA3⟩ := out_iff.1 (Sat.re S5 [2, 0, 1])
        have k0 : wr.cell? ⟨o, 0, none⟩ = some (.int .i64 c.ten) := SA3.cell 0
        have hn64 := hI.t1
        have HF := Lib.hid (And.intro hG2 (And.intro hI (And.intro hC hF)))
        have S6 := S5.drop2
        clear hG2 hI hC hF SA3 S5
        go_wp2_with fail
        clear k0
        go_loopw [52] (fun i wr => ∃ (t : Nat) (D' : List (List (Int × Int))), t ≤ c.ten ∧ i = .int .i64 t ∧ D'.length = c.ten ∧ (∀ j, j < t → D'.getD j [] = []) ∧ OInv c { s1 with D := D' } ∧ Sat G2 wr (ownS 45 5 v N.length (encs fenc N) :: outA o c { s1 with D := D' } :: l)) (fun i _ => c.ten - (intOf i).toNat)
        case atStart => exact ⟨0, s1.D, Nat.zero_le _, rfl, HF.out.2.1.dl, (fun j hj => absurd hj (Nat.not_lt_zero _)), HF.out.2.1, S6⟩
        case round =>
          clear S6
          obtain ⟨t, D', ht, rfl, hDl, hDz, hID, S7⟩ := hrel
          by_cases htn : t < c.ten
          · have hti : (t : Int) < (c.ten : Int) := by omega
            have htD : t < D'.length := by rw [hDl]; exact htn
            obtain ⟨a4, SA⟩ := out_iff.1 S7.swap
            have SC : Sat G2 wr (ctA a4.cv D' :: blk o (obC c a4 s1.last) 72 :: quA a4.q s1.Q c.byt c.itm :: rgA a4.g c.ten c.str s1.F s1.L s1.rl :: crA a4.p s1.C 0 :: mpA a4.mb (s1.M.map Sm.kp) :: strA s1.M :: ownS 98 1 a4.gv c.ten (noG c.ten) :: ownS 45 5 v N.length (encs fenc N) :: l) := Sat.re SA [6, 0, 1, 2, 3, 4, 5, 7, 8]
            obtain ⟨g, cap, cur, vc, R, hcv, hcap, hcur, S8, hclose⟩ := ct_open SC htD
            have h9 : Sat G2 wr (R ++ (blk g cur 98 :: ownS 100 2 vc (D'.getD t []).length (encs nenc (D'.getD t [])) :: blk o (obC c a4 s1.last) 72 :: quA a4.q s1.Q c.byt c.itm :: rgA a4.g c.ten c.str s1.F s1.L s1.rl :: crA a4.p s1.C 0 :: mpA a4.mb (s1.M.map Sm.kp) :: strA s1.M :: ownS 98 1 a4.gv c.ten (noG c.ten) :: ownS 45 5 v N.length (encs fenc N) :: l)) := Sat.perm S8 ((List.Perm.cons _ List.perm_middle.symm).trans List.perm_middle.symm)
            have S10 : Sat G2 wr (ownS 98 1 a4.gv c.ten (noG c.ten) :: blk g cur 98 :: blk o (obC c a4 s1.last) 72 :: star R :: quA a4.q s1.Q c.byt c.itm :: rgA a4.g c.ten c.str s1.F s1.L s1.rl :: crA a4.p s1.C 0 :: mpA a4.mb (s1.M.map Sm.kp) :: strA s1.M :: ownS 45 5 v N.length (encs fenc N) :: l) := (Sat.re (Sat.star_iff.2 h9) [2, 9, 1, 3, 0, 4, 5, 6, 7, 8, 10]).drop
            obtain ⟨hl, ⟨-, hn0, -⟩ | ⟨gb, capg, cg, hgv, hc, hcm, hcs, hct, S11⟩⟩ := own_iff.1 S10
            · omega
            have hci : cg[t]? = some (.slice none 0 0) := by
              have e1 : (cg.toList.take (c.ten * 1))[t]? = (noG c.ten)[t]? := by rw [hct]
              rw [List.getElem?_take, if_pos (by omega)] at e1
              rw [← Array.getElem?_toList, e1]
              simp [noG, htn]
            have hcz : t < cg.size := (Array.getElem?_eq_some_iff.1 hci).1
            have hcz2 : t < cur.size := (Array.getElem?_eq_some_iff.1 hcur).1
            have hsame : cg.setIfInBounds t (.slice none 0 0) = cg := by
              apply Array.ext_getElem?
              intro j
              rw [Array.getElem?_setIfInBounds]
              split
              · rename_i h
                subst h
                exact hci.symm
              · rfl
            obtain ⟨RR, hRR⟩ : ∃ L : List Asrt, L = star R :: quA a4.q s1.Q c.byt c.itm :: rgA a4.g c.ten c.str s1.F s1.L s1.rl :: crA a4.p s1.C 0 :: mpA a4.mb (s1.M.map Sm.kp) :: strA s1.M :: ownS 45 5 v N.length (encs fenc N) :: l := ⟨_, rfl⟩
            have S12 : Sat G2 wr (blk g cur 98 :: blk gb cg 98 :: blk o (obC c a4 s1.last) 72 :: RR) := by rw [hRR]; exact Sat.swap S11
            have HCL : Hid (∀ W, Sat G2 W (blk g (cur.setIfInBounds t (.slice none 0 0)) 98 :: blk gb cg 98 :: blk o (obC c a4 s1.last) 72 :: RR) → Sat G2 W (ownS 45 5 v N.length (encs fenc N) :: outA o c { s1 with D := D'.set t [] } :: l)) := Lib.hid fun W S => by
              have h1 : Sat G2 W (ownS 98 1 a4.gv c.ten (noG c.ten) :: _) := own_iff.2 ⟨hl, .inr ⟨gb, capg, cg, hgv, hc, hcm, hcs, hct, S.swap⟩⟩
              rw [hRR] at h1
              have h2 := Sat.star_iff.1 (Sat.re (h1.ownNil 100 2) [4, 2, 0, 3, 5, 6, 7, 8, 9, 1, 10])
              have h3 := Sat.perm h2 (List.perm_middle.trans (List.Perm.cons _ List.perm_middle))
              have h4 := hclose G2 W _ (.slice none 0 0) [] h3
              exact (out_iff.2 ⟨a4, Sat.re h4 [1, 2, 3, 4, 5, 6, 0, 7, 8]⟩).swap
            have k9 : ∀ W cu, Sat G2 W (blk o (obC c a4 s1.last) 72 :: cu) → W.cell? ⟨o, 9, none⟩ = some (.slice (some ⟨g, 0, none⟩) c.ten cap) := fun W cu S => by
              have h := S.cell 9
              rw [show (obC c a4 s1.last)[9]? = some a4.cv from rfl, hcv, hDl] at h
              exact h
            have k10 : ∀ W cu, Sat G2 W (blk o (obC c a4 s1.last) 72 :: cu) → W.cell? ⟨o, 10, none⟩ = some (.slice (some ⟨gb, 0, none⟩) c.ten capg) := fun W cu S => by
              have h := S.cell 10
              rw [show (obC c a4 s1.last)[10]? = some a4.gv from rfl, hgv] at h
              exact h
            have hcap2 : cap ≤ 9223372036854775807 := hcap
            have hcapg : capg ≤ 9223372036854775807 := hcm
            have HD := Lib.hid (And.intro hDl (And.intro hDz (And.intro hID htD)))
            clear S7 SA SC S8 h9 S10 S11 hclose hRR hcv hgv hl hct hcs hDl hDz hID htD
            go_upto_region 14 with (fail)
            refine wp_act fun a0 ha0 => ?_
            have HSZ : a0.tmps.size = 72 := by rw [ha0]; rfl
            have E0 : a0.eval (.tmp 0) = .pointer (some ⟨o, 0, none⟩) := by rw [ha0]; rfl
            have E8 : a0.eval (.tmp 8) = .int .i64 t := by rw [ha0]; rfl
            refine wp_region_J (by kernel_rfl) 14 (by kernel_rfl) [[], [0], [1], [2], [], [], [5], [6], [7], [], [3, 4, 0, 1, 2, 3, 4, 8], [10, 0, 1, 2, 3, 4, 8], [8, 9, 0, 1, 2, 3, 4, 5, 6, 7, 8, 9, 10, 11], [12, 11, 0, 1, 2, 3, 4, 5, 6, 7, 8, 9, 10, 11]] (by kernel_rfl) (by kernel_rfl) (fun f a' W => a' = acts [(0, 55, .pointer (some ⟨o, 0, none⟩)), (1, 56, .pointer (some ⟨o, 0, none⟩)), (2, 57, .pointer (some ⟨o, 9, none⟩)), (3, 58, .slice (some ⟨g, 0, none⟩) c.ten cap), (4, 59, .int .i64 t), (5, 60, .pointer (some ⟨o, 0, none⟩)), (6, 61, .pointer (some ⟨o, 0, none⟩)), (7, 62, .pointer (some ⟨o, 10, none⟩)), (8, 63, .slice (some ⟨gb, 0, none⟩) c.ten capg), (9, 64, .int .i64 t), (10, 65, .pointer (some ⟨g, t, none⟩)), (12, 66, .pointer (some ⟨gb, t, none⟩))] f a0 ∧ Sat G2 W (blk g (cond (f 11) (cur.setIfInBounds t (.slice none 0 0)) cur) 98 :: blk gb cg 98 :: blk o (obC c a4 s1.last) 72 :: RR)) ?_ ?_ ?_
            · exact ⟨rfl, S12.drew⟩
            · refine ⟨?_, ?_, ?_, ?_, ?_, ?_, ?_, ?_, ?_, ?_, ?_, ?_, ?_, ?_, trivial⟩
              · rintro f a' W h0 hd ⟨rfl, S⟩
                refine wpOp_run (v := .pointer (some ⟨o, 0, none⟩)) rfl rfl (fun ρ hρ => ?_) ⟨(acts_some 0 rfl (by kernel_rfl) (by kernel_rfl)).symm, S⟩
                have e0 : ρ (.tmp 0) = .pointer (some ⟨o, 0, none⟩) := by rw [hρ]; exact (acts_eval_tmp 0 (by kernel_rfl)).trans E0
                clear hρ
                go_simp
              · rintro f a' W h1 hd ⟨rfl, S⟩
                refine wpOp_run (v := .pointer (some ⟨o, 0, none⟩)) rfl rfl (fun ρ hρ => ?_) ⟨(acts_some 1 rfl (by kernel_rfl) (by kernel_rfl)).symm, S⟩
                have e0 : ρ (.tmp 55) = .pointer (some ⟨o, 0, none⟩) := by rw [hρ]; exact acts_eval_hit 0 rfl hd.1 (by rw [HSZ]; rfl) (by kernel_rfl)
                clear hρ
                go_simp
              · rintro f a' W h2 hd ⟨rfl, S⟩
                refine wpOp_run (v := .pointer (some ⟨o, 9, none⟩)) rfl rfl (fun ρ hρ => ?_) ⟨(acts_some 2 rfl (by kernel_rfl) (by kernel_rfl)).symm, S⟩
                have e0 : ρ (.tmp 56) = .pointer (some ⟨o, 0, none⟩) := by rw [hρ]; exact acts_eval_hit 1 rfl hd.1 (by rw [HSZ]; rfl) (by kernel_rfl)
                clear hρ
                go_simp
              · rintro f a' W h3 hd ⟨rfl, S⟩
                refine wpOp_run (v := .slice (some ⟨g, 0, none⟩) c.ten cap) rfl rfl (fun ρ hρ => ?_) ⟨(acts_some 3 rfl (by kernel_rfl) (by kernel_rfl)).symm, S⟩
                have e0 : ρ (.tmp 57) = .pointer (some ⟨o, 9, none⟩) := by rw [hρ]; exact acts_eval_hit 2 rfl hd.1 (by rw [HSZ]; rfl) (by kernel_rfl)
                clear hρ
                (have z := k9 _ _ S.pull2)
                go_simp
              · rintro f a' W h4 hd ⟨rfl, S⟩
                refine wpOp_run (v := .int .i64 t) rfl rfl (fun ρ hρ => ?_) ⟨(acts_some 4 rfl (by kernel_rfl) (by kernel_rfl)).symm, S⟩
                have e0 : ρ (.tmp 8) = .int .i64 t := by rw [hρ]; exact (acts_eval_tmp 8 (by kernel_rfl)).trans E8
                clear hρ
                go_simp
              · rintro f a' W h5 hd ⟨rfl, S⟩
                refine wpOp_run (v := .pointer (some ⟨o, 0, none⟩)) rfl rfl (fun ρ hρ => ?_) ⟨(acts_some 5 rfl (by kernel_rfl) (by kernel_rfl)).symm, S⟩
                have e0 : ρ (.tmp 0) = .pointer (some ⟨o, 0, none⟩) := by rw [hρ]; exact (acts_eval_tmp 0 (by kernel_rfl)).trans E0
                clear hρ
                go_simp
              · rintro f a' W h6 hd ⟨rfl, S⟩
                refine wpOp_run (v := .pointer (some ⟨o, 0, none⟩)) rfl rfl (fun ρ hρ => ?_) ⟨(acts_some 6 rfl (by kernel_rfl) (by kernel_rfl)).symm, S⟩
                have e0 : ρ (.tmp 60) = .pointer (some ⟨o, 0, none⟩) := by rw [hρ]; exact acts_eval_hit 5 rfl hd.1 (by rw [HSZ]; rfl) (by kernel_rfl)
                clear hρ
                go_simp
              · rintro f a' W h7 hd ⟨rfl, S⟩
                refine wpOp_run (v := .pointer (some ⟨o, 10, none⟩)) rfl rfl (fun ρ hρ => ?_) ⟨(acts_some 7 rfl (by kernel_rfl) (by kernel_rfl)).symm, S⟩
                have e0 : ρ (.tmp 61) = .pointer (some ⟨o, 0, none⟩) := by rw [hρ]; exact acts_eval_hit 6 rfl hd.1 (by rw [HSZ]; rfl) (by kernel_rfl)
                clear hρ
                go_simp
              · rintro f a' W h8 hd ⟨rfl, S⟩
                refine wpOp_run (v := .slice (some ⟨gb, 0, none⟩) c.ten capg) rfl rfl (fun ρ hρ => ?_) ⟨(acts_some 8 rfl (by kernel_rfl) (by kernel_rfl)).symm, S⟩
                have e0 : ρ (.tmp 62) = .pointer (some ⟨o, 10, none⟩) := by rw [hρ]; exact acts_eval_hit 7 rfl hd.1 (by rw [HSZ]; rfl) (by kernel_rfl)
                clear hρ
                (have z := k10 _ _ S.pull2)
                go_simp
              · rintro f a' W h9 hd ⟨rfl, S⟩
                refine wpOp_run (v := .int .i64 t) rfl rfl (fun ρ hρ => ?_) ⟨(acts_some 9 rfl (by kernel_rfl) (by kernel_rfl)).symm, S⟩
                have e0 : ρ (.tmp 8) = .int .i64 t := by rw [hρ]; exact (acts_eval_tmp 8 (by kernel_rfl)).trans E8
                clear hρ
                go_simp
              · rintro f a' W h10 hd ⟨rfl, S⟩
                refine wpOp_run (v := .pointer (some ⟨g, t, none⟩)) rfl rfl (fun ρ hρ => ?_) ⟨(acts_some 10 rfl (by kernel_rfl) (by kernel_rfl)).symm, S⟩
                have e0 : ρ (.tmp 58) = .slice (some ⟨g, 0, none⟩) c.ten cap := by rw [hρ]; exact acts_eval_hit 3 rfl hd.1 (by rw [HSZ]; rfl) (by kernel_rfl)
                have e1 : ρ (.tmp 59) = .int .i64 t := by rw [hρ]; exact acts_eval_hit 4 rfl hd.2.1 (by rw [HSZ]; rfl) (by kernel_rfl)
                clear hρ
                go_simp
              · rintro f a' W h11 hd ⟨rfl, S⟩
                have q65 : (acts [(0, 55, .pointer (some ⟨o, 0, none⟩)), (1, 56, .pointer (some ⟨o, 0, none⟩)), (2, 57, .pointer (some ⟨o, 9, none⟩)), (3, 58, .slice (some ⟨g, 0, none⟩) c.ten cap), (4, 59, .int .i64 t), (5, 60, .pointer (some ⟨o, 0, none⟩)), (6, 61, .pointer (some ⟨o, 0, none⟩)), (7, 62, .pointer (some ⟨o, 10, none⟩)), (8, 63, .slice (some ⟨gb, 0, none⟩) c.ten capg), (9, 64, .int .i64 t), (10, 65, .pointer (some ⟨g, t, none⟩)), (12, 66, .pointer (some ⟨gb, t, none⟩))] f a0).eval (.tmp 65) = .pointer (some ⟨g, t, none⟩) := acts_eval_hit 10 rfl hd.1 (by rw [HSZ]; rfl) (by kernel_rfl)
                (rw [h11] at S; simp only [cond_false] at S; refine wpOp_list rfl ?_; refine st_set rfl _ _ _ rfl _ _ (.slice none 0 0) q65 rfl rfl _ _ S (by kernel_rfl) hcz2 fun W' S' => ?_; exact ⟨(acts_none 11 (by kernel_rfl)).symm, S'⟩)
              · rintro f a' W h12 hd ⟨rfl, S⟩
                refine wpOp_run (v := .pointer (some ⟨gb, t, none⟩)) rfl rfl (fun ρ hρ => ?_) ⟨(acts_some 11 rfl (by kernel_rfl) (by kernel_rfl)).symm, S⟩
                have e0 : ρ (.tmp 63) = .slice (some ⟨gb, 0, none⟩) c.ten capg := by rw [hρ]; exact acts_eval_hit 8 rfl hd.1 (by rw [HSZ]; rfl) (by kernel_rfl)
                have e1 : ρ (.tmp 64) = .int .i64 t := by rw [hρ]; exact acts_eval_hit 9 rfl hd.2.1 (by rw [HSZ]; rfl) (by kernel_rfl)
                clear hρ
                go_simp
              · rintro f a' W h13 hd ⟨rfl, S⟩
                have q66 : (acts [(0, 55, .pointer (some ⟨o, 0, none⟩)), (1, 56, .pointer (some ⟨o, 0, none⟩)), (2, 57, .pointer (some ⟨o, 9, none⟩)), (3, 58, .slice (some ⟨g, 0, none⟩) c.ten cap), (4, 59, .int .i64 t), (5, 60, .pointer (some ⟨o, 0, none⟩)), (6, 61, .pointer (some ⟨o, 0, none⟩)), (7, 62, .pointer (some ⟨o, 10, none⟩)), (8, 63, .slice (some ⟨gb, 0, none⟩) c.ten capg), (9, 64, .int .i64 t), (10, 65, .pointer (some ⟨g, t, none⟩)), (12, 66, .pointer (some ⟨gb, t, none⟩))] f a0).eval (.tmp 66) = .pointer (some ⟨gb, t, none⟩) := acts_eval_hit 11 rfl hd.1 (by rw [HSZ]; rfl) (by kernel_rfl)
                (refine wpOp_list rfl ?_; refine st_set rfl _ _ _ rfl _ _ (.slice none 0 0) q66 rfl rfl _ _ S.swap (by kernel_rfl) hcz fun W' S' => ?_; rw [hsame] at S'; exact ⟨(acts_none 13 (by kernel_rfl)).symm, S'.swap⟩)
            · rintro a' W3 ⟨rfl, S13⟩
              subst ha0
              simp only [acts, if_true, Act.put, List.setIfInBounds_toArray, List.set_cons_succ, List.set_cons_zero]
              simp only [cond_true] at S13
              have HS := Lib.hid (HCL.out _ S13)
              clear S12 S13 HSZ E0 E8 k9 k10 hsame hci hcur
              go_wp2_with fail
              go_roundw
              case rel =>
                obtain ⟨hDl, hDz, hID, htD⟩ := HD.out
                refine ⟨t + 1, D'.set t [], by omega, by go_num, by rw [List.length_set]; exact hDl, fun j hj => ?_, { hID with dl := by show (D'.set t []).length = _; rw [List.length_set]; exact hDl, dn := fun X hX => ?_ }, HS.out⟩
                · by_cases hjt : j = t
                  · subst hjt
                    rw [List.getD_eq_getElem?_getD, List.getElem?_set_self htD]; rfl
                  · rw [List.getD_eq_getElem?_getD, List.getElem?_set_ne (by omega), ← List.getD_eq_getElem?_getD]
                    exact hDz j (by omega)
                · rcases List.mem_or_eq_of_mem_set hX with hX | rfl
                  · exact hID.dn X hX
                  · exact ⟨Nat.zero_le _, fun x hx => by cases hx⟩
              case measure => simp [intOf]; omega
          · obtain rfl : t = c.ten := by omega
            have hD' : D' = List.replicate c.ten [] := List.ext_getElem? fun j => by
              rcases Nat.lt_or_ge j c.ten with h | h
              · have h1 := hDz j h
                rw [List.getD_eq_getElem?_getD, List.getElem?_eq_getElem (by omega)] at h1
                rw [List.getElem?_eq_getElem (by omega), List.getElem?_replicate, if_pos h]
                exact congrArg some h1
              · rw [List.getElem?_eq_none (by omega), List.getElem?_eq_none (by rw [List.length_replicate]; omega)]
            have hem := ob_empty S7.swap hID
            have HID := Lib.hid (And.intro hID hD')
            clear hDl hDz hID hD' S7
            go_wp2_with fail
            (with_reducible refine hem.mono ?_)
            clear hem
            rintro e w4 ⟨v2, rfl, S8⟩
            change Sat G2 w4 (ownS 45 5 v2 (emp s1.Q c.ten).length (encs denc (emp s1.Q c.ten)) :: outA o c { s1 with D := D', Q := List.replicate c.ten [] } :: ownS 45 5 v N.length (encs fenc N) :: l) at S8
            obtain ⟨E, hE⟩ : ∃ E : List D3, E = (emp s1.Q c.ten).map fun x => ((x.1 : Int), (0 : Int), x.2) := ⟨_, rfl⟩
            have hEe : encs denc (emp s1.Q c.ten) = encs fenc E := by rw [hE]; unfold encs; rw [List.flatMap_map]; rfl
            have hEl : (emp s1.Q c.ten).length = E.length := by rw [hE, List.length_map]
            have hE0 : ∀ x ∈ E, x.2.1 = 0 := fun x hx => by
              rw [hE] at hx
              obtain ⟨z, -, rfl⟩ := List.mem_map.1 hx
              rfl
            have hEb : E.length ≤ 262144 := by rw [← hEl]; exact Nat.le_trans (emp_len HF.out.2.1.q _) (by omega)
            rw [hEe, hEl] at S8
            have hNb : N.length ≤ 10000 := by
              have h1 := HF.out.2.2.2.cnt
              have h2 := HH.out.1.ml
              omega
            have hall := fail_all HF.out.2.2.2 HKL.out.2.2.1 (fun y hy => (HH.out.1.mi y hy).1) (by omega)
            have hres : FailR c s above N E (clearS c s1) := ⟨s1, KL, HF.out.2.2.2, HKL.out.2.1, HF.out.2.1, HF.out.2.2.1, .inr ⟨by omega, hall, hE0, rfl⟩⟩
            have hcs : ({ s1 with D := D', Q := List.replicate c.ten [] } : Os) = clearS c s1 := by unfold clearS; rw [HID.out.2]
            have hinv : OInv c (clearS c s1) := by rw [← hcs]; exact empty_inv HID.out.1
            rw [hcs] at S8
            have HX := Lib.hid (And.intro hres hinv)
            clear hEe hEl hE hE0 hall hres hcs hinv
            have S9 := Sat.re S8 [2, 0, 1]
            obtain ⟨hl2, ⟨rfl, hn2, S10⟩ | ⟨g2, cap2, cur2, rfl, hc2, hm2, hs2, ht2, S10⟩⟩ := own_iff.1 S8
            · have hE00 : E = [] := List.eq_nil_of_length_eq_zero hn2
              obtain ⟨V, vc, rfl, hv1, hv2, -⟩ := S9.ownGet
              have HS := Lib.hid (And.intro hE00 S10.swap)
              clear S8 S9 S10 hl2 hn2 hE00
              have hvA : V = none → vc = 0 := by
                intro hV
                obtain ⟨hl3, ⟨e1, -⟩ | ⟨g3, cap3, cur3, e1, -⟩⟩ := own_iff.1 HS.out.2
                · injection e1
                · rw [hV] at e1; injection e1 with e2; cases e2
              go_wp2_with (at_builtin; refine st_appNone rfl _ _ 49 rfl 45 (.agg #[.int .i64 0, .int .i64 0, .int .i64 0, .int .i64 0, .int .i64 0]) 5 40 Tryz.underlying49 info_di V N.length vc rfl rfl hv1 hvA ?_)
              exact hK.out _ _ ⟨G2, _, N, E, clearS c s1, HF.out.1, rfl, HX.out.2, HX.out.1, by rw [HS.out.1, List.append_nil]; exact HS.out.2⟩
            · have hcl : ∀ j u, (encs fenc E)[j]? = some u → w4.cell? ((⟨g2, 0, none⟩ : Addr).add j) = some u := fun j u hj => own_cells (A := none) S8 j u hj
              clear S8 S10
              go_wp2_with (at_builtin; refine st_append rfl _ _ 49 rfl 45 (.agg #[.int .i64 0, .int .i64 0, .int .i64 0, .int .i64 0, .int .i64 0]) 5 40 Tryz.underlying49 info_di rfl (by omega) v N.length (encs fenc N) rfl S9 ⟨g2, 0, none⟩ E.length cap2 (encs fenc E) rfl hl2 hcl (fenc_one E) (Nat.le_trans (show N.length + E.length ≤ 272144 by omega) (by decide)) (by omega) ?_; intro v' w' S')
              exact hK.out _ _ ⟨G2, v', N, E, clearS c s1, HF.out.1, rfl, HX.out.2, HX.out.1, by rw [List.length_append, encs_append]; exact S'.swap.drop⟩
end
end Go.Proofs.YtcecfhfbcdbofaaGreatDoor

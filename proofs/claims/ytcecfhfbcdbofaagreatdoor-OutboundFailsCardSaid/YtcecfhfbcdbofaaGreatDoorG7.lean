/- outbound: open begins an item's stream. outbound: pick says what is sent in a slot. slots: time, some, Owner. outbound: Slot. outbound: New. outbound: Submit. awake's sender, in plain Lean. The law's awake answers true. -/
import Derived.Test.YtcecfhfbcdbofaaGreatDoorG6
import Derived.Deep.Cut
import Derived.Deep.QuietTactic
import Derived.BigQuiet
import Derived.Lib.SmallJoins
set_option linter.unusedSimpArgs false
set_option linter.unusedVariables false
namespace Go.Proofs.YtcecfhfbcdbofaaGreatDoor
open Go.RowKit
attribute [local go_sem] Oper.semAt_some

theorem wpOp_skp {P : Program} {ops : Array Oper} {Q : Exit → Act → World → Prop} {i : Nat} {o : Oper} {K : Act → World → Prop} {a : Act} {w w' : World} (ho : ops[i]? = some o) (hg : o.guard = none) (hr : ∀ ρ, ρ = a.eval → (execOp ρ o).run P w = .ok .skip w') (h : K (a.put o.dst undef) w') : wpOp P ops Q i K a w := by
  unfold wpOp
  simp only [ho]
  rw [if_pos (show Region.wanted o (yielded ops a.tmps) = true by unfold Region.wanted; rw [hg])]
  left
  unfold Oper.wp
  rw [hr _ rfl]
  exact h
/-- What open answers. -/
def OpenR (c : Oc) (s : Os) (t : Nat) (tick : Int) (G' : Gnd) (e : Ending) (s' : Os) : Prop :=
  (∃ x L, s.Q.getD t [] = x :: L ∧ liveAt s.L t < c.str ∧ ∃ u p F', SlB (Go.Proofs.YtcecfhfbcdbofaaGreatDoor.cellR G'.ro) u x.2.1 ∧
    e = .returned (.tuple #[.agg #[.int .i64 1, .int .i64 (if x.2.2.isEmpty then 5 else 4), .int .i64 (2 * tick + 1), u, .int .i64 (if x.2.2.isEmpty then 3 else 1), .int .i64 t, .int .i64 (2 * tick + 1), .int .i64 x.1, .int .i64 0], .bool true]) ∧
    s' = openS s t (2 * tick + 1) p x L F' ∧ OInv c s') ∨
  ((c.str ≤ liveAt s.L t ∨ s.Q.getD t [] = []) ∧ e = .returned (.tuple #[.agg #[.int .i64 0, .int .i64 0, .int .i64 0, .slice none 0 0, .int .i64 0, .int .i64 0, .int .i64 0, .int .i64 0, .int .i64 0], .bool false]) ∧ s' = s)
section
variable {G : Gnd} {w w' : World} {l : List Asrt} {o : Nat} {c : Oc} {s : Os}
set_option maxHeartbeats 8000000 in
set_option maxRecDepth 100000 in
theorem ob_open (H : Sat G w (outA o c s :: l)) (hw : OInv c s) (hT : TabG G) (t : Nat) (ht : t < c.ten) (tick : Int) (h0 : 0 ≤ tick) (h1 : tick ≤ 1073741823) (htk : tick % (c.ten : Int) = (t : Int)) (hrl : s.rl < 2 * tick + 1) (hl : tick ≤ s.last) (hfew : s.F.length < 10000) :
    Calls Tryz.prog 51 #[.pointer (some ⟨o, 0, none⟩), .int .i64 t, .int .i64 tick] w fun e w' => ∃ G' s', G.le G' ∧ OpenR c s t tick G' e s' ∧ Sat G' w' (outA o c s' :: l) := by
  refine calls_any fun K hK => ?_
  have S1 := H.newBlk #[.int .i64 0, .int .i64 0, .int .i64 0, .slice none 0 0, .int .i64 0, .int .i64 0, .int .i64 0, .int .i64 0, .int .i64 0] 86
  have HH := Lib.hid (And.intro hw (And.intro hT (And.intro ht (And.intro h0 (And.intro h1 (And.intro htk (And.intro hrl (And.intro hl hfew))))))))
  have HA : Hid (∀ (G : Gnd) (W : World) (s' : Os) (L' : List Asrt), Sat G W (outA o c s' :: L') → OWf c s' → ∃ a : Ad, W.cell? ⟨o, 6, none⟩ = some (.pointer (some ⟨a.g, 0, none⟩)) ∧ W.cell? ⟨o, 8, none⟩ = some (.map (some a.mb)) ∧ W.cell? ⟨o, 12, none⟩ = some (.int .i64 c.str) ∧ W.cell? ⟨o, 5, none⟩ = some (.pointer (some ⟨a.q, 0, none⟩)) ∧ W.cell? ⟨o, 11, none⟩ = some (.int .i64 65535)) := Lib.hid fun G W s' L' S h => by
    obtain ⟨a, S'⟩ := out_iff.1 S
    exact ⟨a, S'.cell 6, S'.cell 8, S'.cell 12, S'.cell 5, S'.cell 11⟩
  obtain ⟨lv, hlv⟩ : ∃ lv, lv = liveAt s.L t := ⟨_, rfl⟩
  obtain ⟨a, SA⟩ := out_iff.1 H
  obtain ⟨E, hE⟩ : ∃ E : List Asrt, E = mpA a.mb (s.M.map Sm.kp) :: crA a.p s.C 0 :: strA s.M :: ctA a.cv s.D :: ownS 98 1 a.gv c.ten (noG c.ten) :: l := ⟨_, rfl⟩
  have S2 : Sat G (w.alloc (.cells #[.int .i64 0, .int .i64 0, .int .i64 0, .slice none 0 0, .int .i64 0, .int .i64 0, .int .i64 0, .int .i64 0, .int .i64 0] 86)) (rgA a.g c.ten c.str s.F s.L s.rl :: quA a.q s.Q c.byt c.itm :: blk o (obC c a s.last) 72 :: blk w.heap.size #[.int .i64 0, .int .i64 0, .int .i64 0, .slice none 0 0, .int .i64 0, .int .i64 0, .int .i64 0, .int .i64 0, .int .i64 0] 86 :: E) := by
    rw [hE]
    exact Sat.re (SA.newBlk #[.int .i64 0, .int .i64 0, .int .i64 0, .slice none 0 0, .int .i64 0, .int .i64 0, .int .i64 0, .int .i64 0, .int .i64 0] 86) [3, 2, 1, 0, 5, 4, 6, 7, 8]
  have HLV : Hid (∀ (W : World) (L' : List Asrt), Sat G W (rgA a.g c.ten c.str s.F s.L s.rl :: L') → Calls Tryz.prog 33 #[.pointer (some ⟨a.g, 0, none⟩), .int .i64 t] W fun e w' => e = .returned (.int .i64 lv) ∧ W = w') := Lib.hid fun W L' S => by
    have := rg_live S hw.r.len t
    rw [← hlv] at this; exact this
  have HQL : Hid (∀ (W : World) (L' : List Asrt), Sat G W (quA a.q s.Q c.byt c.itm :: L') → Calls Tryz.prog 54 #[.pointer (some ⟨a.q, 0, none⟩), .int .i64 t] W fun e w' => e = .returned (.int .i64 (s.Q.getD t []).length) ∧ W = w') := Lib.hid fun W L' S => by
    have := qu_len S hw.q t
    rw [qAt_nat] at this; exact this
  have HC : Hid (∀ (G' : Gnd) W, Sat G' W (rgA a.g c.ten c.str s.F s.L s.rl :: quA a.q s.Q c.byt c.itm :: blk o (obC c a s.last) 72 :: blk w.heap.size #[.int .i64 0, .int .i64 0, .int .i64 0, .slice none 0 0, .int .i64 0, .int .i64 0, .int .i64 0, .int .i64 0, .int .i64 0] 86 :: E) → Sat G' W (outA o c s :: blk w.heap.size #[.int .i64 0, .int .i64 0, .int .i64 0, .slice none 0 0, .int .i64 0, .int .i64 0, .int .i64 0, .int .i64 0, .int .i64 0] 86 :: l)) := Lib.hid fun G' W S => by
    rw [hE] at S
    exact out_iff.2 ⟨a, Sat.re S [2, 1, 0, 5, 4, 6, 7, 8, 3]⟩
  have HLE := Lib.hid hlv
  clear H S1 SA hE hlv hw hT ht h0 h1 htk hrl hl hfew
  obtain ⟨ql, hql⟩ : ∃ ql, ql = (s.Q.getD t []).length := ⟨_, rfl⟩
  rw [← hql] at HQL
  have HQ := Lib.hid hql
  clear hql
  go_enter Tryz.func51, Tryz.ntmps51
  go_upto_region 1 with (fail)
  generalize w.heap.size = r at *
  refine wp_world S2 fun W S3 => ?_
  clear S2
  by_cases hfull : c.str ≤ lv
  · have hge : decide (lv ≥ c.str) = true := decide_eq_true hfull
    have HF := Lib.hid hfull
    clear hfull
    refine wp_act fun a0 ha0 => ?_
    have HSZ : a0.tmps.size = 106 := by rw [ha0]; rfl
    have E0 : a0.eval (.tmp 0) = .pointer (some ⟨o, 0, none⟩) := by rw [ha0]; rfl
    have E1 : a0.eval (.tmp 1) = .int .i64 t := by rw [ha0]; rfl
    refine wp_region_J (by kernel_rfl) 20 (by kernel_rfl) [[], [0], [1], [2], [], [3, 4], [], [6], [7], [8], [5, 9], [10, 5], [11], [12, 11], [13, 11], [14, 11], [11], [15, 16, 11, 11], [17, 11], [11, 18]] (by kernel_rfl) (by kernel_rfl) (fun f a' W => a' = acts [(0, 16, .pointer (some ⟨o, 0, none⟩)), (1, 17, .pointer (some ⟨o, 0, none⟩)), (2, 18, .pointer (some ⟨o, 6, none⟩)), (3, 19, .pointer (some ⟨a.g, 0, none⟩)), (4, 20, .int .i64 t), (5, 21, .int .i64 lv), (6, 22, .pointer (some ⟨o, 0, none⟩)), (7, 23, .pointer (some ⟨o, 0, none⟩)), (8, 24, .pointer (some ⟨o, 12, none⟩)), (9, 25, .int .i64 c.str), (10, 26, .bool true), (11, 27, .bool true), (12, 28, undef), (13, 29, undef), (14, 30, undef), (15, 31, undef), (16, 32, undef), (17, 33, undef), (18, 34, undef), (19, 35, .bool true)] f a0 ∧ Sat G W (rgA a.g c.ten c.str s.F s.L s.rl :: quA a.q s.Q c.byt c.itm :: blk o (obC c a s.last) 72 :: blk r #[.int .i64 0, .int .i64 0, .int .i64 0, .slice none 0 0, .int .i64 0, .int .i64 0, .int .i64 0, .int .i64 0, .int .i64 0] 86 :: E)) ?_ ?_ ?_
    · exact ⟨rfl, S3.drew⟩
    · refine ⟨?_, ?_, ?_, ?_, ?_, ?_, ?_, ?_, ?_, ?_, ?_, ?_, ?_, ?_, ?_, ?_, ?_, ?_, ?_, ?_, trivial⟩
      · rintro f a' W h0 hd ⟨rfl, S⟩
        refine wpOp_run (v := .pointer (some ⟨o, 0, none⟩)) rfl rfl (fun ρ hρ => ?_) ⟨(acts_some 0 rfl (by kernel_rfl) (by kernel_rfl)).symm, S⟩
        have e0 : ρ (.tmp 0) = .pointer (some ⟨o, 0, none⟩) := by rw [hρ]; exact (acts_eval_tmp 0 (by kernel_rfl)).trans E0
        clear hρ
        go_simp
      · rintro f a' W h1 hd ⟨rfl, S⟩
        refine wpOp_run (v := .pointer (some ⟨o, 0, none⟩)) rfl rfl (fun ρ hρ => ?_) ⟨(acts_some 1 rfl (by kernel_rfl) (by kernel_rfl)).symm, S⟩
        have e0 : ρ (.tmp 16) = .pointer (some ⟨o, 0, none⟩) := by rw [hρ]; exact acts_eval_hit 0 rfl hd.1 (by rw [HSZ]; rfl) (by kernel_rfl)
        clear hρ
        go_simp
      · rintro f a' W h2 hd ⟨rfl, S⟩
        refine wpOp_run (v := .pointer (some ⟨o, 6, none⟩)) rfl rfl (fun ρ hρ => ?_) ⟨(acts_some 2 rfl (by kernel_rfl) (by kernel_rfl)).symm, S⟩
        have e0 : ρ (.tmp 17) = .pointer (some ⟨o, 0, none⟩) := by rw [hρ]; exact acts_eval_hit 1 rfl hd.1 (by rw [HSZ]; rfl) (by kernel_rfl)
        clear hρ
        go_simp
      · rintro f a' W h3 hd ⟨rfl, S⟩
        refine wpOp_run (v := .pointer (some ⟨a.g, 0, none⟩)) rfl rfl (fun ρ hρ => ?_) ⟨(acts_some 3 rfl (by kernel_rfl) (by kernel_rfl)).symm, S⟩
        have e0 : ρ (.tmp 18) = .pointer (some ⟨o, 6, none⟩) := by rw [hρ]; exact acts_eval_hit 2 rfl hd.1 (by rw [HSZ]; rfl) (by kernel_rfl)
        clear hρ
        (have hz : W.cell? ⟨o, 6, none⟩ = some (.pointer (some ⟨a.g, 0, none⟩)) := S.pull2.cell 6)
        go_simp
      · rintro f a' W h4 hd ⟨rfl, S⟩
        refine wpOp_run (v := .int .i64 t) rfl rfl (fun ρ hρ => ?_) ⟨(acts_some 4 rfl (by kernel_rfl) (by kernel_rfl)).symm, S⟩
        have e0 : ρ (.tmp 1) = .int .i64 t := by rw [hρ]; exact (acts_eval_tmp 1 (by kernel_rfl)).trans E1
        clear hρ
        go_simp
      · rintro f a' W h5 hd ⟨rfl, S⟩
        refine wpOp_call rfl rfl (fun ρ hρ => ?_) ((HLV.out _ _ S)) ?_
        · skip
          have e0 : ρ (.tmp 19) = .pointer (some ⟨a.g, 0, none⟩) := by rw [hρ]; exact acts_eval_hit 3 rfl hd.1 (by rw [HSZ]; rfl) (by kernel_rfl)
          have e1 : ρ (.tmp 20) = .int .i64 t := by rw [hρ]; exact acts_eval_hit 4 rfl hd.2.1 (by rw [HSZ]; rfl) (by kernel_rfl)
          have ef : ρ (.func 33) = .func (.func 33) #[] #[] := by rw [hρ]; rfl
          clear hρ
          go_simp
        · (rintro e W' ⟨rfl, rfl⟩; exact ⟨_, rfl, (acts_some 5 rfl (by kernel_rfl) (by kernel_rfl)).symm, S⟩)
      · rintro f a' W h6 hd ⟨rfl, S⟩
        refine wpOp_run (v := .pointer (some ⟨o, 0, none⟩)) rfl rfl (fun ρ hρ => ?_) ⟨(acts_some 6 rfl (by kernel_rfl) (by kernel_rfl)).symm, S⟩
        have e0 : ρ (.tmp 0) = .pointer (some ⟨o, 0, none⟩) := by rw [hρ]; exact (acts_eval_tmp 0 (by kernel_rfl)).trans E0
        clear hρ
        go_simp
      · rintro f a' W h7 hd ⟨rfl, S⟩
        refine wpOp_run (v := .pointer (some ⟨o, 0, none⟩)) rfl rfl (fun ρ hρ => ?_) ⟨(acts_some 7 rfl (by kernel_rfl) (by kernel_rfl)).symm, S⟩
        have e0 : ρ (.tmp 22) = .pointer (some ⟨o, 0, none⟩) := by rw [hρ]; exact acts_eval_hit 6 rfl hd.1 (by rw [HSZ]; rfl) (by kernel_rfl)
        clear hρ
        go_simp
      · rintro f a' W h8 hd ⟨rfl, S⟩
        refine wpOp_run (v := .pointer (some ⟨o, 12, none⟩)) rfl rfl (fun ρ hρ => ?_) ⟨(acts_some 8 rfl (by kernel_rfl) (by kernel_rfl)).symm, S⟩
        have e0 : ρ (.tmp 23) = .pointer (some ⟨o, 0, none⟩) := by rw [hρ]; exact acts_eval_hit 7 rfl hd.1 (by rw [HSZ]; rfl) (by kernel_rfl)
        clear hρ
        go_simp
      · rintro f a' W h9 hd ⟨rfl, S⟩
        refine wpOp_run (v := .int .i64 c.str) rfl rfl (fun ρ hρ => ?_) ⟨(acts_some 9 rfl (by kernel_rfl) (by kernel_rfl)).symm, S⟩
        have e0 : ρ (.tmp 24) = .pointer (some ⟨o, 12, none⟩) := by rw [hρ]; exact acts_eval_hit 8 rfl hd.1 (by rw [HSZ]; rfl) (by kernel_rfl)
        clear hρ
        (have hz : W.cell? ⟨o, 12, none⟩ = some (.int .i64 c.str) := S.pull2.cell 12)
        go_simp
      · rintro f a' W h10 hd ⟨rfl, S⟩
        refine wpOp_run (v := .bool true) rfl rfl (fun ρ hρ => ?_) ⟨(acts_some 10 rfl (by kernel_rfl) (by kernel_rfl)).symm, S⟩
        have e0 : ρ (.tmp 21) = .int .i64 lv := by rw [hρ]; exact acts_eval_hit 5 rfl hd.1 (by rw [HSZ]; rfl) (by kernel_rfl)
        have e1 : ρ (.tmp 25) = .int .i64 c.str := by rw [hρ]; exact acts_eval_hit 9 rfl hd.2.1 (by rw [HSZ]; rfl) (by kernel_rfl)
        clear hρ
        go_simp
      · rintro f a' W h11 hd ⟨rfl, S⟩
        refine wpOp_run (v := .bool true) rfl rfl (fun ρ hρ => ?_) ⟨(acts_some 11 rfl (by kernel_rfl) (by kernel_rfl)).symm, S⟩
        have e0 : ρ (.tmp 26) = .bool true := by rw [hρ]; exact acts_eval_hit 10 rfl hd.1 (by rw [HSZ]; rfl) (by kernel_rfl)
        clear hρ
        go_simp
      · rintro f a' W h12 hd ⟨rfl, S⟩
        refine wpOp_skip rfl (wanted_miss (t := 27) rfl rfl (acts_eval_hit 11 rfl hd.1 (by rw [HSZ]; rfl) (by kernel_rfl)) (by decide)) ⟨(acts_some 12 rfl (by kernel_rfl) (by kernel_rfl)).symm, S⟩
      · rintro f a' W h13 hd ⟨rfl, S⟩
        refine wpOp_skip rfl (wanted_miss (t := 27) rfl rfl (acts_eval_hit 11 rfl hd.2.1 (by rw [HSZ]; rfl) (by kernel_rfl)) (by decide)) ⟨(acts_some 13 rfl (by kernel_rfl) (by kernel_rfl)).symm, S⟩
      · rintro f a' W h14 hd ⟨rfl, S⟩
        refine wpOp_skip rfl (wanted_miss (t := 27) rfl rfl (acts_eval_hit 11 rfl hd.2.1 (by rw [HSZ]; rfl) (by kernel_rfl)) (by decide)) ⟨(acts_some 14 rfl (by kernel_rfl) (by kernel_rfl)).symm, S⟩
      · rintro f a' W h15 hd ⟨rfl, S⟩
        refine wpOp_skip rfl (wanted_miss (t := 27) rfl rfl (acts_eval_hit 11 rfl hd.2.1 (by rw [HSZ]; rfl) (by kernel_rfl)) (by decide)) ⟨(acts_some 15 rfl (by kernel_rfl) (by kernel_rfl)).symm, S⟩
      · rintro f a' W h16 hd ⟨rfl, S⟩
        refine wpOp_skip rfl (wanted_miss (t := 27) rfl rfl (acts_eval_hit 11 rfl hd.1 (by rw [HSZ]; rfl) (by kernel_rfl)) (by decide)) ⟨(acts_some 16 rfl (by kernel_rfl) (by kernel_rfl)).symm, S⟩
      · rintro f a' W h17 hd ⟨rfl, S⟩
        refine wpOp_skip rfl (wanted_miss (t := 27) rfl rfl (acts_eval_hit 11 rfl hd.2.2.1 (by rw [HSZ]; rfl) (by kernel_rfl)) (by decide)) ⟨(acts_some 17 rfl (by kernel_rfl) (by kernel_rfl)).symm, S⟩
      · rintro f a' W h18 hd ⟨rfl, S⟩
        refine wpOp_skip rfl (wanted_miss (t := 27) rfl rfl (acts_eval_hit 11 rfl hd.2.1 (by rw [HSZ]; rfl) (by kernel_rfl)) (by decide)) ⟨(acts_some 18 rfl (by kernel_rfl) (by kernel_rfl)).symm, S⟩
      · rintro f a' W h19 hd ⟨rfl, S⟩
        refine wpOp_run (v := .bool true) rfl rfl (fun ρ hρ => ?_) ⟨(acts_some 19 rfl (by kernel_rfl) (by kernel_rfl)).symm, S⟩
        have e0 : ρ (.tmp 27) = .bool true := by rw [hρ]; exact acts_eval_hit 11 rfl hd.1 (by rw [HSZ]; rfl) (by kernel_rfl)
        have e1 : ρ (.tmp 34) = undef := by rw [hρ]; exact acts_eval_hit 18 rfl hd.2.1 (by rw [HSZ]; rfl) (by kernel_rfl)
        have ec : ∀ v, ρ (.const v) = v := by rw [hρ]; exact fun _ => rfl
        clear hρ
        go_simp
    · rintro a' W2 ⟨rfl, S4⟩
      subst ha0
      simp (maxSteps := 4000000) only [acts, if_true, Act.put, List.setIfInBounds_toArray, List.set_cons_succ, List.set_cons_zero]
      have S5 := HC.out _ _ S4
      clear S3 S4 HSZ E0 E1 hge
      (have T := S5.swap; (have d0 := (T).cell 0; have d1 := (T).cell 1; have d2 := (T).cell 2; have d3 := (T).cell 3; have d4 := (T).cell 4; have d5 := (T).cell 5; have d6 := (T).cell 6; have d7 := (T).cell 7; have d8 := (T).cell 8; have f0 := (T).frozen 0; have f1 := (T).frozen 1; have f2 := (T).frozen 2; have f3 := (T).frozen 3; have f4 := (T).frozen 4; have f5 := (T).frozen 5; have f6 := (T).frozen 6; have f7 := (T).frozen 7; have f8 := (T).frozen 8); (have HS := Lib.hid (((((((((((T).setCell 0 (.int .i64 0)).setCell 1 (.int .i64 0)).setCell 2 (.int .i64 0)).setCell 3 (.slice none 0 0)).setCell 4 (.int .i64 0)).setCell 5 (.int .i64 0)).setCell 6 (.int .i64 0)).setCell 7 (.int .i64 0)).setCell 8 (.int .i64 0)))); (clear T); go_wp2_with fail; refine bodyPost_ret (results_cell_t rfl _ _ _ _ _ _ rfl HS.out.blk_at Tryz.underlying86 rfl (by kernel_rfl)) rfl ?_)
      exact hK.out _ _ ⟨G, s, Gnd.le.rfl', .inr ⟨.inl (by rw [← HLE.out]; exact HF.out), rfl, rfl⟩, HS.out.drop⟩
  · have hge : decide (lv ≥ c.str) = false := decide_eq_false (by omega)
    obtain ⟨eb, heb⟩ : ∃ eb : Bool, ((ql : Int) == 0) = eb := ⟨_, rfl⟩
    have HF := Lib.hid hfull
    clear hfull
    refine wp_act fun a0 ha0 => ?_
    have HSZ : a0.tmps.size = 106 := by rw [ha0]; rfl
    have E0 : a0.eval (.tmp 0) = .pointer (some ⟨o, 0, none⟩) := by rw [ha0]; rfl
    have E1 : a0.eval (.tmp 1) = .int .i64 t := by rw [ha0]; rfl
    refine wp_region_J (by kernel_rfl) 20 (by kernel_rfl) [[], [0], [1], [2], [], [3, 4], [], [6], [7], [8], [5, 9], [10, 5], [11], [12, 11], [13, 11], [14, 11], [11], [15, 16, 11, 11], [17, 11], [11, 18]] (by kernel_rfl) (by kernel_rfl) (fun f a' W => a' = acts [(0, 16, .pointer (some ⟨o, 0, none⟩)), (1, 17, .pointer (some ⟨o, 0, none⟩)), (2, 18, .pointer (some ⟨o, 6, none⟩)), (3, 19, .pointer (some ⟨a.g, 0, none⟩)), (4, 20, .int .i64 t), (5, 21, .int .i64 lv), (6, 22, .pointer (some ⟨o, 0, none⟩)), (7, 23, .pointer (some ⟨o, 0, none⟩)), (8, 24, .pointer (some ⟨o, 12, none⟩)), (9, 25, .int .i64 c.str), (10, 26, .bool false), (11, 27, .bool false), (12, 28, .pointer (some ⟨o, 0, none⟩)), (13, 29, .pointer (some ⟨o, 0, none⟩)), (14, 30, .pointer (some ⟨o, 5, none⟩)), (15, 31, .pointer (some ⟨a.q, 0, none⟩)), (16, 32, .int .i64 t), (17, 33, .int .i64 ql), (18, 34, .bool eb), (19, 35, .bool eb)] f a0 ∧ Sat G W (rgA a.g c.ten c.str s.F s.L s.rl :: quA a.q s.Q c.byt c.itm :: blk o (obC c a s.last) 72 :: blk r #[.int .i64 0, .int .i64 0, .int .i64 0, .slice none 0 0, .int .i64 0, .int .i64 0, .int .i64 0, .int .i64 0, .int .i64 0] 86 :: E)) ?_ ?_ ?_
    · exact ⟨rfl, S3.drew⟩
    · refine ⟨?_, ?_, ?_, ?_, ?_, ?_, ?_, ?_, ?_, ?_, ?_, ?_, ?_, ?_, ?_, ?_, ?_, ?_, ?_, ?_, trivial⟩
      · rintro f a' W h0 hd ⟨rfl, S⟩
        refine wpOp_run (v := .pointer (some ⟨o, 0, none⟩)) rfl rfl (fun ρ hρ => ?_) ⟨(acts_some 0 rfl (by kernel_rfl) (by kernel_rfl)).symm, S⟩
        have e0 : ρ (.tmp 0) = .pointer (some ⟨o, 0, none⟩) := by rw [hρ]; exact (acts_eval_tmp 0 (by kernel_rfl)).trans E0
        clear hρ
        go_simp
      · rintro f a' W h1 hd ⟨rfl, S⟩
        refine wpOp_run (v := .pointer (some ⟨o, 0, none⟩)) rfl rfl (fun ρ hρ => ?_) ⟨(acts_some 1 rfl (by kernel_rfl) (by kernel_rfl)).symm, S⟩
        have e0 : ρ (.tmp 16) = .pointer (some ⟨o, 0, none⟩) := by rw [hρ]; exact acts_eval_hit 0 rfl hd.1 (by rw [HSZ]; rfl) (by kernel_rfl)
        clear hρ
        go_simp
      · rintro f a' W h2 hd ⟨rfl, S⟩
        refine wpOp_run (v := .pointer (some ⟨o, 6, none⟩)) rfl rfl (fun ρ hρ => ?_) ⟨(acts_some 2 rfl (by kernel_rfl) (by kernel_rfl)).symm, S⟩
        have e0 : ρ (.tmp 17) = .pointer (some ⟨o, 0, none⟩) := by rw [hρ]; exact acts_eval_hit 1 rfl hd.1 (by rw [HSZ]; rfl) (by kernel_rfl)
        clear hρ
        go_simp
      · rintro f a' W h3 hd ⟨rfl, S⟩
        refine wpOp_run (v := .pointer (some ⟨a.g, 0, none⟩)) rfl rfl (fun ρ hρ => ?_) ⟨(acts_some 3 rfl (by kernel_rfl) (by kernel_rfl)).symm, S⟩
        have e0 : ρ (.tmp 18) = .pointer (some ⟨o, 6, none⟩) := by rw [hρ]; exact acts_eval_hit 2 rfl hd.1 (by rw [HSZ]; rfl) (by kernel_rfl)
        clear hρ
        (have hz : W.cell? ⟨o, 6, none⟩ = some (.pointer (some ⟨a.g, 0, none⟩)) := S.pull2.cell 6)
        go_simp
      · rintro f a' W h4 hd ⟨rfl, S⟩
        refine wpOp_run (v := .int .i64 t) rfl rfl (fun ρ hρ => ?_) ⟨(acts_some 4 rfl (by kernel_rfl) (by kernel_rfl)).symm, S⟩
        have e0 : ρ (.tmp 1) = .int .i64 t := by rw [hρ]; exact (acts_eval_tmp 1 (by kernel_rfl)).trans E1
        clear hρ
        go_simp
      · rintro f a' W h5 hd ⟨rfl, S⟩
        refine wpOp_call rfl rfl (fun ρ hρ => ?_) ((HLV.out _ _ S)) ?_
        · skip
          have e0 : ρ (.tmp 19) = .pointer (some ⟨a.g, 0, none⟩) := by rw [hρ]; exact acts_eval_hit 3 rfl hd.1 (by rw [HSZ]; rfl) (by kernel_rfl)
          have e1 : ρ (.tmp 20) = .int .i64 t := by rw [hρ]; exact acts_eval_hit 4 rfl hd.2.1 (by rw [HSZ]; rfl) (by kernel_rfl)
          have ef : ρ (.func 33) = .func (.func 33) #[] #[] := by rw [hρ]; rfl
          clear hρ
          go_simp
        · (rintro e W' ⟨rfl, rfl⟩; exact ⟨_, rfl, (acts_some 5 rfl (by kernel_rfl) (by kernel_rfl)).symm, S⟩)
      · rintro f a' W h6 hd ⟨rfl, S⟩
        refine wpOp_run (v := .pointer (some ⟨o, 0, none⟩)) rfl rfl (fun ρ hρ => ?_) ⟨(acts_some 6 rfl (by kernel_rfl) (by kernel_rfl)).symm, S⟩
        have e0 : ρ (.tmp 0) = .pointer (some ⟨o, 0, none⟩) := by rw [hρ]; exact (acts_eval_tmp 0 (by kernel_rfl)).trans E0
        clear hρ
        go_simp
      · rintro f a' W h7 hd ⟨rfl, S⟩
        refine wpOp_run (v := .pointer (some ⟨o, 0, none⟩)) rfl rfl (fun ρ hρ => ?_) ⟨(acts_some 7 rfl (by kernel_rfl) (by kernel_rfl)).symm, S⟩
        have e0 : ρ (.tmp 22) = .pointer (some ⟨o, 0, none⟩) := by rw [hρ]; exact acts_eval_hit 6 rfl hd.1 (by rw [HSZ]; rfl) (by kernel_rfl)
        clear hρ
        go_simp
      · rintro f a' W h8 hd ⟨rfl, S⟩
        refine wpOp_run (v := .pointer (some ⟨o, 12, none⟩)) rfl rfl (fun ρ hρ => ?_) ⟨(acts_some 8 rfl (by kernel_rfl) (by kernel_rfl)).symm, S⟩
        have e0 : ρ (.tmp 23) = .pointer (some ⟨o, 0, none⟩) := by rw [hρ]; exact acts_eval_hit 7 rfl hd.1 (by rw [HSZ]; rfl) (by kernel_rfl)
        clear hρ
        go_simp
      · rintro f a' W h9 hd ⟨rfl, S⟩
        refine wpOp_run (v := .int .i64 c.str) rfl rfl (fun ρ hρ => ?_) ⟨(acts_some 9 rfl (by kernel_rfl) (by kernel_rfl)).symm, S⟩
        have e0 : ρ (.tmp 24) = .pointer (some ⟨o, 12, none⟩) := by rw [hρ]; exact acts_eval_hit 8 rfl hd.1 (by rw [HSZ]; rfl) (by kernel_rfl)
        clear hρ
        (have hz : W.cell? ⟨o, 12, none⟩ = some (.int .i64 c.str) := S.pull2.cell 12)
        go_simp
      · rintro f a' W h10 hd ⟨rfl, S⟩
        refine wpOp_run (v := .bool false) rfl rfl (fun ρ hρ => ?_) ⟨(acts_some 10 rfl (by kernel_rfl) (by kernel_rfl)).symm, S⟩
        have e0 : ρ (.tmp 21) = .int .i64 lv := by rw [hρ]; exact acts_eval_hit 5 rfl hd.1 (by rw [HSZ]; rfl) (by kernel_rfl)
        have e1 : ρ (.tmp 25) = .int .i64 c.str := by rw [hρ]; exact acts_eval_hit 9 rfl hd.2.1 (by rw [HSZ]; rfl) (by kernel_rfl)
        clear hρ
        go_simp
      · rintro f a' W h11 hd ⟨rfl, S⟩
        refine wpOp_run (v := .bool false) rfl rfl (fun ρ hρ => ?_) ⟨(acts_some 11 rfl (by kernel_rfl) (by kernel_rfl)).symm, S⟩
        have e0 : ρ (.tmp 26) = .bool false := by rw [hρ]; exact acts_eval_hit 10 rfl hd.1 (by rw [HSZ]; rfl) (by kernel_rfl)
        clear hρ
        go_simp
      · rintro f a' W h12 hd ⟨rfl, S⟩
        refine wpOp_runG (v := .pointer (some ⟨o, 0, none⟩)) rfl ?_ (fun ρ hρ => ?_) ⟨(acts_some 12 rfl (by kernel_rfl) (by kernel_rfl)).symm, S⟩
        · exact wanted_hit (t := 27) rfl rfl (acts_eval_hit 11 rfl hd.1 (by rw [HSZ]; rfl) (by kernel_rfl))
        · skip
          have e0 : ρ (.tmp 0) = .pointer (some ⟨o, 0, none⟩) := by rw [hρ]; exact (acts_eval_tmp 0 (by kernel_rfl)).trans E0
          clear hρ
          go_simp
      · rintro f a' W h13 hd ⟨rfl, S⟩
        refine wpOp_runG (v := .pointer (some ⟨o, 0, none⟩)) rfl ?_ (fun ρ hρ => ?_) ⟨(acts_some 13 rfl (by kernel_rfl) (by kernel_rfl)).symm, S⟩
        · exact wanted_hit (t := 27) rfl rfl (acts_eval_hit 11 rfl hd.2.1 (by rw [HSZ]; rfl) (by kernel_rfl))
        · skip
          have e0 : ρ (.tmp 28) = .pointer (some ⟨o, 0, none⟩) := by rw [hρ]; exact acts_eval_hit 12 rfl hd.1 (by rw [HSZ]; rfl) (by kernel_rfl)
          clear hρ
          go_simp
      · rintro f a' W h14 hd ⟨rfl, S⟩
        refine wpOp_runG (v := .pointer (some ⟨o, 5, none⟩)) rfl ?_ (fun ρ hρ => ?_) ⟨(acts_some 14 rfl (by kernel_rfl) (by kernel_rfl)).symm, S⟩
        · exact wanted_hit (t := 27) rfl rfl (acts_eval_hit 11 rfl hd.2.1 (by rw [HSZ]; rfl) (by kernel_rfl))
        · skip
          have e0 : ρ (.tmp 29) = .pointer (some ⟨o, 0, none⟩) := by rw [hρ]; exact acts_eval_hit 13 rfl hd.1 (by rw [HSZ]; rfl) (by kernel_rfl)
          clear hρ
          go_simp
      · rintro f a' W h15 hd ⟨rfl, S⟩
        refine wpOp_runG (v := .pointer (some ⟨a.q, 0, none⟩)) rfl ?_ (fun ρ hρ => ?_) ⟨(acts_some 15 rfl (by kernel_rfl) (by kernel_rfl)).symm, S⟩
        · exact wanted_hit (t := 27) rfl rfl (acts_eval_hit 11 rfl hd.2.1 (by rw [HSZ]; rfl) (by kernel_rfl))
        · skip
          have e0 : ρ (.tmp 30) = .pointer (some ⟨o, 5, none⟩) := by rw [hρ]; exact acts_eval_hit 14 rfl hd.1 (by rw [HSZ]; rfl) (by kernel_rfl)
          clear hρ
          (have hz : W.cell? ⟨o, 5, none⟩ = some (.pointer (some ⟨a.q, 0, none⟩)) := S.pull2.cell 5)
          go_simp
      · rintro f a' W h16 hd ⟨rfl, S⟩
        refine wpOp_runG (v := .int .i64 t) rfl ?_ (fun ρ hρ => ?_) ⟨(acts_some 16 rfl (by kernel_rfl) (by kernel_rfl)).symm, S⟩
        · exact wanted_hit (t := 27) rfl rfl (acts_eval_hit 11 rfl hd.1 (by rw [HSZ]; rfl) (by kernel_rfl))
        · skip
          have e0 : ρ (.tmp 1) = .int .i64 t := by rw [hρ]; exact (acts_eval_tmp 1 (by kernel_rfl)).trans E1
          clear hρ
          go_simp
      · rintro f a' W h17 hd ⟨rfl, S⟩
        refine wpOp_callG rfl (wanted_hit (t := 27) rfl rfl (acts_eval_hit 11 rfl hd.2.2.1 (by rw [HSZ]; rfl) (by kernel_rfl))) (fun ρ hρ => ?_) ((HQL.out _ _ S.swap)) ?_
        · skip
          have e0 : ρ (.tmp 31) = .pointer (some ⟨a.q, 0, none⟩) := by rw [hρ]; exact acts_eval_hit 15 rfl hd.1 (by rw [HSZ]; rfl) (by kernel_rfl)
          have e1 : ρ (.tmp 32) = .int .i64 t := by rw [hρ]; exact acts_eval_hit 16 rfl hd.2.1 (by rw [HSZ]; rfl) (by kernel_rfl)
          have ef : ρ (.func 54) = .func (.func 54) #[] #[] := by rw [hρ]; rfl
          clear hρ
          go_simp
        · (rintro e W' ⟨rfl, rfl⟩; exact ⟨_, rfl, (acts_some 17 rfl (by kernel_rfl) (by kernel_rfl)).symm, S⟩)
      · rintro f a' W h18 hd ⟨rfl, S⟩
        refine wpOp_runG (v := .bool eb) rfl ?_ (fun ρ hρ => ?_) ⟨(acts_some 18 rfl (by kernel_rfl) (by kernel_rfl)).symm, S⟩
        · exact wanted_hit (t := 27) rfl rfl (acts_eval_hit 11 rfl hd.2.1 (by rw [HSZ]; rfl) (by kernel_rfl))
        · skip
          have e0 : ρ (.tmp 33) = .int .i64 ql := by rw [hρ]; exact acts_eval_hit 17 rfl hd.1 (by rw [HSZ]; rfl) (by kernel_rfl)
          have ec : ∀ v, ρ (.const v) = v := by rw [hρ]; exact fun _ => rfl
          clear hρ
          go_simp
      · rintro f a' W h19 hd ⟨rfl, S⟩
        refine wpOp_run (v := .bool eb) rfl rfl (fun ρ hρ => ?_) ⟨(acts_some 19 rfl (by kernel_rfl) (by kernel_rfl)).symm, S⟩
        have e0 : ρ (.tmp 27) = .bool false := by rw [hρ]; exact acts_eval_hit 11 rfl hd.1 (by rw [HSZ]; rfl) (by kernel_rfl)
        have e1 : ρ (.tmp 34) = .bool eb := by rw [hρ]; exact acts_eval_hit 18 rfl hd.2.1 (by rw [HSZ]; rfl) (by kernel_rfl)
        have ec : ∀ v, ρ (.const v) = v := by rw [hρ]; exact fun _ => rfl
        clear hρ
        go_simp
    · rintro a' W2 ⟨rfl, S4⟩
      subst ha0
      simp (maxSteps := 4000000) only [acts, if_true, Act.put, List.setIfInBounds_toArray, List.set_cons_succ, List.set_cons_zero]
      have S5 := HC.out _ _ S4
      clear S3 S4 HSZ E0 E1 hge HC HLV HQL
      cases eb with
      | true =>
        have HE := Lib.hid heb
        clear heb
        (have T := S5.swap; (have d0 := (T).cell 0; have d1 := (T).cell 1; have d2 := (T).cell 2; have d3 := (T).cell 3; have d4 := (T).cell 4; have d5 := (T).cell 5; have d6 := (T).cell 6; have d7 := (T).cell 7; have d8 := (T).cell 8; have f0 := (T).frozen 0; have f1 := (T).frozen 1; have f2 := (T).frozen 2; have f3 := (T).frozen 3; have f4 := (T).frozen 4; have f5 := (T).frozen 5; have f6 := (T).frozen 6; have f7 := (T).frozen 7; have f8 := (T).frozen 8); (have HS := Lib.hid (((((((((((T).setCell 0 (.int .i64 0)).setCell 1 (.int .i64 0)).setCell 2 (.int .i64 0)).setCell 3 (.slice none 0 0)).setCell 4 (.int .i64 0)).setCell 5 (.int .i64 0)).setCell 6 (.int .i64 0)).setCell 7 (.int .i64 0)).setCell 8 (.int .i64 0)))); (clear T); go_wp2_with fail; refine bodyPost_ret (results_cell_t rfl _ _ _ _ _ _ rfl HS.out.blk_at Tryz.underlying86 rfl (by kernel_rfl)) rfl ?_)
        exact hK.out _ _ ⟨G, s, Gnd.le.rfl', .inr ⟨.inr (List.eq_nil_of_length_eq_zero (by have := HE.out; have h2 := HQ.out; simp at this; omega)), rfl, rfl⟩, HS.out.drop⟩
      | false =>
        obtain ⟨hw, hT, ht, h0, h1, htk, hrl, hl, hfew⟩ := HH.out
        have hqn : (s.Q.getD t []) ≠ [] := fun h => by rw [h] at HQ; have := HQ.out; simp at this; subst this; simp at heb
        obtain ⟨x, L, hx⟩ : ∃ x L, s.Q.getD t [] = x :: L := by
          cases h : s.Q.getD t [] with
          | nil => exact absurd h hqn
          | cons x L => exact ⟨x, L, rfl⟩
        obtain ⟨hid, hown⟩ := own_tick h0 h1 hw.t0 hw.t1 htk
        obtain ⟨id, hidv⟩ : ∃ id, id = 2 * tick + 1 := ⟨_, rfl⟩
        have hlv : ¬ c.str ≤ liveAt s.L t := by rw [← HLE.out]; exact HF.out
        have hro : rOpen c.ten c.str s.F s.L s.rl tick = ⟨s.F ++ [newE id], s.L.set t (liveAt s.L t + 1), id, id, 0⟩ := by
          unfold rOpen
          rw [hid, if_neg (by omega), if_neg (by omega), hown, if_neg hlv, ← hidv, Int.toNat_natCast]
        obtain ⟨a2, SB⟩ := out_iff.1 S5
        have k6 : W2.cell? ⟨o, 6, none⟩ = some (.pointer (some ⟨a2.g, 0, none⟩)) := SB.cell 6
        have hop := rg_open (Sat.re SB [2, 0, 1]) hw.r hT tick
        simp only [hro] at hop
        obtain ⟨F1, hF1⟩ : ∃ F1, F1 = s.F ++ [newE id] := ⟨_, rfl⟩
        obtain ⟨L1, hL1⟩ : ∃ L1, L1 = s.L.set t (liveAt s.L t + 1) := ⟨_, rfl⟩
        rw [← hF1, ← hL1] at hop
        have HO2 : Hid (∀ (W : World) X, Sat G W (rgA a2.g c.ten c.str F1 L1 id :: X) → X = blk o (obC c a2 s.last) 72 :: quA a2.q s.Q c.byt c.itm :: crA a2.p s.C 0 :: mpA a2.mb (s.M.map Sm.kp) :: strA s.M :: ctA a2.cv s.D :: ownS 98 1 a2.gv c.ten (noG c.ten) :: blk r #[.int .i64 0, .int .i64 0, .int .i64 0, .slice none 0 0, .int .i64 0, .int .i64 0, .int .i64 0, .int .i64 0, .int .i64 0] 86 :: l → Sat G W (outA o c { s with F := F1, L := L1, rl := id } :: blk r #[.int .i64 0, .int .i64 0, .int .i64 0, .slice none 0 0, .int .i64 0, .int .i64 0, .int .i64 0, .int .i64 0, .int .i64 0] 86 :: l)) := Lib.hid fun W X S hX => by
          subst hX
          exact out_iff.2 ⟨a2, Sat.re S [1, 2, 0, 3, 4, 5, 6, 7]⟩
        have HV := Lib.hid (And.intro hx (And.intro hidv (And.intro hlv (And.intro hF1 hL1))))
        clear SB S5 hw hT ht h0 h1 htk hrl hl hfew hqn hid hown hidv hlv hro hF1 hL1 heb
        go_wp2_with fail
        (with_reducible refine hop.mono ?_)
        rintro e W3 ⟨rfl, S6⟩
        have S7 := HO2.out _ _ S6 rfl
        obtain ⟨a3, SC⟩ := out_iff.1 S7
        have k5 : W3.cell? ⟨o, 5, none⟩ = some (.pointer (some ⟨a3.q, 0, none⟩)) := SC.cell 5
        have hpop := qu_pop SC.swap HH.out.1.q t x L HV.out.1
        have HO3 : Hid (∀ (G' : Gnd) (W : World) X, Sat G' W (quA a3.q (s.Q.set t L) c.byt c.itm :: X) → X = blk o (obC c a3 s.last) 72 :: rgA a3.g c.ten c.str F1 L1 id :: crA a3.p s.C 0 :: mpA a3.mb (s.M.map Sm.kp) :: strA s.M :: ctA a3.cv s.D :: ownS 98 1 a3.gv c.ten (noG c.ten) :: blk r #[.int .i64 0, .int .i64 0, .int .i64 0, .slice none 0 0, .int .i64 0, .int .i64 0, .int .i64 0, .int .i64 0, .int .i64 0] 86 :: l → Sat G' W (outA o c { s with Q := s.Q.set t L, F := F1, L := L1, rl := id } :: blk r #[.int .i64 0, .int .i64 0, .int .i64 0, .slice none 0 0, .int .i64 0, .int .i64 0, .int .i64 0, .int .i64 0, .int .i64 0] 86 :: l)) := Lib.hid fun G' W X S hX => by
          subst hX
          exact out_iff.2 ⟨a3, Sat.re S [1, 0, 2, 3, 4, 5, 6, 7]⟩
        clear hop S6 S7 SC HO2 k6
        go_wp2_with fail
        (with_reducible refine hpop.mono ?_)
        rintro e W4 ⟨u1, u2, rfl, S8⟩
        obtain ⟨G1, hG1, S9, hb1⟩ := S8.ownFrz
        obtain ⟨G2, hG2, S10, hb2⟩ := S9.ownFrz
        obtain ⟨A1, n1, rfl, -⟩ := hb1.form
        obtain ⟨A2, n2, rfl, -, hn2, -⟩ := hb2.form
        have S11 := HO3.out _ _ _ S10 rfl
        obtain ⟨N1, hN1⟩ : ∃ N, N = x.2.1.length := ⟨_, rfl⟩
        obtain ⟨N2, hN2⟩ : ∃ N, N = x.2.2.length := ⟨_, rfl⟩
        obtain ⟨x1, hx1⟩ : ∃ z, z = x.1 := ⟨_, rfl⟩
        rw [← hN1] at hb1 ⊢
        rw [← hN2] at hb2 ⊢
        rw [← hx1]
        have S12 := S11.newBlk #[.int .i64 x1, .slice A1 N1 n1, .slice A2 N2 n2] 41
        have k11 : (W4.alloc (.cells #[.int .i64 x1, .slice A1 N1 n1, .slice A2 N2 n2] 41)).cell? ⟨o, 11, none⟩ = some (.int .i64 65535) := by
          obtain ⟨a5, SD⟩ := out_iff.1 S12.swap
          exact SD.cell 11
        have hwn := win_new 65535 (W4.alloc (.cells #[.int .i64 x1, .slice A1 N1 n1, .slice A2 N2 n2] 41))
        rw [show winNew 65535 = (65535, 0) from rfl] at hwn
        have HB := Lib.hid (And.intro hb1 (And.intro hb2 (And.intro hN1 (And.intro hN2 hx1))))
        have HGs := Lib.hid (And.intro hG1 hG2)
        clear S8 S9 S10 S11 hpop hb1 hb2 hN1 hN2 hx1 hG1 hG2 HO3 k5
        go_wp2_with fail
        (with_reducible refine hwn.mono ?_)
        rintro e W5 ⟨rfl, hbl⟩
        have S13 := S12.below hbl
        clear hwn S12 hbl k11
        go_upto_region 8 with (fail)
        have S14 := S13.newBlk #[.int .i64 65535] 106
        generalize W4.heap.size = qx at *
        generalize W5.heap.size = qw at *
        refine wp_world S14 fun W6 S15 => ?_
        clear S13 S14
        obtain ⟨a4, SE⟩ := out_iff.1 (Sat.re S15 [2, 0, 1])
        obtain ⟨E2, hE2⟩ : ∃ E2 : List Asrt, E2 = quA a4.q (s.Q.set t L) c.byt c.itm :: rgA a4.g c.ten c.str F1 L1 id :: crA a4.p s.C 0 :: strA s.M :: ctA a4.cv s.D :: ownS 98 1 a4.gv c.ten (noG c.ten) :: blk r #[.int .i64 0, .int .i64 0, .int .i64 0, .slice none 0 0, .int .i64 0, .int .i64 0, .int .i64 0, .int .i64 0, .int .i64 0] 86 :: l := ⟨_, rfl⟩
        obtain ⟨kp, hkp⟩ : ∃ kp, kp = s.M.map Sm.kp := ⟨_, rfl⟩
        have S16 : Sat G2 W6 (blk qx #[.int .i64 x1, .slice A1 N1 n1, .slice A2 N2 n2] 41 :: blk qw #[.int .i64 65535] 106 :: blk o (obC c a4 s.last) 72 :: mpA a4.mb kp :: E2) := by
          rw [hE2, hkp]
          exact Sat.re SE [9, 8, 0, 4, 1, 2, 3, 5, 6, 7]
        obtain ⟨nb, hnb⟩ : ∃ nb : Bool, decide (0 < N2) = nb := ⟨_, rfl⟩
        have HKP : Hid ((Lit.int .i64 id).wf = true ∧ (∀ z ∈ kp, z.1 ≠ id) ∧ kp.length < 100000) := Lib.hid (by
          obtain ⟨hw, -, -, h0, h1, -, hrl, -, -⟩ := HH.out
          have hidv := HV.out.2.1
          refine ⟨keyOk (by omega) (by omega), fun z hz => ?_, ?_⟩
          · rw [hkp] at hz
            obtain ⟨y, hy, rfl⟩ := List.mem_map.1 hz
            have := hw.mr y hy
            show y.id ≠ id
            omega
          · rw [hkp, List.length_map]; have := hw.ml; omega)
        have HE2 := Lib.hid (And.intro hE2 hkp)
        clear S15 SE hE2 hkp
        refine wp_act fun a0 ha0 => ?_
        have HSZ : a0.tmps.size = 106 := by rw [ha0]; rfl
        have E0 : a0.eval (.tmp 0) = .pointer (some ⟨o, 0, none⟩) := by rw [ha0]; rfl
        have E8 : a0.eval (.tmp 8) = .int .i64 id := by rw [ha0]; rfl
        have E12 : a0.eval (.tmp 12) = .pointer (some ⟨qw, 0, none⟩) := by rw [ha0]; rfl
        have E10 : a0.eval (.tmp 10) = .pointer (some ⟨qx, 0, none⟩) := by rw [ha0]; rfl
        refine wp_region_J (by kernel_rfl) 17 (by kernel_rfl) [[], [0], [1], [2], [], [], [], [6], [], [8], [], [10], [11], [12], [5, 7, 9, 13], [14], [3, 4, 15, 0, 1, 2, 3, 4, 5, 6, 7, 8, 9, 10, 11, 12, 13, 14, 15]] (by kernel_rfl) (by kernel_rfl) (fun f a' W => ∃ (q : Nat) (ks : List (Int × Nat)), (f 16 = true → f 15 = true) ∧ (f 16 = false → ks = kp) ∧ (f 16 = true → ks = kp ++ [(id, q)]) ∧ a' = acts [(0, 66, .pointer (some ⟨o, 0, none⟩)), (1, 67, .pointer (some ⟨o, 0, none⟩)), (2, 68, .pointer (some ⟨o, 8, none⟩)), (3, 69, .map (some a4.mb)), (4, 70, .int .i64 id), (5, 71, .agg #[.int .i64 65535]), (6, 72, .pointer (some ⟨qx, 0, none⟩)), (7, 73, .int .i64 x1), (8, 74, .pointer (some ⟨qx, 2, none⟩)), (9, 75, .slice A2 N2 n2), (10, 76, .pointer (some ⟨qx, 2, none⟩)), (11, 77, .slice A2 N2 n2), (12, 78, .int .i64 N2), (13, 79, .bool nb), (14, 80, .agg #[.int .i64 65535, .int .i64 x1, .slice A2 N2 n2, .bool nb]), (15, 81, .pointer (some ⟨q, 0, none⟩))] f a0 ∧ Sat G2 W (blk qx #[.int .i64 x1, .slice A1 N1 n1, .slice A2 N2 n2] 41 :: blk qw #[.int .i64 65535] 106 :: blk o (obC c a4 s.last) 72 :: mpA a4.mb ks :: opt (f 15) (blk q #[.int .i64 65535, .int .i64 x1, .slice A2 N2 n2, .bool nb] 108) :: E2)) ?_ ?_ ?_
        · exact ⟨0, _, fun h => (by cases h), fun _ => rfl, fun h => (by cases h), rfl, Sat.re (Sat.opt0 (A := blk 0 #[.int .i64 65535, .int .i64 x1, .slice A2 N2 n2, .bool nb] 108) S16.drew) [1, 2, 3, 4, 0]⟩
        · refine ⟨?_, ?_, ?_, ?_, ?_, ?_, ?_, ?_, ?_, ?_, ?_, ?_, ?_, ?_, ?_, ?_, ?_, trivial⟩
          · rintro f a' W h0 hd ⟨q, ks, hh, hk0, hk1, rfl, S⟩
            refine wpOp_run (v := .pointer (some ⟨o, 0, none⟩)) rfl rfl (fun ρ hρ => ?_) ⟨q, ks, hh, hk0, hk1, (acts_some 0 rfl (by kernel_rfl) (by kernel_rfl)).symm, S⟩
            have e0 : ρ (.tmp 0) = .pointer (some ⟨o, 0, none⟩) := by rw [hρ]; exact (acts_eval_tmp 0 (by kernel_rfl)).trans E0
            clear hρ
            go_simp
          · rintro f a' W h1 hd ⟨q, ks, hh, hk0, hk1, rfl, S⟩
            refine wpOp_run (v := .pointer (some ⟨o, 0, none⟩)) rfl rfl (fun ρ hρ => ?_) ⟨q, ks, hh, hk0, hk1, (acts_some 1 rfl (by kernel_rfl) (by kernel_rfl)).symm, S⟩
            have e0 : ρ (.tmp 66) = .pointer (some ⟨o, 0, none⟩) := by rw [hρ]; exact acts_eval_hit 0 rfl hd.1 (by rw [HSZ]; rfl) (by kernel_rfl)
            clear hρ
            go_simp
          · rintro f a' W h2 hd ⟨q, ks, hh, hk0, hk1, rfl, S⟩
            refine wpOp_run (v := .pointer (some ⟨o, 8, none⟩)) rfl rfl (fun ρ hρ => ?_) ⟨q, ks, hh, hk0, hk1, (acts_some 2 rfl (by kernel_rfl) (by kernel_rfl)).symm, S⟩
            have e0 : ρ (.tmp 67) = .pointer (some ⟨o, 0, none⟩) := by rw [hρ]; exact acts_eval_hit 1 rfl hd.1 (by rw [HSZ]; rfl) (by kernel_rfl)
            clear hρ
            go_simp
          · rintro f a' W h3 hd ⟨q, ks, hh, hk0, hk1, rfl, S⟩
            refine wpOp_run (v := .map (some a4.mb)) rfl rfl (fun ρ hρ => ?_) ⟨q, ks, hh, hk0, hk1, (acts_some 3 rfl (by kernel_rfl) (by kernel_rfl)).symm, S⟩
            have e0 : ρ (.tmp 68) = .pointer (some ⟨o, 8, none⟩) := by rw [hρ]; exact acts_eval_hit 2 rfl hd.1 (by rw [HSZ]; rfl) (by kernel_rfl)
            clear hρ
            (have hz : W.cell? ⟨o, 8, none⟩ = some (.map (some a4.mb)) := S.pull2.cell 8)
            go_simp
          · rintro f a' W h4 hd ⟨q, ks, hh, hk0, hk1, rfl, S⟩
            refine wpOp_run (v := .int .i64 id) rfl rfl (fun ρ hρ => ?_) ⟨q, ks, hh, hk0, hk1, (acts_some 4 rfl (by kernel_rfl) (by kernel_rfl)).symm, S⟩
            have e0 : ρ (.tmp 8) = .int .i64 id := by rw [hρ]; exact (acts_eval_tmp 8 (by kernel_rfl)).trans E8
            clear hρ
            go_simp
          · rintro f a' W h5 hd ⟨q, ks, hh, hk0, hk1, rfl, S⟩
            refine wpOp_list rfl ?_
            refine st_load rfl _ _ rfl _ ((acts_eval_tmp 12 (by kernel_rfl)).trans E12) _ _ (S.swap) _ rfl rfl rfl ?_
            exact ⟨q, ks, hh, hk0, hk1, (acts_some 5 rfl (by kernel_rfl) (by kernel_rfl)).symm, S⟩
          · rintro f a' W h6 hd ⟨q, ks, hh, hk0, hk1, rfl, S⟩
            refine wpOp_run (v := .pointer (some ⟨qx, 0, none⟩)) rfl rfl (fun ρ hρ => ?_) ⟨q, ks, hh, hk0, hk1, (acts_some 6 rfl (by kernel_rfl) (by kernel_rfl)).symm, S⟩
            have e0 : ρ (.tmp 10) = .pointer (some ⟨qx, 0, none⟩) := by rw [hρ]; exact (acts_eval_tmp 10 (by kernel_rfl)).trans E10
            clear hρ
            go_simp
          · rintro f a' W h7 hd ⟨q, ks, hh, hk0, hk1, rfl, S⟩
            refine wpOp_run (v := .int .i64 x1) rfl rfl (fun ρ hρ => ?_) ⟨q, ks, hh, hk0, hk1, (acts_some 7 rfl (by kernel_rfl) (by kernel_rfl)).symm, S⟩
            have e0 : ρ (.tmp 72) = .pointer (some ⟨qx, 0, none⟩) := by rw [hρ]; exact acts_eval_hit 6 rfl hd.1 (by rw [HSZ]; rfl) (by kernel_rfl)
            clear hρ
            (have hz := S.cell 0)
            go_simp
          · rintro f a' W h8 hd ⟨q, ks, hh, hk0, hk1, rfl, S⟩
            refine wpOp_run (v := .pointer (some ⟨qx, 2, none⟩)) rfl rfl (fun ρ hρ => ?_) ⟨q, ks, hh, hk0, hk1, (acts_some 8 rfl (by kernel_rfl) (by kernel_rfl)).symm, S⟩
            have e0 : ρ (.tmp 10) = .pointer (some ⟨qx, 0, none⟩) := by rw [hρ]; exact (acts_eval_tmp 10 (by kernel_rfl)).trans E10
            clear hρ
            go_simp
          · rintro f a' W h9 hd ⟨q, ks, hh, hk0, hk1, rfl, S⟩
            refine wpOp_run (v := .slice A2 N2 n2) rfl rfl (fun ρ hρ => ?_) ⟨q, ks, hh, hk0, hk1, (acts_some 9 rfl (by kernel_rfl) (by kernel_rfl)).symm, S⟩
            have e0 : ρ (.tmp 74) = .pointer (some ⟨qx, 2, none⟩) := by rw [hρ]; exact acts_eval_hit 8 rfl hd.1 (by rw [HSZ]; rfl) (by kernel_rfl)
            clear hρ
            (have hz := S.cell 2)
            go_simp
          · rintro f a' W h10 hd ⟨q, ks, hh, hk0, hk1, rfl, S⟩
            refine wpOp_run (v := .pointer (some ⟨qx, 2, none⟩)) rfl rfl (fun ρ hρ => ?_) ⟨q, ks, hh, hk0, hk1, (acts_some 10 rfl (by kernel_rfl) (by kernel_rfl)).symm, S⟩
            have e0 : ρ (.tmp 10) = .pointer (some ⟨qx, 0, none⟩) := by rw [hρ]; exact (acts_eval_tmp 10 (by kernel_rfl)).trans E10
            clear hρ
            go_simp
          · rintro f a' W h11 hd ⟨q, ks, hh, hk0, hk1, rfl, S⟩
            refine wpOp_run (v := .slice A2 N2 n2) rfl rfl (fun ρ hρ => ?_) ⟨q, ks, hh, hk0, hk1, (acts_some 11 rfl (by kernel_rfl) (by kernel_rfl)).symm, S⟩
            have e0 : ρ (.tmp 76) = .pointer (some ⟨qx, 2, none⟩) := by rw [hρ]; exact acts_eval_hit 10 rfl hd.1 (by rw [HSZ]; rfl) (by kernel_rfl)
            clear hρ
            (have hz := S.cell 2)
            go_simp
          · rintro f a' W h12 hd ⟨q, ks, hh, hk0, hk1, rfl, S⟩
            refine wpOp_run (v := .int .i64 N2) rfl rfl (fun ρ hρ => ?_) ⟨q, ks, hh, hk0, hk1, (acts_some 12 rfl (by kernel_rfl) (by kernel_rfl)).symm, S⟩
            have e0 : ρ (.tmp 77) = .slice A2 N2 n2 := by rw [hρ]; exact acts_eval_hit 11 rfl hd.1 (by rw [HSZ]; rfl) (by kernel_rfl)
            clear hρ
            go_simp
          · rintro f a' W h13 hd ⟨q, ks, hh, hk0, hk1, rfl, S⟩
            refine wpOp_run (v := .bool nb) rfl rfl (fun ρ hρ => ?_) ⟨q, ks, hh, hk0, hk1, (acts_some 13 rfl (by kernel_rfl) (by kernel_rfl)).symm, S⟩
            have e0 : ρ (.tmp 78) = .int .i64 N2 := by rw [hρ]; exact acts_eval_hit 12 rfl hd.1 (by rw [HSZ]; rfl) (by kernel_rfl)
            have ec : ∀ v, ρ (.const v) = v := by rw [hρ]; exact fun _ => rfl
            clear hρ
            go_simp
          · rintro f a' W h14 hd ⟨q, ks, hh, hk0, hk1, rfl, S⟩
            refine wpOp_run (v := .agg #[.int .i64 65535, .int .i64 x1, .slice A2 N2 n2, .bool nb]) rfl rfl (fun ρ hρ => ?_) ⟨q, ks, hh, hk0, hk1, (acts_some 14 rfl (by kernel_rfl) (by kernel_rfl)).symm, S⟩
            have e0 : ρ (.tmp 71) = .agg #[.int .i64 65535] := by rw [hρ]; exact acts_eval_hit 5 rfl hd.1 (by rw [HSZ]; rfl) (by kernel_rfl)
            have e1 : ρ (.tmp 73) = .int .i64 x1 := by rw [hρ]; exact acts_eval_hit 7 rfl hd.2.1 (by rw [HSZ]; rfl) (by kernel_rfl)
            have e2 : ρ (.tmp 75) = .slice A2 N2 n2 := by rw [hρ]; exact acts_eval_hit 9 rfl hd.2.2.1 (by rw [HSZ]; rfl) (by kernel_rfl)
            have e3 : ρ (.tmp 79) = .bool nb := by rw [hρ]; exact acts_eval_hit 13 rfl hd.2.2.2.1 (by rw [HSZ]; rfl) (by kernel_rfl)
            clear hρ
            go_simp
          · rintro f a' W h15 hd ⟨q, ks, hh, hk0, hk1, rfl, S⟩
            have h16 : f 16 = false := no_of hh h15
            refine wpOp_mem (v := .pointer (some ⟨W.heap.size, 0, none⟩)) (w' := W.alloc (.cells #[.int .i64 65535, .int .i64 x1, .slice A2 N2 n2, .bool nb] 108)) rfl rfl (fun ρ hρ => ?_) (⟨W.heap.size, ks, fun _ => rfl, hk0, fun h => absurd h (by rw [show upd f 15 16 = f 16 from rfl, h16]; decide), acts_swap (by simp only [acts, h15, Bool.false_eq_true, if_false]) (k := 15) rfl (by kernel_rfl) (by kernel_rfl), Sat.re (Sat.optI (b := true) rfl ((Sat.re (S.newBlk #[.int .i64 65535, .int .i64 x1, .slice A2 N2 n2, .bool nb] 108) [5, 0, 1, 2, 3, 4]).drop)) [1, 2, 3, 4, 0]⟩)
            have e0 : ρ (.tmp 80) = .agg #[.int .i64 65535, .int .i64 x1, .slice A2 N2 n2, .bool nb] := by rw [hρ]; exact acts_eval_hit 14 rfl hd.1 (by rw [HSZ]; rfl) (by kernel_rfl)
            clear hρ
            go_simp
          · rintro f a' W h16 hd ⟨q, ks, hh, hk0, hk1, rfl, S⟩
            have q69 : (acts [(0, 66, .pointer (some ⟨o, 0, none⟩)), (1, 67, .pointer (some ⟨o, 0, none⟩)), (2, 68, .pointer (some ⟨o, 8, none⟩)), (3, 69, .map (some a4.mb)), (4, 70, .int .i64 id), (5, 71, .agg #[.int .i64 65535]), (6, 72, .pointer (some ⟨qx, 0, none⟩)), (7, 73, .int .i64 x1), (8, 74, .pointer (some ⟨qx, 2, none⟩)), (9, 75, .slice A2 N2 n2), (10, 76, .pointer (some ⟨qx, 2, none⟩)), (11, 77, .slice A2 N2 n2), (12, 78, .int .i64 N2), (13, 79, .bool nb), (14, 80, .agg #[.int .i64 65535, .int .i64 x1, .slice A2 N2 n2, .bool nb]), (15, 81, .pointer (some ⟨q, 0, none⟩))] f a0).eval (.tmp 69) = .map (some a4.mb) := acts_eval_hit 3 rfl hd.1 (by rw [HSZ]; rfl) (by kernel_rfl)
            have q70 : (acts [(0, 66, .pointer (some ⟨o, 0, none⟩)), (1, 67, .pointer (some ⟨o, 0, none⟩)), (2, 68, .pointer (some ⟨o, 8, none⟩)), (3, 69, .map (some a4.mb)), (4, 70, .int .i64 id), (5, 71, .agg #[.int .i64 65535]), (6, 72, .pointer (some ⟨qx, 0, none⟩)), (7, 73, .int .i64 x1), (8, 74, .pointer (some ⟨qx, 2, none⟩)), (9, 75, .slice A2 N2 n2), (10, 76, .pointer (some ⟨qx, 2, none⟩)), (11, 77, .slice A2 N2 n2), (12, 78, .int .i64 N2), (13, 79, .bool nb), (14, 80, .agg #[.int .i64 65535, .int .i64 x1, .slice A2 N2 n2, .bool nb]), (15, 81, .pointer (some ⟨q, 0, none⟩))] f a0).eval (.tmp 70) = .int .i64 id := acts_eval_hit 4 rfl hd.2.1 (by rw [HSZ]; rfl) (by kernel_rfl)
            have q81 : (acts [(0, 66, .pointer (some ⟨o, 0, none⟩)), (1, 67, .pointer (some ⟨o, 0, none⟩)), (2, 68, .pointer (some ⟨o, 8, none⟩)), (3, 69, .map (some a4.mb)), (4, 70, .int .i64 id), (5, 71, .agg #[.int .i64 65535]), (6, 72, .pointer (some ⟨qx, 0, none⟩)), (7, 73, .int .i64 x1), (8, 74, .pointer (some ⟨qx, 2, none⟩)), (9, 75, .slice A2 N2 n2), (10, 76, .pointer (some ⟨qx, 2, none⟩)), (11, 77, .slice A2 N2 n2), (12, 78, .int .i64 N2), (13, 79, .bool nb), (14, 80, .agg #[.int .i64 65535, .int .i64 x1, .slice A2 N2 n2, .bool nb]), (15, 81, .pointer (some ⟨q, 0, none⟩))] f a0).eval (.tmp 81) = .pointer (some ⟨q, 0, none⟩) := acts_eval_hit 15 rfl hd.2.2.1 (by rw [HSZ]; rfl) (by kernel_rfl)
            (obtain rfl := hk0 h16; obtain ⟨w9, hr, S9⟩ := mp_store (S.re [3, 0, 1, 2]) id q HKP.out.1 HKP.out.2.1 HKP.out.2.2; refine wpOp_skp (w' := w9) rfl rfl (fun ρ hρ => (by have e0 : ρ (.tmp 69) = .map (some a4.mb) := (by rw [hρ]; exact q69); have e1 : ρ (.tmp 70) = .int .i64 id := (by rw [hρ]; exact q70); have e2 : ρ (.tmp 81) = .pointer (some ⟨q, 0, none⟩) := (by rw [hρ]; exact q81); clear hρ q69 q70 q81; go_simp)) ⟨q, _, fun _ => hd.2.2.1, fun h => Bool.noConfusion h, fun _ => rfl, (acts_none 16 (by kernel_rfl)).symm, S9.re [1, 2, 3, 0]⟩)
        · rintro a' W7 ⟨q, ks, -, -, hk1, rfl, S17⟩
          obtain rfl := hk1 rfl
          subst ha0
          simp (maxSteps := 4000000) only [acts, if_true, Act.put, List.setIfInBounds_toArray, List.set_cons_succ, List.set_cons_zero]
          clear S16 HSZ E0 E8 E12 E10 hk1
          have hnbv : nb = !x.2.2.isEmpty := by
            rw [← hnb, HB.out.2.2.2.1]
            cases x.2.2 <;> simp
          have T1 := opt_iff.1 (S17.re [4, 0, 1, 2, 3])
          rw [HE2.out.1, HE2.out.2, HB.out.2.2.2.2, hnbv] at T1
          have T2 : Sat G2 W7 (stA (newS id q x) :: strA s.M :: blk qx #[.int .i64 x.1, .slice A1 N1 n1, .slice A2 N2 n2] 41 :: blk qw #[.int .i64 65535] 106 :: blk o (obC c a4 s.last) 72 :: mpA a4.mb (s.M.map Sm.kp ++ [(id, q)]) :: quA a4.q (s.Q.set t L) c.byt c.itm :: rgA a4.g c.ten c.str F1 L1 id :: crA a4.p s.C 0 :: ctA a4.cv s.D :: ownS 98 1 a4.gv c.ten (noG c.ten) :: blk r #[.int .i64 0, .int .i64 0, .int .i64 0, .slice none 0 0, .int .i64 0, .int .i64 0, .int .i64 0, .int .i64 0, .int .i64 0] 86 :: l) :=
            st_iff.2 ⟨.slice A2 N2 n2, HB.out.2.1, Sat.re T1 [0, 8, 1, 2, 3, 4, 5, 6, 7, 9, 10, 11]⟩
          have T3 := str_cons.2 T2
          have T4 := mp_perm (N := (newS id q x :: s.M).map Sm.kp) (List.perm_append_comm (l₁ := s.M.map Sm.kp) (l₂ := [(id, q)])) (Sat.re T3 [4, 0, 1, 2, 3])
          have S18 : Sat G2 W7 (outA o c (openS s t id q x L F1) :: blk qw #[.int .i64 65535] 106 :: blk qx #[.int .i64 x1, .slice A1 N1 n1, .slice A2 N2 n2] 41 :: blk r #[.int .i64 0, .int .i64 0, .int .i64 0, .slice none 0 0, .int .i64 0, .int .i64 0, .int .i64 0, .int .i64 0, .int .i64 0] 86 :: l) := by
            rw [HB.out.2.2.2.2]
            refine out_iff.2 ⟨a4, ?_⟩
            have := HV.out.2.2.2.2
            unfold openS
            simp only
            rw [← this]
            exact Sat.re T4 [4, 5, 6, 7, 0, 1, 8, 9, 3, 2]
          have g0 := (Sat.re S18 [2, 0, 1]).cell 0
          have g1 := (Sat.re S18 [2, 0, 1]).cell 1
          have S18b := S18.newBlk #[.int .i64 1, .int .i64 4, .int .i64 id, .slice A1 N1 n1] 84
          have g3 := (Sat.re S18b [3, 0, 1, 2]).cell 0
          have S19 := S18b.newBlk #[.int .i64 1, .int .i64 t, .int .i64 id, .int .i64 x1, .int .i64 0] 45
          rw [World.size_alloc] at S19
          have HNB := Lib.hid (And.intro hnb hnbv)
          clear S17 T1 T2 T3 T4 S18 S18b hnbv HE2 hnb
          go_upto_region 11 with (fail)
          generalize W7.heap.size = q14 at *
          refine wp_world S19 fun W8 S20 => ?_
          clear S19 g0 g1 g3
          have z0 := (Sat.re S20 [4, 0, 1, 2, 3]).cell 2
          obtain ⟨hw, hT, ht, h0, h1, htk, hrl, hl, hfew⟩ := HH.out
          have hids : ∀ z ∈ s.F, z.id < id := fun z hz => by
            obtain ⟨y, hy, rfl⟩ := List.mem_map.1 (hw.mf.mem_iff.1 hz)
            rw [entOf_id]
            have := hw.mr y hy
            have := HV.out.2.1
            omega
          have hr1 : Rising F1 := by rw [HV.out.2.2.2.1]; exact rising_snoc hw.rf hids
          have hG2 : G.le G2 := HGs.out.1.trans HGs.out.2
          cases hem : x.2.2.isEmpty with
          | false =>
            have hN2 : ((N2 : Int) == 0) = false := by
              have := HNB.out
              rw [hem] at this
              have h2 := of_decide_eq_true (this.1.trans this.2)
              exact beq_eq_false_iff_ne.2 (by omega)
            have hent : entOf (newS id q x) = newE id := by unfold entOf newS; rw [hem]; rfl
            have hinv : OInv c (openS s t id q x L F1) := by
              have := HV.out.2.1
              subst this
              refine open_inv hw ht h0 h1 hrl hl HV.out.1 hfew ?_ hr1
              rw [List.map_cons, hent, HV.out.2.2.2.1]
              exact (List.perm_append_comm (l₁ := s.F) (l₂ := [newE (2 * tick + 1)])).trans (hw.mf.cons _)
            have HI := Lib.hid hinv
            have HEM := Lib.hid hem
            have HG2 := Lib.hid hG2
            have T : Sat G2 W8 (blk r #[.int .i64 0, .int .i64 0, .int .i64 0, .slice none 0 0, .int .i64 0, .int .i64 0, .int .i64 0, .int .i64 0, .int .i64 0] 86 :: blk q14 _ 84 :: blk (q14 + 1) _ 45 :: outA o c (openS s t id q x L F1) :: _) := Sat.re S20 [5, 1, 0, 2, 3, 4]
            have i0 := T.swap.cell 0
            have i1 := T.swap.cell 1
            have i2 := T.swap.cell 2
            have i3 := T.swap.cell 3
            have T2 := Sat.re T [2, 0, 1]
            have i4 := T2.cell 0
            have i5 := T2.cell 1
            have i6 := T2.cell 2
            have i7 := T2.cell 3
            have i8 := T2.cell 4
            have d0 := (T).cell 0; have d1 := (T).cell 1; have d2 := (T).cell 2; have d3 := (T).cell 3; have d4 := (T).cell 4; have d5 := (T).cell 5; have d6 := (T).cell 6; have d7 := (T).cell 7; have d8 := (T).cell 8; have f0 := (T).frozen 0; have f1 := (T).frozen 1; have f2 := (T).frozen 2; have f3 := (T).frozen 3; have f4 := (T).frozen 4; have f5 := (T).frozen 5; have f6 := (T).frozen 6; have f7 := (T).frozen 7; have f8 := (T).frozen 8
            have HS := Lib.hid (((((((((T.setCell 0 (.int .i64 1)).setCell 1 (.int .i64 4)).setCell 2 (.int .i64 id)).setCell 3 (.slice A1 N1 n1)).setCell 4 (.int .i64 1)).setCell 5 (.int .i64 t)).setCell 6 (.int .i64 id)).setCell 7 (.int .i64 x1)).setCell 8 (.int .i64 0))
            clear S20 T T2 hids hr1 hw hT ht h0 h1 htk hrl hl hfew hem hent hinv hG2
            go_wp2_with fail
            refine bodyPost_ret (results_cell_t rfl _ _ _ _ _ _ rfl HS.out.blk_at Tryz.underlying86 rfl (by kernel_rfl)) rfl ?_
            exact hK.out _ _ ⟨G2, openS s t id q x L F1, HG2.out, .inl ⟨x, L, HV.out.1, by have := HV.out.2.2.1; omega, .slice A1 N1 n1, q, F1, HB.out.1.mono HGs.out.2, by rw [HEM.out, ← HV.out.2.1, ← HB.out.2.2.2.2]; rfl, by rw [← HV.out.2.1], HI.out⟩, Sat.dropL [_, _] (Sat.re HS.out.drop.drop.drop [1, 2, 0])⟩
          | true =>
            have hN2 : ((N2 : Int) == 0) = true := by
              have := HNB.out
              rw [hem] at this
              have h2 := of_decide_eq_false (this.1.trans this.2)
              exact beq_iff_eq.2 (by omega)
            have hent : entOf (newS id q x) = endE id := by unfold entOf newS; rw [hem]; rfl
            have hF1i : F1[s.F.length]? = some (newE id) := by rw [HV.out.2.2.2.1, List.getElem?_append_right (Nat.le_refl _), Nat.sub_self]; rfl
            obtain ⟨F2, hF2⟩ : ∃ F2, F2 = F1.set s.F.length (endE id) := ⟨_, rfl⟩
            have hr2 : Rising F2 := by rw [hF2]; exact rising_set hr1 hF1i rfl
            have hinv : OInv c (openS s t id q x L F2) := by
              have h9 := HV.out.2.1
              subst h9
              refine open_inv hw ht h0 h1 hrl hl HV.out.1 hfew ?_ hr2
              rw [List.map_cons, hent, hF2]
              refine perm_set ?_ hF1i
              rw [HV.out.2.2.2.1]
              exact (List.perm_append_comm (l₁ := s.F) (l₂ := [newE (2 * tick + 1)])).trans (hw.mf.cons _)
            have hFl : F1.length = F2.length := by rw [hF2, List.length_set]
            have hwf1 : OWf c (openS s t id q x L F1) :=
              { hinv.toOWf with
                r := { hinv.r with few := by show F1.length ≤ 10000; rw [hFl]; exact hinv.r.few }
                rf := hr1
                rb := fun z hz => by
                  have hz2 : z ∈ s.F ++ [newE id] := by rw [← HV.out.2.2.2.1]; exact hz
                  rcases List.mem_append.1 hz2 with hz | hz
                  · exact hw.rb z hz
                  · rw [List.mem_singleton] at hz; subst hz
                    intro y hy; simp [newE] at hy; omega }
            have hym : newS id q x ∈ (openS s t id q x L F1).M := List.mem_cons_self
            have HI := Lib.hid hinv
            have HEM := Lib.hid hem
            have HG2 := Lib.hid hG2
            have b1 := S20.swap.cell 1
            have b2 := S20.swap.frozen 1
            have T0 := S20.swap.setCell 1 (.int .i64 5)
            have b3 := T0.swap.cell 0
            have b4 := T0.swap.frozen 0
            have b5 := S20.cell 0
            have b6 := S20.frozen 0
            have T1 := Sat.re (T0.swap.setCell 0 (.int .i64 3)) [2, 0, 1]
            have hend := ob_ended T1 hwf1 (hT.mono hG2) hym s.F.length hF1i
            rw [show (newS id q x).id = id from rfl] at hend
            have hor : bits BinOp.or .i64 4 1 = 5 := by decide
            have HEQ : Hid (({ openS s t id q x L F1 with F := (openS s t id q x L F1).F.set s.F.length (endE id), M := { newS id q x with op := false } :: (openS s t id q x L F1).M.erase (newS id q x) } : Os) = openS s t id q x L F2) := Lib.hid (by
              have e1 : ({ newS id q x with op := false } : Sm) = newS id q x := by unfold newS; rw [hem]; rfl
              have e2 : (openS s t id q x L F1).M.erase (newS id q x) = s.M := List.erase_cons_head _ _
              rw [e1, e2, hF2]
              rfl)
            have HSAT : Hid (∀ W X, Sat G2 W (outA o c { openS s t id q x L F1 with F := (openS s t id q x L F1).F.set s.F.length (endE id), M := { newS id q x with op := false } :: (openS s t id q x L F1).M.erase (newS id q x) } :: X) → Sat G2 W (outA o c (openS s t id q x L F2) :: X)) := Lib.hid fun W X S => by rw [HEQ.out] at S; exact S
            clear S20 T0 T1 hids hr1 hw hT ht h0 h1 htk hrl hl hfew hem hent hinv hG2 hF1i hF2 hr2 hFl hwf1 hym
            go_wp2_with fail
            (with_reducible refine hend.mono ?_)
            rintro e W9 ⟨rfl, S21⟩
            have S22 := HSAT.out _ _ S21
            have T : Sat G2 W9 (blk r #[.int .i64 0, .int .i64 0, .int .i64 0, .slice none 0 0, .int .i64 0, .int .i64 0, .int .i64 0, .int .i64 0, .int .i64 0] 86 :: blk q14 _ 84 :: blk (q14 + 1) _ 45 :: outA o c (openS s t id q x L F2) :: _) := Sat.re S22 [5, 2, 1, 0, 3, 4]
            have i0 := T.swap.cell 0
            have i1 := T.swap.cell 1
            have i2 := T.swap.cell 2
            have i3 := T.swap.cell 3
            have T2 := Sat.re T [2, 0, 1]
            have i4 := T2.cell 0
            have i5 := T2.cell 1
            have i6 := T2.cell 2
            have i7 := T2.cell 3
            have i8 := T2.cell 4
            have d0 := (T).cell 0; have d1 := (T).cell 1; have d2 := (T).cell 2; have d3 := (T).cell 3; have d4 := (T).cell 4; have d5 := (T).cell 5; have d6 := (T).cell 6; have d7 := (T).cell 7; have d8 := (T).cell 8; have f0 := (T).frozen 0; have f1 := (T).frozen 1; have f2 := (T).frozen 2; have f3 := (T).frozen 3; have f4 := (T).frozen 4; have f5 := (T).frozen 5; have f6 := (T).frozen 6; have f7 := (T).frozen 7; have f8 := (T).frozen 8
            have HS := Lib.hid (((((((((T.setCell 0 (.int .i64 1)).setCell 1 (.int .i64 5)).setCell 2 (.int .i64 id)).setCell 3 (.slice A1 N1 n1)).setCell 4 (.int .i64 3)).setCell 5 (.int .i64 t)).setCell 6 (.int .i64 id)).setCell 7 (.int .i64 x1)).setCell 8 (.int .i64 0))
            clear S21 S22 T T2 hend HEQ b1 b2 b3 b4 b5 b6
            go_wp2_with fail
            refine bodyPost_ret (results_cell_t rfl _ _ _ _ _ _ rfl HS.out.blk_at Tryz.underlying86 rfl (by kernel_rfl)) rfl ?_
            exact hK.out _ _ ⟨G2, openS s t id q x L F2, HG2.out, .inl ⟨x, L, HV.out.1, by have := HV.out.2.2.1; omega, .slice A1 N1 n1, q, F2, HB.out.1.mono HGs.out.2, by rw [HEM.out, ← HV.out.2.1, ← HB.out.2.2.2.2]; rfl, by rw [← HV.out.2.1], HI.out⟩, Sat.dropL [_, _] (Sat.re HS.out.drop.drop.drop [1, 2, 0])⟩
end
end Go.Proofs.YtcecfhfbcdbofaaGreatDoor
set_option linter.unusedSimpArgs false
set_option linter.unusedVariables false
namespace Go.Proofs.YtcecfhfbcdbofaaGreatDoor
open Go.RowKit
attribute [local go_sem] Oper.semAt_some

theorem cut_inv {c : Oc} {s : Os} (hw : OInv c s) {t : Nat} {x : Int × Int} {X : List (Int × Int)} (h : s.D.getD t [] = x :: X) : OInv c { s with D := s.D.set t X } :=
  { hw with
    dl := by show (s.D.set t X).length = _; rw [List.length_set]; exact hw.dl
    dn := fun Y hY => by
      rcases List.mem_or_eq_of_mem_set hY with hY | rfl
      · exact hw.dn Y hY
      · have hm : x :: Y ∈ s.D := by
          rw [← h]
          have htD : t < s.D.length := by
            rcases Nat.lt_or_ge t s.D.length with h1 | h1
            · exact h1
            · rw [List.getD_eq_getElem?_getD, List.getElem?_eq_none h1] at h; cases h
          rw [List.getD_eq_getElem?_getD, List.getElem?_eq_getElem htD]
          exact List.getElem_mem _
        have h2 := hw.dn _ hm
        exact ⟨by have := h2.1; simp only [List.length_cons] at this; omega, fun z hz => h2.2 z (List.mem_cons_of_mem _ hz)⟩ }
abbrev Dv := Int × Int × Int × Int × Int
theorem getD_mem' {α : Type} {D : List (List α)} {t : Nat} {x : α} {X : List α} (h : D.getD t [] = x :: X) : x :: X ∈ D := by
  rw [← h]
  have htD : t < D.length := by
    rcases Nat.lt_or_ge t D.length with h1 | h1
    · exact h1
    · rw [List.getD_eq_getElem?_getD, List.getElem?_eq_none h1] at h; cases h
  rw [List.getD_eq_getElem?_getD, List.getElem?_eq_getElem htD]
  exact List.getElem_mem _
theorem set_nil {α : Type} {D : List (List α)} {t : Nat} (h : D.getD t [] = []) : D.set t [] = D := by
  rcases Nat.lt_or_ge t D.length with h1 | h1
  · refine set_same_q ?_
    rw [List.getD_eq_getElem?_getD, List.getElem?_eq_getElem h1] at h
    rw [List.getElem?_eq_getElem h1]; exact congrArg some h
  · exact List.set_eq_of_length_le h1
/-- What is done in a slot. -/
def StepR (c : Oc) (s : Os) (t : Nat) (tick : Int) (d : Dv) (s' : Os) : Prop :=
  (∃ x X, s.D.getD t [] = x :: X ∧ d = (4, (t : Int), x.1, 0, 0) ∧ s' = { s with D := s.D.set t X }) ∨
  (s.D.getD t [] = [] ∧ ∃ y ∈ s.M, ownT y.id c.ten = t ∧ Snd c s t y ∧ d = ((if (sentS c y).op then 2 else 3), (t : Int), y.id, y.num, (cellN c y : Int)) ∧
    s'.M = sentS c y :: s.M.erase y ∧ s'.C = s.C.set t (s.C.getD t 0 - c.cell) ∧ s'.Q = s.Q ∧ s'.L = s.L ∧ s'.rl = s.rl ∧ s'.D = s.D ∧ s'.last = s.last ∧ s'.F.length = s.F.length) ∨
  (s.D.getD t [] = [] ∧ (∀ y ∈ s.M, ownT y.id c.ten = t → ¬ Snd c s t y) ∧ ∃ x L p F', s.Q.getD t [] = x :: L ∧ liveAt s.L t < c.str ∧ d = ((if x.2.2.isEmpty then 3 else 1), (t : Int), 2 * tick + 1, x.1, 0) ∧ s' = openS s t (2 * tick + 1) p x L F') ∨
  (s.D.getD t [] = [] ∧ (∀ y ∈ s.M, ownT y.id c.ten = t → ¬ Snd c s t y) ∧ (c.str ≤ liveAt s.L t ∨ s.Q.getD t [] = []) ∧ d = (0, (t : Int), 0, 0, 0) ∧ s' = s)
/-- A frame that fits. -/
structure FrOk (c : Oc) (ty fl sid : Int) (bs : List UInt8) : Prop where
  t0 : 0 ≤ ty
  t1 : ty ≤ 255
  f0 : 0 ≤ fl
  f1 : fl ≤ 255
  s0 : 0 ≤ sid
  s1 : sid ≤ 2147483647
  n : (bs.length : Int) ≤ c.cell
section
variable {G : Gnd} {w w' : World} {l : List Asrt} {o : Nat} {c : Oc} {s : Os}
set_option maxHeartbeats 8000000 in
set_option maxRecDepth 100000 in
theorem ob_pick (H : Sat G w (outA o c s :: l)) (hw : OInv c s) (hT : TabG G) (t : Nat) (ht : t < c.ten) (tick : Int) (h0 : 0 ≤ tick) (h1 : tick ≤ 1073741823) (htk : tick % (c.ten : Int) = (t : Int)) (hrl : s.rl < 2 * tick + 1) (hl : tick ≤ s.last) (hfew : s.F.length < 10000) :
    Calls Tryz.prog 31 #[.pointer (some ⟨o, 0, none⟩), .int .i64 t, .int .i64 tick] w fun e w' => ∃ (G' : Gnd) (s' : Os) (ty fl sid : Int) (A : Option Addr) (n k : Nat) (bs : List UInt8) (d : Dv) (ok : Bool), G.le G' ∧ SlB (Go.Proofs.YtcecfhfbcdbofaaGreatDoor.cellR G'.ro) (.slice A n k) bs ∧
      e = .returned (.tuple #[.agg #[.int .i64 ty, .int .i64 fl, .int .i64 sid, .slice A n k, .int .i64 d.1, .int .i64 d.2.1, .int .i64 d.2.2.1, .int .i64 d.2.2.2.1, .int .i64 d.2.2.2.2], .bool ok]) ∧
      (ok = true → FrOk c ty fl sid bs) ∧ StepR c s t tick (if ok then d else (0, (t : Int), 0, 0, 0)) s' ∧ OInv c s' ∧ Sat G' w' (outA o c s' :: l) := by
  refine calls_any fun K hK => ?_
  have S1 := H.newBlk #[.int .i64 0, .int .i64 0, .int .i64 0, .slice none 0 0, .int .i64 0, .int .i64 0, .int .i64 0, .int .i64 0, .int .i64 0] 86
  have HH := Lib.hid (And.intro hw (And.intro hT (And.intro ht (And.intro h0 (And.intro h1 (And.intro htk (And.intro hrl (And.intro hl hfew))))))))
  have hcut := ob_cut S1.swap hw.toOWf t ht
  have hnn : ¬ s.D.getD t [] = [] ∨ s.D.getD t [] = [] := by by_cases h : s.D.getD t [] = []; exact .inr h; exact .inl h
  clear H S1 hw hT ht h0 h1 htk hrl hl hfew
  rcases hnn with hne | hnil
  · obtain ⟨x, X, hx⟩ : ∃ x X, s.D.getD t [] = x :: X := by
      cases h : s.D.getD t [] with
      | nil => exact absurd h hne
      | cons x X => exact ⟨x, X, rfl⟩
    rw [hx] at hcut
    simp only [List.headD_cons, List.isEmpty_cons, Bool.not_false, List.tail_cons] at hcut
    have HX := Lib.hid hx
    clear hx hne
    obtain ⟨xi, hxi⟩ : ∃ xi, xi = x.1 := ⟨_, rfl⟩
    rw [← hxi] at hcut
    have HXI := Lib.hid hxi
    clear hxi
    go_enter Tryz.func31, Tryz.ntmps31
    go_wp2_with fail
    (with_reducible refine hcut.mono ?_)
    rintro e w1 ⟨G1, v, hG1, hv, rfl, S2⟩
    obtain ⟨A, k, rfl, -⟩ := hv.form
    obtain ⟨n, hn⟩ : ∃ n, n = (bigOf (cutN x.2) 4).length := ⟨_, rfl⟩
    rw [← hn] at hv ⊢
    have HV := Lib.hid (And.intro hv hG1)
    clear hcut hv hG1 hn
    have S3 := S2.newBlk #[.int .i64 3, .int .i64 0, .int .i64 xi, .slice A n k, .int .i64 4, .int .i64 t, .int .i64 xi, .int .i64 0, .int .i64 0] 86
    have T : Sat G1 _ (blk w.heap.size #[.int .i64 0, .int .i64 0, .int .i64 0, .slice none 0 0, .int .i64 0, .int .i64 0, .int .i64 0, .int .i64 0, .int .i64 0] 86 :: blk w1.heap.size _ 86 :: outA o c { s with D := s.D.set t X } :: l) := Sat.re S3 [2, 0, 1]
    have d0 := (T).cell 0; have d1 := (T).cell 1; have d2 := (T).cell 2; have d3 := (T).cell 3; have d4 := (T).cell 4; have d5 := (T).cell 5; have d6 := (T).cell 6; have d7 := (T).cell 7; have d8 := (T).cell 8; have f0 := (T).frozen 0; have f1 := (T).frozen 1; have f2 := (T).frozen 2; have f3 := (T).frozen 3; have f4 := (T).frozen 4; have f5 := (T).frozen 5; have f6 := (T).frozen 6; have f7 := (T).frozen 7; have f8 := (T).frozen 8
    have T2 := T.swap
    have i0 := (T2).cell 0; have i1 := (T2).cell 1; have i2 := (T2).cell 2; have i3 := (T2).cell 3; have i4 := (T2).cell 4; have i5 := (T2).cell 5; have i6 := (T2).cell 6; have i7 := (T2).cell 7; have i8 := (T2).cell 8
    have HS := Lib.hid (((((((((T.setCell 0 (.int .i64 3)).setCell 1 (.int .i64 0)).setCell 2 (.int .i64 xi)).setCell 3 (.slice A n k)).setCell 4 (.int .i64 4)).setCell 5 (.int .i64 t)).setCell 6 (.int .i64 xi)).setCell 7 (.int .i64 0)).setCell 8 (.int .i64 0))
    clear S2 S3 T T2
    go_wp2_with fail
    refine bodyPost_ret (results_cell_t rfl _ _ _ _ _ _ rfl HS.out.blk_at Tryz.underlying86 rfl (by kernel_rfl)) rfl ?_
    have hxb := (HH.out.1.dn _ (getD_mem' HX.out)).2 x (by simp)
    have hc0 := HH.out.1.c0
    exact hK.out _ _ ⟨G1, { s with D := s.D.set t X }, 3, 0, xi, A, n, k, _, (4, (t : Int), xi, 0, 0), true, HV.out.2, HV.out.1, rfl, fun _ => ⟨by decide, by decide, by decide, by decide, by rw [HXI.out]; omega, by rw [HXI.out]; omega, by rw [bigOf_length]; omega⟩, .inl ⟨x, X, HX.out, by rw [HXI.out]; rfl, rfl⟩, cut_inv HH.out.1 HX.out, HS.out.drop.drop⟩
  · rw [hnil] at hcut
    simp only [List.headD_nil, List.isEmpty_nil, Bool.not_true, List.tail_nil] at hcut
    rw [set_nil hnil] at hcut
    have HD := Lib.hid hnil
    clear hnil
    go_enter Tryz.func31, Tryz.ntmps31
    go_wp2_with fail
    (with_reducible refine hcut.mono ?_)
    rintro e w1 ⟨G1, v, hG1, hv, rfl, S2⟩
    obtain ⟨A1, k1, rfl, -⟩ := hv.form
    rw [bigOf_length]
    have S3 := S2.newBlk #[.int .i64 3, .int .i64 0, .int .i64 0, .slice A1 4 k1, .int .i64 4, .int .i64 t, .int .i64 0, .int .i64 0, .int .i64 0] 86
    have hgi := ob_give S3.swap HH.out.1.toOWf t HH.out.2.2.1
    have HG1 := Lib.hid hG1
    clear hcut hv hG1 S2 S3
    go_wp2_with fail
    (with_reducible refine hgi.mono ?_)
    rintro e w2 ⟨G2, v, hG2, hv2, rfl, S4⟩
    obtain ⟨A2, k2, rfl, -⟩ := hv2.form
    rw [bigOf_length]
    have S5 := S4.newBlk #[.int .i64 8, .int .i64 0, .int .i64 0, .slice A2 4 k2, .int .i64 5, .int .i64 t, .int .i64 0, .int .i64 0, .int .i64 0] 86
    have hbd := ob_body S5.swap HH.out.1 (HH.out.2.1.mono (HG1.out.trans hG2)) t HH.out.2.2.1
    have HG2 := Lib.hid (HG1.out.trans hG2)
    clear hgi hv2 hG2 S4 S5
    go_wp2_with fail
    (with_reducible refine hbd.mono ?_)
    rintro e w3 ⟨G3, s', hG3, hR, S6⟩
    clear hbd
    rcases hR with ⟨y, hy, hyt, hsn, u, z, hu, hz, rfl, hM, hC, hQ, hL, hrl, hDD, hlast, hinv, hfl⟩ | ⟨hno, rfl, hs'⟩
    · obtain ⟨A3, k3, rfl, -⟩ := hu.form
      obtain ⟨n, hn⟩ : ∃ n, n = (padB (y.bs.take (cellN c y)) z).length := ⟨_, rfl⟩
      rw [← hn] at hu ⊢
      obtain ⟨fv, hfv⟩ : ∃ fv : Int, fv = (if (sentS c y).op then 8 else 9) := ⟨_, rfl⟩
      obtain ⟨kv, hkv⟩ : ∃ kv : Int, kv = (if (sentS c y).op then 2 else 3) := ⟨_, rfl⟩
      obtain ⟨cn, hcn⟩ : ∃ cn, cn = cellN c y := ⟨_, rfl⟩
      obtain ⟨yi, hyi⟩ : ∃ yi, yi = y.id := ⟨_, rfl⟩
      obtain ⟨yn, hyn⟩ : ∃ yn, yn = y.num := ⟨_, rfl⟩
      rw [← hfv, ← hkv, ← hcn, ← hyi, ← hyn]
      have HV := Lib.hid (And.intro hu (And.intro hn (And.intro hz (And.intro hy (And.intro hyt (And.intro hsn hG3))))))
      have HR := Lib.hid (And.intro hM (And.intro hC (And.intro hQ (And.intro hL (And.intro hrl (And.intro hDD (And.intro hlast (And.intro hinv hfl))))))))
      have HE := Lib.hid (And.intro hfv (And.intro hkv (And.intro hcn (And.intro hyi hyn))))
      clear hu hn hz hy hyt hsn hG3 hM hC hQ hL hrl hDD hlast hinv hfl hfv hkv hcn hyi hyn
      have S7 := S6.newBlk #[.int .i64 0, .int .i64 fv, .int .i64 yi, .slice A3 n k3, .int .i64 kv, .int .i64 t, .int .i64 yi, .int .i64 yn, .int .i64 cn] 86
      have T : Sat G3 _ (blk w.heap.size #[.int .i64 0, .int .i64 0, .int .i64 0, .slice none 0 0, .int .i64 0, .int .i64 0, .int .i64 0, .int .i64 0, .int .i64 0] 86 :: blk w3.heap.size _ 86 :: outA o c s' :: blk w2.heap.size _ 86 :: blk w1.heap.size _ 86 :: l) := Sat.re S7 [4, 0, 1, 2, 3]
      have d0 := (T).cell 0; have d1 := (T).cell 1; have d2 := (T).cell 2; have d3 := (T).cell 3; have d4 := (T).cell 4; have d5 := (T).cell 5; have d6 := (T).cell 6; have d7 := (T).cell 7; have d8 := (T).cell 8; have f0 := (T).frozen 0; have f1 := (T).frozen 1; have f2 := (T).frozen 2; have f3 := (T).frozen 3; have f4 := (T).frozen 4; have f5 := (T).frozen 5; have f6 := (T).frozen 6; have f7 := (T).frozen 7; have f8 := (T).frozen 8
      have T2 := T.swap
      have i0 := (T2).cell 0; have i1 := (T2).cell 1; have i2 := (T2).cell 2; have i3 := (T2).cell 3; have i4 := (T2).cell 4; have i5 := (T2).cell 5; have i6 := (T2).cell 6; have i7 := (T2).cell 7; have i8 := (T2).cell 8
      have HS := Lib.hid (((((((((T.setCell 0 (.int .i64 0)).setCell 1 (.int .i64 fv)).setCell 2 (.int .i64 yi)).setCell 3 (.slice A3 n k3)).setCell 4 (.int .i64 kv)).setCell 5 (.int .i64 t)).setCell 6 (.int .i64 yi)).setCell 7 (.int .i64 yn)).setCell 8 (.int .i64 cn))
      clear S6 S7 T T2
      go_wp2_with fail
      refine bodyPost_ret (results_cell_t rfl _ _ _ _ _ _ rfl HS.out.blk_at Tryz.underlying86 rfl (by kernel_rfl)) rfl ?_
      have hid := HH.out.1.mi y HV.out.2.2.2.1
      have hc0 := HH.out.1.c0
      have hcl : cellN c y ≤ y.bs.length := Nat.min_le_right _ _
      refine hK.out _ _ ⟨G3, s', 0, fv, yi, A3, n, k3, _, (kv, (t : Int), yi, yn, (cn : Int)), true, HG2.out.trans HV.out.2.2.2.2.2.2, HV.out.1, rfl, fun _ => ⟨by decide, by decide, ?_, ?_, ?_, ?_, ?_⟩, .inr (.inl ⟨HD.out, y, HV.out.2.2.2.1, HV.out.2.2.2.2.1, HV.out.2.2.2.2.2.1, ?_, HR.out.1, HR.out.2.1, HR.out.2.2.1, HR.out.2.2.2.1, HR.out.2.2.2.2.1, HR.out.2.2.2.2.2.1, HR.out.2.2.2.2.2.2.1, HR.out.2.2.2.2.2.2.2.2⟩), HR.out.2.2.2.2.2.2.2.1, HS.out.drop.drop.drop2.drop2⟩
      · rw [HE.out.1]; split <;> decide
      · rw [HE.out.1]; split <;> decide
      · rw [HE.out.2.2.2.1]; omega
      · rw [HE.out.2.2.2.1]; omega
      · have := HV.out.2.2.1
        rw [padB_length, List.length_take]; omega
      · rw [if_pos rfl, HE.out.2.1, HE.out.2.2.1, HE.out.2.2.2.1, HE.out.2.2.2.2]
    · subst hs'
      have HV := Lib.hid (And.intro hno hG3)
      have S7 := S6.newBlk #[.int .i64 0, .int .i64 0, .int .i64 0, .slice none 0 0, .int .i64 0, .int .i64 0, .int .i64 0, .int .i64 0, .int .i64 0] 86
      have hop := ob_open S7.swap HH.out.1 (HH.out.2.1.mono (HG2.out.trans hG3)) t HH.out.2.2.1 tick HH.out.2.2.2.1 HH.out.2.2.2.2.1 HH.out.2.2.2.2.2.1 HH.out.2.2.2.2.2.2.1 HH.out.2.2.2.2.2.2.2.1 HH.out.2.2.2.2.2.2.2.2
      clear hno hG3 S6 S7
      go_wp2_with fail
      (with_reducible refine hop.mono ?_)
      rintro e w4 ⟨G4, s4, hG4, hR, S8⟩
      clear hop
      rcases hR with ⟨x, X, hxq, hlv, u, p, F', hu, rfl, hs4, hinv⟩ | ⟨hor, rfl, hs4⟩
      · obtain ⟨A3, k3, rfl, -⟩ := hu.form
        obtain ⟨n, hn⟩ : ∃ n, n = x.2.1.length := ⟨_, rfl⟩
        rw [← hn] at hu ⊢
        obtain ⟨fv, hfv⟩ : ∃ fv : Int, fv = (if x.2.2.isEmpty then 5 else 4) := ⟨_, rfl⟩
        obtain ⟨kv, hkv⟩ : ∃ kv : Int, kv = (if x.2.2.isEmpty then 3 else 1) := ⟨_, rfl⟩
        obtain ⟨yi, hyi⟩ : ∃ yi, yi = 2 * tick + 1 := ⟨_, rfl⟩
        obtain ⟨yn, hyn⟩ : ∃ yn, yn = x.1 := ⟨_, rfl⟩
        rw [← hfv, ← hkv, ← hyi, ← hyn]
        have HR := Lib.hid (And.intro hu (And.intro hn (And.intro hxq (And.intro hlv (And.intro hs4 (And.intro hinv hG4))))))
        have HE := Lib.hid (And.intro hfv (And.intro hkv (And.intro hyi hyn)))
        clear hu hn hxq hlv hs4 hinv hG4 hfv hkv hyi hyn
        have T : Sat G4 w4 (blk w.heap.size #[.int .i64 0, .int .i64 0, .int .i64 0, .slice none 0 0, .int .i64 0, .int .i64 0, .int .i64 0, .int .i64 0, .int .i64 0] 86 :: outA o c s4 :: _ :: _ :: _ :: l) := Sat.re S8 [4, 0, 1, 2, 3]
        have d0 := (T).cell 0; have d1 := (T).cell 1; have d2 := (T).cell 2; have d3 := (T).cell 3; have d4 := (T).cell 4; have d5 := (T).cell 5; have d6 := (T).cell 6; have d7 := (T).cell 7; have d8 := (T).cell 8; have f0 := (T).frozen 0; have f1 := (T).frozen 1; have f2 := (T).frozen 2; have f3 := (T).frozen 3; have f4 := (T).frozen 4; have f5 := (T).frozen 5; have f6 := (T).frozen 6; have f7 := (T).frozen 7; have f8 := (T).frozen 8
        have HS := Lib.hid (((((((((T.setCell 0 (.int .i64 1)).setCell 1 (.int .i64 fv)).setCell 2 (.int .i64 yi)).setCell 3 (.slice A3 n k3)).setCell 4 (.int .i64 kv)).setCell 5 (.int .i64 t)).setCell 6 (.int .i64 yi)).setCell 7 (.int .i64 yn)).setCell 8 (.int .i64 0))
        clear S8 T
        go_wp2_with fail
        refine bodyPost_ret (results_cell_t rfl _ _ _ _ _ _ rfl HS.out.blk_at Tryz.underlying86 rfl (by kernel_rfl)) rfl ?_
        have hq := HH.out.1.qh _ (getD_mem' HR.out.2.2.1) x (by simp)
        have h0 := HH.out.2.2.2.1
        have h1 := HH.out.2.2.2.2.1
        refine hK.out _ _ ⟨G4, s4, 1, fv, yi, A3, n, k3, _, (kv, (t : Int), yi, yn, 0), true, (HG2.out.trans HV.out.2).trans HR.out.2.2.2.2.2.2, HR.out.1, rfl, fun _ => ⟨by decide, by decide, ?_, ?_, ?_, ?_, hq⟩, .inr (.inr (.inl ⟨HD.out, HV.out.1, x, X, p, F', HR.out.2.2.1, HR.out.2.2.2.1, ?_, HR.out.2.2.2.2.1⟩)), HR.out.2.2.2.2.2.1, HS.out.drop.drop2.drop2.drop2⟩
        · rw [HE.out.1]; split <;> decide
        · rw [HE.out.1]; split <;> decide
        · rw [HE.out.2.2.1]; omega
        · rw [HE.out.2.2.1]; omega
        · rw [if_pos rfl, HE.out.2.1, HE.out.2.2.1, HE.out.2.2.2]
      · subst hs4
        have HR := Lib.hid (And.intro hor hG4)
        clear hor hG4
        have T : Sat G4 w4 (blk w.heap.size #[.int .i64 0, .int .i64 0, .int .i64 0, .slice none 0 0, .int .i64 0, .int .i64 0, .int .i64 0, .int .i64 0, .int .i64 0] 86 :: outA o c _ :: _ :: _ :: _ :: l) := Sat.re S8 [4, 0, 1, 2, 3]
        have d0 := (T).cell 0; have d1 := (T).cell 1; have d2 := (T).cell 2; have d3 := (T).cell 3; have d4 := (T).cell 4; have d5 := (T).cell 5; have d6 := (T).cell 6; have d7 := (T).cell 7; have d8 := (T).cell 8; have f0 := (T).frozen 0; have f1 := (T).frozen 1; have f2 := (T).frozen 2; have f3 := (T).frozen 3; have f4 := (T).frozen 4; have f5 := (T).frozen 5; have f6 := (T).frozen 6; have f7 := (T).frozen 7; have f8 := (T).frozen 8
        have HS := Lib.hid (((((((((T.setCell 0 (.int .i64 0)).setCell 1 (.int .i64 0)).setCell 2 (.int .i64 0)).setCell 3 (.slice none 0 0)).setCell 4 (.int .i64 0)).setCell 5 (.int .i64 0)).setCell 6 (.int .i64 0)).setCell 7 (.int .i64 0)).setCell 8 (.int .i64 0))
        clear S8 T
        go_wp2_with fail
        refine bodyPost_ret (results_cell_t rfl _ _ _ _ _ _ rfl HS.out.blk_at Tryz.underlying86 rfl (by kernel_rfl)) rfl ?_
        exact hK.out _ _ ⟨G4, _, 0, 0, 0, none, 0, 0, [], (0, 0, 0, 0, 0), false, (HG2.out.trans HV.out.2).trans HR.out.2, SlB.nil _, rfl, (fun h => Bool.noConfusion h), .inr (.inr (.inr ⟨HD.out, HV.out.1, HR.out.1, rfl, rfl⟩)), HH.out.1, HS.out.drop.drop2.drop2.drop2⟩
end
end Go.Proofs.YtcecfhfbcdbofaaGreatDoor
set_option linter.unusedSimpArgs false
set_option linter.unusedVariables false
namespace Go.Proofs.YtcecfhfbcdbofaaGreatDoor
open Go.RowKit
attribute [local go_sem] Oper.semAt_some

def tickOk (k : Int) : Bool := decide (0 ≤ k) && decide (k ≤ 1073741823)
section
variable {w : World}
theorem sl_time (k : Int) : Calls Tryz.prog 46 #[.int .i64 k] w fun e w' => e = .returned (.bool (tickOk k)) ∧ w = w' := by
  refine calls_any fun K hK => ?_
  unfold tickOk at hK
  by_cases h0 : 0 ≤ k
  · by_cases h1 : k ≤ 1073741823
    · go_enter Tryz.func46, Tryz.ntmps46
      go_wp2_with fail
      exact hK.out _ _ ⟨by rw [decide_eq_true h0, decide_eq_true h1]; rfl, rfl⟩
    · go_enter Tryz.func46, Tryz.ntmps46
      go_wp2_with fail
      exact hK.out _ _ ⟨by rw [decide_eq_true h0, show decide (k ≤ 1073741823) = false from decide_eq_false (by omega)]; rfl, rfl⟩
  · go_enter Tryz.func46, Tryz.ntmps46
    go_wp2_with fail
    exact hK.out _ _ ⟨by rw [show decide (0 ≤ k) = false from decide_eq_false (by omega)]; rfl, rfl⟩
theorem sl_some (n : Nat) (h0 : 1 ≤ n) (h1 : n ≤ 64) : Calls Tryz.prog 47 #[.int .i64 n] w fun e w' => e = .returned (.bool true) ∧ w = w' := by
  refine calls_any fun K hK => ?_
  have e0 : (1 : Int) ≤ n := by omega
  have e1 : (n : Int) ≤ 64 := by omega
  go_enter Tryz.func47, Tryz.ntmps47
  go_wp2_with fail
  exact hK.out _ _ ⟨rfl, rfl⟩
theorem sl_owner (k : Int) (n : Nat) (h0 : 1 ≤ n) (h1 : n ≤ 64) : Calls Tryz.prog 30 #[.int .i64 k, .int .i64 n] w fun e w' => e = .returned (.tuple #[.int .i64 (if tickOk k then k % n else 0), .int .i64 (if tickOk k then 0 else 11)]) ∧ w = w' := by
  refine calls_any fun K hK => ?_
  have ht := sl_time (w := w) k
  have hs := sl_some (w := w) n h0 h1
  by_cases h : tickOk k = true
  · rw [h] at ht
    rw [if_pos h, if_pos h] at hK
    have hk : 0 ≤ k := by
      unfold tickOk at h
      simp only [Bool.and_eq_true, decide_eq_true_eq] at h
      exact h.1
    have hm : Int.tmod k n = k % n := Int.tmod_eq_emod_of_nonneg hk
    have hm0 : 0 ≤ k % (n : Int) := Int.emod_nonneg _ (by omega)
    have hm1 : k % (n : Int) < n := Int.emod_lt_of_pos _ (by omega)
    have hn0 : ¬ (n : Int) = 0 := by omega
    generalize k % (n : Int) = r at *
    go_enter Tryz.func30, Tryz.ntmps30
    go_wp2_with fail
    (with_reducible refine ht.mono ?_)
    rintro e w' ⟨rfl, rfl⟩
    go_wp2_with fail
    (with_reducible refine hs.mono ?_)
    rintro e w' ⟨rfl, rfl⟩
    go_wp2_with fail
    exact hK.out _ _ ⟨rfl, rfl⟩
  · rw [Bool.eq_false_iff.2 h] at ht
    rw [if_neg h, if_neg h] at hK
    go_enter Tryz.func30, Tryz.ntmps30
    go_wp2_with fail
    (with_reducible refine ht.mono ?_)
    rintro e w' ⟨rfl, rfl⟩
    go_wp2_with fail
    exact hK.out _ _ ⟨rfl, rfl⟩
end
end Go.Proofs.YtcecfhfbcdbofaaGreatDoor
set_option linter.unusedSimpArgs false
set_option linter.unusedVariables false
namespace Go.Proofs.YtcecfhfbcdbofaaGreatDoor
open Go.RowKit
attribute [local go_sem] Oper.semAt_some

theorem results_tct {P : Program} {fn : Func} {p1 p2 p3 : Tmp} {y1 : TypeId} (h : fn.results = #[.tmp p2, .cell p1 y1, .tmp p3]) (tmps : Array Value) (w : World) (g1 : Nat) (t1 : TypeId) (c1 : Array Value) (d1 : TypeDesc)
    (hp1 : tmps.getD p1 undef = .pointer (some ⟨g1, 0, none⟩)) (hg1 : w.heap[g1]? = some (.cells c1 t1 (0, 0))) (hu1 : P.underlying y1 = some d1) (hd1 : (match d1 with | .struct _ | .array _ _ => true | _ => false) = true) (hi1 : (P.info? y1).map (·.size) = some c1.size) :
    (results fn tmps).run P w = .ok (.tuple #[tmps.getD p2 undef, .agg c1, tmps.getD p3 undef]) w := by
  have h1 : tmps[p1]?.getD undef = .pointer (some ⟨g1, 0, none⟩) := by simpa using hp1
  simp [results, h, h1, asAddr, run_loadVar_row w g1 t1 y1 c1 (0, 0) d1 hg1 hu1 hd1 hi1]
theorem last_inv {c : Oc} {s : Os} (hw : OInv c s) {tick : Int} (h : s.last < tick) : OInv c { s with last := tick } :=
  { hw with
    rll := by have := hw.rll; show s.rl < 2 * tick + 3; omega
    l0 := by have := hw.l0; show -1 ≤ tick; omega }
/-- What a slot answers. -/
def SlotR (c : Oc) (s : Os) (tick : Int) (G' : Gnd) (e : Ending) (s' : Os) : Prop :=
  (tickOk tick = false ∧ e = .returned (.tuple #[.slice none 0 0, .agg #[.int .i64 0, .int .i64 0, .int .i64 0, .int .i64 0, .int .i64 0], .int .i64 11]) ∧ s' = s) ∨
  (tickOk tick = true ∧ tick ≤ s.last ∧ e = .returned (.tuple #[.slice none 0 0, .agg #[.int .i64 0, .int .i64 0, .int .i64 0, .int .i64 0, .int .i64 0], .int .i64 25]) ∧ s' = s) ∨
  (tickOk tick = true ∧ s.last < tick ∧ ∃ (t : Nat) (d : Dv) (u : Value) (bs : List UInt8), tick % (c.ten : Int) = t ∧ t < c.ten ∧ SlB (Go.Proofs.YtcecfhfbcdbofaaGreatDoor.cellR G'.ro) u bs ∧ (bs.length : Int) = c.cell + 18 ∧
    e = .returned (.tuple #[u, .agg #[.int .i64 d.1, .int .i64 d.2.1, .int .i64 d.2.2.1, .int .i64 d.2.2.2.1, .int .i64 d.2.2.2.2], .int .i64 0]) ∧ StepR c { s with last := tick } t tick d s')
section
variable {G : Gnd} {w w' : World} {l : List Asrt} {o : Nat} {c : Oc} {s : Os}
set_option maxHeartbeats 8000000 in
set_option maxRecDepth 100000 in
theorem ob_slot (H : Sat G w (outA o c s :: l)) (hw : OInv c s) (hT : TabG G) (tick : Int) (hfew : s.F.length < 10000) :
    Calls Tryz.prog 13 #[.pointer (some ⟨o, 0, none⟩), .int .i64 tick] w fun e w' => ∃ G' s', G.le G' ∧ SlotR c s tick G' e s' ∧ OInv c s' ∧ Sat G' w' (outA o c s' :: l) := by
  refine calls_any fun K hK => ?_
  have HH := Lib.hid (And.intro hw (And.intro hT hfew))
  have S1 := H.newBlk #[.int .i64 0, .int .i64 0, .int .i64 0, .int .i64 0, .int .i64 0] 45
  obtain ⟨a, SA⟩ := out_iff.1 S1.swap
  have k0 := SA.cell 0
  have kl := SA.cell 13
  change _ = some (Value.int .i64 c.ten) at k0
  change _ = some (Value.int .i64 s.last) at kl
  have how := sl_owner (w := w.alloc (.cells #[.int .i64 0, .int .i64 0, .int .i64 0, .int .i64 0, .int .i64 0] 45)) tick c.ten hw.t0 hw.t1
  have HS1 := Lib.hid S1
  have HSA := Lib.hid SA
  clear H hw hT hfew SA S1
  by_cases htk : tickOk tick = true
  rotate_left
  · rw [if_neg htk, if_neg htk] at how
    have HTK := Lib.hid (Bool.eq_false_iff.2 htk)
    clear htk
    go_enter Tryz.func13, Tryz.ntmps13
    go_wp2_with fail
    (with_reducible refine how.mono ?_)
    rintro e w1 ⟨rfl, rfl⟩
    go_wp2_with fail
    refine bodyPost_ret (results_tct rfl _ _ _ _ _ _ rfl HS1.out.blk_at Tryz.underlying45 rfl (by kernel_rfl)) rfl ?_
    exact hK.out _ _ ⟨G, s, Gnd.le.rfl', .inl ⟨HTK.out, rfl, rfl⟩, HH.out.1, HS1.out.drop⟩
  rw [if_pos htk, if_pos htk] at how
  have HTK := Lib.hid htk
  obtain ⟨t, ht⟩ : ∃ t : Nat, tick % (c.ten : Int) = t := ⟨(tick % (c.ten : Int)).toNat, by have := Int.emod_nonneg tick (b := (c.ten : Int)) (by have := HH.out.1.t0; omega); omega⟩
  rw [ht] at how
  have htt : t < c.ten := by have := Int.emod_lt_of_pos tick (b := (c.ten : Int)) (by have := HH.out.1.t0; omega); omega
  have HT := Lib.hid (And.intro ht htt)
  clear htk ht htt
  rcases Int.lt_or_le s.last tick with hlt | hle
  rotate_left
  · go_enter Tryz.func13, Tryz.ntmps13
    go_wp2_with fail
    (with_reducible refine how.mono ?_)
    rintro e w1 ⟨rfl, rfl⟩
    go_wp2_with fail
    refine bodyPost_ret (results_tct rfl _ _ _ _ _ _ rfl HS1.out.blk_at Tryz.underlying45 rfl (by kernel_rfl)) rfl ?_
    exact hK.out _ _ ⟨G, s, Gnd.le.rfl', .inr (.inl ⟨HTK.out, hle, rfl, rfl⟩), HH.out.1, HS1.out.drop⟩
  have fl := HSA.out.frozen 13
  go_enter Tryz.func13, Tryz.ntmps13
  go_wp2_with fail
  (with_reducible refine how.mono ?_)
  rintro e w1 ⟨rfl, rfl⟩
  clear how
  go_upto_region 8 with (fail)
  have hb := HTK.out
  unfold tickOk at hb
  simp only [Bool.and_eq_true, decide_eq_true_eq] at hb
  have S6 : Sat G _ (outA o c { s with last := tick } :: blk w.heap.size #[.int .i64 0, .int .i64 0, .int .i64 0, .int .i64 0, .int .i64 0] 45 :: l) := out_iff.2 ⟨a, HSA.out.setCell 13 (.int .i64 tick)⟩
  generalize w.heap.size = r at *
  refine wp_world S6 fun W S7 => ?_
  have hpk := ob_pick S7 (last_inv HH.out.1 hlt) HH.out.2.1 t HT.out.2 tick hb.1 hb.2 HT.out.1 (by have := HH.out.1.rll; show s.rl < 2 * tick + 1; omega) (Int.le_refl _) HH.out.2.2
  have HLT := Lib.hid hlt
  clear S6 S7 HSA HS1 k0 kl hlt hb fl
  go_wp2_with fail
  (with_reducible refine hpk.mono ?_)
  rintro e w1 ⟨G1, s2, ty, fl, sid, A, n, k, bs, d, ok, hG1, hv, rfl, hfr, hst, hinv2, S8⟩
  clear hpk
  obtain ⟨d1, d2, d3, d4, d5⟩ := d
  simp only
  cases ok with
  | true =>
    have S9 := S8.newBlk #[.int .i64 ty, .int .i64 fl, .int .i64 sid, .slice A n k, .int .i64 d1, .int .i64 d2, .int .i64 d3, .int .i64 d4, .int .i64 d5] 86
    have HV := Lib.hid (And.intro hG1 (And.intro hv (And.intro (hfr rfl) (And.intro hst hinv2))))
    clear S8 hG1 hv hfr hst hinv2
    go_upto_region 10 with (fail)
    generalize w1.heap.size = q at *
    refine wp_world S9 fun W2 S10 => ?_
    clear S9
    have i0 := S10.cell 0
    have i1 := S10.cell 1
    have i2 := S10.cell 2
    have i3 := S10.cell 3
    have S11 := (S10.newBlk #[.int .i64 ty, .int .i64 fl, .int .i64 sid, .slice A n k] 84).ownNil 84 4
    have SA := S11
    go_wp2_with (at_builtin; refine st_append rfl _ _ 82 rfl 84 (.agg #[.int .i64 0, .int .i64 0, .int .i64 0, .slice none 0 0]) 4 48 Tryz.underlying82 info_fr rfl (by omega) _ 0 [] rfl S11 ⟨W2.heap.size, 0, none⟩ 1 1 [.int .i64 ty, .int .i64 fl, .int .i64 sid, .slice A n k] rfl rfl (alloc_cells _ _ #[.int .i64 ty, .int .i64 fl, .int .i64 sid, .slice A n k] _ (by simp)) rfl (by decide) (by decide) ?_; intro v' w' S'; obtain ⟨a2, SA2⟩ := out_iff.1 (Sat.re S' [3, 0, 1, 2, 4]); have k1 := SA2.cell 1; change _ = some (Value.int .i64 c.cell) at k1)
    obtain ⟨G2, hG2, S12', A', c', rfl, -, -, hx⟩ := S'.ownFreeze
    have hrf : RFrs G2.ro (.slice A' 1 c') [⟨ty, fl, sid, .slice A n k, bs⟩] := by
      refine ⟨A', c', rfl, show 1 ≤ 140737488351232 by decide, fun i d hd => ?_⟩
      cases i with
      | zero =>
        obtain rfl : (⟨ty, fl, sid, .slice A n k, bs⟩ : FrD) = d := Option.some.inj hd
        obtain ⟨g, rfl, e0⟩ := hx 0 _ rfl
        obtain ⟨g1, hg1, e1⟩ := hx 1 _ rfl
        obtain ⟨g2, hg2, e2⟩ := hx 2 _ rfl
        obtain ⟨g3, hg3, e3⟩ := hx 3 _ rfl
        cases hg1; cases hg2; cases hg3
        have hb := HV.out.2.2.1.n
        have hc := HH.out.1.c1
        exact ⟨_, g, 0, rfl, rfl, e0, e1, e2, e3, HV.out.2.1.mono hG2, show bs.length ≤ _ by omega⟩
      | succ i => cases hd
    have hfl : flat [(⟨ty, fl, sid, .slice A n k, bs⟩ : FrD)] = FrD.bytes ⟨ty, fl, sid, .slice A n k, bs⟩ := by simp [flat]
    have HLEN : Hid (((flat [(⟨ty, fl, sid, .slice A n k, bs⟩ : FrD)]).length : Int) ≤ c.cell + 9) := Lib.hid (by
      have hb := HV.out.2.2.1.n
      rw [hfl, bytes_len]
      show ((9 + bs.length : Nat) : Int) ≤ _
      omega)
    have HALL : Hid (AllR [(⟨ty, fl, sid, .slice A n k, bs⟩ : FrD)]) := Lib.hid fun d hd => by
      obtain rfl := List.mem_singleton.1 hd
      have hf := HV.out.2.2.1
      have hb := hf.n
      have hc := HH.out.1.c1
      exact decide_eq_true ⟨hf.t0, hf.t1, hf.f0, hf.f1, hf.s0, hf.s1, show (bs.length : Int) ≤ _ by omega⟩
    have HG2 := Lib.hid hG2
    have S12 := S12'.drop
    have hcf := cell_frames S12 _ _ c.cell hrf (by have := HLEN.out; have := HH.out.1.c1; omega)
    clear S' S12' SA2 S11 SA hG2 hx hrf hfl i0 i1 i2 i3 S10
    clear S12
    go_wp2_with fail
    (with_reducible refine hcf.mono ?_)
    rintro e w5 ⟨G5, hG5, S13, hres⟩
    clear hcf k1
    rcases hres with ⟨hna, -⟩ | ⟨-, hfill⟩
    · exact absurd HALL.out hna
    rcases hfill with ⟨hcr, -⟩ | ⟨-, hbig, -⟩ | ⟨-, z, hz, u, rfl, hu⟩
    · have h0 := HH.out.1.c0
      have h1 := HH.out.1.c1
      exact absurd hcr (by rw [show clRight c.cell = true from decide_eq_true ⟨by omega, by omega⟩]; decide)
    · have := HLEN.out; omega
    have HU := Lib.hid (And.intro hu (And.intro hz hG5))
    clear hu hz hG5
    go_upto_region 13 with (fail)
    have T1 : Sat G5 w5 (blk r #[.int .i64 0, .int .i64 0, .int .i64 0, .int .i64 0, .int .i64 0] 45 :: blk q #[.int .i64 ty, .int .i64 fl, .int .i64 sid, .slice A n k, .int .i64 d1, .int .i64 d2, .int .i64 d3, .int .i64 d4, .int .i64 d5] 86 :: outA o c s2 :: l) := S13.re [2, 0, 1]
    clear S13
    refine wp_act fun a0 ha0 => ?_
    have HSZ : a0.tmps.size = 70 := by rw [ha0]; rfl
    have E12 : a0.eval (.tmp 12) = u := by rw [ha0]; rfl
    have E10 : a0.eval (.tmp 10) = .pointer (some ⟨q, 0, none⟩) := by rw [ha0]; rfl
    have E8 : a0.eval (.tmp 8) = .int .i64 0 := by rw [ha0]; rfl
    have E5 : a0.eval (.tmp 5) = .pointer (some ⟨r, 0, none⟩) := by rw [ha0]; rfl
    refine wp_region_sat (by kernel_rfl) 7 (by kernel_rfl) [[], [], [1], [], [0, 0], [2, 4, 0, 1, 2, 4], [3, 5, 0, 1, 2, 3, 4, 5]] (by kernel_rfl) (by kernel_rfl) [(0, 66, u), (1, 67, .pointer (some ⟨q, 4, none⟩)), (2, 68, .agg #[.int .i64 d1, .int .i64 d2, .int .i64 d3, .int .i64 d4, .int .i64 d5]), (3, 69, .int .i64 0), (4, 4, u), (6, 6, .int .i64 0)] (fun f => blk r (cond (f 5) #[.int .i64 d1, .int .i64 d2, .int .i64 d3, .int .i64 d4, .int .i64 d5] #[.int .i64 0, .int .i64 0, .int .i64 0, .int .i64 0, .int .i64 0]) 45 :: blk q #[.int .i64 ty, .int .i64 fl, .int .i64 sid, .slice A n k, .int .i64 d1, .int .i64 d2, .int .i64 d3, .int .i64 d4, .int .i64 d5] 86 :: outA o c s2 :: l) (by kernel_rfl) T1 ?_ ?_
    · refine ⟨?_, ?_, ?_, ?_, ?_, ?_, ?_, trivial⟩
      · intro f W h0 hd S
        refine wpOp_run (v := u) rfl rfl (fun ρ hρ => ?_) ⟨(acts_some 0 rfl (by kernel_rfl) (by kernel_rfl)).symm, S⟩
        have e0 : ρ (.tmp 12) = u := by rw [hρ]; exact (acts_eval_tmp 12 (by kernel_rfl)).trans E12
        clear hρ
        go_simp
      · intro f W h1 hd S
        refine wpOp_run (v := .pointer (some ⟨q, 4, none⟩)) rfl rfl (fun ρ hρ => ?_) ⟨(acts_some 1 rfl (by kernel_rfl) (by kernel_rfl)).symm, S⟩
        have e0 : ρ (.tmp 10) = .pointer (some ⟨q, 0, none⟩) := by rw [hρ]; exact (acts_eval_tmp 10 (by kernel_rfl)).trans E10
        clear hρ
        go_simp
      · intro f W h2 hd S
        refine wpOp_run (v := .agg #[.int .i64 d1, .int .i64 d2, .int .i64 d3, .int .i64 d4, .int .i64 d5]) rfl rfl (fun ρ hρ => ?_) ⟨(acts_some 2 rfl (by kernel_rfl) (by kernel_rfl)).symm, S⟩
        have e0 : ρ (.tmp 67) = .pointer (some ⟨q, 4, none⟩) := by rw [hρ]; exact acts_eval_hit 1 rfl hd.1 (by rw [HSZ]; rfl) (by kernel_rfl)
        clear hρ
        (have z4 := S.swap.cell 4; have z5 := S.swap.cell 5; have z6 := S.swap.cell 6; have z7 := S.swap.cell 7; have z8 := S.swap.cell 8)
        go_simp
      · intro f W h3 hd S
        refine wpOp_run (v := .int .i64 0) rfl rfl (fun ρ hρ => ?_) ⟨(acts_some 3 rfl (by kernel_rfl) (by kernel_rfl)).symm, S⟩
        have e0 : ρ (.tmp 8) = .int .i64 0 := by rw [hρ]; exact (acts_eval_tmp 8 (by kernel_rfl)).trans E8
        clear hρ
        go_simp
      · intro f W h4 hd S
        refine wpOp_run (v := u) rfl rfl (fun ρ hρ => ?_) ⟨(acts_some 4 rfl (by kernel_rfl) (by kernel_rfl)).symm, S⟩
        have e0 : ρ (.tmp 66) = u := by rw [hρ]; exact acts_eval_hit 0 rfl hd.1 (by rw [HSZ]; rfl) (by kernel_rfl)
        clear hρ
        go_simp
      · intro f W h5 hd S
        rw [h5] at S
        refine wpOp_list rfl ?_
        refine st_store rfl _ _ _ rfl _ _ ((acts_eval_tmp 5 (by kernel_rfl)).trans E5) (acts_eval_hit 2 rfl hd.1 (by rw [HSZ]; rfl) (by kernel_rfl)) _ _ (S) rfl rfl (by simp [Value.oneCell']) fun W' S' => ?_
        exact ⟨(acts_none 5 (by kernel_rfl)).symm, S'⟩
      · intro f W h6 hd S
        refine wpOp_run (v := .int .i64 0) rfl rfl (fun ρ hρ => ?_) ⟨(acts_some 5 rfl (by kernel_rfl) (by kernel_rfl)).symm, S⟩
        have e0 : ρ (.tmp 69) = .int .i64 0 := by rw [hρ]; exact acts_eval_hit 3 rfl hd.1 (by rw [HSZ]; rfl) (by kernel_rfl)
        clear hρ
        go_simp
    intro W9 T2
    subst ha0
    simp only [acts, if_true, Act.put, List.setIfInBounds_toArray, List.set_cons_succ, List.set_cons_zero]
    change Sat _ _ (blk r #[.int .i64 d1, .int .i64 d2, .int .i64 d3, .int .i64 d4, .int .i64 d5] _ :: _) at T2
    have HT2 := Lib.hid T2
    clear T2 T1 HSZ E5 E8 E10 E12
    go_wp2_with fail
    refine bodyPost_ret (results_tct rfl _ _ _ _ _ _ rfl HT2.out.blk_at Tryz.underlying45 rfl (by kernel_rfl)) rfl ?_
    refine hK.out _ _ ⟨G5, s2, (HV.out.1.trans HG2.out).trans HU.out.2.2, .inr (.inr ⟨HTK.out, HLT.out, t, (d1, d2, d3, d4, d5), u, _, HT.out.1, HT.out.2, HU.out.1, ?_, rfl, HV.out.2.2.2.1⟩), HV.out.2.2.2.2, HT2.out.drop.drop⟩
    rw [fillB_length]
    have := HU.out.2.1
    omega
  | false =>
    have S9 := S8.newBlk #[.int .i64 ty, .int .i64 fl, .int .i64 sid, .slice A n k, .int .i64 0, .int .i64 t, .int .i64 0, .int .i64 0, .int .i64 0] 86
    have HV := Lib.hid (And.intro hG1 (And.intro hv (And.intro hv (And.intro hst hinv2))))
    clear S8 hG1 hv hfr hst hinv2
    go_upto_region 12 with (fail)
    generalize w1.heap.size = q at *
    refine wp_world S9 fun W2 S12 => ?_
    clear S9
    obtain ⟨a2, SA2⟩ := out_iff.1 S12.swap
    have k1 := SA2.cell 1
    change _ = some (Value.int .i64 c.cell) at k1
    have HLEN : Hid (((flat []).length : Int) ≤ c.cell + 9) := Lib.hid (by have := HH.out.1.c0; show (0 : Int) ≤ _; omega)
    have HALL : Hid (AllR []) := Lib.hid fun d hd => by cases hd
    have hcf := cell_frames S12 (.slice none 0 0) [] c.cell ⟨none, 0, rfl, Nat.zero_le _, fun i d hd => by simp at hd⟩ (by simp [flat])
    clear SA2
    clear S12
    go_wp2_with fail
    (with_reducible refine hcf.mono ?_)
    rintro e w5 ⟨G5, hG5, S13, hres⟩
    clear hcf k1
    rcases hres with ⟨hna, -⟩ | ⟨-, hfill⟩
    · exact absurd HALL.out hna
    rcases hfill with ⟨hcr, -⟩ | ⟨-, hbig, -⟩ | ⟨-, z, hz, u, rfl, hu⟩
    · have h0 := HH.out.1.c0
      have h1 := HH.out.1.c1
      exact absurd hcr (by rw [show clRight c.cell = true from decide_eq_true ⟨by omega, by omega⟩]; decide)
    · have := HLEN.out; omega
    have HU := Lib.hid (And.intro hu (And.intro hz hG5))
    clear hu hz hG5
    go_upto_region 13 with (fail)
    have T1 : Sat G5 w5 (blk r #[.int .i64 0, .int .i64 0, .int .i64 0, .int .i64 0, .int .i64 0] 45 :: blk q #[.int .i64 ty, .int .i64 fl, .int .i64 sid, .slice A n k, .int .i64 0, .int .i64 t, .int .i64 0, .int .i64 0, .int .i64 0] 86 :: outA o c s2 :: l) := S13.re [2, 0, 1]
    clear S13
    refine wp_act fun a0 ha0 => ?_
    have HSZ : a0.tmps.size = 70 := by rw [ha0]; rfl
    have E12 : a0.eval (.tmp 12) = u := by rw [ha0]; rfl
    have E10 : a0.eval (.tmp 10) = .pointer (some ⟨q, 0, none⟩) := by rw [ha0]; rfl
    have E8 : a0.eval (.tmp 8) = .int .i64 0 := by rw [ha0]; rfl
    have E5 : a0.eval (.tmp 5) = .pointer (some ⟨r, 0, none⟩) := by rw [ha0]; rfl
    refine wp_region_sat (by kernel_rfl) 7 (by kernel_rfl) [[], [], [1], [], [0, 0], [2, 4, 0, 1, 2, 4], [3, 5, 0, 1, 2, 3, 4, 5]] (by kernel_rfl) (by kernel_rfl) [(0, 66, u), (1, 67, .pointer (some ⟨q, 4, none⟩)), (2, 68, .agg #[.int .i64 0, .int .i64 t, .int .i64 0, .int .i64 0, .int .i64 0]), (3, 69, .int .i64 0), (4, 4, u), (6, 6, .int .i64 0)] (fun f => blk r (cond (f 5) #[.int .i64 0, .int .i64 t, .int .i64 0, .int .i64 0, .int .i64 0] #[.int .i64 0, .int .i64 0, .int .i64 0, .int .i64 0, .int .i64 0]) 45 :: blk q #[.int .i64 ty, .int .i64 fl, .int .i64 sid, .slice A n k, .int .i64 0, .int .i64 t, .int .i64 0, .int .i64 0, .int .i64 0] 86 :: outA o c s2 :: l) (by kernel_rfl) T1 ?_ ?_
    · refine ⟨?_, ?_, ?_, ?_, ?_, ?_, ?_, trivial⟩
      · intro f W h0 hd S
        refine wpOp_run (v := u) rfl rfl (fun ρ hρ => ?_) ⟨(acts_some 0 rfl (by kernel_rfl) (by kernel_rfl)).symm, S⟩
        have e0 : ρ (.tmp 12) = u := by rw [hρ]; exact (acts_eval_tmp 12 (by kernel_rfl)).trans E12
        clear hρ
        go_simp
      · intro f W h1 hd S
        refine wpOp_run (v := .pointer (some ⟨q, 4, none⟩)) rfl rfl (fun ρ hρ => ?_) ⟨(acts_some 1 rfl (by kernel_rfl) (by kernel_rfl)).symm, S⟩
        have e0 : ρ (.tmp 10) = .pointer (some ⟨q, 0, none⟩) := by rw [hρ]; exact (acts_eval_tmp 10 (by kernel_rfl)).trans E10
        clear hρ
        go_simp
      · intro f W h2 hd S
        refine wpOp_run (v := .agg #[.int .i64 0, .int .i64 t, .int .i64 0, .int .i64 0, .int .i64 0]) rfl rfl (fun ρ hρ => ?_) ⟨(acts_some 2 rfl (by kernel_rfl) (by kernel_rfl)).symm, S⟩
        have e0 : ρ (.tmp 67) = .pointer (some ⟨q, 4, none⟩) := by rw [hρ]; exact acts_eval_hit 1 rfl hd.1 (by rw [HSZ]; rfl) (by kernel_rfl)
        clear hρ
        (have z4 := S.swap.cell 4; have z5 := S.swap.cell 5; have z6 := S.swap.cell 6; have z7 := S.swap.cell 7; have z8 := S.swap.cell 8)
        go_simp
      · intro f W h3 hd S
        refine wpOp_run (v := .int .i64 0) rfl rfl (fun ρ hρ => ?_) ⟨(acts_some 3 rfl (by kernel_rfl) (by kernel_rfl)).symm, S⟩
        have e0 : ρ (.tmp 8) = .int .i64 0 := by rw [hρ]; exact (acts_eval_tmp 8 (by kernel_rfl)).trans E8
        clear hρ
        go_simp
      · intro f W h4 hd S
        refine wpOp_run (v := u) rfl rfl (fun ρ hρ => ?_) ⟨(acts_some 4 rfl (by kernel_rfl) (by kernel_rfl)).symm, S⟩
        have e0 : ρ (.tmp 66) = u := by rw [hρ]; exact acts_eval_hit 0 rfl hd.1 (by rw [HSZ]; rfl) (by kernel_rfl)
        clear hρ
        go_simp
      · intro f W h5 hd S
        rw [h5] at S
        refine wpOp_list rfl ?_
        refine st_store rfl _ _ _ rfl _ _ ((acts_eval_tmp 5 (by kernel_rfl)).trans E5) (acts_eval_hit 2 rfl hd.1 (by rw [HSZ]; rfl) (by kernel_rfl)) _ _ (S) rfl rfl (by simp [Value.oneCell']) fun W' S' => ?_
        exact ⟨(acts_none 5 (by kernel_rfl)).symm, S'⟩
      · intro f W h6 hd S
        refine wpOp_run (v := .int .i64 0) rfl rfl (fun ρ hρ => ?_) ⟨(acts_some 5 rfl (by kernel_rfl) (by kernel_rfl)).symm, S⟩
        have e0 : ρ (.tmp 69) = .int .i64 0 := by rw [hρ]; exact acts_eval_hit 3 rfl hd.1 (by rw [HSZ]; rfl) (by kernel_rfl)
        clear hρ
        go_simp
    intro W9 T2
    subst ha0
    simp only [acts, if_true, Act.put, List.setIfInBounds_toArray, List.set_cons_succ, List.set_cons_zero]
    change Sat _ _ (blk r #[.int .i64 0, .int .i64 t, .int .i64 0, .int .i64 0, .int .i64 0] _ :: _) at T2
    have HT2 := Lib.hid T2
    clear T2 T1 HSZ E5 E8 E10 E12
    go_wp2_with fail
    refine bodyPost_ret (results_tct rfl _ _ _ _ _ _ rfl HT2.out.blk_at Tryz.underlying45 rfl (by kernel_rfl)) rfl ?_
    refine hK.out _ _ ⟨G5, s2, HV.out.1.trans HU.out.2.2, .inr (.inr ⟨HTK.out, HLT.out, t, (0, (t : Int), 0, 0, 0), u, _, HT.out.1, HT.out.2, HU.out.1, ?_, rfl, HV.out.2.2.2.1⟩), HV.out.2.2.2.2, HT2.out.drop.drop⟩
    rw [fillB_length]
    have := HU.out.2.1
    omega
end
end Go.Proofs.YtcecfhfbcdbofaaGreatDoor
set_option linter.unusedSimpArgs false
set_option linter.unusedVariables false
namespace Go.Proofs.YtcecfhfbcdbofaaGreatDoor
open Go.RowKit
attribute [local go_sem] Oper.semAt_some

def mayB (t z b i q : Int) : Bool := decide (1 ≤ t ∧ t ≤ 64 ∧ 0 ≤ b ∧ b ≤ 1048576 ∧ 1 ≤ i ∧ i ≤ 4096 ∧ 1 ≤ q ∧ q ≤ 65536 ∧ 16 ≤ z ∧ z ≤ 256)
def newO (t : Nat) : Os := ⟨List.replicate t [], [], List.replicate t 0, 0, parts 65535 t, [], List.replicate t [], -1⟩
section
variable {G : Gnd} {w w' : World} {l : List Asrt}
theorem cns_nil (m : Nat) (H : Sat G w l) : Sat G w ((List.replicate m (⟨.slice none 0 0, []⟩ : Cn)).map cnA ++ l) := by
  induction m with
  | zero => exact H
  | succ m ih =>
    rw [List.replicate_succ, List.map_cons, List.cons_append]
    exact ih.ownNil 100 2
theorem str_nil (H : Sat G w l) : Sat G w (strA [] :: l) := by
  unfold strA
  exact Sat.star_iff.2 H
theorem cst_eq (t : Nat) : encs cenc (List.replicate t ⟨.slice none 0 0, []⟩) = List.replicate t (.slice none 0 0) := by
  unfold encs
  induction t with
  | zero => rfl
  | succ t ih => rw [List.replicate_succ, List.replicate_succ, List.flatMap_cons, ih]; rfl
theorem mk_cuts {g t : Nat} {MC : Array Value} (hMC : MC.toList = List.replicate t (.slice none 0 0)) (ht : t ≤ 64) (H : Sat G w (blk g MC 98 :: l)) : Sat G w (ctA (.slice (some ⟨g, 0, none⟩) t t) (List.replicate t []) :: l) := by
  have hs : MC.size = t * 1 := by rw [← Array.length_toList, hMC, List.length_replicate, Nat.mul_one]
  have S := Sat.ownBlk (size := 1) H t hs (Nat.le_trans ht (by decide))
  refine ct_iff.2 ⟨List.replicate t ⟨.slice none 0 0, []⟩, by simp, ?_⟩
  rw [List.length_replicate, show encs cenc (List.replicate t ⟨.slice none 0 0, []⟩) = MC.toList by rw [hMC]; exact cst_eq t]
  have S1 := Sat.perm (cns_nil t S) (l' := ownS 98 1 (.slice (some ⟨g, 0, none⟩) t t) t MC.toList :: ((List.replicate t (⟨.slice none 0 0, []⟩ : Cn)).map cnA ++ l)) List.perm_middle
  exact S1
theorem mk_gifts {g t : Nat} {MC : Array Value} (hMC : MC.toList = List.replicate t (.slice none 0 0)) (ht : t ≤ 64) (H : Sat G w (blk g MC 98 :: l)) : Sat G w (ownS 98 1 (.slice (some ⟨g, 0, none⟩) t t) t (noG t) :: l) := by
  have hs : MC.size = t * 1 := by rw [← Array.length_toList, hMC, List.length_replicate, Nat.mul_one]
  have S := Sat.ownBlk (size := 1) H t hs (Nat.le_trans ht (by decide))
  rw [hMC] at S
  exact S
theorem qu_newW (H : Sat G w l) (t b i : Int) : Calls Tryz.prog 25 #[.int .i64 t, .int .i64 b, .int .i64 i] w fun e w' => ∃ A, e = .returned (.tuple #[.pointer A, .int .i64 (if qRight t b i then 0 else 11)]) ∧ Sat G w' l := by
  cases h : qRight t b i with
  | false =>
    refine (qu_new_not t b i h w).mono ?_
    rintro e w' ⟨rfl, rfl⟩
    exact ⟨_, rfl, H⟩
  | true =>
    have h1 := of_decide_eq_true h
    obtain ⟨n, rfl⟩ := Int.eq_ofNat_of_zero_le (show 0 ≤ t by omega)
    refine (qu_new H n b i h).mono ?_
    rintro e w' ⟨p, rfl, S⟩
    exact ⟨_, rfl, S.drop⟩
theorem rg_newW (H : Sat G w l) (t q : Int) : Calls Tryz.prog 26 #[.int .i64 t, .int .i64 q] w fun e w' => ∃ A, e = .returned (.tuple #[.pointer A, .int .i64 (if rRight t q then 0 else 11)]) ∧ Sat G w' l := by
  cases h : rRight t q with
  | false =>
    refine (rg_new_not t q h w).mono ?_
    rintro e w' ⟨rfl, rfl⟩
    exact ⟨_, rfl, H⟩
  | true =>
    have h1 := of_decide_eq_true h
    obtain ⟨n, rfl⟩ := Int.eq_ofNat_of_zero_le (show 0 ≤ t by omega)
    refine (rg_new H n q h).mono ?_
    rintro e w' ⟨p, rfl, S⟩
    exact ⟨_, rfl, S.drop⟩
def tRight (t : Int) : Bool := decide (1 ≤ t ∧ t ≤ 64)
theorem cr_newW (H : Sat G w l) (t : Int) : Calls Tryz.prog 27 #[.int .i64 t] w fun e w' => ∃ A, e = .returned (.tuple #[.pointer A, .int .i64 (if tRight t then 0 else 11)]) ∧ Sat G w' l := by
  cases h : tRight t with
  | false =>
    have h1 := of_decide_eq_false h
    refine (cr_new_not t w (by omega)).mono ?_
    rintro e w' ⟨rfl, rfl⟩
    exact ⟨_, rfl, H⟩
  | true =>
    have h1 := of_decide_eq_true h
    obtain ⟨n, rfl⟩ := Int.eq_ofNat_of_zero_le (show 0 ≤ t by omega)
    refine (cr_new H n (by omega) (by omega)).mono ?_
    rintro e w' ⟨p, rfl, S⟩
    exact ⟨_, rfl, S.drop⟩
theorem eq_arr3n (t f s t' f' s' : Int) (w : World) : (Op.equalIn 10000 73 (.agg #[.int .i64 t, .int .i64 f, .int .i64 s]) (.agg #[.int .i64 t', .int .i64 f', .int .i64 s'])).run Tryz.prog w = .ok (decide (t = t' ∧ f = f' ∧ s = s')) w := by
  have u3 := Tryz.underlying30
  have a3 := Tryz.isAgg30
  have z3 := Tryz.sizeOf30
  rw [show (10000 : Nat) = 9999 + 1 from rfl, Op.equalIn]
  simp only [Sem.run_bind, run_underlying Tryz.underlying73, Result.andThen_ok]
  simp only [Std.Legacy.Range.forIn_eq_forIn_range', Std.Legacy.Range.size, Nat.sub_zero, Nat.add_sub_cancel, Nat.div_one, List.range'_succ, List.range'_zero, List.forIn_cons, List.forIn_nil]
  by_cases e1 : t = t'
  · by_cases e2 : f = f'
    · by_cases e3 : s = s'
      · subst e1; subst e2; subst e3
        rw [decide_eq_true ⟨rfl, rfl, rfl⟩]
        go_simp
      · subst e1; subst e2
        have b3 : (s == s') = false := by simpa using e3
        rw [decide_eq_false (fun h => e3 h.2.2)]
        go_simp
    · subst e1
      have b3 : (f == f') = false := by simpa using e2
      rw [decide_eq_false (fun h => e2 h.2.1)]
      go_simp
  · have b3 : (t == t') = false := by simpa using e1
    rw [decide_eq_false (fun h => e1 h.1)]
    go_simp
theorem may_zero {a b c d : Bool} (h : (a && b && c && d) = false) (h1 : (0 : Int) = if a then 0 else 11) (h2 : (0 : Int) = if b then 0 else 11) (h3 : (0 : Int) = if c then 0 else 11) (hd : d = true) : False := by
  subst hd
  cases a <;> cases b <;> cases c <;> simp at h h1 h2 h3
/-- New, up to where the errors are looked at; what is behind it is K's. -/
theorem mayB_iff (t z b i q : Int) : mayB t z b i q = (qRight t b i && rRight t q && tRight t && decide (16 ≤ z ∧ z ≤ 256)) := by
  rw [Bool.eq_iff_iff]
  simp only [mayB, qRight, rRight, tRight, Bool.and_eq_true, decide_eq_true_eq]
  omega
set_option maxHeartbeats 8000000 in
set_option maxRecDepth 100000 in
theorem ob_new_not (H : Sat G w l) (t z b i q : Int) (h : mayB t z b i q = false) : Calls Tryz.prog 9 #[.agg #[.int .i64 t, .int .i64 z, .int .i64 b, .int .i64 i, .int .i64 q]] w fun e w' => e = .returned (.tuple #[.pointer none, .int .i64 11]) ∧ Sat G w' l := by
  refine calls_any fun K hK => ?_
  rw [mayB_iff] at h
  obtain ⟨e0, he0⟩ : ∃ e0 : Int, e0 = if qRight t b i then 0 else 11 := ⟨_, rfl⟩
  obtain ⟨e1, he1⟩ : ∃ e1 : Int, e1 = if rRight t q then 0 else 11 := ⟨_, rfl⟩
  obtain ⟨e2, he2⟩ : ∃ e2 : Int, e2 = if tRight t then 0 else 11 := ⟨_, rfl⟩
  have HH := Lib.hid (And.intro h (And.intro he0 (And.intro he1 he2)))
  clear h he0 he1 he2
  have S0 := ((mp_made (H.newBlk #[.int .i64 t, .int .i64 z, .int .i64 b, .int .i64 i, .int .i64 q] 23)).newBlk (let mb := w.heap.size + 1; #[.int .i64 t, .int .i64 z, .int .i64 b, .int .i64 i, .int .i64 q, .pointer none, .pointer none, .pointer none, .map (some mb), .slice none 0 0, .slice none 0 0, .int .i64 65535, .int .i64 q, .int .i64 (-1)]) 72).newBlk #[.int .i64 0, .int .i64 0, .int .i64 0] 73
  simp only [World.size_alloc] at S0
  have c4 := (Sat.re S0 [3, 0, 1, 2]).cell 4
  have hmm := @run_makeMap Tryz.prog
  clear H
  go_enter Tryz.func9, Tryz.ntmps9
  go_upto_region 3 with (fail)
  generalize w.heap.size + 1 + 1 + 1 = pe at *
  generalize w.heap.size + 1 + 1 = po at *
  generalize w.heap.size + 1 = mb at *
  generalize w.heap.size = pc at *
  refine wp_world S0 fun W0 S1 => ?_
  clear S0 c4 hmm
  have c0 := (Sat.re S1 [3, 0, 1, 2]).cell 0
  have c1 := (Sat.re S1 [3, 0, 1, 2]).cell 1
  have c2 := (Sat.re S1 [3, 0, 1, 2]).cell 2
  have c3 := (Sat.re S1 [3, 0, 1, 2]).cell 3
  have c4 := (Sat.re S1 [3, 0, 1, 2]).cell 4
  have hq := qu_newW S1 t b i
  rw [← HH.out.2.1] at hq
  go_wp2_with fail
  (with_reducible refine hq.mono ?_)
  rintro e w1 ⟨A0, rfl, S2⟩
  clear hq c0 c1 c2 c3 c4 S1
  have f5 := S2.swap.frozen 5
  have f0 := S2.frozen 0
  have k5 := S2.swap.cell 5
  have k0 := S2.cell 0
  have S3 := (S2.swap.setCell 5 (.pointer A0)).swap.setCell 0 (.int .i64 e0)
  clear S2
  go_upto_region 4 with (fail)
  clear f5 f0 k5 k0
  refine wp_world S3 fun W1 S1 => ?_
  change Sat G W1 (blk pe #[.int .i64 e0, .int .i64 0, .int .i64 0] 73 :: blk po #[.int .i64 t, .int .i64 z, .int .i64 b, .int .i64 i, .int .i64 q, .pointer A0, .pointer none, .pointer none, .map (some mb), .slice none 0 0, .slice none 0 0, .int .i64 65535, .int .i64 q, .int .i64 (-1)] 72 :: mpA mb [] :: blk pc #[.int .i64 t, .int .i64 z, .int .i64 b, .int .i64 i, .int .i64 q] 23 :: l) at S1
  clear S3
  have c0 := (Sat.re S1 [3, 0, 1, 2]).cell 0
  have c1 := (Sat.re S1 [3, 0, 1, 2]).cell 1
  have c2 := (Sat.re S1 [3, 0, 1, 2]).cell 2
  have c3 := (Sat.re S1 [3, 0, 1, 2]).cell 3
  have c4 := (Sat.re S1 [3, 0, 1, 2]).cell 4
  have hq := rg_newW S1 t q
  rw [← HH.out.2.2.1] at hq
  go_wp2_with fail
  (with_reducible refine hq.mono ?_)
  rintro e w2 ⟨A1, rfl, S2⟩
  clear hq c0 c1 c2 c3 c4 S1
  have f5 := S2.swap.frozen 6
  have f0 := S2.frozen 1
  have k5 := S2.swap.cell 6
  have k0 := S2.cell 1
  have S3 := (S2.swap.setCell 6 (.pointer A1)).swap.setCell 1 (.int .i64 e1)
  clear S2
  go_upto_region 5 with (fail)
  clear f5 f0 k5 k0
  refine wp_world S3 fun W2 S1 => ?_
  change Sat G W2 (blk pe #[.int .i64 e0, .int .i64 e1, .int .i64 0] 73 :: blk po #[.int .i64 t, .int .i64 z, .int .i64 b, .int .i64 i, .int .i64 q, .pointer A0, .pointer A1, .pointer none, .map (some mb), .slice none 0 0, .slice none 0 0, .int .i64 65535, .int .i64 q, .int .i64 (-1)] 72 :: mpA mb [] :: blk pc #[.int .i64 t, .int .i64 z, .int .i64 b, .int .i64 i, .int .i64 q] 23 :: l) at S1
  clear S3
  have c0 := (Sat.re S1 [3, 0, 1, 2]).cell 0
  have c1 := (Sat.re S1 [3, 0, 1, 2]).cell 1
  have c2 := (Sat.re S1 [3, 0, 1, 2]).cell 2
  have c3 := (Sat.re S1 [3, 0, 1, 2]).cell 3
  have c4 := (Sat.re S1 [3, 0, 1, 2]).cell 4
  have hq := cr_newW S1 t
  rw [← HH.out.2.2.2] at hq
  go_wp2_with fail
  (with_reducible refine hq.mono ?_)
  rintro e w3 ⟨A2, rfl, S2⟩
  clear hq c0 c1 c2 c3 c4 S1
  have f5 := S2.swap.frozen 7
  have f0 := S2.frozen 2
  have k5 := S2.swap.cell 7
  have k0 := S2.cell 2
  have S3 := (S2.swap.setCell 7 (.pointer A2)).swap.setCell 2 (.int .i64 e2)
  clear S2
  go_upto_region 6 with (fail)
  clear f5 f0 k5 k0
  refine wp_world S3 fun W3 S1 => ?_
  change Sat G W3 (blk pe #[.int .i64 e0, .int .i64 e1, .int .i64 e2] 73 :: blk po #[.int .i64 t, .int .i64 z, .int .i64 b, .int .i64 i, .int .i64 q, .pointer A0, .pointer A1, .pointer A2, .map (some mb), .slice none 0 0, .slice none 0 0, .int .i64 65535, .int .i64 q, .int .i64 (-1)] 72 :: mpA mb [] :: blk pc #[.int .i64 t, .int .i64 z, .int .i64 b, .int .i64 i, .int .i64 q] 23 :: l) at S1
  clear S3
  have i0 := S1.cell 0
  have i1 := S1.cell 1
  have i2 := S1.cell 2
  have c1 := (Sat.re S1 [3, 0, 1, 2]).cell 1
  have ea := fun w => eq_arr3n e0 e1 e2 0 0 0 w
  by_cases hz : e0 = 0 ∧ e1 = 0 ∧ e2 = 0
  · rw [decide_eq_true hz] at ea
    have hzz : ¬ (16 ≤ z ∧ z ≤ 256) := fun hc => may_zero HH.out.1 (hz.1.symm.trans HH.out.2.1) (hz.2.1.symm.trans HH.out.2.2.1) (hz.2.2.symm.trans HH.out.2.2.2) (decide_eq_true hc)
    have HZ := Lib.hid hz
    clear hz
    by_cases hl : z < 16
    · clear hzz
      go_wp2_with fail
      exact hK.out _ _ ⟨rfl, S1.drop.drop.drop.drop⟩
    · have hg : 256 < z := by omega
      clear hzz
      go_wp2_with fail
      exact hK.out _ _ ⟨rfl, S1.drop.drop.drop.drop⟩
  · rw [decide_eq_false hz] at ea
    have HZ := Lib.hid hz
    clear hz
    go_wp2_with fail
    exact hK.out _ _ ⟨rfl, S1.drop.drop.drop.drop⟩
set_option maxHeartbeats 8000000 in
set_option maxRecDepth 100000 in
theorem ob_new (H : Sat G w l) (t : Nat) (z b i q : Int) (h : mayB t z b i q = true) : Calls Tryz.prog 9 #[.agg #[.int .i64 t, .int .i64 z, .int .i64 b, .int .i64 i, .int .i64 q]] w fun e w' => ∃ o, e = .returned (.tuple #[.pointer (some ⟨o, 0, none⟩), .int .i64 0]) ∧ Sat G w' (outA o ⟨t, z, b, i, q⟩ (newO t) :: l) := by
  refine calls_any fun K hK => ?_
  have hm := of_decide_eq_true h
  rw [mayB_iff] at h
  simp only [Bool.and_eq_true] at h
  have HH := Lib.hid (And.intro h hm)
  clear h hm
  have S0 := ((mp_made (H.newBlk #[.int .i64 t, .int .i64 z, .int .i64 b, .int .i64 i, .int .i64 q] 23)).newBlk (let mb := w.heap.size + 1; #[.int .i64 t, .int .i64 z, .int .i64 b, .int .i64 i, .int .i64 q, .pointer none, .pointer none, .pointer none, .map (some mb), .slice none 0 0, .slice none 0 0, .int .i64 65535, .int .i64 q, .int .i64 (-1)]) 72).newBlk #[.int .i64 0, .int .i64 0, .int .i64 0] 73
  simp only [World.size_alloc] at S0
  have c4 := (Sat.re S0 [3, 0, 1, 2]).cell 4
  have hmm := @run_makeMap Tryz.prog
  clear H
  go_enter Tryz.func9, Tryz.ntmps9
  go_upto_region 3 with (fail)
  generalize w.heap.size + 1 + 1 + 1 = pe at *
  generalize w.heap.size + 1 + 1 = po at *
  generalize w.heap.size + 1 = mb at *
  generalize w.heap.size = pc at *
  refine wp_world S0 fun W0 S1 => ?_
  clear S0 c4 hmm
  have c0 := (Sat.re S1 [3, 0, 1, 2]).cell 0
  have c1 := (Sat.re S1 [3, 0, 1, 2]).cell 1
  have c2 := (Sat.re S1 [3, 0, 1, 2]).cell 2
  have c3 := (Sat.re S1 [3, 0, 1, 2]).cell 3
  have c4 := (Sat.re S1 [3, 0, 1, 2]).cell 4
  have hq := qu_new S1 t b i HH.out.1.1.1.1
  go_wp2_with fail
  (with_reducible refine hq.mono ?_)
  rintro e w1 ⟨q0, rfl, S2⟩
  clear hq c0 c1 c2 c3 c4 S1
  replace S2 := Sat.re S2 [1, 2, 3, 4, 0]
  have f5 := S2.swap.frozen 5
  have f0 := S2.frozen 0
  have k5 := S2.swap.cell 5
  have k0 := S2.cell 0
  have S3 := (S2.swap.setCell 5 (.pointer (some ⟨q0, 0, none⟩))).swap.setCell 0 (.int .i64 0)
  clear S2
  go_upto_region 4 with (fail)
  clear f5 f0 k5 k0
  refine wp_world S3 fun W1 S1 => ?_
  change Sat G W1 (blk pe #[.int .i64 0, .int .i64 0, .int .i64 0] 73 :: blk po #[.int .i64 t, .int .i64 z, .int .i64 b, .int .i64 i, .int .i64 q, .pointer (some ⟨q0, 0, none⟩), .pointer none, .pointer none, .map (some mb), .slice none 0 0, .slice none 0 0, .int .i64 65535, .int .i64 q, .int .i64 (-1)] 72 :: mpA mb [] :: blk pc #[.int .i64 t, .int .i64 z, .int .i64 b, .int .i64 i, .int .i64 q] 23 :: quA q0 (List.replicate t []) b i :: l) at S1
  clear S3
  have c0 := (Sat.re S1 [3, 0, 1, 2]).cell 0
  have c1 := (Sat.re S1 [3, 0, 1, 2]).cell 1
  have c2 := (Sat.re S1 [3, 0, 1, 2]).cell 2
  have c3 := (Sat.re S1 [3, 0, 1, 2]).cell 3
  have c4 := (Sat.re S1 [3, 0, 1, 2]).cell 4
  have hq := rg_new S1 t q HH.out.1.1.1.2
  go_wp2_with fail
  (with_reducible refine hq.mono ?_)
  rintro e w2 ⟨a1, rfl, S2⟩
  clear hq c0 c1 c2 c3 c4 S1
  replace S2 := Sat.re S2 [1, 2, 3, 4, 5, 0]
  have f5 := S2.swap.frozen 6
  have f0 := S2.frozen 1
  have k5 := S2.swap.cell 6
  have k0 := S2.cell 1
  have S3 := (S2.swap.setCell 6 (.pointer (some ⟨a1, 0, none⟩))).swap.setCell 1 (.int .i64 0)
  clear S2
  go_upto_region 5 with (fail)
  clear f5 f0 k5 k0
  refine wp_world S3 fun W2 S1 => ?_
  change Sat G W2 (blk pe #[.int .i64 0, .int .i64 0, .int .i64 0] 73 :: blk po #[.int .i64 t, .int .i64 z, .int .i64 b, .int .i64 i, .int .i64 q, .pointer (some ⟨q0, 0, none⟩), .pointer (some ⟨a1, 0, none⟩), .pointer none, .map (some mb), .slice none 0 0, .slice none 0 0, .int .i64 65535, .int .i64 q, .int .i64 (-1)] 72 :: mpA mb [] :: blk pc #[.int .i64 t, .int .i64 z, .int .i64 b, .int .i64 i, .int .i64 q] 23 :: quA q0 (List.replicate t []) b i :: rgA a1 t q [] (List.replicate t 0) 0 :: l) at S1
  clear S3
  have c0 := (Sat.re S1 [3, 0, 1, 2]).cell 0
  have c1 := (Sat.re S1 [3, 0, 1, 2]).cell 1
  have c2 := (Sat.re S1 [3, 0, 1, 2]).cell 2
  have c3 := (Sat.re S1 [3, 0, 1, 2]).cell 3
  have c4 := (Sat.re S1 [3, 0, 1, 2]).cell 4
  have hq := cr_new S1 t (by have := HH.out.2; omega) (by have := HH.out.2; omega)
  go_wp2_with fail
  (with_reducible refine hq.mono ?_)
  rintro e w3 ⟨a2, rfl, S2⟩
  clear hq c0 c1 c2 c3 c4 S1
  replace S2 := Sat.re S2 [1, 2, 3, 4, 5, 6, 0]
  have f5 := S2.swap.frozen 7
  have f0 := S2.frozen 2
  have k5 := S2.swap.cell 7
  have k0 := S2.cell 2
  have S3 := (S2.swap.setCell 7 (.pointer (some ⟨a2, 0, none⟩))).swap.setCell 2 (.int .i64 0)
  clear S2
  go_upto_region 6 with (fail)
  clear f5 f0 k5 k0
  refine wp_world S3 fun W3 S1 => ?_
  change Sat G W3 (blk pe #[.int .i64 0, .int .i64 0, .int .i64 0] 73 :: blk po #[.int .i64 t, .int .i64 z, .int .i64 b, .int .i64 i, .int .i64 q, .pointer (some ⟨q0, 0, none⟩), .pointer (some ⟨a1, 0, none⟩), .pointer (some ⟨a2, 0, none⟩), .map (some mb), .slice none 0 0, .slice none 0 0, .int .i64 65535, .int .i64 q, .int .i64 (-1)] 72 :: mpA mb [] :: blk pc #[.int .i64 t, .int .i64 z, .int .i64 b, .int .i64 i, .int .i64 q] 23 :: quA q0 (List.replicate t []) b i :: rgA a1 t q [] (List.replicate t 0) 0 :: crA a2 (parts 65535 t) 0 :: l) at S1
  clear S3
  have i0 := S1.cell 0
  have i1 := S1.cell 1
  have i2 := S1.cell 2
  have c1 := (Sat.re S1 [3, 0, 1, 2]).cell 1
  have ea := fun w => eq_arr3n 0 0 0 0 0 0 w
  rw [decide_eq_true ⟨rfl, rfl, rfl⟩] at ea
  have hz0 : 16 ≤ z := by have := HH.out.2; omega
  have hz1 : z ≤ 256 := by have := HH.out.2; omega
  go_upto_region 8 with (fail)
  clear i0 i1 i2 c1 ea hz0 hz1
  have hmk := run_make_any (P := Tryz.prog) 70 98 (.slice none 0 0) 1 24 Tryz.underlying70 (by kernel_rfl) t (by have := HH.out.2; omega) (by have := HH.out.2; omega)
  obtain ⟨MC, hMC⟩ : ∃ MC, MC = madeCells (Value.slice none 0 0).cells (t * 1) := ⟨_, rfl⟩
  rw [← hMC] at hmk
  have HMC : Hid (MC.toList = List.replicate t (.slice none 0 0)) := Lib.hid (by
    rw [hMC, ← cst_eq]
    exact made_encs cenc_len (by decide) (⟨.slice none 0 0, []⟩ : Cn) #[.slice none 0 0] rfl t)
  clear hMC
  obtain ⟨E, hE⟩ : ∃ E : List Asrt, E = blk pe #[.int .i64 0, .int .i64 0, .int .i64 0] 73 :: mpA mb [] :: quA q0 (List.replicate t []) b i :: rgA a1 t q [] (List.replicate t 0) 0 :: crA a2 (parts 65535 t) 0 :: l := ⟨_, rfl⟩
  have S5 : Sat G W3 (blk po #[.int .i64 t, .int .i64 z, .int .i64 b, .int .i64 i, .int .i64 q, .pointer (some ⟨q0, 0, none⟩), .pointer (some ⟨a1, 0, none⟩), .pointer (some ⟨a2, 0, none⟩), .map (some mb), .slice none 0 0, .slice none 0 0, .int .i64 65535, .int .i64 q, .int .i64 (-1)] 72 :: blk pc #[.int .i64 t, .int .i64 z, .int .i64 b, .int .i64 i, .int .i64 q] 23 :: E) := by
    rw [hE]; exact Sat.re S1 [1, 3, 0, 2, 4, 5, 6]
  have HE := Lib.hid hE
  clear hE S1
  refine wp_act fun a0 ha0 => ?_
  have HSZ : a0.tmps.size = 74 := by rw [ha0]; rfl
  have E4 : a0.eval (.tmp 4) = .pointer (some ⟨po, 0, none⟩) := by rw [ha0]; rfl
  have E1 : a0.eval (.tmp 1) = .pointer (some ⟨pc, 0, none⟩) := by rw [ha0]; rfl
  refine wp_region_J (by kernel_rfl) 14 (by kernel_rfl) [[], [], [], [2], [3, 3], [], [5], [6, 6], [0, 0, 2, 3, 4], [8, 0, 2, 3, 4], [9, 4, 0, 2, 3, 4], [1, 0, 1, 2, 3, 4, 5, 6, 7, 8, 9, 10], [11, 0, 1, 2, 3, 4, 5, 6, 7, 8, 9, 10], [12, 7, 10, 0, 1, 2, 3, 4, 5, 6, 7, 8, 9, 10]] (by kernel_rfl) (by kernel_rfl) (fun f a' W => ∃ (g1 g2 : Nat) (u v : Value), ((f 10 = true → f 4 = true) ∧ (f 13 = true → f 7 = true)) ∧ (f 10 = true → u = .slice (some ⟨g1, 0, none⟩) t t) ∧ (f 13 = true → v = .slice (some ⟨g2, 0, none⟩) t t) ∧ a' = acts [(0, 61, .pointer (some ⟨po, 0, none⟩)), (1, 62, .pointer (some ⟨po, 0, none⟩)), (2, 63, .pointer (some ⟨pc, 0, none⟩)), (3, 64, .int .i64 t), (4, 65, .slice (some ⟨g1, 0, none⟩) t t), (5, 66, .pointer (some ⟨pc, 0, none⟩)), (6, 67, .int .i64 t), (7, 68, .slice (some ⟨g2, 0, none⟩) t t), (8, 69, .pointer (some ⟨po, 0, none⟩)), (9, 70, .pointer (some ⟨po, 9, none⟩)), (11, 71, .pointer (some ⟨po, 0, none⟩)), (12, 72, .pointer (some ⟨po, 10, none⟩))] f a0 ∧ Sat G W (opt (f 4) (blk g1 MC 98) :: opt (f 7) (blk g2 MC 98) :: blk po #[.int .i64 t, .int .i64 z, .int .i64 b, .int .i64 i, .int .i64 q, .pointer (some ⟨q0, 0, none⟩), .pointer (some ⟨a1, 0, none⟩), .pointer (some ⟨a2, 0, none⟩), .map (some mb), u, v, .int .i64 65535, .int .i64 q, .int .i64 (-1)] 72 :: blk pc #[.int .i64 t, .int .i64 z, .int .i64 b, .int .i64 i, .int .i64 q] 23 :: E)) ?_ ?_ ?_
  · exact ⟨0, 0, _, _, ⟨fun h => (by cases h), fun h => (by cases h)⟩, fun h => (by cases h), fun h => (by cases h), rfl, Sat.opt0 (Sat.opt0 S5.drew)⟩
  · refine ⟨?_, ?_, ?_, ?_, ?_, ?_, ?_, ?_, ?_, ?_, ?_, ?_, ?_, ?_, trivial⟩
    · rintro f a' W h0 hd ⟨g1, g2, u, v, hh, hu, hv, rfl, S⟩
      refine wpOp_run (v := .pointer (some ⟨po, 0, none⟩)) rfl rfl (fun ρ hρ => ?_) ⟨g1, g2, u, v, hh, hu, hv, (acts_some 0 rfl (by kernel_rfl) (by kernel_rfl)).symm, S⟩
      have e0 : ρ (.tmp 4) = .pointer (some ⟨po, 0, none⟩) := by rw [hρ]; exact (acts_eval_tmp 4 (by kernel_rfl)).trans E4
      clear hρ
      go_simp
    · rintro f a' W h1 hd ⟨g1, g2, u, v, hh, hu, hv, rfl, S⟩
      refine wpOp_run (v := .pointer (some ⟨po, 0, none⟩)) rfl rfl (fun ρ hρ => ?_) ⟨g1, g2, u, v, hh, hu, hv, (acts_some 1 rfl (by kernel_rfl) (by kernel_rfl)).symm, S⟩
      have e0 : ρ (.tmp 4) = .pointer (some ⟨po, 0, none⟩) := by rw [hρ]; exact (acts_eval_tmp 4 (by kernel_rfl)).trans E4
      clear hρ
      go_simp
    · rintro f a' W h2 hd ⟨g1, g2, u, v, hh, hu, hv, rfl, S⟩
      refine wpOp_run (v := .pointer (some ⟨pc, 0, none⟩)) rfl rfl (fun ρ hρ => ?_) ⟨g1, g2, u, v, hh, hu, hv, (acts_some 2 rfl (by kernel_rfl) (by kernel_rfl)).symm, S⟩
      have e0 : ρ (.tmp 1) = .pointer (some ⟨pc, 0, none⟩) := by rw [hρ]; exact (acts_eval_tmp 1 (by kernel_rfl)).trans E1
      clear hρ
      go_simp
    · rintro f a' W h3 hd ⟨g1, g2, u, v, hh, hu, hv, rfl, S⟩
      refine wpOp_run (v := .int .i64 t) rfl rfl (fun ρ hρ => ?_) ⟨g1, g2, u, v, hh, hu, hv, (acts_some 3 rfl (by kernel_rfl) (by kernel_rfl)).symm, S⟩
      have e0 : ρ (.tmp 63) = .pointer (some ⟨pc, 0, none⟩) := by rw [hρ]; exact acts_eval_hit 2 rfl hd.1 (by rw [HSZ]; rfl) (by kernel_rfl)
      clear hρ
      (have z4 := S.pull3.cell 0)
      go_simp
    · rintro f a' W h4 hd ⟨g1, g2, u, v, hh, hu, hv, rfl, S⟩
      have h10 : f 10 = false := no_of hh.1 h4
      refine wpOp_mem (v := .slice (some ⟨W.heap.size, 0, none⟩) t t) (w' := W.alloc (.cells MC 98)) rfl rfl (fun ρ hρ => ?_) (⟨W.heap.size, g2, u, v, ⟨fun _ => rfl, hh.2⟩, fun h => absurd h (by rw [show upd f 4 10 = f 10 from rfl, h10]; decide), hv, acts_swap (by simp only [acts, h4, Bool.false_eq_true, if_false]) (k := 4) rfl (by kernel_rfl) (by kernel_rfl), Sat.optI rfl (S.newBlk _ _).drop2⟩)
      have e0 : ρ (.tmp 64) = .int .i64 t := by rw [hρ]; exact acts_eval_hit 3 rfl hd.1 (by rw [HSZ]; rfl) (by kernel_rfl)
      clear hρ
      go_simp
    · rintro f a' W h5 hd ⟨g1, g2, u, v, hh, hu, hv, rfl, S⟩
      refine wpOp_run (v := .pointer (some ⟨pc, 0, none⟩)) rfl rfl (fun ρ hρ => ?_) ⟨g1, g2, u, v, hh, hu, hv, (acts_some 5 rfl (by kernel_rfl) (by kernel_rfl)).symm, S⟩
      have e0 : ρ (.tmp 1) = .pointer (some ⟨pc, 0, none⟩) := by rw [hρ]; exact (acts_eval_tmp 1 (by kernel_rfl)).trans E1
      clear hρ
      go_simp
    · rintro f a' W h6 hd ⟨g1, g2, u, v, hh, hu, hv, rfl, S⟩
      refine wpOp_run (v := .int .i64 t) rfl rfl (fun ρ hρ => ?_) ⟨g1, g2, u, v, hh, hu, hv, (acts_some 6 rfl (by kernel_rfl) (by kernel_rfl)).symm, S⟩
      have e0 : ρ (.tmp 66) = .pointer (some ⟨pc, 0, none⟩) := by rw [hρ]; exact acts_eval_hit 5 rfl hd.1 (by rw [HSZ]; rfl) (by kernel_rfl)
      clear hρ
      (have z4 := S.pull3.cell 0)
      go_simp
    · rintro f a' W h7 hd ⟨g1, g2, u, v, hh, hu, hv, rfl, S⟩
      have h13 : f 13 = false := no_of hh.2 h7
      refine wpOp_mem (v := .slice (some ⟨W.heap.size, 0, none⟩) t t) (w' := W.alloc (.cells MC 98)) rfl rfl (fun ρ hρ => ?_) (⟨g1, W.heap.size, u, v, ⟨hh.1, fun _ => rfl⟩, hu, fun h => absurd h (by rw [show upd f 7 13 = f 13 from rfl, h13]; decide), acts_swap (by simp only [acts, h7, Bool.false_eq_true, if_false]) (k := 7) rfl (by kernel_rfl) (by kernel_rfl), Sat.swap (Sat.optI rfl (Sat.swap ((Sat.re (S.newBlk _ _) [2, 1, 0]).drop)))⟩)
      have e0 : ρ (.tmp 67) = .int .i64 t := by rw [hρ]; exact acts_eval_hit 6 rfl hd.1 (by rw [HSZ]; rfl) (by kernel_rfl)
      clear hρ
      go_simp
    · rintro f a' W h8 hd ⟨g1, g2, u, v, hh, hu, hv, rfl, S⟩
      refine wpOp_run (v := .pointer (some ⟨po, 0, none⟩)) rfl rfl (fun ρ hρ => ?_) ⟨g1, g2, u, v, hh, hu, hv, (acts_some 8 rfl (by kernel_rfl) (by kernel_rfl)).symm, S⟩
      have e0 : ρ (.tmp 61) = .pointer (some ⟨po, 0, none⟩) := by rw [hρ]; exact acts_eval_hit 0 rfl hd.1 (by rw [HSZ]; rfl) (by kernel_rfl)
      clear hρ
      go_simp
    · rintro f a' W h9 hd ⟨g1, g2, u, v, hh, hu, hv, rfl, S⟩
      refine wpOp_run (v := .pointer (some ⟨po, 9, none⟩)) rfl rfl (fun ρ hρ => ?_) ⟨g1, g2, u, v, hh, hu, hv, (acts_some 9 rfl (by kernel_rfl) (by kernel_rfl)).symm, S⟩
      have e0 : ρ (.tmp 69) = .pointer (some ⟨po, 0, none⟩) := by rw [hρ]; exact acts_eval_hit 8 rfl hd.1 (by rw [HSZ]; rfl) (by kernel_rfl)
      clear hρ
      go_simp
    · rintro f a' W h10 hd ⟨g1, g2, u, v, hh, hu, hv, rfl, S⟩
      have q70 : (acts [(0, 61, .pointer (some ⟨po, 0, none⟩)), (1, 62, .pointer (some ⟨po, 0, none⟩)), (2, 63, .pointer (some ⟨pc, 0, none⟩)), (3, 64, .int .i64 t), (4, 65, .slice (some ⟨g1, 0, none⟩) t t), (5, 66, .pointer (some ⟨pc, 0, none⟩)), (6, 67, .int .i64 t), (7, 68, .slice (some ⟨g2, 0, none⟩) t t), (8, 69, .pointer (some ⟨po, 0, none⟩)), (9, 70, .pointer (some ⟨po, 9, none⟩)), (11, 71, .pointer (some ⟨po, 0, none⟩)), (12, 72, .pointer (some ⟨po, 10, none⟩))] f a0).eval (.tmp 70) = .pointer (some ⟨po, 9, none⟩) := acts_eval_hit 9 rfl hd.1 (by rw [HSZ]; rfl) (by kernel_rfl)
      have q65 : (acts [(0, 61, .pointer (some ⟨po, 0, none⟩)), (1, 62, .pointer (some ⟨po, 0, none⟩)), (2, 63, .pointer (some ⟨pc, 0, none⟩)), (3, 64, .int .i64 t), (4, 65, .slice (some ⟨g1, 0, none⟩) t t), (5, 66, .pointer (some ⟨pc, 0, none⟩)), (6, 67, .int .i64 t), (7, 68, .slice (some ⟨g2, 0, none⟩) t t), (8, 69, .pointer (some ⟨po, 0, none⟩)), (9, 70, .pointer (some ⟨po, 9, none⟩)), (11, 71, .pointer (some ⟨po, 0, none⟩)), (12, 72, .pointer (some ⟨po, 10, none⟩))] f a0).eval (.tmp 65) = .slice (some ⟨g1, 0, none⟩) t t := acts_eval_hit 4 rfl hd.2.1 (by rw [HSZ]; rfl) (by kernel_rfl)
      (refine wpOp_list rfl ?_; refine st_set rfl _ _ _ rfl _ _ _ q70 q65 rfl _ _ S.pull2 (by kernel_rfl) (by simp) fun W' S' => ?_; exact ⟨g1, g2, _, v, ⟨fun _ => hd.2.1, hh.2⟩, fun _ => rfl, hv, (acts_none 10 (by kernel_rfl)).symm, Sat.re S' [1, 2, 0]⟩)
    · rintro f a' W h11 hd ⟨g1, g2, u, v, hh, hu, hv, rfl, S⟩
      refine wpOp_run (v := .pointer (some ⟨po, 0, none⟩)) rfl rfl (fun ρ hρ => ?_) ⟨g1, g2, u, v, hh, hu, hv, (acts_some 10 rfl (by kernel_rfl) (by kernel_rfl)).symm, S⟩
      have e0 : ρ (.tmp 62) = .pointer (some ⟨po, 0, none⟩) := by rw [hρ]; exact acts_eval_hit 1 rfl hd.1 (by rw [HSZ]; rfl) (by kernel_rfl)
      clear hρ
      go_simp
    · rintro f a' W h12 hd ⟨g1, g2, u, v, hh, hu, hv, rfl, S⟩
      refine wpOp_run (v := .pointer (some ⟨po, 10, none⟩)) rfl rfl (fun ρ hρ => ?_) ⟨g1, g2, u, v, hh, hu, hv, (acts_some 11 rfl (by kernel_rfl) (by kernel_rfl)).symm, S⟩
      have e0 : ρ (.tmp 71) = .pointer (some ⟨po, 0, none⟩) := by rw [hρ]; exact acts_eval_hit 10 rfl hd.1 (by rw [HSZ]; rfl) (by kernel_rfl)
      clear hρ
      go_simp
    · rintro f a' W h13 hd ⟨g1, g2, u, v, hh, hu, hv, rfl, S⟩
      have q72 : (acts [(0, 61, .pointer (some ⟨po, 0, none⟩)), (1, 62, .pointer (some ⟨po, 0, none⟩)), (2, 63, .pointer (some ⟨pc, 0, none⟩)), (3, 64, .int .i64 t), (4, 65, .slice (some ⟨g1, 0, none⟩) t t), (5, 66, .pointer (some ⟨pc, 0, none⟩)), (6, 67, .int .i64 t), (7, 68, .slice (some ⟨g2, 0, none⟩) t t), (8, 69, .pointer (some ⟨po, 0, none⟩)), (9, 70, .pointer (some ⟨po, 9, none⟩)), (11, 71, .pointer (some ⟨po, 0, none⟩)), (12, 72, .pointer (some ⟨po, 10, none⟩))] f a0).eval (.tmp 72) = .pointer (some ⟨po, 10, none⟩) := acts_eval_hit 11 rfl hd.1 (by rw [HSZ]; rfl) (by kernel_rfl)
      have q68 : (acts [(0, 61, .pointer (some ⟨po, 0, none⟩)), (1, 62, .pointer (some ⟨po, 0, none⟩)), (2, 63, .pointer (some ⟨pc, 0, none⟩)), (3, 64, .int .i64 t), (4, 65, .slice (some ⟨g1, 0, none⟩) t t), (5, 66, .pointer (some ⟨pc, 0, none⟩)), (6, 67, .int .i64 t), (7, 68, .slice (some ⟨g2, 0, none⟩) t t), (8, 69, .pointer (some ⟨po, 0, none⟩)), (9, 70, .pointer (some ⟨po, 9, none⟩)), (11, 71, .pointer (some ⟨po, 0, none⟩)), (12, 72, .pointer (some ⟨po, 10, none⟩))] f a0).eval (.tmp 68) = .slice (some ⟨g2, 0, none⟩) t t := acts_eval_hit 7 rfl hd.2.1 (by rw [HSZ]; rfl) (by kernel_rfl)
      (refine wpOp_list rfl ?_; refine st_set rfl _ _ _ rfl _ _ _ q72 q68 rfl _ _ S.pull2 (by kernel_rfl) (by simp) fun W' S' => ?_; exact ⟨g1, g2, u, _, ⟨hh.1, fun _ => hd.2.1⟩, hu, fun _ => rfl, (acts_none 13 (by kernel_rfl)).symm, Sat.re S' [1, 2, 0]⟩)
  · rintro a' W4 ⟨g1, g2, u, v, -, hu, hv, rfl, S6⟩
    obtain rfl := hu rfl
    obtain rfl := hv rfl
    subst ha0
    simp only [acts, if_true, Act.put, List.setIfInBounds_toArray, List.set_cons_succ, List.set_cons_zero]
    have S7 := Lib.hid (opt_iff.1 (opt_iff.1 S6).swap)
    clear S5 S6 HSZ E1 E4 hmk hu hv
    go_wp2_with fail
    have ht : t ≤ 64 := by have := HH.out.2; omega
    have S8 := mk_cuts HMC.out ht S7.out.swap
    have S9 := mk_gifts HMC.out ht S8.swap
    rw [HE.out] at S9
    have S10 := str_nil (Sat.re S9 [3, 4, 2, 6, 7, 8, 5, 1, 0]).drop.drop
    exact hK.out _ _ ⟨po, rfl, out_iff.2 ⟨⟨q0, a1, a2, mb, .slice (some ⟨g1, 0, none⟩) t t, .slice (some ⟨g2, 0, none⟩) t t⟩, Sat.re S10 [1, 2, 3, 4, 5, 0, 6, 7]⟩⟩
end
end Go.Proofs.YtcecfhfbcdbofaaGreatDoor
set_option linter.unusedSimpArgs false
set_option linter.unusedVariables false
namespace Go.Proofs.YtcecfhfbcdbofaaGreatDoor
open Go.RowKit
attribute [local go_sem] Oper.semAt_some

theorem Sat.drewQ {G : Gnd} {w : World} {l : List Asrt} (H : Sat G w l) (n : Nat) : Sat G (w.drewN n) l := H.below ⟨rfl, rfl, rfl, Nat.le_refl _, fun _ _ => rfl⟩
/-- What Submit does. -/
def subS (c : Oc) (s : Os) (t : Int) (x : It) : Os × Int :=
  if x.2.1.length < 1 ∨ c.cell < (x.2.1.length : Int) then (s, 22) else ({ s with Q := (putQ s.Q c.byt c.itm t x).1 }, (putQ s.Q c.byt c.itm t x).2)
theorem putQ_len {Q : List (List It)} {B I t : Int} {x : It} : (putQ Q B I t x).1.length = Q.length := by
  unfold putQ
  split
  · rfl
  · split
    · rfl
    · exact List.length_set
theorem putQ_mem {Q : List (List It)} {B I t : Int} {x : It} : ∀ X ∈ (putQ Q B I t x).1, ∀ y ∈ X, y = x ∨ ∃ Y ∈ Q, y ∈ Y := by
  intro X hX y hy
  unfold putQ at hX
  split at hX
  · exact .inr ⟨X, hX, hy⟩
  · rename_i h1
    split at hX
    · exact .inr ⟨X, hX, hy⟩
    · rcases List.mem_or_eq_of_mem_set hX with hX | rfl
      · exact .inr ⟨X, hX, hy⟩
      · rcases List.mem_append.1 hy with hy | hy
        · refine .inr ⟨qAt Q t, ?_, hy⟩
          unfold qAt
          rw [if_pos (by omega)]
          have h2 : t.toNat < Q.length := by omega
          rw [List.getD_eq_getElem?_getD, List.getElem?_eq_getElem h2]
          exact List.getElem_mem _
        · exact .inl (List.mem_singleton.1 hy)
theorem sub_inv {c : Oc} {s : Os} (hw : OInv c s) (t : Int) (x : It) : OInv c (subS c s t x).1 := by
  unfold subS
  split
  · exact hw
  · rename_i h
    exact { hw with
      q := putQ_wf hw.q
      ql := putQ_len.trans hw.ql
      qh := fun X hX y hy => by
        rcases putQ_mem X hX y hy with rfl | ⟨Y, hY, hy⟩
        · omega
        · exact hw.qh Y hY y hy }
section
variable {G : Gnd} {w w' : World} {l : List Asrt} {o : Nat} {c : Oc} {s : Os}
set_option maxHeartbeats 8000000 in
set_option maxRecDepth 100000 in
theorem ob_submit (H : Sat G w (outA o c s :: l)) (hw : OInv c s) (t n : Int) (hv bv : Value) (h b : List UInt8) (hh : SlB (Go.Proofs.YtcecfhfbcdbofaaGreatDoor.cellR G.ro) hv h) (hb : SlB (Go.Proofs.YtcecfhfbcdbofaaGreatDoor.cellR G.ro) bv b) (h1 : h.length ≤ 140737488355328) (h2 : b.length ≤ 140737488355328) :
    Calls Tryz.prog 11 #[.pointer (some ⟨o, 0, none⟩), .int .i64 t, .agg #[.int .i64 n, hv, bv]] w fun e w' => ∃ G', G.le G' ∧ e = .returned (.int .i64 (subS c s t (n, h, b)).2) ∧ Sat G' w' (outA o c (subS c s t (n, h, b)).1 :: l) := by
  refine calls_any fun K hK => ?_
  obtain ⟨A, ca, rfl, -⟩ := hh.form
  obtain ⟨D, cd, rfl, -⟩ := hb.form
  have S1 := H.newBlk #[.int .i64 n, .slice A h.length ca, .slice D b.length cd] 41
  obtain ⟨a, SA⟩ := out_iff.1 S1.swap
  have k1 : _ = some (Value.int .i64 c.cell) := SA.cell 1
  have k5 : _ = some (Value.pointer (some ⟨a.q, 0, none⟩)) := SA.cell 5
  have i0 := S1.cell 0
  have i1 := S1.cell 1
  have i2 := S1.cell 2
  unfold subS at hK
  have HHB := Lib.hid (And.intro hh (And.intro hb (And.intro h1 (And.intro h2 hw))))
  obtain ⟨m, hm⟩ : ∃ m, m = h.length := ⟨_, rfl⟩
  obtain ⟨bl, hbl⟩ : ∃ m, m = b.length := ⟨_, rfl⟩
  rw [← hm] at i1 S1 SA k1 k5 i0 i2 ⊢
  rw [← hbl] at i1 S1 SA k1 k5 i0 i2 ⊢
  simp only [← hm] at hK
  have HM := Lib.hid (And.intro hm hbl)
  have HS1 := Lib.hid S1
  have HSA := Lib.hid SA
  clear H hh hb h1 h2 hw S1 SA hm hbl
  by_cases b1 : m < 1
  · rw [if_pos (.inl b1)] at hK
    have g1 : ((m : Int) < 1) := by omega
    go_enter Tryz.func11, Tryz.ntmps11
    go_wp2_with fail
    go_quiet (fail)
    go_wp2_with fail
    exact hK.out _ _ ⟨G, Gnd.le.rfl', rfl, HS1.out.drop.drewQ _⟩
  have g1 : ¬ ((m : Int) < 1) := by omega
  by_cases b2 : c.cell < (m : Int)
  · rw [if_pos (.inr b2)] at hK
    go_enter Tryz.func11, Tryz.ntmps11
    go_wp2_with fail
    go_quiet (fail)
    go_wp2_with fail
    exact hK.out _ _ ⟨G, Gnd.le.rfl', rfl, HS1.out.drop.drewQ _⟩
  rw [if_neg (by omega)] at hK
  have HB := Lib.hid b2
  go_enter Tryz.func11, Tryz.ntmps11
  go_wp2_with fail
  go_quiet (fail)
  go_upto_region 3 with (fail)
  refine wp_world (HSA.out.drewQ _) fun W S2 => ?_
  clear k1 k5 i0 i1 i2 b1 b2 g1 HS1
  have k5 : _ = some (Value.pointer (some ⟨a.q, 0, none⟩)) := S2.cell 5
  have i0 := (Sat.re S2 [8, 0, 1, 2, 3, 4, 5, 6, 7]).cell 0
  have i1 := (Sat.re S2 [8, 0, 1, 2, 3, 4, 5, 6, 7]).cell 1
  have i2 := (Sat.re S2 [8, 0, 1, 2, 3, 4, 5, 6, 7]).cell 2
  have HS2 := Lib.hid S2
  clear S2 HSA
  go_wp2_with fail
  go_still_tail 6, (by kernel_rfl)
  change wpList _ _ _ _ _ W.drew
  clear k5 i0 i1 i2
  refine list_world HS2.out.drew fun W1 S3 => ?_
  have hput := qu_put (Sat.re S3 [1, 0, 2, 3, 4, 5, 6, 7, 8]) HHB.out.2.2.2.2.q t n _ _ h b (fun W S => HHB.out.1.sat S) (fun W S => HHB.out.2.1.sat S) HHB.out.2.2.1 HHB.out.2.2.2.1
  rw [← HM.out.1, ← HM.out.2] at hput
  clear S3 HS2
  go_wp2_with fail
  (with_reducible refine hput.mono ?_)
  rintro e w3 ⟨G1, hG1, rfl, S4⟩
  clear hput
  go_wp2_with fail
  exact hK.out _ _ ⟨G1, hG1, rfl, out_iff.2 ⟨a, (Sat.re S4 [8, 1, 0, 2, 3, 4, 5, 6, 7]).drop⟩⟩
end
end Go.Proofs.YtcecfhfbcdbofaaGreatDoor
set_option linter.unusedSimpArgs false
set_option linter.unusedVariables false
namespace Go.Proofs.YtcecfhfbcdbofaaGreatDoor
open Go.RowKit

theorem isum_zeros (t : Nat) : isum (List.replicate t 0) = 0 := by
  induction t with
  | zero => rfl
  | succ t ih => rw [List.replicate_succ]; show 0 + isum _ = 0; rw [ih]; rfl
theorem new_inv {t : Nat} {z b i q : Int} (h : mayB t z b i q = true) : OInv ⟨t, z, b, i, q⟩ (newO t) := by
  have h := of_decide_eq_true h
  obtain ⟨hg, -⟩ := parts_good t (by omega) (by omega)
  exact { t0 := by show 1 ≤ t; omega, t1 := by show t ≤ 64; omega, c0 := by show 16 ≤ z; omega, c1 := by show z ≤ 256; omega
          q := ⟨by show 1 ≤ (List.replicate t []).length; rw [List.length_replicate]; omega, by show (List.replicate t []).length ≤ 64; rw [List.length_replicate]; omega, by show 0 ≤ b; omega, by show b ≤ 1048576; omega, by show 1 ≤ i; omega, by show i ≤ 4096; omega, fun L hL => by
            obtain rfl := (List.mem_replicate.1 hL).2
            exact ⟨by show (0 : Int) ≤ b; omega, by show (0 : Int) ≤ i; omega⟩⟩
          ql := List.length_replicate
          r := { t0 := by show (1 : Int) ≤ t; omega, t1 := by show (t : Int) ≤ 64; omega, q0 := by show 1 ≤ q; omega, q1 := by show q ≤ 65536; omega
                 len := by show ((List.replicate t 0).length : Int) = t; rw [List.length_replicate]
                 few := by show 0 ≤ _; omega
                 lo := fun y hy => by
                   obtain rfl := (List.mem_replicate.1 hy).2
                   omega
                 last0 := Int.le_refl _ }
          rf := List.Pairwise.nil
          rb := fun x hx => by cases hx
          cg := hg
          cl := by show (parts 65535 t).length = t; unfold parts; rw [List.length_map, List.length_range]
          ml := Nat.zero_le _
          mw := fun x hx => by cases hx
          mi := fun x hx => by cases hx
          dl := List.length_replicate
          dn := fun X hX => by
            obtain rfl := (List.mem_replicate.1 hX).2
            exact ⟨Nat.zero_le _, fun x hx => by cases hx⟩
          mf := List.Perm.nil
          mo := fun x hx => by cases hx
          ls := by
            show isum (List.replicate t 0) = 0
            exact isum_zeros t
          ln := fun x hx => by
            obtain rfl := (List.mem_replicate.1 hx).2
            omega
          mr := fun x hx => by cases hx
          rll := by show (0 : Int) < 2 * (-1) + 3; decide
          l0 := by show (-1 : Int) ≤ -1; decide
          qh := fun X hX => by
            obtain rfl := (List.mem_replicate.1 hX).2
            intro x hx; cases hx }
def awC : Oc := ⟨2, 16, 100, 3, 2⟩
def awX : It := (7, [130], [120])
def awI : Os := { newO 2 with Q := [[], [awX]] }
theorem aw_sub : subS awC (newO 2) 1 awX = (awI, 0) := rfl
theorem aw_sub2 : subS awC awI 0 (0, [], []) = (awI, 22) := rfl
def AwS : Nat → Os → Prop
  | 0, s => s = awI
  | 1, s => s = { awI with last := 0 }
  | 2, s => ∃ p F', s = openS { awI with last := 1 } 1 3 p awX [] F'
  | 3, s => ∃ p F', s = { openS { awI with last := 1 } 1 3 p awX [] F' with last := 2 }
  | _, s => liveAt s.L 1 = 1 ∧ leftOfS s.M 3 = 0
def awK : Nat → Int
  | 0 => 0
  | 1 => 0
  | 2 => 1
  | 3 => 10
  | _ => 103
theorem aw_last {k : Nat} {s : Os} (hk : k ≤ 3) (h : AwS k s) : s.last < (k : Int) := by
  match k, hk with
  | 0, _ => cases h; decide
  | 1, _ => cases h; decide
  | 2, _ => obtain ⟨p, F', rfl⟩ := h; show (1 : Int) < 2; decide
  | 3, _ => obtain ⟨p, F', rfl⟩ := h; show (2 : Int) < 3; decide
theorem aw_few {k : Nat} {s : Os} (hk : k ≤ 3) (h : AwS k s) (hw : OInv awC s) : s.F.length < 10000 := by
  have h1 : s.F.length = s.M.length := by rw [hw.mf.length_eq, List.length_map]
  rw [h1]
  match k, hk with
  | 0, _ => cases h; decide
  | 1, _ => cases h; decide
  | 2, _ => obtain ⟨p, F', rfl⟩ := h; show 1 < 10000; decide
  | 3, _ => obtain ⟨p, F', rfl⟩ := h; show 1 < 10000; decide
theorem aw_step {k : Nat} {s s' : Os} {d : Dv} (hk : k ≤ 3) (hs : AwS k s) (h : StepR awC { s with last := (k : Int) } (k % 2) (k : Int) d s') : awK (k + 1) = 10 * awK k + d.1 ∧ AwS (k + 1) s' := by
  match k, hk with
  | 0, _ =>
    cases hs
    rcases h with ⟨x, X, hx, -⟩ | ⟨-, y, hy, -⟩ | ⟨-, -, x, L, p, F', hx, -⟩ | ⟨-, -, -, rfl, rfl⟩
    · cases hx
    · cases hy
    · cases hx
    · exact ⟨rfl, rfl⟩
  | 1, _ =>
    cases hs
    rcases h with ⟨x, X, hx, -⟩ | ⟨-, y, hy, -⟩ | ⟨-, -, x, L, p, F', hx, -, rfl, rfl⟩ | ⟨-, -, hor, rfl, rfl⟩
    · cases hx
    · cases hy
    · cases hx
      exact ⟨rfl, p, F', rfl⟩
    · rcases hor with h | h
      · exact absurd h (by decide)
      · cases h
  | 2, _ =>
    obtain ⟨q, F, rfl⟩ := hs
    rcases h with ⟨x, X, hx, -⟩ | ⟨-, y, hy, hyt, -⟩ | ⟨-, -, x, L, p, F', hx, -, rfl, rfl⟩ | ⟨-, -, -, rfl, rfl⟩
    · cases hx
    · cases List.mem_singleton.1 hy
      exact absurd hyt (show ¬ ownT 3 2 = 0 by decide)
    · cases hx
    · exact ⟨rfl, q, F, rfl⟩
  | 3, _ =>
    obtain ⟨q, F, rfl⟩ := hs
    have hsn : Snd awC { openS { awI with last := 1 } 1 3 q awX [] F with last := 3 } 1 (newS 3 q awX) := ⟨rfl, show winCan 65535 16 = true by decide, show 16 ≤ crLeft (parts 65535 2) 1 by decide⟩
    rcases h with ⟨x, X, hx, -⟩ | ⟨-, y, hy, hyt, -, rfl, hM, -, -, hL, -⟩ | ⟨-, hno, -⟩ | ⟨-, hno, -⟩
    · cases hx
    · cases List.mem_singleton.1 hy
      refine ⟨rfl, ?_, ?_⟩
      · rw [hL]; rfl
      · rw [hM]; rfl
    · exact absurd hsn (hno _ (List.mem_singleton.2 rfl) (show ownT 3 2 = 1 by decide))
    · exact absurd hsn (hno _ (List.mem_singleton.2 rfl) (show ownT 3 2 = 1 by decide))
end Go.Proofs.YtcecfhfbcdbofaaGreatDoor
set_option linter.unusedSimpArgs false
set_option linter.unusedVariables false
namespace Go.Proofs.YtcecfhfbcdbofaaGreatDoor
open Go.RowKit
attribute [local go_sem] Oper.semAt_some

theorem slb_ro {G : Gnd} {q n m : Nat} {bs : List UInt8} (h : G.ro q = some (.cells (bs.map byteV).toArray 5 (n, m))) (hl : bs.length ≤ maxLen) : SlB (Go.Proofs.YtcecfhfbcdbofaaGreatDoor.cellR G.ro) (.slice (some ⟨q, 0, none⟩) bs.length bs.length) bs := by
  refine ⟨⟨_, _, rfl, Nat.le_refl _, hl, fun j u hj => ⟨_, rfl, ?_⟩⟩, fun n c e => by cases e⟩
  have e : (⟨q, 0, none⟩ : Addr).add j = ⟨q, j, none⟩ := by unfold Addr.add; split <;> simp_all
  rw [e]
  simp only [Go.Proofs.YtcecfhfbcdbofaaGreatDoor.cellR, h]
  simpa using hj
theorem step_ten {c : Oc} {s s' : Os} {t : Nat} {tick : Int} {d : Dv} (h : StepR c s t tick d s') : d.2.1 = (t : Int) := by
  rcases h with ⟨x, X, -, rfl, -⟩ | ⟨-, y, -, -, -, rfl, -⟩ | ⟨-, -, x, L, p, F', -, -, rfl, -⟩ | ⟨-, -, -, rfl, -⟩ <;> rfl
section
variable {G : Gnd} {w w' : World} {l : List Asrt} {o : Nat}
set_option maxHeartbeats 8000000 in
set_option maxRecDepth 100000 in
theorem law_awake (H : Sat G w l) (hT : TabG G) : Calls Tryz.prog 8 #[] w fun e w' => e = .returned (.bool true) ∧ ∃ G', G.le G' ∧ Sat G' w' l := by
  refine calls_any fun K hK => ?_
  have hnew := ob_new H 2 16 100 3 2 (by decide)
  rw [show ((2 : Nat) : Int) = 2 from rfl] at hnew
  have HT := Lib.hid hT
  clear H hT
  go_enter Tryz.func8, Tryz.ntmps8
  go_wp2_with fail
  (with_reducible refine hnew.mono ?_)
  clear hnew
  rintro e w1 ⟨o, rfl, S1⟩
  change Sat _ _ (outA o awC (newO 2) :: l) at S1
  obtain ⟨G1, hG1, T1, hb1⟩ := slb_of_row (bs := [130]) (N := 1) (S1.newBlk #[.int .u8 130] 5) rfl (by decide)
  have hcv := Joins.run_convert_bytes_const_at (P := Tryz.prog) (w1.alloc (.cells #[.int .u8 130] 5)) 35 5 #[.int .u8 120] 1 1 (w1.heap.size + 1) (by simp) Tryz.underlying35 Tryz.underlying5
  obtain ⟨G2, hG2, hq2, T2⟩ := (T1.new (.cells (([120] : List UInt8).map byteV).toArray 5 (1, 2))).freeze
  have hb2 := slb_ro hq2 (by decide)
  change Sat _ ((w1.alloc (.cells #[.int .u8 130] 5)).alloc (.cells #[.int .u8 120] 5 (1, 2))) _ at T2
  change SlB _ (.slice _ 1 1) _ at hb2
  simp only [World.size_alloc] at hb2
  have hs1 := ob_submit T2 (new_inv (by decide)) 1 7 _ _ [130] [120] (hb1.mono hG2) hb2 (by decide) (by decide)
  rw [show subS awC (newO 2) 1 (7, [130], [120]) = (awI, 0) from rfl] at hs1
  have HG := Lib.hid (hG1.trans hG2)
  have hI : OInv awC awI := by
    have := sub_inv (c := awC) (new_inv (t := 2) (z := 16) (b := 100) (i := 3) (q := 2) (by decide)) 1 awX
    exact this
  have HI := Lib.hid hI
  clear S1 T1 T2 hq2 hb1 hb2 hG1 hG2 hI
  go_wp2_with fail
  (with_reducible refine hs1.mono ?_)
  clear hs1 hcv
  rintro e w2 ⟨G3, hG3, rfl, S2⟩
  have hs2 := ob_submit S2 HI.out 0 0 (.slice none 0 0) (.slice none 0 0) [] [] (SlB.nil _) (SlB.nil _) (by decide) (by decide)
  rw [show subS awC awI 0 (0, [], []) = (awI, 22) from rfl] at hs2
  have HG3 := Lib.hid (HG.out.trans hG3)
  clear S2 hG3
  go_wp2_with fail
  (with_reducible refine hs2.mono ?_)
  clear hs2
  rintro e w3 ⟨G4, hG4, rfl, S3⟩
  have HG4 := Lib.hid (HG3.out.trans hG4)
  clear hG4
  go_wp2_with fail
  go_loopw [3, 34] (fun x i wr => ∃ (k : Nat) (s : Os) (G1 : Gnd), k ≤ 4 ∧ x = .int .i64 (awK k) ∧ i = .int .i64 k ∧ AwS k s ∧ OInv awC s ∧ G.le G1 ∧ Sat G1 wr (outA o awC s :: l)) (fun _ i _ => 4 - (intOf i).toNat)
  case atStart => exact ⟨0, awI, G4, Nat.zero_le _, rfl, rfl, rfl, HI.out, HG4.out, S3⟩
  case round =>
    clear S3
    obtain ⟨k, s, G1, hk, rfl, rfl, hA, hI, hG, S⟩ := hrel
    by_cases hlt : k < 4
    · have hsl := ob_slot S hI (HT.out.mono hG) k (aw_few (by omega) hA hI)
      have HH := Lib.hid (And.intro hA (And.intro hI (And.intro hG (And.intro hlt hk))))
      have hlt2 : (k : Int) < 4 := by omega
      obtain ⟨x, hx⟩ : ∃ x, x = awK k := ⟨_, rfl⟩
      rw [← hx]
      have HX := Lib.hid hx
      have hx0 : 0 ≤ x ∧ x ≤ 10 := by
        rw [hx]
        match k, hlt with
        | 0, _ => exact ⟨by decide, by decide⟩
        | 1, _ => exact ⟨by decide, by decide⟩
        | 2, _ => exact ⟨by decide, by decide⟩
        | 3, _ => exact ⟨by decide, by decide⟩
      clear hA hI hG S hx
      go_wp2_with fail
      (with_reducible refine hsl.mono ?_)
      clear hsl
      rintro e w4 ⟨G2, s', hG2, hR, hI', S'⟩
      rcases hR with ⟨hb, -⟩ | ⟨-, hle, -⟩ | ⟨-, -, t, d, u, bs, ht, -, hu, hlen, rfl, hst⟩
      · exfalso
        unfold tickOk at hb
        have h0 : (0 : Int) ≤ k := by omega
        have h1 : (k : Int) ≤ 1073741823 := by omega
        rw [decide_eq_true h0, decide_eq_true h1] at hb
        cases hb
      · have := aw_last (by omega) HH.out.1
        omega
      · obtain rfl : t = k % 2 := by
          change (k : Int) % 2 = t at ht
          omega
        obtain ⟨hk1, hA'⟩ := aw_step (by omega) HH.out.1 hst
        have hd2 := step_ten hst
        obtain ⟨A, ca, rfl, -⟩ := hu.form
        have h34 : bs.length = 34 := by
          change (bs.length : Int) = 16 + 18 at hlen
          omega
        rw [h34]
        obtain ⟨d1, d2, d3, d4, d5⟩ := d
        simp only at hk1 hd2 ⊢
        subst hd2
        rw [← HX.out] at hk1
        have hm : Int.tmod (k : Int) 2 = ((k % 2 : Nat) : Int) := by
          rw [Int.tmod_eq_emod_of_nonneg (by omega)]; omega
        have hy0 : 0 ≤ 10 * x + d1 ∧ 10 * x + d1 ≤ 1000 := by
          rw [← hk1]
          have hl := HH.out.2.2.2.1
          clear hk1 hA' hm
          match k, hl with
          | 0, _ => exact ⟨by decide, by decide⟩
          | 1, _ => exact ⟨by decide, by decide⟩
          | 2, _ => exact ⟨by decide, by decide⟩
          | 3, _ => exact ⟨by decide, by decide⟩
        have w1_ : IntKind.i64.wrap (10 * x) = 10 * x := IntWalk.i64_in _ (by omega)
        have w2_ : IntKind.i64.wrap (10 * x + d1) = 10 * x + d1 := IntWalk.i64_in _ (by omega)
        have S5 := S'.newBlk #[.int .i64 d1, .int .i64 ((k % 2 : Nat) : Int), .int .i64 d3, .int .i64 d4, .int .i64 d5] 45
        have e0 := S5.cell 0
        have e1 := S5.cell 1
        have HK := Lib.hid (And.intro hk1 (And.intro hA' (And.intro hI' hG2)))
        clear hk1 hA' hI' hG2 hst hu hlen h34 ht S' hy0 hx0
        generalize ((k % 2 : Nat) : Int) = tt at *
        go_wp2_with fail
        go_roundw
        case rel => exact ⟨k + 1, s', G2, by omega, by rw [HK.out.1], by go_num, HK.out.2.1, HK.out.2.2.1, HH.out.2.2.1.trans HK.out.2.2.2, S5.drop⟩
        case measure => simp [intOf]; omega
    · obtain rfl : k = 4 := by omega
      have hst := ob_streams S hI.toOWf 1
      rw [hA.1] at hst
      have hlf := ob_left S 3 (by decide)
      rw [hA.2] at hlf
      have HG5 := Lib.hid (And.intro hG S)
      clear hA hI hG S
      rw [show awK 4 = 103 from rfl]
      go_wp2_with fail
      (with_reducible refine hst.mono ?_)
      rintro e w4 ⟨rfl, rfl⟩
      go_wp2_with fail
      (with_reducible refine hlf.mono ?_)
      rintro e w4 ⟨rfl, rfl⟩
      go_wp2_with fail
      exact hK.out _ _ ⟨rfl, _, HG5.out.1, HG5.out.2.drop⟩
end
end Go.Proofs.YtcecfhfbcdbofaaGreatDoor

/- The walk of the law OutboundFails. -/
import Derived.Test.YtcecfhfbcdbofaaGreatDoorFls
import Derived.Deep.Cut
import Derived.Deep.QuietTactic
import Derived.BigQuiet
set_option linter.unusedSimpArgs false
set_option linter.unusedVariables false
namespace Go.Proofs.YtcecfhfbcdbofaaGreatDoor
open Go.RowKit
attribute [local go_sem] Oper.semAt_some

theorem step_D {c : Oc} {s s' : Os} {t : Nat} {tick : Int} {d : Dv} (h : StepR c s t tick d s') : ∀ j, (s'.D.getD j []).length ≤ (s.D.getD j []).length := by
  rcases h with ⟨x, X, hx, -, rfl⟩ | ⟨-, y, -, -, -, -, -, -, -, -, -, hD, -⟩ | ⟨-, -, x, L, p, F', -, -, -, rfl⟩ | ⟨-, -, -, -, rfl⟩
  · intro j
    show ((s.D.set t X).getD j []).length ≤ _
    rw [List.getD_eq_getElem?_getD]
    by_cases hj : j = t
    · subst hj
      rcases Nat.lt_or_ge j s.D.length with h | h
      · rw [List.getElem?_set_self h, hx]
        show X.length ≤ X.length + 1
        omega
      · rw [List.getElem?_eq_none (by rw [List.length_set]; exact h)]
        exact Nat.zero_le _
    · rw [List.getElem?_set_ne (by omega), ← List.getD_eq_getElem?_getD]
      exact Nat.le_refl _
  · intro j; rw [hD]; exact Nat.le_refl _
  · intro j; exact Nat.le_refl _
  · intro j; exact Nat.le_refl _
theorem sub_same (c : Oc) (s : Os) (t : Int) (x : It) : (subS c s t x).1.M = s.M ∧ (subS c s t x).1.F = s.F ∧ (subS c s t x).1.L = s.L ∧ (subS c s t x).1.D = s.D ∧ (subS c s t x).1.last = s.last := by
  unfold subS
  split <;> exact ⟨rfl, rfl, rfl, rfl, rfl⟩
/-- What is left behind Fail. -/
theorem fail_end {c : Oc} {s s2 : Os} {above : Int} {N E : List D3} (h : FailR c s above N E s2) (hw : OInv c s) (hw2 : OInv c s2) : s2.last = s.last ∧ (N.length : Int) + lsum s2.L c.ten = (s.M.length : Int) ∧ s2.F.length ≤ s.F.length ∧ (above < 0 → s2.M = [] ∧ (∀ j, s2.Q.getD j [] = []) ∧ (∀ j, s2.D.getD j [] = []) ∧ lsum s2.L c.ten = 0) := by
  have hsum := sum_cnt hw2
  have hf := few_of hw
  have hf2 := few_of hw2
  obtain ⟨s1, K, hF, -, -, -, ⟨h0, -, h1⟩ | ⟨h0, hm, -, h1⟩⟩ := h
  · rw [h1] at hsum hf2 ⊢
    have hc := hF.cnt
    exact ⟨hF.sl, by omega, by omega, fun h => absurd h (by omega)⟩
  · have hc := hF.cnt
    have hM : s2.M = [] := by rw [h1]; exact hm
    have hMl : s2.M.length = 0 := by rw [hM]; rfl
    have hMl1 : s1.M.length = 0 := by rw [hm]; rfl
    refine ⟨by rw [h1]; exact hF.sl, by omega, by omega, fun _ => ⟨hM, fun j => ?_, fun j => ?_, by omega⟩⟩
    · rw [h1]; exact repD
    · rw [h1]; exact repD
/-- A slot, where nothing is. -/
theorem step_none {c : Oc} {s s' : Os} {t : Nat} {tick : Int} {d : Dv} (hM : s.M = []) (hQ : ∀ j, s.Q.getD j [] = []) (hD : ∀ j, s.D.getD j [] = []) (h : StepR c s t tick d s') : d.1 = 0 := by
  rcases h with ⟨x, X, hx, -⟩ | ⟨-, y, hy, -⟩ | ⟨-, -, x, L, p, F', hx, -⟩ | ⟨-, -, -, rfl, -⟩
  · rw [hD t] at hx; cases hx
  · rw [hM] at hy; cases hy
  · rw [hQ t] at hx; cases hx
  · rfl
theorem asc_tail {N : List D3} (h : (N.map (fun x => x.2.1)).Pairwise (· < ·)) {j : Nat} {x : D3} (hx : N[j]? = some x) : ∀ y ∈ N.drop (j + 1), x.2.1 < y.2.1 := by
  have h1 := (List.pairwise_map.1 h).sublist (List.drop_sublist j N)
  obtain ⟨hj, rfl⟩ := List.getElem?_eq_some_iff.1 hx
  rw [List.drop_eq_getElem_cons hj] at h1
  exact (List.pairwise_cons.1 h1).1
set_option maxHeartbeats 8000000 in
set_option maxRecDepth 100000 in
theorem outboundFails_walk (w : World) (v0 v1 : Value) (h0 : ∃ d, ArgV w (Ty.agg [(Ty.agg [.int .i64, .int .i64, .int .i64, .int .i64, .int .i64]), (Ty.sl 64 (Ty.agg [.int .i64, .int .i64, .int .i64, .int .i64, .sl 1 (.int .u8), .int .i64]))]) v0 d) (h1 : ∃ d, ArgV w (.int .i64) v1 d) (htab : TabW w) :
    Calls Tryz.prog 4 #[v0, v1] w fun e w' => e = .returned (.bool true) ∧ Below w.heap.size w w' := by
  refine calls_any fun K hK => ?_
  obtain ⟨_, h1⟩ := h1
  obtain ⟨above, rfl, -⟩ := arg_int h1
  clear h1
  obtain ⟨_, h0⟩ := h0
  obtain ⟨n, z, b, i_, q, x, ops, rfl, hops⟩ := arg_case h0
  have HT := Lib.hid (TabG.of htab)
  have hr := fun {W : World} {l : List Asrt} (S : Sat (Gnd.of w) W l) => law_right S n z b i_ q x ops hops
  obtain ⟨A, ca, rfl, -, -, hel⟩ := hops
  obtain ⟨m, hm⟩ : ∃ m, m = ops.length := ⟨_, rfl⟩
  rw [← hm] at hr ⊢
  have HEL := Lib.hid (And.intro hm hel)
  have S1 := (Sat.start w).newBlk #[.int .i64 n, .int .i64 z, .int .i64 b, .int .i64 i_, .int .i64 q, .slice A m ca] 26
  have hr1 := hr S1
  have k0 := S1.cell 0
  have k1 := S1.cell 1
  have k2 := S1.cell 2
  have k3 := S1.cell 3
  have k4 := S1.cell 4
  have k5 := S1.cell 5
  clear h0 htab hm hel hr S1
  go_enter Tryz.func4, Tryz.ntmps4
  go_wp2_with fail
  (with_reducible refine hr1.mono ?_)
  clear hr1 k0 k1 k2 k3 k4 k5
  rintro e w1 ⟨r, rfl, hrr, S2⟩
  cases r with
  | false =>
    have HS9 := Lib.hid S2
    have HT9 := HT
    have HG9 := Lib.hid (Gnd.le.rfl' (G := Gnd.of w))
    clear S2 hrr
    go_wp2_with fail
    (with_reducible refine (law_awake HS9.out HT9.out).mono ?_); rintro e w9 ⟨rfl, G9, hG9, S9⟩; go_wp2_with fail; exact hK.out _ _ ⟨rfl, S9.above (HG9.out.trans hG9)⟩
  | true =>
  obtain ⟨hos, hoa, hmay⟩ := hrr rfl
  have hmm := of_decide_eq_true hmay
  obtain ⟨n, rfl⟩ := Int.eq_ofNat_of_zero_le (show 0 ≤ n by omega)
  have k0 := S2.cell 0
  have k1 := S2.cell 1
  have k2 := S2.cell 2
  have k3 := S2.cell 3
  have k4 := S2.cell 4
  have hnew := ob_new S2 n z b i_ q hmay
  obtain ⟨c, hc⟩ : ∃ c : Oc, c = ⟨n, z, b, i_, q⟩ := ⟨_, rfl⟩
  rw [← hc] at hnew
  have HB := Lib.hid (show 1 ≤ n ∧ n ≤ 64 ∧ c.ten = n ∧ m ≤ 150 ∧ (∀ o ∈ ops, opA o) ∧ c.itm ≤ 4096 from ⟨by omega, by omega, by rw [hc], by
    have h1 := osum_len ops
    have h2 := HEL.out.1
    omega, hoa, by rw [hc]; show i_ ≤ 4096; omega⟩)
  have HI := Lib.hid (show OInv c (newO n) by rw [hc]; exact new_inv hmay)
  have HCN := Lib.hid (show CntI c (newO n) by rw [hc]; exact cnt_new n z b i_ q)
  clear hc hmm S2 hmay hos hoa hrr
  go_wp2_with fail
  (with_reducible refine hnew.mono ?_)
  rintro e w2 ⟨o, rfl, S3⟩
  clear hnew k0 k1 k2 k3 k4
  have k5 := S3.swap.cell 5
  have HS3 := Lib.hid S3
  clear S3
  go_wp2_with fail
  clear k5
  go_loopw [7, 40] (fun tk i wr => ∃ (k : Nat) (G1 : Gnd) (s : Os), k ≤ m ∧ i = .int .i64 k ∧ tk = .int .i64 s.last ∧ s.last < k ∧ s.F.length ≤ k ∧ (∀ j, (s.D.getD j []).length ≤ k) ∧ OInv c s ∧ CntI c s ∧ (Gnd.of w).le G1 ∧ Sat G1 wr (outA o c s :: blk w.heap.size #[.int .i64 n, .int .i64 z, .int .i64 b, .int .i64 i_, .int .i64 q, .slice A m ca] 26 :: [])) (fun _ i _ => m - (intOf i).toNat)
  case atStart => exact ⟨0, Gnd.of w, newO n, Nat.zero_le _, rfl, rfl, by show (-1 : Int) < 0; decide, Nat.zero_le _, (fun j => by show ((List.replicate n []).getD j []).length ≤ 0; rw [repD]; exact Nat.le_refl _), HI.out, HCN.out, Gnd.le.rfl', HS3.out⟩
  case round =>
    obtain ⟨k, G1, s, hk, rfl, rfl, hla, hfe, hD, hI, hC, hG1, S4⟩ := hrel
    clear HS3
    have hm150 := HB.out.2.2.2.1
    by_cases hlt : k < m
    · obtain ⟨od, hod⟩ : ∃ od, ops[k]? = some od := ⟨_, List.getElem?_eq_getElem (by rw [← HEL.out.1]; exact hlt)⟩
      obtain ⟨ad, bo, off, rfl, had, hcl, hok⟩ := HEL.out.2 k _ hod
      have hopa := HB.out.2.2.2.2.1 od (List.mem_of_getElem? hod)
      obtain ⟨ok, ot, oi, oa, ov, obs, oe⟩ := od
      obtain ⟨hx, hb, hdw⟩ := hok
      simp only at hx hb hdw
      have HDW := Lib.hid hdw
      clear hdw
      obtain ⟨X, cx, rfl, -⟩ := hx.form
      simp only [OpD.cells] at hcl
      have d0 := S4.cellR (cellR_mono hG1.ro (hcl 0 _ rfl))
      have d1 := S4.cellR (cellR_mono hG1.ro (hcl 1 _ rfl))
      have d2 := S4.cellR (cellR_mono hG1.ro (hcl 2 _ rfl))
      have d3 := S4.cellR (cellR_mono hG1.ro (hcl 3 _ rfl))
      have d4 := S4.cellR (cellR_mono hG1.ro (hcl 4 _ rfl))
      have d5 := S4.cellR (cellR_mono hG1.ro (hcl 5 _ rfl))
      rw [Nat.add_zero] at d0
      obtain ⟨bl, hbl⟩ : ∃ x, x = obs.length := ⟨_, rfl⟩
      rw [← hbl] at hb d4
      have S5 := S4.newBlk #[.int .i64 ok, .int .i64 ot, .int .i64 oi, .int .i64 oa, .slice X bl cx, .int .i64 oe] 38
      have HX := Lib.hid (And.intro (hx.mono hG1) (And.intro hbl (And.intro hb hopa)))
      have HH := Lib.hid (And.intro hla (And.intro hfe (And.intro hD (And.intro hI (And.intro hG1 hC)))))
      have hla2 := hla
      have hlb : s.last < 9223372036854775806 := by have := HB.out.2.2.2.1; omega
      have hl0 := hI.l0
      clear hcl hod hx hb hbl hopa hla hfe hD hI hG1 hC S4
      by_cases hk1 : ok = 1
      · subst hk1
        obtain ⟨na, rfl⟩ := Int.eq_ofNat_of_zero_le (HX.out.2.2.2 rfl).1
        have hna : na ≤ 300 := by have h : (na : Int) ≤ 300 := (HX.out.2.2.2 rfl).2; omega
        go_upto_region 12 with (fail)
        generalize wr.heap.size = pb at S5 ⊢
        refine wp_world S5 fun W0 S6 => ?_
        clear S5 d0 d1 d2 d3 d4 d5
        obtain ⟨RP, hRP⟩ : ∃ R : List Asrt, R = blk w.heap.size #[.int .i64 n, .int .i64 z, .int .i64 b, .int .i64 i_, .int .i64 q, .slice (some ad) m ca] 26 :: [] := ⟨_, rfl⟩
        rw [← hRP] at S6
        have HRP := Lib.hid hRP
        clear hRP
        refine wp_act fun a0 ha0 => ?_
        have HSZ : a0.tmps.size = 177 := by rw [ha0]; rfl
        have E5 : a0.eval (.tmp 5) = .pointer (some ⟨o, 0, none⟩) := by rw [ha0]; rfl
        have E9 : a0.eval (.tmp 9) = .pointer (some ⟨pb, 0, none⟩) := by rw [ha0]; rfl
        have E8 : a0.eval (.tmp 8) = .int .i64 k := by rw [ha0]; rfl
        refine wp_region_J (by kernel_rfl) 7 (by kernel_rfl) [[], [], [1], [], [], [3, 4], [0, 2, 5, 5]] (by kernel_rfl) (by kernel_rfl) (fun f a' W => ∃ (G2 : Gnd) (g : Nat) (hb : List UInt8), (f 6 = true → f 5 = true) ∧ G1.le G2 ∧ (f 5 = true → hb.length = na ∧ SlB (Go.Proofs.YtcecfhfbcdbofaaGreatDoor.cellR G2.ro) (.slice (some ⟨g, 0, none⟩) na na) hb) ∧ a' = acts [(0, 49, .pointer (some ⟨o, 0, none⟩)), (1, 50, .pointer (some ⟨pb, 1, none⟩)), (2, 51, .int .i64 ot), (3, 52, .agg #[.int .i64 1, .int .i64 ot, .int .i64 oi, .int .i64 na, .slice X bl cx, .int .i64 oe]), (4, 53, .int .i64 k), (5, 54, .agg #[.int .i64 k, .slice (some ⟨g, 0, none⟩) na na, .slice X bl cx]), (6, 55, .int .i64 (subS c s ot ((k : Int), hb, obs)).2)] f a0 ∧ Sat G2 W (blk pb #[.int .i64 1, .int .i64 ot, .int .i64 oi, .int .i64 na, .slice X bl cx, .int .i64 oe] 38 :: outA o c (cond (f 6) (subS c s ot ((k : Int), hb, obs)).1 s) :: RP)) ?_ ?_ ?_
        · exact ⟨G1, 0, [], (fun h => by cases h), Gnd.le.rfl', fun h => (by cases h), rfl, S6.drew⟩
        · refine ⟨?_, ?_, ?_, ?_, ?_, ?_, ?_, trivial⟩
          · rintro f a' W h0 hd ⟨G2, g, hb, hh, hG2, hsl, rfl, S⟩
            refine wpOp_run (v := .pointer (some ⟨o, 0, none⟩)) rfl rfl (fun ρ hρ => ?_) ⟨G2, g, hb, hh, hG2, hsl, (acts_some 0 rfl (by kernel_rfl) (by kernel_rfl)).symm, S⟩
            have e0 : ρ (.tmp 5) = .pointer (some ⟨o, 0, none⟩) := by rw [hρ]; exact (acts_eval_tmp 5 (by kernel_rfl)).trans E5
            clear hρ
            go_simp
          · rintro f a' W h1 hd ⟨G2, g, hb, hh, hG2, hsl, rfl, S⟩
            refine wpOp_run (v := .pointer (some ⟨pb, 1, none⟩)) rfl rfl (fun ρ hρ => ?_) ⟨G2, g, hb, hh, hG2, hsl, (acts_some 1 rfl (by kernel_rfl) (by kernel_rfl)).symm, S⟩
            have e0 : ρ (.tmp 9) = .pointer (some ⟨pb, 0, none⟩) := by rw [hρ]; exact (acts_eval_tmp 9 (by kernel_rfl)).trans E9
            clear hρ
            go_simp
          · rintro f a' W h2 hd ⟨G2, g, hb, hh, hG2, hsl, rfl, S⟩
            refine wpOp_run (v := .int .i64 ot) rfl rfl (fun ρ hρ => ?_) ⟨G2, g, hb, hh, hG2, hsl, (acts_some 2 rfl (by kernel_rfl) (by kernel_rfl)).symm, S⟩
            have e0 : ρ (.tmp 50) = .pointer (some ⟨pb, 1, none⟩) := by rw [hρ]; exact acts_eval_hit 1 rfl hd.1 (by rw [HSZ]; rfl) (by kernel_rfl)
            clear hρ
            (have z1 := S.cell 1)
            go_simp
          · rintro f a' W h3 hd ⟨G2, g, hb, hh, hG2, hsl, rfl, S⟩
            refine wpOp_list rfl ?_
            refine st_load rfl _ _ rfl _ ((acts_eval_tmp 9 (by kernel_rfl)).trans E9) _ _ (S) _ rfl rfl rfl ?_
            exact ⟨G2, g, hb, hh, hG2, hsl, (acts_some 3 rfl (by kernel_rfl) (by kernel_rfl)).symm, S⟩
          · rintro f a' W h4 hd ⟨G2, g, hb, hh, hG2, hsl, rfl, S⟩
            refine wpOp_run (v := .int .i64 k) rfl rfl (fun ρ hρ => ?_) ⟨G2, g, hb, hh, hG2, hsl, (acts_some 4 rfl (by kernel_rfl) (by kernel_rfl)).symm, S⟩
            have e0 : ρ (.tmp 8) = .int .i64 k := by rw [hρ]; exact (acts_eval_tmp 8 (by kernel_rfl)).trans E8
            clear hρ
            go_simp
          · rintro f a' W h5 hd ⟨G2, g, hb, hh, hG2, hsl, rfl, S⟩
            refine wpOp_call rfl rfl (fun ρ hρ => ?_) (law_item S 1 ot oi na X bl cx oe k hna (by omega)) ?_
            · skip
              have e0 : ρ (.tmp 52) = .agg #[.int .i64 1, .int .i64 ot, .int .i64 oi, .int .i64 na, .slice X bl cx, .int .i64 oe] := by rw [hρ]; exact acts_eval_hit 3 rfl hd.1 (by rw [HSZ]; rfl) (by kernel_rfl)
              have e1 : ρ (.tmp 53) = .int .i64 k := by rw [hρ]; exact acts_eval_hit 4 rfl hd.2.1 (by rw [HSZ]; rfl) (by kernel_rfl)
              have ef : ρ (.func 12) = .func (.func 12) #[] #[] := by rw [hρ]; rfl
              clear hρ
              go_simp
            · (rintro e W' ⟨G3, g', hb', hG3, hbl', hsb', rfl, S'⟩; have h6 : f 6 = false := no_of hh h5; exact ⟨_, rfl, G3, g', hb', (fun _ => rfl), hG2.trans hG3, fun _ => ⟨hbl', hsb'⟩, acts_swap (by simp only [acts, h5, h6, Bool.false_eq_true, if_false]) (k := 5) rfl (by kernel_rfl) (by kernel_rfl), by rw [show upd f 5 6 = f 6 from rfl, h6]; rw [h6] at S'; exact S'⟩)
          · rintro f a' W h6 hd ⟨G2, g, hb, hh, hG2, hsl, rfl, S⟩
            (rw [h6] at S; simp only [cond_false] at S; obtain ⟨hbl2, hsb2⟩ := hsl hd.2.2.1)
            refine wpOp_call rfl rfl (fun ρ hρ => ?_) (ob_submit S.swap HH.out.2.2.2.1 ot k (.slice (some ⟨g, 0, none⟩) na na) (.slice X bl cx) hb obs hsb2 (by have h := HX.out.1.mono hG2; rw [← HX.out.2.1] at h; exact h) (by omega) (by have := HX.out.2.2.1; have := HX.out.2.1; omega)) ?_
            · skip
              have e0 : ρ (.tmp 49) = .pointer (some ⟨o, 0, none⟩) := by rw [hρ]; exact acts_eval_hit 0 rfl hd.1 (by rw [HSZ]; rfl) (by kernel_rfl)
              have e1 : ρ (.tmp 51) = .int .i64 ot := by rw [hρ]; exact acts_eval_hit 2 rfl hd.2.1 (by rw [HSZ]; rfl) (by kernel_rfl)
              have e2 : ρ (.tmp 54) = .agg #[.int .i64 k, .slice (some ⟨g, 0, none⟩) na na, .slice X bl cx] := by rw [hρ]; exact acts_eval_hit 5 rfl hd.2.2.1 (by rw [HSZ]; rfl) (by kernel_rfl)
              have ef : ρ (.func 11) = .func (.func 11) #[] #[] := by rw [hρ]; rfl
              clear hρ
              go_simp
            · (rintro e W' ⟨G3, hG3, rfl, S'⟩; exact ⟨_, rfl, G3, g, hb, (fun _ => hd.2.2.1), hG2.trans hG3, fun _ => ⟨hbl2, hsb2.mono hG3⟩, acts_swap (by simp only [acts, h6, Bool.false_eq_true, if_false]) (k := 6) rfl (by kernel_rfl) (by kernel_rfl), S'.swap⟩)
        · rintro a' W2 ⟨G2, g, hb, -, hG2, hsl, rfl, S8⟩
          subst ha0
          simp only [acts, if_true, Act.put, List.setIfInBounds_toArray, List.set_cons_succ, List.set_cons_zero]
          simp only [cond_true] at S8
          clear S6 HSZ E5 E8 E9 hsl
          have hinv := sub_inv HH.out.2.2.2.1 ot ((k : Int), hb, obs)
          have hsame := sub_same c s ot ((k : Int), hb, obs)
          obtain ⟨s2, hs2⟩ : ∃ s2, s2 = (subS c s ot ((k : Int), hb, obs)).1 := ⟨_, rfl⟩
          rw [← hs2] at S8 hinv hsame
          obtain ⟨er, her⟩ : ∃ er, er = (subS c s ot ((k : Int), hb, obs)).2 := ⟨_, rfl⟩
          rw [← her]
          have HG := Lib.hid (And.intro hinv (And.intro hsame (And.intro (HH.out.2.2.2.2.1.trans hG2) S8)))
          clear hinv hsame S8 hs2 her hG2
          go_wp2_with fail
          go_roundw
          case rel =>
            obtain ⟨hinv, ⟨hM, hF, hL, hD, hla⟩, hG, S⟩ := HG.out
            exact ⟨k + 1, _, s2, by omega, by go_num, by rw [hla], by rw [hla]; have := HH.out.1; omega, by rw [hF]; have := HH.out.2.1; omega, (fun j => by rw [hD]; have := HH.out.2.2.1 j; omega), hinv, (fun j hj => by rw [hL, hM]; exact HH.out.2.2.2.2.2 j hj), hG, by rw [← HRP.out]; exact S.drop⟩
          case measure => simp [intOf]; omega
      · have hk1b : (ok == 1) = false := by simpa using hk1
        by_cases hk2 : ok = 2
        · subst hk2
          have hs1 : IntKind.i64.wrap (s.last + 1) = s.last + 1 := IntWalk.i64_in _ (by omega)
          go_upto_region 15 with (fail)
          clear d0 d1 d2 d3 d4 d5
          have hsl := ob_slot S5.drop HH.out.2.2.2.1 (HT.out.mono HH.out.2.2.2.2.1) (s.last + 1) (by have := HH.out.2.1; omega)
          obtain ⟨tk, htk⟩ : ∃ x, x = s.last + 1 := ⟨_, rfl⟩
          rw [← htk] at hsl ⊢
          have HTK := Lib.hid htk
          have ht0 : 0 ≤ tk ∧ tk ≤ 1000 := by omega
          clear S5 htk hs1 hla2 hl0 hlb
          go_wp2_with fail
          (with_reducible refine hsl.mono ?_)
          clear hsl
          rintro e w5 ⟨G2, s', hG2, hR, hI', S6⟩
          rcases hR with ⟨hb, -⟩ | ⟨-, hle, -⟩ | ⟨-, -, t, d, u, bs_, ht, htt, hu, hlen, rfl, hst⟩
          · exfalso
            unfold tickOk at hb
            rw [decide_eq_true ht0.1, decide_eq_true (show tk ≤ 1073741823 by omega)] at hb
            cases hb
          · exfalso
            have := HTK.out
            omega
          · have hlast := step_last hst
            change s'.last = tk at hlast
            have hin := last_inv HH.out.2.2.2.1 (tick := tk) (by have := HTK.out; omega)
            have hfew := step_few (s := { s with last := tk }) hst hin hI'
            change s'.F.length ≤ s.F.length + 1 at hfew
            have hcs := cnt_step hin htt ht0.1 (by omega) ht HH.out.2.2.2.2.2 hst
            have hDs := step_D hst
            have HS' := Lib.hid (show s'.last = tk ∧ s'.last < ((k + 1 : Nat) : Int) ∧ s'.F.length ≤ k + 1 ∧ OInv c s' ∧ (Gnd.of w).le G2 ∧ CntI c s' ∧ ∀ j, (s'.D.getD j []).length ≤ k + 1 from ⟨hlast, by have := HTK.out; have := HH.out.1; omega, by have := HH.out.2.1; omega, hI', HH.out.2.2.2.2.1.trans hG2, hcs, fun j => by have h1 := hDs j; have h2 := HH.out.2.2.1 j; exact Nat.le_trans h1 (Nat.le_succ_of_le h2)⟩)
            have HS6 := Lib.hid S6
            clear hst hu hlen ht hlast hfew hI' hG2 S6 hin hcs hDs htt
            go_wp2_with fail
            go_roundw
            case rel => exact ⟨k + 1, G2, s', by omega, by go_num, by rw [HS'.out.1], HS'.out.2.1, HS'.out.2.2.1, HS'.out.2.2.2.2.2.2, HS'.out.2.2.2.1, HS'.out.2.2.2.2.2.1, HS'.out.2.2.2.2.1, HS6.out⟩
            case measure => simp [intOf]; omega
        · have hk2b : (ok == 2) = false := by simpa using hk2
          by_cases hk4 : ok = 4
          · subst hk4
            cases hsm : smAt s.M oi with
            | none =>
              have hr := ob_reset_not S5.swap oi 108 HDW.out hsm
              have HS5 := Lib.hid S5
              clear S5 hsm
              go_wp2_with fail
              (with_reducible refine hr.mono ?_)
              rintro e w5 ⟨rfl, rfl⟩
              clear hr
              go_wp2_with fail
              go_roundw
              case rel => exact ⟨k + 1, G1, s, by omega, by go_num, rfl, by have := HH.out.1; omega, by have := HH.out.2.1; omega, (fun j => by have := HH.out.2.2.1 j; omega), HH.out.2.2.2.1, HH.out.2.2.2.2.2, HH.out.2.2.2.2.1, HS5.out.drop⟩
              case measure => simp [intOf]; omega
            | some y =>
              obtain ⟨hy, hyid⟩ := smAt_mem hsm
              obtain ⟨i, hxi⟩ := ent_at HH.out.2.2.2.1 hy
              obtain ⟨t, ht, hot⟩ := own_nat HH.out.2.2.2.1 hy
              have hDl : (s.D.getD t []).length < 10000 := by have := HH.out.2.2.1 t; omega
              have hr := ob_reset S5.swap HH.out.2.2.2.1 (HT.out.mono HH.out.2.2.2.2.1) hy hxi ht hot hDl
              have hci := cutS_inv HH.out.2.2.2.1 HH.out.2.2.2.2.2 hy hxi ht hot hDl
              have HY := Lib.hid (And.intro hci (show (cutS c s i y t).last = s.last ∧ (cutS c s i y t).F.length ≤ s.F.length ∧ ∀ j, ((cutS c s i y t).D.getD j []).length ≤ k + 1 from ⟨rfl, gone_sub.length_le, fun j => by
                show ((s.D.set t (s.D.getD t [] ++ [(y.id, 108)])).getD j []).length ≤ k + 1
                have h2 := HH.out.2.2.1 j
                rw [List.getD_eq_getElem?_getD]
                by_cases hj : j = t
                · subst hj
                  rcases Nat.lt_or_ge j s.D.length with h | h
                  · rw [List.getElem?_set_self h]
                    show (s.D.getD j [] ++ [(y.id, 108)]).length ≤ k + 1
                    rw [List.length_append]
                    exact Nat.succ_le_succ h2
                  · rw [List.getElem?_eq_none (by rw [List.length_set]; exact h)]
                    exact Nat.zero_le _
                · rw [List.getElem?_set_ne (by omega), ← List.getD_eq_getElem?_getD]
                  exact Nat.le_succ_of_le h2⟩))
              rw [hyid] at hr
              clear S5 hsm hy hyid hxi ht hot hDl hci
              go_wp2_with fail
              (with_reducible refine hr.mono ?_)
              rintro e w5 ⟨rfl, S6⟩
              clear hr
              have HS6 := Lib.hid S6
              clear S6
              go_wp2_with fail
              go_roundw
              case rel => exact ⟨k + 1, G1, cutS c s i y t, by omega, by go_num, by rw [HY.out.2.1], by rw [HY.out.2.1]; have := HH.out.1; omega, by have := HY.out.2.2.1; have := HH.out.2.1; omega, HY.out.2.2.2, HY.out.1.1, HY.out.1.2, HH.out.2.2.2.2.1, HS6.out.drop2⟩
              case measure => simp [intOf]; omega
          · have hk4b : (ok == 4) = false := by simpa using hk4
            have HS5 := Lib.hid S5
            clear S5
            go_wp2_with fail
            go_roundw
            case rel => exact ⟨k + 1, G1, s, by omega, by go_num, rfl, by have := HH.out.1; omega, by have := HH.out.2.1; omega, (fun j => by have := HH.out.2.2.1 j; omega), HH.out.2.2.2.1, HH.out.2.2.2.2.2, HH.out.2.2.2.2.1, HS5.out.drop⟩
            case measure => simp [intOf]; omega
    · obtain rfl : m = k := by omega
      have hn64 := HB.out.2.1
      have hcn := HB.out.2.2.1
      have hfm : s.F.length ≤ 150 := by omega
      obtain ⟨RP, hRP⟩ : ∃ R : List Asrt, R = blk w.heap.size #[.int .i64 n, .int .i64 z, .int .i64 b, .int .i64 i_, .int .i64 q, .slice A m ca] 26 :: [] := ⟨_, rfl⟩
      have k0 := S4.swap.cell 0
      have HH := Lib.hid (And.intro hfm (And.intro hI (And.intro hG1 (And.intro hC (And.intro hla (And.intro hfe hD))))))
      rw [← hRP] at S4
      have HRP := Lib.hid hRP
      clear hla hfe hD hI hG1 hC hRP
      go_wp2_with fail
      clear k0
      go_loopw [10, 73] (fun x i wr => ∃ t : Nat, t ≤ n ∧ i = .int .i64 t ∧ x = .int .i64 (lsum s.L t) ∧ Sat G1 wr (outA o c s :: RP)) (fun _ i _ => n - (intOf i).toNat)
      case atStart => exact ⟨0, Nat.zero_le _, rfl, rfl, S4⟩
      case round =>
        obtain ⟨t, ht, rfl, rfl, S5⟩ := hrel
        clear S4
        have hsum := lsum_le HH.out.2.1 t (by omega)
        have hsb : lsum s.L t ≤ 9600 := Int.le_trans hsum.2 (by
          have h1 : (s.F.length : Int) * (t : Int) ≤ 150 * 64 := Int.mul_le_mul (by omega) (by omega) (by omega) (by decide)
          omega)
        by_cases htn : t < n
        · have htn2 : (t : Int) < (n : Int) := by omega
          have hst := ob_streams S5 HH.out.2.1.toOWf t
          have hlv := live_le' HH.out.2.1 (T := t) (by omega)
          obtain ⟨lv, hlv'⟩ : ∃ y, y = liveAt s.L t := ⟨_, rfl⟩
          rw [← hlv'] at hst hlv
          have HLV := Lib.hid hlv'
          obtain ⟨y, hy⟩ : ∃ y, y = lsum s.L t := ⟨_, rfl⟩
          rw [← hy] at hsum hsb ⊢
          have HY := Lib.hid hy
          have w1_ : IntKind.i64.wrap (y + lv) = y + lv := IntWalk.i64_in _ (by omega)
          have HS5 := Lib.hid S5
          clear hlv' hy S5
          go_wp2_with fail
          (with_reducible refine hst.mono ?_)
          rintro e w5 ⟨rfl, rfl⟩
          clear hst
          go_wp2_with fail
          go_roundw
          case rel => exact ⟨t + 1, by omega, by go_num, by rw [HY.out, HLV.out]; rfl, HS5.out⟩
          case measure => simp [intOf]; omega
        · obtain rfl : n = t := by omega
          have hsn := sum_cnt HH.out.2.1
          rw [hcn] at hsn
          rw [hsn]
          have hfl := ob_fail S5 HH.out.2.1 HH.out.2.2.2.1 (HT.out.mono HH.out.2.2.1) above
          clear hsum hsb hsn S5
          go_wp2_with fail
          (with_reducible refine hfl.mono ?_)
          clear hfl
          rintro e w5 ⟨G2, v, N, E, s2, hG2, rfl, hI2, hFR, S6⟩
          obtain ⟨VD, vc, rfl, hvc1, hvc2, -⟩ := S6.ownGet
          obtain ⟨Nl, hNl⟩ : ∃ x, x = (N ++ E).length := ⟨_, rfl⟩
          rw [← hNl] at S6 hvc1 ⊢
          have HF := Lib.hid (And.intro hNl (And.intro hI2 (And.intro hFR (HH.out.2.2.1.trans hG2))))
          clear hNl hI2 hFR hG2
          go_wp2_with fail
          have hN1 : ∀ x ∈ N, 0 < x.2.1 ∧ above < x.2.1 ∧ x.1 = ownT x.2.1 c.ten ∧ ∃ y ∈ s.M, y.id = x.2.1 := fun x hx => by
            obtain ⟨s1, K1, hFS, hKM, -⟩ := HF.out.2.2.1
            have h1 := hFS.ins x hx
            obtain ⟨y, hy, hyx⟩ := hKM _ (List.mem_of_mem_take h1.2.1)
            have h2 := HH.out.2.1.mi y hy
            exact ⟨by omega, h1.1, h1.2.2, y, hy, hyx⟩
          have HN1 := Lib.hid hN1
          have hNb : Nl ≤ 9223372036854775807 := by
            unfold maxLen at hvc2
            omega
          go_loopw [12, 13, 86] (fun nv lv i wr => ∃ (j : Nat) (lx : Int), j ≤ Nl ∧ i = .int .i64 j ∧ nv = .int .i64 ((min j N.length : Nat) : Int) ∧ lv = .int .i64 lx ∧ (∀ x ∈ N.drop j, lx < x.2.1) ∧ Sat G2 wr (ownS 45 5 (.slice VD Nl vc) Nl (encs fenc (N ++ E)) :: outA o c s2 :: RP)) (fun _ _ i _ => Nl - (intOf i).toNat)
          case atStart => exact ⟨0, 0, Nat.zero_le _, rfl, by rw [Nat.zero_min]; rfl, rfl, (fun x hx => (hN1 x hx).1), S6⟩
          case round =>
            clear S6 hN1
            obtain ⟨j, lx, hj, rfl, rfl, rfl, hlx, S7⟩ := hrel
            by_cases hjl : j < Nl
            · skip
              obtain ⟨d, hd⟩ : ∃ d, (N ++ E)[j]? = some d := ⟨_, List.getElem?_eq_getElem (by rw [← HF.out.1]; exact hjl)⟩
              obtain ⟨VD', vc', hV, -, -, hvg⟩ := S7.ownGet
              cases hV
              have hen := fun i hi => encs_get fenc_len (N ++ E) j d hd i hi
              obtain ⟨d1, d2, d3⟩ := d
              obtain ⟨gd, rfl, q0⟩ := hvg _ _ ((hen 0 (by decide)).trans rfl)
              obtain ⟨g1, hg1, q1⟩ := hvg _ _ ((hen 1 (by decide)).trans rfl)
              obtain ⟨g2, hg2, q2⟩ := hvg _ _ ((hen 2 (by decide)).trans rfl)
              obtain ⟨g3, hg3, q3⟩ := hvg _ _ ((hen 3 (by decide)).trans rfl)
              obtain ⟨g4, hg4, q4⟩ := hvg _ _ ((hen 4 (by decide)).trans rfl)
              cases hg1
              cases hg2
              cases hg3
              cases hg4
              rw [Nat.add_zero] at q0
              have S8 := S7.newBlk #[.int .i64 0, .int .i64 d1, .int .i64 d2, .int .i64 d3, .int .i64 0] 45
              have e1 := S8.cell 1
              have e2 := S8.cell 2
              have hjl2 : (j : Int) < (Nl : Int) := by omega
              have HS8 := Lib.hid S8
              by_cases hjn : j < N.length
              · have hx : N[j]? = some (d1, d2, d3) := by rw [← hd, List.getElem?_append_left hjn]
                obtain ⟨h1, h2, h3, y, hy, hyi⟩ := HN1.out _ (List.mem_of_getElem? hx)
                simp only at h1 h2 h3 hyi
                have hmi := HH.out.2.1.mi y hy
                rw [hyi] at hmi
                have hn1 := HB.out.1
                have hdb : d2 ≤ 2147483647 := hmi.2.1
                have hq1 : d2.tdiv 2 = d2 / 2 := Int.tdiv_eq_ediv_of_nonneg (by omega)
                have hq2 : (d2 / 2).tmod (n : Int) = d1 := by
                  rw [Int.tmod_eq_emod_of_nonneg (by omega), h3, hcn]
                  unfold ownT ownR
                  rw [if_pos (decide_eq_true ⟨by omega, by omega, by omega, by omega, by omega⟩)]
                have hl : lx < d2 := hlx (d1, d2, d3) (by
                  refine List.mem_of_getElem? (i := 0) ?_
                  rw [List.getElem?_drop, Nat.add_zero]; exact hx)
                have hid0 : (d2 == 0) = false := by simp; omega
                have hlx2 := asc_tail (by obtain ⟨s1, K1, hFS, -⟩ := HF.out.2.2.1; exact hFS.asc) hx
                have HLX := Lib.hid hlx2
                obtain ⟨mn, hmn⟩ : ∃ y, y = min j N.length := ⟨_, rfl⟩
                rw [← hmn]
                have HMN := Lib.hid hmn
                have hmn2 : mn ≤ j := by rw [hmn]; omega
                clear hd hvg hen S7 S8 hlx hmn hx hlx2 hy hmi h3 hyi
                go_wp2_with fail
                refine wp_world HS8.out fun W S9 => ?_
                have hk0 : Sat G2 W RP := S9.drop.drop.drop
                rw [HRP.out] at hk0
                have k0 := hk0.cell 0
                have e1 := S9.cell 1
                have e2 := S9.cell 2
                have HS9 := Lib.hid S9
                have hla1 : decide (d2 ≤ above) = false := decide_eq_false (by omega)
                have hla2 : decide (d2 ≤ lx) = false := decide_eq_false (by omega)
                have hw64 : wrap64 (d2 / 2) = d2 / 2 := by unfold wrap64; omega
                have hne : (d1 != (wrap64 (d2 / 2)).tmod (n : Int)) = false := by
                  rw [hw64, hq2, bne, beq_self_eq_true]; rfl
                clear HS8 hk0 S9 q0 q1 q2 q3 q4
                go_quiet (fail)
                go_wp2_with fail
                go_roundw
                case rel => exact ⟨j + 1, d2, by omega, by go_num, by rw [HMN.out, Nat.min_eq_left (by omega), Nat.min_eq_left (by omega)]; rfl, rfl, HLX.out, (HS9.out.drewQ _).drop⟩
                case measure => simp [intOf]; omega
              · have hE : (d1, d2, d3) ∈ E := by
                  rw [List.getElem?_append_right (by omega)] at hd
                  exact List.mem_of_getElem? hd
                obtain ⟨hab, hd0⟩ : above < 0 ∧ d2 = 0 := by
                  obtain ⟨s1, K1, -, -, -, -, ⟨-, h, -⟩ | ⟨h1, -, h2, -⟩⟩ := HF.out.2.2.1
                  · rw [h] at hE; cases hE
                  · exact ⟨h1, h2 _ hE⟩
                subst hd0
                have HLX := Lib.hid hlx
                have hab2 : ¬ 0 ≤ above := by omega
                obtain ⟨mn, hmn⟩ : ∃ y, y = min j N.length := ⟨_, rfl⟩
                rw [← hmn]
                have HMN := Lib.hid hmn
                clear hd hvg hen S7 S8 hE hlx hmn
                go_wp2_with fail
                go_roundw
                case rel => exact ⟨j + 1, lx, by omega, by go_num, by rw [HMN.out, Nat.min_eq_right (by omega), Nat.min_eq_right (by omega)], rfl, (fun x hx => by rw [List.drop_eq_nil_of_le (by omega)] at hx; cases hx), HS8.out.drop⟩
                case measure => simp [intOf]; omega
            · obtain rfl : Nl = j := by omega
              obtain ⟨hs2l, hcnt, hfw, hneg⟩ := fail_end HF.out.2.2.1 HH.out.2.1 HF.out.2.1
              have hmn : min Nl N.length = N.length := by rw [HF.out.1, List.length_append]; omega
              rw [hmn]
              have hk0 := S7.drop.drop
              rw [HRP.out] at hk0
              have k0 := hk0.cell 0
              have S8 := S7.drop
              rw [hcn] at hcnt hneg
              obtain ⟨nn, hnn⟩ : ∃ x, x = N.length := ⟨_, rfl⟩
              obtain ⟨ml, hml⟩ : ∃ x, x = s.M.length := ⟨_, rfl⟩
              have hml2 : ml ≤ 150 := by rw [hml, ← few_of HH.out.2.1]; exact hfm
              rw [← hnn] at hcnt ⊢
              rw [← hml] at hcnt ⊢
              have HE := Lib.hid (And.intro hs2l (And.intro hcnt (And.intro hfw (And.intro hneg hml2))))
              have HTE := Lib.hid (HT.out.mono HF.out.2.2.2)
              clear S7 hlx hk0 hmn hs2l hcnt hfw hneg hnn hml hml2
              go_wp2_with fail
              clear k0
              go_loopw [16, 125] (fun x i wr => ∃ t : Nat, t ≤ n ∧ i = .int .i64 t ∧ x = .int .i64 (lsum s2.L t) ∧ Sat G2 wr (outA o c s2 :: RP)) (fun _ i _ => n - (intOf i).toNat)
              case atStart => exact ⟨0, Nat.zero_le _, rfl, rfl, S8⟩
              case round =>
                obtain ⟨t, ht, rfl, rfl, S9⟩ := hrel
                clear S8
                have hsum := lsum_le HF.out.2.1 t (by omega)
                have hfw := HE.out.2.2.1
                have hsb : lsum s2.L t ≤ 9600 := Int.le_trans hsum.2 (by
                  have h1 : (s2.F.length : Int) * (t : Int) ≤ 150 * 64 := Int.mul_le_mul (by omega) (by omega) (by omega) (by decide)
                  omega)
                by_cases htn : t < n
                · have htn2 : (t : Int) < (n : Int) := by omega
                  have hst := ob_streams S9 HF.out.2.1.toOWf t
                  have hqd := ob_queued S9 HF.out.2.1.toOWf t
                  have hlv := live_le' HF.out.2.1 (T := t) (by omega)
                  obtain ⟨lv, hlv'⟩ : ∃ y, y = liveAt s2.L t := ⟨_, rfl⟩
                  rw [← hlv'] at hst hlv
                  have HLV := Lib.hid hlv'
                  obtain ⟨y, hy⟩ : ∃ y, y = lsum s2.L t := ⟨_, rfl⟩
                  rw [← hy] at hsum hsb ⊢
                  have HY := Lib.hid hy
                  have w1_ : IntKind.i64.wrap (y + lv) = y + lv := IntWalk.i64_in _ (by omega)
                  have HS9 := Lib.hid S9
                  clear hlv' hy S9 hfw hsum
                  by_cases hab : above < 0
                  · rw [show qsz (qAt s2.Q (t : Int)) = 0 by unfold qAt; rw [if_pos (by omega), (HE.out.2.2.2.1 hab).2.1]; rfl] at hqd
                    go_wp2_with fail
                    (with_reducible refine hst.mono ?_)
                    rintro e w5 ⟨rfl, rfl⟩
                    clear hst
                    go_wp2_with fail
                    (with_reducible refine hqd.mono ?_)
                    rintro e w6 ⟨rfl, rfl⟩
                    clear hqd
                    go_wp2_with fail
                    go_roundw
                    case rel => exact ⟨t + 1, by omega, by go_num, by rw [HY.out, HLV.out]; rfl, HS9.out⟩
                    case measure => simp [intOf]; omega
                  · clear hqd
                    go_wp2_with fail
                    (with_reducible refine hst.mono ?_)
                    rintro e w5 ⟨rfl, rfl⟩
                    clear hst
                    go_wp2_with fail
                    go_roundw
                    case rel => exact ⟨t + 1, by omega, by go_num, by rw [HY.out, HLV.out]; rfl, HS9.out⟩
                    case measure => simp [intOf]; omega
                · obtain rfl : n = t := by omega
                  have hsl := ob_slot S9 HF.out.2.1 HTE.out (s.last + 1) (by omega)
                  have hla := HH.out.2.2.2.2.1
                  have hl0 := HH.out.2.1.l0
                  obtain ⟨tk, htk⟩ : ∃ x, x = s.last + 1 := ⟨_, rfl⟩
                  have hs1 : IntKind.i64.wrap (s.last + 1) = tk := by rw [htk]; exact IntWalk.i64_in _ (by omega)
                  rw [← htk] at hsl
                  have htk2 : 0 ≤ tk ∧ tk ≤ 1073741823 ∧ s2.last < tk := by have := HE.out.1; omega
                  have HTK := Lib.hid htk2
                  have hcnt := HE.out.2.1
                  have hml := HE.out.2.2.2.2
                  obtain ⟨y, hy⟩ : ∃ y, y = lsum s2.L n := ⟨_, rfl⟩
                  rw [← hy] at hsum hsb hcnt ⊢
                  have HY := Lib.hid hy
                  have w1_ : IntKind.i64.wrap ((nn : Int) + y) = (ml : Int) := by rw [hcnt]; exact IntWalk.i64_in _ (by omega)
                  have HR : Hid (∀ (G' : Gnd) (e : Ending) (s' : Os), SlotR c s2 tk G' e s' → ∃ (u : Value) (d1 d2 d3 d4 d5 : Int), e = .returned (.tuple #[u, .agg #[.int .i64 d1, .int .i64 d2, .int .i64 d3, .int .i64 d4, .int .i64 d5], .int .i64 0]) ∧ (above < 0 → d1 = 0)) := Lib.hid (by
                    intro G' e s' hR
                    rcases hR with ⟨hb, -⟩ | ⟨-, hle, -⟩ | ⟨-, -, t, d, u, bs_, ht, htt, hu, hlen, rfl, hst⟩
                    · exfalso
                      unfold tickOk at hb
                      rw [decide_eq_true htk2.1, decide_eq_true htk2.2.1] at hb
                      cases hb
                    · exfalso
                      have := htk2.2.2
                      omega
                    · refine ⟨u, d.1, d.2.1, d.2.2.1, d.2.2.2.1, d.2.2.2.2, rfl, fun hab => ?_⟩
                      obtain ⟨h1, h2, h3, -⟩ := HE.out.2.2.2.1 hab
                      exact step_none (s := { s2 with last := tk }) h1 h2 h3 hst)
                  clear hla hl0 htk htk2 hcnt hml hy S9 hsb hsum hfw
                  by_cases hab : above < 0
                  · have hy0 : y = 0 := by rw [HY.out]; exact (HE.out.2.2.2.1 hab).2.2.2
                    have hyb : (y != 0) = false := by rw [hy0]; rfl
                    clear hy0
                    go_wp2_with fail
                    (with_reducible refine hsl.mono ?_)
                    clear hsl
                    rintro e w5 ⟨G3, s', hG3, hR, -, S10⟩
                    obtain ⟨u, d1, d2, d3, d4, d5, rfl, hd⟩ := HR.out _ _ _ hR
                    obtain rfl := hd hab
                    have S11 := S10.newBlk #[.int .i64 0, .int .i64 d2, .int .i64 d3, .int .i64 d4, .int .i64 d5] 45
                    have e0 := S11.cell 0
                    have HS9 := Lib.hid S11
                    have HT9 := Lib.hid (HTE.out.mono hG3)
                    have HG9 := Lib.hid (HF.out.2.2.2.trans hG3)
                    clear hR hd S10 S11 hG3
                    go_wp2_with fail
                    (with_reducible refine (law_awake HS9.out HT9.out).mono ?_); rintro e w9 ⟨rfl, G9, hG9, S9⟩; go_wp2_with fail; exact hK.out _ _ ⟨rfl, S9.above (HG9.out.trans hG9)⟩
                  · have hab2 : 0 ≤ above := by omega
                    go_wp2_with fail
                    (with_reducible refine hsl.mono ?_)
                    clear hsl
                    rintro e w5 ⟨G3, s', hG3, hR, -, S10⟩
                    obtain ⟨u, d1, d2, d3, d4, d5, rfl, -⟩ := HR.out _ _ _ hR
                    have S11 := S10.newBlk #[.int .i64 d1, .int .i64 d2, .int .i64 d3, .int .i64 d4, .int .i64 d5] 45
                    have e0 := S11.cell 0
                    have HS9 := Lib.hid S11
                    have HT9 := Lib.hid (HTE.out.mono hG3)
                    have HG9 := Lib.hid (HF.out.2.2.2.trans hG3)
                    clear hR S10 S11 hG3
                    go_wp2_with fail
                    (with_reducible refine (law_awake HS9.out HT9.out).mono ?_); rintro e w9 ⟨rfl, G9, hG9, S9⟩; go_wp2_with fail; exact hK.out _ _ ⟨rfl, S9.above (HG9.out.trans hG9)⟩
end Go.Proofs.YtcecfhfbcdbofaaGreatDoor

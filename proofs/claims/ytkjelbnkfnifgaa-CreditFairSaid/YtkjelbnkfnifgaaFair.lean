/- The walk of the law CreditFair. -/
import Derived.Test.YtkjelbnkfnifgaaAw
set_option linter.unusedSimpArgs false
set_option linter.unusedVariables false
namespace Go.Proofs.Ytkjelbnkfnifgaa
open Go.RowKit

def Near (L : List Int) (T : Nat) : Prop := ∀ i j, i < L.length → j < L.length → L.getD i 0 - L.getD j 0 ≤ T + 1
theorem near_grant {L : List Int} {T : Nat} (h : Near L T) (n : Int) : Near (crGrant L T n).1 (crGrant L T n).2.1 ∧ ((crGrant L T n).2.2 = 0 ∧ (crGrant L T n).2.1 = T + 1 ∨ (crGrant L T n).2.2 ≠ 0 ∧ T = (crGrant L T n).2.1) := by
  unfold crGrant
  split
  · exact ⟨h, .inr ⟨by simp, rfl⟩⟩
  · split
    · exact ⟨h, .inr ⟨by simp, rfl⟩⟩
    · refine ⟨fun i j hi hj => ?_, .inl ⟨rfl, rfl⟩⟩
      simp only [gl_length] at hi hj
      show (gl L T n L.length).getD i 0 - (gl L T n L.length).getD j 0 ≤ ((T + 1 : Nat) : Int) + 1
      rw [gl_all L T n i hi, gl_all L T n j hj]
      have := h i j hi hj
      split <;> split <;> omega
theorem near_parts (m : Nat) : Near (parts 65535 m) 0 := by
  intro i j hi hj
  have e : ∀ k, k < (parts 65535 m).length → (parts 65535 m).getD k 0 = part 65535 m k := fun k hk => by
    have hk' : k < m := by simpa [parts] using hk
    simp [parts, List.getD_eq_getElem?_getD, hk']
  rw [e i hi, e j hj]
  exact part_near _ _ _ _
/-- v is a slice of the whole numbers, that nobody turns. -/
def RInt (R : Hp) (v : Value) (xs : List Int) : Prop :=
  ∃ A c, v = .slice A xs.length c ∧ xs.length ≤ c ∧ c ≤ 9223372036854775807 ∧ ∀ i x, xs[i]? = some x → ∃ a, A = some a ∧ cellR R (a.add i) = some (.int .i64 x) ∧ in64 x
theorem ints_of {R : Hp} {v : Value} {l : List D} (h : RdSl R 8 (.int .i64) v l) : ∃ xs, RInt R v xs := by
  obtain ⟨A, c, hv, h1, h2, hb, _, hel⟩ := h.form
  refine ⟨l.map (fun d => match d with | .int n => n | _ => 0), A, c, by simpa using hv, by simpa using h1, h2, fun i p hp => ?_⟩
  rw [List.getElem?_map] at hp
  cases hd : l[i]? with
  | none => rw [hd] at hp; cases hp
  | some d =>
    rw [hd] at hp
    simp only [Option.map_some, Option.some.injEq] at hp
    obtain ⟨a, hA, es, he, hc, hr⟩ := hel i d hd
    cases d <;> simp only [Rd] at hr
    obtain ⟨rfl, hw⟩ := hr
    simp only at hp
    subst hp
    have h0 := hc 0 (by simp [Ty.size])
    simp only [Ty.size, Nat.mul_one, Nat.add_zero, List.getElem?_cons_zero] at h0
    exact ⟨a, hA, h0, by simp [Lit.wf] at hw; exact hw⟩
set_option maxHeartbeats 8000000 in
set_option maxRecDepth 100000 in
theorem creditFair_walk (w : World) (v0 v1 : Value) (h0 : ∃ d, ArgV w (.int .i64) v0 d) (h1 : ∃ d, ArgV w (.sl 8 (.int .i64)) v1 d) :
    Calls Try.prog 5 #[v0, v1] w fun e w' => e = .returned (.bool true) ∧ Below w.heap.size w w' := by
  refine calls_any fun K hK => ?_
  obtain ⟨_, h0⟩ := h0
  obtain ⟨m, rfl, -⟩ := arg_int h0
  obtain ⟨_, h1⟩ := h1
  obtain ⟨l, h1⟩ := arg_sl h1
  obtain ⟨ps, hps⟩ := ints_of h1
  clear h0 h1
  have S0 := Sat.start w
  change RInt (Gnd.of w).ro v1 ps at hps
  have hG := Gnd.le.rfl' (G := Gnd.of w)
  obtain ⟨A, c, rfl, hlc, hc, hel⟩ := hps
  have HEL := Lib.hid hel
  clear hel
  by_cases hm1 : m < 1
  · go_enter Try.func5, Try.ntmps5
    go_wp2_with fail
    (with_reducible refine (law_awake _).mono ?_); rintro e w9 ⟨rfl, hb9⟩; go_wp2_with fail; exact hK.out _ _ ⟨rfl, ((S0).below hb9).above (hG)⟩
  by_cases hm2 : 64 < m
  · go_enter Try.func5, Try.ntmps5
    go_wp2_with fail
    (with_reducible refine (law_awake _).mono ?_); rintro e w9 ⟨rfl, hb9⟩; go_wp2_with fail; exact hK.out _ _ ⟨rfl, ((S0).below hb9).above (hG)⟩
  by_cases hlen : 100 < (ps.length : Int)
  · go_enter Try.func5, Try.ntmps5
    go_wp2_with fail
    (with_reducible refine (law_awake _).mono ?_); rintro e w9 ⟨rfl, hb9⟩; go_wp2_with fail; exact hK.out _ _ ⟨rfl, ((S0).below hb9).above (hG)⟩
  obtain ⟨m, rfl⟩ : ∃ k : Nat, m = k := ⟨m.toNat, by omega⟩
  have m0 : 1 ≤ m := by omega
  have m1 : m ≤ 64 := by omega
  have hnew := cr_new S0 m m0 m1
  obtain ⟨gd, -⟩ := parts_good m m0 m1
  have HN0 : Hid (Near (parts 65535 m) 0) := Lib.hid (near_parts m)
  have HGD := Lib.hid gd
  clear gd
  go_enter Try.func5, Try.ntmps5
  go_wp2_with fail
  (with_reducible refine hnew.mono ?_)
  clear hnew
  rintro e w1 ⟨p, rfl, S1⟩
  generalize parts 65535 m = L0 at *
  go_wp2_with fail
  go_loopw [7, 40] (fun g i wr => ∃ (k T : Nat) (L : List Int) (G1 : Gnd), k ≤ ps.length ∧ i = .int .i64 k ∧ g = .int .i64 T ∧ T ≤ k ∧ Good L ∧ Near L T ∧ (Gnd.of w).le G1 ∧ Sat G1 wr [crA p L T]) (fun _ i _ => ps.length - (intOf i).toNat)
  case atStart => exact ⟨0, 0, L0, Gnd.of w, Nat.zero_le _, rfl, rfl, Nat.zero_le _, HGD.out, HN0.out, hG, S1⟩
  case round =>
    obtain ⟨k, T, L, G1, hk, rfl, rfl, hT, gL, hN, hG1, S⟩ := hrel
    clear S1 HN0 HGD
    by_cases hlt : k < ps.length
    · obtain ⟨ad, rfl, d0, i0⟩ := HEL.out k ps[k] (List.getElem?_eq_getElem hlt)
      have c0 := S.cellR (cellR_mono hG1.ro d0)
      clear d0 i0
      generalize ps[k] = x at *
      have hg := cr_grant S gL x
      have gL2 := grant_good gL T x
      obtain ⟨hN2, hor⟩ := near_grant hN x
      have HN2 := Lib.hid hN2
      generalize crGrant L T x = gr at *
      obtain ⟨L2, T2, er⟩ := gr
      simp only at hg gL2 hor
      have HOR := Lib.hid hor
      clear hor hN hN2 S gL
      go_wp2_with fail
      (with_reducible refine hg.mono ?_)
      clear hg c0
      rintro e w2 ⟨rfl, S2⟩
      rcases HOR.out with ⟨rfl, rfl⟩ | ⟨her, rfl⟩
      · clear HOR
        have hp := cr_parts S2 gL2
        have HN2' := Lib.hid HN2.out
        clear HN2
        go_wp2_with fail
        (with_reducible refine hp.mono ?_)
        clear hp S2
        rintro e w3 ⟨v, G2, rfl, hG2, hv, S3⟩
        obtain ⟨X, cx, rfl, hx1, hx2, hel2⟩ := hv
        have hx3 : cx ≤ 9223372036854775807 := hx2
        have lp := gL2.pos
        have ll := gL2.len
        obtain ⟨g, rfl, -⟩ := hel2 0 (by omega)
        have HX : Hid (∀ i, i < L2.length → Go.Proofs.Ytkjelbnkfnifgaa.cellR G2.ro ⟨g, i, none⟩ = some (.int .i64 (L2.getD i 0))) := Lib.hid fun i hi => by
          obtain ⟨g', e, h⟩ := hel2 i hi
          cases e; exact h
        have HAT := Lib.hid fun i (hi : i < L2.length) => gL2.at_ hi
        have gsum := gL2.sum
        clear hel2 hx2
        go_upto_region 13 with fail
        refine wp_act fun a0 ha0 => ?_
        have HSZ : a0.tmps.size = 79 := by rw [ha0]; rfl
        have E10 : a0.eval (.tmp 10) = .slice (some ⟨g, 0, none⟩) L2.length cx := by rw [ha0]; rfl
        refine wp_region_J (by kernel_rfl) 8 (by kernel_rfl) [[], [0], [1], [], [3], [4], [2, 0, 1, 2], [5, 6, 0, 1, 2, 3, 4, 5, 6]] (by kernel_rfl) (by kernel_rfl) (fun f a' W => a' = acts [(0, 52, .slice (some ⟨g, 0, none⟩) L2.length cx), (1, 53, .pointer (some ⟨g, 0, none⟩)), (2, 54, .int .i64 (L2.getD 0 0)), (3, 55, .slice (some ⟨g, 0, none⟩) L2.length cx), (4, 56, .pointer (some ⟨g, 0, none⟩)), (5, 57, .int .i64 (L2.getD 0 0)), (6, 11, .int .i64 (L2.getD 0 0)), (7, 12, .int .i64 (L2.getD 0 0))] f a0 ∧ Sat G2 W [crA p L2 (T + 1)]) ?_ ?_ ?_
        · exact ⟨rfl, S3.drew⟩
        · refine ⟨?_, ?_, ?_, ?_, ?_, ?_, ?_, ?_, trivial⟩
          · rintro f a' W h0 hd ⟨rfl, S⟩
            refine wpOp_run (v := .slice (some ⟨g, 0, none⟩) L2.length cx) rfl rfl (fun ρ hρ => ?_) ⟨(acts_some 0 rfl (by kernel_rfl) (by kernel_rfl)).symm, S⟩
            have e0 : ρ (.tmp 10) = .slice (some ⟨g, 0, none⟩) L2.length cx := by rw [hρ]; exact (acts_eval_tmp 10 (by kernel_rfl)).trans E10
            clear hρ
            go_simp
          · rintro f a' W h1 hd ⟨rfl, S⟩
            refine wpOp_run (v := .pointer (some ⟨g, 0, none⟩)) rfl rfl (fun ρ hρ => ?_) ⟨(acts_some 1 rfl (by kernel_rfl) (by kernel_rfl)).symm, S⟩
            have e0 : ρ (.tmp 52) = .slice (some ⟨g, 0, none⟩) L2.length cx := by rw [hρ]; exact acts_eval_hit 0 rfl hd.1 (by rw [HSZ]; rfl) (by kernel_rfl)
            have ec : ∀ v, ρ (.const v) = v := by rw [hρ]; exact fun _ => rfl
            clear hρ
            skip
            go_simp
            (intro hnil; subst hnil; simp at lp)
          · rintro f a' W h2 hd ⟨rfl, S⟩
            refine wpOp_run (v := .int .i64 (L2.getD 0 0)) rfl rfl (fun ρ hρ => ?_) ⟨(acts_some 2 rfl (by kernel_rfl) (by kernel_rfl)).symm, S⟩
            have e0 : ρ (.tmp 53) = .pointer (some ⟨g, 0, none⟩) := by rw [hρ]; exact acts_eval_hit 1 rfl hd.1 (by rw [HSZ]; rfl) (by kernel_rfl)
            clear hρ
            (have hcl := S.cellR (HX.out 0 lp))
            go_simp
          · rintro f a' W h3 hd ⟨rfl, S⟩
            refine wpOp_run (v := .slice (some ⟨g, 0, none⟩) L2.length cx) rfl rfl (fun ρ hρ => ?_) ⟨(acts_some 3 rfl (by kernel_rfl) (by kernel_rfl)).symm, S⟩
            have e0 : ρ (.tmp 10) = .slice (some ⟨g, 0, none⟩) L2.length cx := by rw [hρ]; exact (acts_eval_tmp 10 (by kernel_rfl)).trans E10
            clear hρ
            go_simp
          · rintro f a' W h4 hd ⟨rfl, S⟩
            refine wpOp_run (v := .pointer (some ⟨g, 0, none⟩)) rfl rfl (fun ρ hρ => ?_) ⟨(acts_some 4 rfl (by kernel_rfl) (by kernel_rfl)).symm, S⟩
            have e0 : ρ (.tmp 55) = .slice (some ⟨g, 0, none⟩) L2.length cx := by rw [hρ]; exact acts_eval_hit 3 rfl hd.1 (by rw [HSZ]; rfl) (by kernel_rfl)
            have ec : ∀ v, ρ (.const v) = v := by rw [hρ]; exact fun _ => rfl
            clear hρ
            skip
            go_simp
            (intro hnil; subst hnil; simp at lp)
          · rintro f a' W h5 hd ⟨rfl, S⟩
            refine wpOp_run (v := .int .i64 (L2.getD 0 0)) rfl rfl (fun ρ hρ => ?_) ⟨(acts_some 5 rfl (by kernel_rfl) (by kernel_rfl)).symm, S⟩
            have e0 : ρ (.tmp 56) = .pointer (some ⟨g, 0, none⟩) := by rw [hρ]; exact acts_eval_hit 4 rfl hd.1 (by rw [HSZ]; rfl) (by kernel_rfl)
            clear hρ
            (have hcl := S.cellR (HX.out 0 lp))
            go_simp
          · rintro f a' W h6 hd ⟨rfl, S⟩
            refine wpOp_run (v := .int .i64 (L2.getD 0 0)) rfl rfl (fun ρ hρ => ?_) ⟨(acts_some 6 rfl (by kernel_rfl) (by kernel_rfl)).symm, S⟩
            have e0 : ρ (.tmp 54) = .int .i64 (L2.getD 0 0) := by rw [hρ]; exact acts_eval_hit 2 rfl hd.1 (by rw [HSZ]; rfl) (by kernel_rfl)
            clear hρ
            go_simp
          · rintro f a' W h7 hd ⟨rfl, S⟩
            refine wpOp_run (v := .int .i64 (L2.getD 0 0)) rfl rfl (fun ρ hρ => ?_) ⟨(acts_some 7 rfl (by kernel_rfl) (by kernel_rfl)).symm, S⟩
            have e0 : ρ (.tmp 57) = .int .i64 (L2.getD 0 0) := by rw [hρ]; exact acts_eval_hit 5 rfl hd.1 (by rw [HSZ]; rfl) (by kernel_rfl)
            clear hρ
            go_simp
        · rintro a' W ⟨rfl, S4⟩
          subst ha0
          simp only [acts, if_true, Act.put, List.setIfInBounds_toArray, List.set_cons_succ, List.set_cons_zero]
          clear S3 HSZ E10
          go_wp2_with fail
          go_loopw [11, 12, 60] (fun lo hi i wr => ∃ (j a b : Nat), j ≤ L2.length ∧ a < L2.length ∧ b < L2.length ∧ i = .int .i64 j ∧ lo = .int .i64 (L2.getD a 0) ∧ hi = .int .i64 (L2.getD b 0) ∧ Sat G2 wr [crA p L2 (T + 1)]) (fun _ _ i _ => L2.length - (intOf i).toNat)
          case atStart => exact ⟨0, 0, 0, Nat.zero_le _, lp, lp, rfl, rfl, rfl, S4⟩
          case round =>
            obtain ⟨j, a, b, hj, ha, hb, rfl, rfl, rfl, S5⟩ := hrel
            clear S4
            obtain ⟨a0, a1⟩ := HAT.out a ha
            obtain ⟨b0, b1⟩ := HAT.out b hb
            by_cases hlt2 : j < L2.length
            · have cj := S5.cellR (HX.out j hlt2)
              obtain ⟨y0, y1⟩ := HAT.out j hlt2
              obtain ⟨xa, hxa⟩ : ∃ x, L2.getD a 0 = x := ⟨_, rfl⟩
              obtain ⟨xb, hxb⟩ : ∃ x, L2.getD b 0 = x := ⟨_, rfl⟩
              obtain ⟨xj, hxj⟩ : ∃ x, L2.getD j 0 = x := ⟨_, rfl⟩
              rw [hxj] at cj y0 y1
              rw [hxa] at a0 a1 ⊢
              rw [hxb] at b0 b1 ⊢
              have HXA := Lib.hid hxa
              have HXB := Lib.hid hxb
              have HXJ := Lib.hid hxj
              clear hxa hxb hxj
              by_cases hlo : xa ≤ xj
              · by_cases hhi : xj ≤ xb
                · clear HN2'
                  go_wp2_with fail
                  all_goals
                    go_roundw
                    case rel => exact ⟨j + 1, a, b, by omega, by assumption, by assumption, by go_num, by (first | rw [HXA.out] | rw [HXJ.out]) <;> first | rfl | (congr 1; omega), by (first | rw [HXB.out] | rw [HXJ.out]) <;> first | rfl | (congr 1; omega), S5⟩
                    case measure => simp [intOf]; omega
                · clear HN2'
                  go_wp2_with fail
                  all_goals
                    go_roundw
                    case rel => exact ⟨j + 1, a, j, by omega, by assumption, by assumption, by go_num, by (first | rw [HXA.out] | rw [HXJ.out]) <;> first | rfl | (congr 1; omega), by (first | rw [HXB.out] | rw [HXJ.out]) <;> first | rfl | (congr 1; omega), S5⟩
                    case measure => simp [intOf]; omega
              · by_cases hhi : xj ≤ xb
                · clear HN2'
                  go_wp2_with fail
                  all_goals
                    go_roundw
                    case rel => exact ⟨j + 1, j, b, by omega, by assumption, by assumption, by go_num, by (first | rw [HXA.out] | rw [HXJ.out]) <;> first | rfl | (congr 1; omega), by (first | rw [HXB.out] | rw [HXJ.out]) <;> first | rfl | (congr 1; omega), S5⟩
                    case measure => simp [intOf]; omega
                · clear HN2'
                  go_wp2_with fail
                  all_goals
                    go_roundw
                    case rel => exact ⟨j + 1, j, j, by omega, by assumption, by assumption, by go_num, by (first | rw [HXA.out] | rw [HXJ.out]) <;> first | rfl | (congr 1; omega), by (first | rw [HXB.out] | rw [HXJ.out]) <;> first | rfl | (congr 1; omega), S5⟩
                    case measure => simp [intOf]; omega
            · have hnear := HN2'.out b a hb ha
              generalize L2.getD a 0 = xa at *
              generalize L2.getD b 0 = xb at *
              go_wp2_with fail
              go_roundw
              case rel => exact ⟨k + 1, (T + 1), L2, G2, by omega, by go_num, by go_num, by omega, gL2, HN2'.out, hG1.trans hG2, S5⟩
              case measure => simp [intOf]; omega
      · have her' : (er == 0) = false := beq_eq_false_iff_ne.2 her
        clear HOR her
        have hp := cr_parts S2 gL2
        have HN2' := Lib.hid HN2.out
        clear HN2
        go_wp2_with fail
        (with_reducible refine hp.mono ?_)
        clear hp S2
        rintro e w3 ⟨v, G2, rfl, hG2, hv, S3⟩
        obtain ⟨X, cx, rfl, hx1, hx2, hel2⟩ := hv
        have hx3 : cx ≤ 9223372036854775807 := hx2
        have lp := gL2.pos
        have ll := gL2.len
        obtain ⟨g, rfl, -⟩ := hel2 0 (by omega)
        have HX : Hid (∀ i, i < L2.length → Go.Proofs.Ytkjelbnkfnifgaa.cellR G2.ro ⟨g, i, none⟩ = some (.int .i64 (L2.getD i 0))) := Lib.hid fun i hi => by
          obtain ⟨g', e, h⟩ := hel2 i hi
          cases e; exact h
        have HAT := Lib.hid fun i (hi : i < L2.length) => gL2.at_ hi
        have gsum := gL2.sum
        clear hel2 hx2
        go_upto_region 13 with fail
        refine wp_act fun a0 ha0 => ?_
        have HSZ : a0.tmps.size = 79 := by rw [ha0]; rfl
        have E10 : a0.eval (.tmp 10) = .slice (some ⟨g, 0, none⟩) L2.length cx := by rw [ha0]; rfl
        refine wp_region_J (by kernel_rfl) 8 (by kernel_rfl) [[], [0], [1], [], [3], [4], [2, 0, 1, 2], [5, 6, 0, 1, 2, 3, 4, 5, 6]] (by kernel_rfl) (by kernel_rfl) (fun f a' W => a' = acts [(0, 52, .slice (some ⟨g, 0, none⟩) L2.length cx), (1, 53, .pointer (some ⟨g, 0, none⟩)), (2, 54, .int .i64 (L2.getD 0 0)), (3, 55, .slice (some ⟨g, 0, none⟩) L2.length cx), (4, 56, .pointer (some ⟨g, 0, none⟩)), (5, 57, .int .i64 (L2.getD 0 0)), (6, 11, .int .i64 (L2.getD 0 0)), (7, 12, .int .i64 (L2.getD 0 0))] f a0 ∧ Sat G2 W [crA p L2 T]) ?_ ?_ ?_
        · exact ⟨rfl, S3.drew⟩
        · refine ⟨?_, ?_, ?_, ?_, ?_, ?_, ?_, ?_, trivial⟩
          · rintro f a' W h0 hd ⟨rfl, S⟩
            refine wpOp_run (v := .slice (some ⟨g, 0, none⟩) L2.length cx) rfl rfl (fun ρ hρ => ?_) ⟨(acts_some 0 rfl (by kernel_rfl) (by kernel_rfl)).symm, S⟩
            have e0 : ρ (.tmp 10) = .slice (some ⟨g, 0, none⟩) L2.length cx := by rw [hρ]; exact (acts_eval_tmp 10 (by kernel_rfl)).trans E10
            clear hρ
            go_simp
          · rintro f a' W h1 hd ⟨rfl, S⟩
            refine wpOp_run (v := .pointer (some ⟨g, 0, none⟩)) rfl rfl (fun ρ hρ => ?_) ⟨(acts_some 1 rfl (by kernel_rfl) (by kernel_rfl)).symm, S⟩
            have e0 : ρ (.tmp 52) = .slice (some ⟨g, 0, none⟩) L2.length cx := by rw [hρ]; exact acts_eval_hit 0 rfl hd.1 (by rw [HSZ]; rfl) (by kernel_rfl)
            have ec : ∀ v, ρ (.const v) = v := by rw [hρ]; exact fun _ => rfl
            clear hρ
            skip
            go_simp
            (intro hnil; subst hnil; simp at lp)
          · rintro f a' W h2 hd ⟨rfl, S⟩
            refine wpOp_run (v := .int .i64 (L2.getD 0 0)) rfl rfl (fun ρ hρ => ?_) ⟨(acts_some 2 rfl (by kernel_rfl) (by kernel_rfl)).symm, S⟩
            have e0 : ρ (.tmp 53) = .pointer (some ⟨g, 0, none⟩) := by rw [hρ]; exact acts_eval_hit 1 rfl hd.1 (by rw [HSZ]; rfl) (by kernel_rfl)
            clear hρ
            (have hcl := S.cellR (HX.out 0 lp))
            go_simp
          · rintro f a' W h3 hd ⟨rfl, S⟩
            refine wpOp_run (v := .slice (some ⟨g, 0, none⟩) L2.length cx) rfl rfl (fun ρ hρ => ?_) ⟨(acts_some 3 rfl (by kernel_rfl) (by kernel_rfl)).symm, S⟩
            have e0 : ρ (.tmp 10) = .slice (some ⟨g, 0, none⟩) L2.length cx := by rw [hρ]; exact (acts_eval_tmp 10 (by kernel_rfl)).trans E10
            clear hρ
            go_simp
          · rintro f a' W h4 hd ⟨rfl, S⟩
            refine wpOp_run (v := .pointer (some ⟨g, 0, none⟩)) rfl rfl (fun ρ hρ => ?_) ⟨(acts_some 4 rfl (by kernel_rfl) (by kernel_rfl)).symm, S⟩
            have e0 : ρ (.tmp 55) = .slice (some ⟨g, 0, none⟩) L2.length cx := by rw [hρ]; exact acts_eval_hit 3 rfl hd.1 (by rw [HSZ]; rfl) (by kernel_rfl)
            have ec : ∀ v, ρ (.const v) = v := by rw [hρ]; exact fun _ => rfl
            clear hρ
            skip
            go_simp
            (intro hnil; subst hnil; simp at lp)
          · rintro f a' W h5 hd ⟨rfl, S⟩
            refine wpOp_run (v := .int .i64 (L2.getD 0 0)) rfl rfl (fun ρ hρ => ?_) ⟨(acts_some 5 rfl (by kernel_rfl) (by kernel_rfl)).symm, S⟩
            have e0 : ρ (.tmp 56) = .pointer (some ⟨g, 0, none⟩) := by rw [hρ]; exact acts_eval_hit 4 rfl hd.1 (by rw [HSZ]; rfl) (by kernel_rfl)
            clear hρ
            (have hcl := S.cellR (HX.out 0 lp))
            go_simp
          · rintro f a' W h6 hd ⟨rfl, S⟩
            refine wpOp_run (v := .int .i64 (L2.getD 0 0)) rfl rfl (fun ρ hρ => ?_) ⟨(acts_some 6 rfl (by kernel_rfl) (by kernel_rfl)).symm, S⟩
            have e0 : ρ (.tmp 54) = .int .i64 (L2.getD 0 0) := by rw [hρ]; exact acts_eval_hit 2 rfl hd.1 (by rw [HSZ]; rfl) (by kernel_rfl)
            clear hρ
            go_simp
          · rintro f a' W h7 hd ⟨rfl, S⟩
            refine wpOp_run (v := .int .i64 (L2.getD 0 0)) rfl rfl (fun ρ hρ => ?_) ⟨(acts_some 7 rfl (by kernel_rfl) (by kernel_rfl)).symm, S⟩
            have e0 : ρ (.tmp 57) = .int .i64 (L2.getD 0 0) := by rw [hρ]; exact acts_eval_hit 5 rfl hd.1 (by rw [HSZ]; rfl) (by kernel_rfl)
            clear hρ
            go_simp
        · rintro a' W ⟨rfl, S4⟩
          subst ha0
          simp only [acts, if_true, Act.put, List.setIfInBounds_toArray, List.set_cons_succ, List.set_cons_zero]
          clear S3 HSZ E10
          go_wp2_with fail
          go_loopw [11, 12, 60] (fun lo hi i wr => ∃ (j a b : Nat), j ≤ L2.length ∧ a < L2.length ∧ b < L2.length ∧ i = .int .i64 j ∧ lo = .int .i64 (L2.getD a 0) ∧ hi = .int .i64 (L2.getD b 0) ∧ Sat G2 wr [crA p L2 T]) (fun _ _ i _ => L2.length - (intOf i).toNat)
          case atStart => exact ⟨0, 0, 0, Nat.zero_le _, lp, lp, rfl, rfl, rfl, S4⟩
          case round =>
            obtain ⟨j, a, b, hj, ha, hb, rfl, rfl, rfl, S5⟩ := hrel
            clear S4
            obtain ⟨a0, a1⟩ := HAT.out a ha
            obtain ⟨b0, b1⟩ := HAT.out b hb
            by_cases hlt2 : j < L2.length
            · have cj := S5.cellR (HX.out j hlt2)
              obtain ⟨y0, y1⟩ := HAT.out j hlt2
              obtain ⟨xa, hxa⟩ : ∃ x, L2.getD a 0 = x := ⟨_, rfl⟩
              obtain ⟨xb, hxb⟩ : ∃ x, L2.getD b 0 = x := ⟨_, rfl⟩
              obtain ⟨xj, hxj⟩ : ∃ x, L2.getD j 0 = x := ⟨_, rfl⟩
              rw [hxj] at cj y0 y1
              rw [hxa] at a0 a1 ⊢
              rw [hxb] at b0 b1 ⊢
              have HXA := Lib.hid hxa
              have HXB := Lib.hid hxb
              have HXJ := Lib.hid hxj
              clear hxa hxb hxj
              by_cases hlo : xa ≤ xj
              · by_cases hhi : xj ≤ xb
                · clear HN2'
                  go_wp2_with fail
                  all_goals
                    go_roundw
                    case rel => exact ⟨j + 1, a, b, by omega, by assumption, by assumption, by go_num, by (first | rw [HXA.out] | rw [HXJ.out]) <;> first | rfl | (congr 1; omega), by (first | rw [HXB.out] | rw [HXJ.out]) <;> first | rfl | (congr 1; omega), S5⟩
                    case measure => simp [intOf]; omega
                · clear HN2'
                  go_wp2_with fail
                  all_goals
                    go_roundw
                    case rel => exact ⟨j + 1, a, j, by omega, by assumption, by assumption, by go_num, by (first | rw [HXA.out] | rw [HXJ.out]) <;> first | rfl | (congr 1; omega), by (first | rw [HXB.out] | rw [HXJ.out]) <;> first | rfl | (congr 1; omega), S5⟩
                    case measure => simp [intOf]; omega
              · by_cases hhi : xj ≤ xb
                · clear HN2'
                  go_wp2_with fail
                  all_goals
                    go_roundw
                    case rel => exact ⟨j + 1, j, b, by omega, by assumption, by assumption, by go_num, by (first | rw [HXA.out] | rw [HXJ.out]) <;> first | rfl | (congr 1; omega), by (first | rw [HXB.out] | rw [HXJ.out]) <;> first | rfl | (congr 1; omega), S5⟩
                    case measure => simp [intOf]; omega
                · clear HN2'
                  go_wp2_with fail
                  all_goals
                    go_roundw
                    case rel => exact ⟨j + 1, j, j, by omega, by assumption, by assumption, by go_num, by (first | rw [HXA.out] | rw [HXJ.out]) <;> first | rfl | (congr 1; omega), by (first | rw [HXB.out] | rw [HXJ.out]) <;> first | rfl | (congr 1; omega), S5⟩
                    case measure => simp [intOf]; omega
            · have hnear := HN2'.out b a hb ha
              generalize L2.getD a 0 = xa at *
              generalize L2.getD b 0 = xb at *
              go_wp2_with fail
              go_roundw
              case rel => exact ⟨k + 1, T, L2, G2, by omega, by go_num, by go_num, by omega, gL2, HN2'.out, hG1.trans hG2, S5⟩
              case measure => simp [intOf]; omega
    · clear hN
      go_wp2_with fail
      (with_reducible refine (law_awake _).mono ?_); rintro e w9 ⟨rfl, hb9⟩; go_wp2_with fail; exact hK.out _ _ ⟨rfl, ((S).below hb9).above (hG1)⟩
end Go.Proofs.Ytkjelbnkfnifgaa

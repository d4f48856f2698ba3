/- The walk of the law SettingsBack. -/
import Derived.Test.YtohknaoklcehaaaLast
import Derived.Test.YtohknaoklcehaaaRegJ
set_option linter.unusedSimpArgs false
set_option linter.unusedVariables false
namespace Go.Proofs.Ytohknaoklcehaaa
open Go.RowKit

/-- An assertion that holds once a thing is done. -/
def opt (b : Bool) (A : Asrt) : Asrt := ⟨fun R h => b = true → A.p R h, fun hR h e => A.mono hR (h e)⟩
theorem opt_iff {G : Gnd} {w : World} {l : List Asrt} {A : Asrt} : Sat G w (opt true A :: l) ↔ Sat G w (A :: l) :=
  ⟨fun H => Sat.conv (A := opt true A) (fun h (p : true = true → A.p G.ro h) => p rfl) H, fun H => Sat.conv (A' := opt true A) (fun h p _ => p) H⟩
theorem Sat.opt0 {G : Gnd} {w : World} {l : List Asrt} {A : Asrt} (H : Sat G w l) : Sat G w (opt false A :: l) := H.free fun _ _ e => by cases e
theorem wp_act {P : Program} {c : Code} {Q : Exit → Act → World → Prop} {a : Act} {w : World} (h : ∀ b, b = a → c.wp P Q b w) : c.wp P Q a w := h a rfl
/-- Settings that a side may have. -/
structure Ok6 (s : S6) : Prop where
  a0 : 0 ≤ s.a
  a1 : s.a ≤ 4294967295
  b0 : 0 ≤ s.b
  b1 : s.b ≤ 1
  c0 : 0 ≤ s.c
  c1 : s.c ≤ 4294967295
  d0 : 0 ≤ s.d
  d1 : s.d ≤ 2147483647
  e0 : 16384 ≤ s.e
  e1 : s.e ≤ 16777215
  f0 : 0 ≤ s.f
  f1 : s.f ≤ 4294967295
theorem one6_ok (s : S6) (n v : Int) (h : Ok6 s) : Ok6 (one6 s n v).1 := by
  unfold one6
  by_cases c1 : v < 0 ∨ 4294967295 < v
  · rw [if_pos c1]; exact h
  rw [if_neg c1]
  by_cases c2 : n < 1 ∨ 6 < n
  · rw [if_pos c2]; exact h
  rw [if_neg c2]
  by_cases c3 : n = 2 ∧ 1 < v
  · rw [if_pos c3]; exact h
  rw [if_neg c3]
  by_cases c4 : n = 4 ∧ 2147483647 < v
  · rw [if_pos c4]; exact h
  rw [if_neg c4]
  by_cases c5 : n = 5 ∧ (v < 16384 ∨ 16777215 < v)
  · rw [if_pos c5]; exact h
  rw [if_neg c5]
  obtain ⟨a0, a1, b0, b1, c0, c1', d0, d1, e0, e1, f0, f1⟩ := h
  rcases seven n with rfl | rfl | rfl | rfl | rfl | rfl | hn
  · exact ⟨by simp [S6.set]; omega, by simp [S6.set]; omega, b0, b1, c0, c1', d0, d1, e0, e1, f0, f1⟩
  · exact ⟨a0, a1, by simp [S6.set]; omega, by simp [S6.set]; omega, c0, c1', d0, d1, e0, e1, f0, f1⟩
  · exact ⟨a0, a1, b0, b1, by simp [S6.set]; omega, by simp [S6.set]; omega, d0, d1, e0, e1, f0, f1⟩
  · exact ⟨a0, a1, b0, b1, c0, c1', by simp [S6.set]; omega, by simp [S6.set]; omega, e0, e1, f0, f1⟩
  · exact ⟨a0, a1, b0, b1, c0, c1', d0, d1, by simp [S6.set]; omega, by simp [S6.set]; omega, f0, f1⟩
  · exact ⟨a0, a1, b0, b1, c0, c1', d0, d1, e0, e1, by simp [S6.set]; omega, by simp [S6.set]; omega⟩
  · rw [S6.set_none _ _ _ hn]; exact ⟨a0, a1, b0, b1, c0, c1', d0, d1, e0, e1, f0, f1⟩
theorem all6_ok (ps : List (Int × Int)) : ∀ s : S6, Ok6 s → Ok6 (all6 s ps).1 := by
  induction ps with
  | nil => intro s h; exact h
  | cons p ps ih =>
    intro s h
    unfold all6
    split
    · exact ih _ (one6_ok s p.1 p.2 h)
    · exact h
theorem apply6_ok (s : S6) (ps : List (Int × Int)) (h : Ok6 s) : Ok6 (apply6 s ps).1 := by
  unfold apply6
  split
  · exact all6_ok ps s h
  · exact h
theorem first6_ok : Ok6 first6 := ⟨by decide, by decide, by decide, by decide, by decide, by decide, by decide, by decide, by decide, by decide, by decide, by decide⟩
theorem one6_done (s : S6) (n v : Int) (h1 : 0 ≤ v) (h2 : v ≤ 4294967295) (h3 : 1 ≤ n) (h4 : n ≤ 6) (h5 : n = 2 → v ≤ 1) (h6 : n = 4 → v ≤ 2147483647) (h7 : n = 5 → 16384 ≤ v ∧ v ≤ 16777215) : one6 s n v = (s.set n v, 0) := by
  unfold one6
  rw [if_neg (by omega), if_neg (by omega), if_neg (by omega), if_neg (by omega), if_neg (by omega)]
theorem all6_cons (s s' : S6) (p : Int × Int) (ps : List (Int × Int)) (h : one6 s p.1 p.2 = (s', 0)) : all6 s (p :: ps) = all6 s' ps := by
  rw [all6, h]; simp
theorem back6 (t s : S6) (h : Ok6 s) : apply6 t (pairs6 s) = (s, 0) := by
  obtain ⟨a0, a1, b0, b1, c0, c1, d0, d1, e0, e1, f0, f1⟩ := h
  have : all6 t (pairs6 s) = (s, 0) := by
    unfold pairs6
    rw [all6_cons _ _ _ _ (one6_done _ 1 s.a (by omega) (by omega) (by omega) (by omega) (by omega) (by omega) (by omega)),
      all6_cons _ _ _ _ (one6_done _ 2 s.b (by omega) (by omega) (by omega) (by omega) (by omega) (by omega) (by omega)),
      all6_cons _ _ _ _ (one6_done _ 3 s.c (by omega) (by omega) (by omega) (by omega) (by omega) (by omega) (by omega)),
      all6_cons _ _ _ _ (one6_done _ 4 s.d (by omega) (by omega) (by omega) (by omega) (by omega) (by omega) (by omega)),
      all6_cons _ _ _ _ (one6_done _ 5 s.e (by omega) (by omega) (by omega) (by omega) (by omega) (by omega) (by omega)),
      all6_cons _ _ _ _ (one6_done _ 6 s.f (by omega) (by omega) (by omega) (by omega) (by omega) (by omega) (by omega))]
    rfl
  unfold apply6
  rw [this]
  rfl
set_option maxHeartbeats 4000000 in
set_option maxRecDepth 100000 in
theorem settingsBack_walk (w : World) (v0 v1 : Value) (h0 : ∃ d, ArgV w (.sl 16 (.agg [.int .i64, .int .i64])) v0 d) (h1 : ∃ d, ArgV w (.sl 16 (.agg [.int .i64, .int .i64])) v1 d) :
    Calls Try.prog 4 #[v0, v1] w fun e w' => e = .returned (.bool true) ∧ Below w.heap.size w w' := by
  refine calls_any fun K hK => ?_
  obtain ⟨_, h0⟩ := h0
  obtain ⟨l, h0⟩ := arg_sl h0
  obtain ⟨hp, _⟩ := pairs_of h0
  obtain ⟨_, h1⟩ := h1
  obtain ⟨m, h1⟩ := arg_sl h1
  obtain ⟨hq, _⟩ := pairs_of h1
  clear h0 h1
  have S0 := Sat.start w
  generalize l.map dpair = ps at *
  generalize m.map dpair = qs at *
  obtain ⟨A, c, rfl, hmx, hel⟩ := hp
  have hp : RPairs (Gnd.of w).ro (.slice A ps.length c) ps := ⟨A, c, rfl, hmx, hel⟩
  obtain ⟨A', c', rfl, hmx', hel'⟩ := hq
  have hq : RPairs (Gnd.of w).ro (.slice A' qs.length c') qs := ⟨A', c', rfl, hmx', hel'⟩
  clear hel hel'
  have hz := apply6_ok first6 ps first6_ok
  by_cases hlong : 100 < (ps.length : Int)
  · have haw := law_awake S0
    go_enter Try.func4, Try.ntmps4
    go_wp2_with fail
    (with_reducible refine haw.mono ?_)
    rintro e w1 ⟨G1, rfl, hG1, S1⟩
    go_wp2_with fail
    exact hK.out _ _ ⟨rfl, S1.above hG1⟩
  by_cases hlong2 : 100 < (qs.length : Int)
  · have haw := law_awake S0
    go_enter Try.func4, Try.ntmps4
    go_wp2_with fail
    (with_reducible refine haw.mono ?_)
    rintro e w1 ⟨G1, rfl, hG1, S1⟩
    go_wp2_with fail
    exact hK.out _ _ ⟨rfl, S1.above hG1⟩
  go_enter Try.func4, Try.ntmps4
  go_wp2_with fail
  (with_reducible refine (set_first _).mono ?_)
  rintro e w1 ⟨rfl, hb1⟩
  have hap := set_apply (S0.below hb1) first6 _ _ hp
  clear hb1 S0
  go_wp2_with fail
  (with_reducible refine hap.mono ?_)
  clear hap hp
  rintro e w2 ⟨rfl, S2⟩
  generalize apply6 first6 ps = r at *
  obtain ⟨s, z⟩ := r
  simp only at S2 hz ⊢
  unfold change fault
  generalize (if z = 0 then first6.d else 0) = g1 at *
  generalize (if z = 0 then s.d else 0) = g2 at *
  generalize hzb : (z != 0) = zb at *
  have S3 := ((S2.newBlk (cells6 s) 26).newBlk #[.int .i64 g1, .int .i64 g2] 35).newBlk #[.int .i64 z, .bool zb] 38
  simp only [World.size_alloc] at S3
  clear S2
  unfold cells6
  go_upto_region 4 with fail
  rw [show #[Value.int .i64 s.a, Value.int .i64 s.b, Value.int .i64 s.c, Value.int .i64 s.d, Value.int .i64 s.e, Value.int .i64 s.f] = cells6 s from rfl]
  (with_reducible refine wp_world S3 fun W S => ?_)
  clear S3
  replace S := S.drop2
  generalize w2.heap.size = q at *
  go_wp2_with fail
  (with_reducible refine (set_first _).mono ?_)
  rintro e w3 ⟨rfl, hb3⟩
  have hap := set_apply (S.below hb3) first6 _ _ hq
  clear hb3 S
  go_wp2_with fail
  (with_reducible refine hap.mono ?_)
  clear hap hq
  rintro e w4 ⟨rfl, S4⟩
  generalize apply6 first6 qs = r at *
  obtain ⟨t, y⟩ := r
  simp only at S4 ⊢
  unfold change fault
  generalize (if y = 0 then first6.d else 0) = g3 at *
  generalize (if y = 0 then t.d else 0) = g4 at *
  generalize hyb : (y != 0) = yb at *
  have S5 := ((S4.newBlk (cells6 t) 26).newBlk #[.int .i64 g3, .int .i64 g4] 35).newBlk #[.int .i64 y, .bool yb] 38
  simp only [World.size_alloc] at S5
  clear S4
  unfold cells6
  go_upto_region 5 with fail
  rw [show #[Value.int .i64 t.a, Value.int .i64 t.b, Value.int .i64 t.c, Value.int .i64 t.d, Value.int .i64 t.e, Value.int .i64 t.f] = cells6 t from rfl, show #[Value.int .i64 s.a, Value.int .i64 s.b, Value.int .i64 s.c, Value.int .i64 s.d, Value.int .i64 s.e, Value.int .i64 s.f] = cells6 s from rfl]
  (with_reducible refine wp_world S5 fun W5 S6 => ?_)
  clear S5
  replace S6 := S6.drop2
  generalize w4.heap.size = r at *
  have AWK : ∀ W, Sat (Gnd.of w) W [blk (r + 1 + 1) #[.int .i64 y, .bool yb] 38, blk r (cells6 t) 26, blk (q + 1 + 1) #[.int .i64 z, .bool zb] 38, blk q (cells6 s) 26] → Calls Try.prog 8 #[] W fun e w' => e = .returned (.bool true) ∧ Below w.heap.size w w' :=
    fun W S => (law_awake S).mono fun e w' h => by obtain ⟨G1, rfl, hG1, S1⟩ := h; exact ⟨rfl, S1.above hG1⟩
  have d0 : W5.cell? ⟨q + 1 + 1, 0, none⟩ = some (.int .i64 z) := (S6.pull2).cell 0; have d1 : W5.cell? ⟨q + 1 + 1, 1, none⟩ = some (.bool zb) := (S6.pull2).cell 1
  have hok := fault_ok z W5
  unfold fault at hok
  rw [hzb] at hok
  go_wp2_with fail
  (with_reducible refine hok.mono ?_)
  clear hok d0 d1
  rintro e w6 ⟨rfl, hb6⟩
  have S7 := S6.below hb6
  clear hb6 S6
  by_cases ez : z = 0
  rotate_left
  · have e1 : (z == 0) = false := by simpa using ez
    rw [e1]
    have haw := AWK _ S7
    go_wp2_with fail
    (with_reducible refine haw.mono ?_)
    rintro e w9 ⟨rfl, hb9⟩
    go_wp2_with fail
    exact hK.out _ _ ⟨rfl, hb9⟩
  subst ez
  rw [show ((0 : Int) == 0) = true from rfl]
  have d0 : w6.cell? ⟨r + 1 + 1, 0, none⟩ = some (.int .i64 y) := (S7).cell 0; have d1 : w6.cell? ⟨r + 1 + 1, 1, none⟩ = some (.bool yb) := (S7).cell 1
  have hok := fault_ok y w6
  unfold fault at hok
  rw [hyb] at hok
  go_wp2_with fail
  (with_reducible refine hok.mono ?_)
  clear hok d0 d1
  rintro e w7 ⟨rfl, hb7⟩
  have S8 := S7.below hb7
  clear hb7 S7
  by_cases ey : y = 0
  rotate_left
  · have e1 : (y == 0) = false := by simpa using ey
    rw [e1]
    have haw := AWK _ S8
    go_wp2_with fail
    (with_reducible refine haw.mono ?_)
    rintro e w9 ⟨rfl, hb9⟩
    go_wp2_with fail
    exact hK.out _ _ ⟨rfl, hb9⟩
  subst ey
  rw [show ((0 : Int) == 0) = true from rfl]
  clear AWK
  have hback := back6 t s hz
  go_wp2_with fail
  obtain ⟨T, hT⟩ : ∃ T : Value, T = .tuple #[.agg (cells6 s), .agg #[.int .i64 t.d, .int .i64 s.d], .agg #[.int .i64 0, .bool false]] := ⟨_, rfl⟩
  refine wp_act fun a0 ha0 => ?_
  have HSZ : a0.tmps.size = 73 := by rw [ha0]; rfl
  have E8 : a0.eval (.tmp 8) = .pointer (some ⟨r, 0, none⟩) := by rw [ha0]; rfl
  have E5 : a0.eval (.tmp 5) = .pointer (some ⟨q, 0, none⟩) := by rw [ha0]; rfl
  have hTT : (.tuple #[.agg (cells6 s), change 0 t s, fault 0] : Value) = T := by rw [hT]; simp [change, fault]
  refine wp_region_J (by kernel_rfl) 14 (by kernel_rfl) [[], [], [1], [0, 2, 2], [3], [4], [4], [4], [], [], [], [8, 5, 3, 0, 1, 2, 3, 4, 5, 8, 9, 10], [9, 6, 11, 0, 1, 2, 3, 4, 5, 6, 8, 9, 10, 11], [10, 7, 12, 0, 1, 2, 3, 4, 5, 6, 7, 8, 9, 10, 11, 12]] (by kernel_rfl) (by kernel_rfl)
    (fun f a' W => ∃ n1 n2 n3 v G', (Gnd.of w).le G' ∧ (f 2 = true → RPairs G'.ro v (pairs6 s)) ∧ (f 8 = false → f 11 = false) ∧ (f 9 = false → f 12 = false) ∧ a' = acts [(0, 47, .agg (cells6 t)), (1, 48, .agg (cells6 s)), (2, 49, v), (3, 50, T), (4, 46, T), (5, 51, .agg (cells6 s)), (6, 52, .agg #[.int .i64 t.d, .int .i64 s.d]), (7, 53, .agg #[.int .i64 0, .bool false]), (8, 11, .pointer (some ⟨n1, 0, none⟩)), (9, 12, .pointer (some ⟨n2, 0, none⟩)), (10, 13, .pointer (some ⟨n3, 0, none⟩))] f a0 ∧ Sat G' W (opt (f 8) (blk n1 (bif f 11 then cells6 s else #[.int .i64 0, .int .i64 0, .int .i64 0, .int .i64 0, .int .i64 0, .int .i64 0]) 26) :: opt (f 9) (blk n2 (bif f 12 then #[.int .i64 t.d, .int .i64 s.d] else #[.int .i64 0, .int .i64 0]) 35) :: opt (f 10) (blk n3 #[.int .i64 0, .bool false] 38) :: blk (r + 1 + 1) #[.int .i64 0, .bool yb] 38 :: blk r (cells6 t) 26 :: blk (q + 1 + 1) #[.int .i64 0, .bool zb] 38 :: blk q (cells6 s) 26 :: [])) ?_ ?_ ?_
  · exact ⟨0, 0, 0, undef, _, Gnd.le.rfl', fun e => absurd e (by simp), fun _ => rfl, fun _ => rfl, rfl, S8.drew.opt0.opt0.opt0⟩
  · refine ⟨?_, ?_, ?_, ?_, ?_, ?_, ?_, ?_, ?_, ?_, ?_, ?_, ?_, ?_, trivial⟩
    · rintro f a' W hf hd ⟨n1, n2, n3, v, G', hG, hv, i8, i9, rfl, S⟩
      refine wpOp_list rfl ?_
      refine st_load rfl _ _ rfl _ ((acts_eval_tmp 8 (by kernel_rfl)).trans E8) _ _ (S.mid [_, _, _, _]) _ rfl rfl rfl ?_
      exact ⟨n1, n2, n3, v, G', hG, hv, i8, i9, (acts_some 0 rfl (by kernel_rfl) (by kernel_rfl)).symm, S⟩
    · rintro f a' W hf hd ⟨n1, n2, n3, v, G', hG, hv, i8, i9, rfl, S⟩
      refine wpOp_list rfl ?_
      refine st_load rfl _ _ rfl _ ((acts_eval_tmp 5 (by kernel_rfl)).trans E5) _ _ (S.mid [_, _, _, _, _, _]) _ rfl rfl rfl ?_
      exact ⟨n1, n2, n3, v, G', hG, hv, i8, i9, (acts_some 1 rfl (by kernel_rfl) (by kernel_rfl)).symm, S⟩
    · rintro f a' W h2 hd ⟨n1, n2, n3, v, G', hG, hv, i8, i9, rfl, S⟩
      refine wpOp_call rfl rfl (fun ρ hρ => ?_) (set_pairs S s) ?_
      · have e0 : ρ (.func 15) = .func (.func 15) #[] #[] := by rw [hρ]; rfl
        have e1 : ρ (.tmp 48) = .agg (cells6 s) := by rw [hρ]; exact acts_eval_hit 1 rfl hd.1 (by rw [HSZ]; rfl) (by kernel_rfl)
        clear hρ
        go_simp
      · rintro e W' ⟨v', G'', rfl, hG', hr, S'⟩
        refine ⟨v', rfl, n1, n2, n3, v', G'', hG.trans hG', fun _ => hr, i8, i9, ?_, S'⟩
        rw [acts_some (ps := [(0, 47, .agg (cells6 t)), (1, 48, .agg (cells6 s)), (2, 49, v'), (3, 50, T), (4, 46, T), (5, 51, .agg (cells6 s)), (6, 52, .agg #[.int .i64 t.d, .int .i64 s.d]), (7, 53, .agg #[.int .i64 0, .bool false]), (8, 11, .pointer (some ⟨n1, 0, none⟩)), (9, 12, .pointer (some ⟨n2, 0, none⟩)), (10, 13, .pointer (some ⟨n3, 0, none⟩))]) 2 rfl (by kernel_rfl) (by kernel_rfl)]
        congr 1
        simp only [acts, h2, Bool.false_eq_true, if_false]
    · rintro f a' W h3 hd ⟨n1, n2, n3, v, G', hG, hv, i8, i9, rfl, S⟩
      have hap := set_apply S t v (pairs6 s) (hv hd.2.1)
      rw [hback, hTT] at hap
      refine wpOp_call rfl rfl (fun ρ hρ => ?_) hap ?_
      · have e0 : ρ (.func 13) = .func (.func 13) #[] #[] := by rw [hρ]; rfl
        have e1 : ρ (.tmp 47) = .agg (cells6 t) := by rw [hρ]; exact acts_eval_hit 0 rfl hd.1 (by rw [HSZ]; rfl) (by kernel_rfl)
        have e2 : ρ (.tmp 49) = v := by rw [hρ]; exact acts_eval_hit 2 rfl hd.2.1 (by rw [HSZ]; rfl) (by kernel_rfl)
        clear hρ
        go_simp
      · rintro e W' ⟨rfl, S'⟩
        exact ⟨_, rfl, n1, n2, n3, v, G', hG, hv, i8, i9, (acts_some 3 rfl (by kernel_rfl) (by kernel_rfl)).symm, S'⟩
    · rintro f a' W h4 hd ⟨n1, n2, n3, v, G', hG, hv, i8, i9, rfl, S⟩
      refine wpOp_run (v := T) rfl rfl (fun ρ hρ => ?_) ⟨n1, n2, n3, v, G', hG, hv, i8, i9, (acts_some 4 rfl (by kernel_rfl) (by kernel_rfl)).symm, S⟩
      have e1 : ρ (.tmp 50) = T := by rw [hρ]; exact acts_eval_hit 3 rfl hd.1 (by rw [HSZ]; rfl) (by kernel_rfl)
      clear hρ
      go_simp
    · rintro f a' W h5 hd ⟨n1, n2, n3, v, G', hG, hv, i8, i9, rfl, S⟩
      refine wpOp_run (v := .agg (cells6 s)) rfl rfl (fun ρ hρ => ?_) ⟨n1, n2, n3, v, G', hG, hv, i8, i9, (acts_some 5 rfl (by kernel_rfl) (by kernel_rfl)).symm, S⟩
      have e1 : ρ (.tmp 46) = T := by rw [hρ]; exact acts_eval_hit 4 rfl hd.1 (by rw [HSZ]; rfl) (by kernel_rfl)
      clear hρ
      rw [hT] at e1
      go_simp
    · rintro f a' W h5 hd ⟨n1, n2, n3, v, G', hG, hv, i8, i9, rfl, S⟩
      refine wpOp_run (v := .agg #[.int .i64 t.d, .int .i64 s.d]) rfl rfl (fun ρ hρ => ?_) ⟨n1, n2, n3, v, G', hG, hv, i8, i9, (acts_some 6 rfl (by kernel_rfl) (by kernel_rfl)).symm, S⟩
      have e1 : ρ (.tmp 46) = T := by rw [hρ]; exact acts_eval_hit 4 rfl hd.1 (by rw [HSZ]; rfl) (by kernel_rfl)
      clear hρ
      rw [hT] at e1
      go_simp
    · rintro f a' W h5 hd ⟨n1, n2, n3, v, G', hG, hv, i8, i9, rfl, S⟩
      refine wpOp_run (v := .agg #[.int .i64 0, .bool false]) rfl rfl (fun ρ hρ => ?_) ⟨n1, n2, n3, v, G', hG, hv, i8, i9, (acts_some 7 rfl (by kernel_rfl) (by kernel_rfl)).symm, S⟩
      have e1 : ρ (.tmp 46) = T := by rw [hρ]; exact acts_eval_hit 4 rfl hd.1 (by rw [HSZ]; rfl) (by kernel_rfl)
      clear hρ
      rw [hT] at e1
      go_simp
    · rintro f a' W h8 hd ⟨n0, n2, n3, v, G', hG, hv, i8, i9, rfl, S⟩
      have e11 : upd f 8 11 = false := i8 h8
      obtain ⟨n1, hn1⟩ : ∃ n1, n1 = W.heap.size := ⟨_, rfl⟩
      refine wpOp_mem (v := .pointer (some ⟨n1, 0, none⟩)) (w' := W.alloc (.cells #[.int .i64 0, .int .i64 0, .int .i64 0, .int .i64 0, .int .i64 0, .int .i64 0] 26)) rfl rfl (fun ρ hρ => by rw [hn1]; go_simp) ⟨n1, n2, n3, v, G', hG, hv, fun _ => e11, i9, ?_, ?_⟩
      · rw [acts_some (ps := [(0, 47, .agg (cells6 t)), (1, 48, .agg (cells6 s)), (2, 49, v), (3, 50, T), (4, 46, T), (5, 51, .agg (cells6 s)), (6, 52, .agg #[.int .i64 t.d, .int .i64 s.d]), (7, 53, .agg #[.int .i64 0, .bool false]), (8, 11, .pointer (some ⟨n1, 0, none⟩)), (9, 12, .pointer (some ⟨n2, 0, none⟩)), (10, 13, .pointer (some ⟨n3, 0, none⟩))]) 8 rfl (by kernel_rfl) (by kernel_rfl)]
        congr 1
        simp only [acts, h8, Bool.false_eq_true, if_false]
      · show Sat G' _ (opt true (blk n1 (bif upd f 8 11 then cells6 s else #[.int .i64 0, .int .i64 0, .int .i64 0, .int .i64 0, .int .i64 0, .int .i64 0]) 26) :: _)
        rw [e11, hn1]
        exact opt_iff.2 (S.drop.newBlk #[.int .i64 0, .int .i64 0, .int .i64 0, .int .i64 0, .int .i64 0, .int .i64 0] 26)
    · rintro f a' W h9 hd ⟨n1, n0, n3, v, G', hG, hv, i8, i9, rfl, S⟩
      have e12 : upd f 9 12 = false := i9 h9
      obtain ⟨n2, hn2⟩ : ∃ n1, n1 = W.heap.size := ⟨_, rfl⟩
      refine wpOp_mem (v := .pointer (some ⟨n2, 0, none⟩)) (w' := W.alloc (.cells #[.int .i64 0, .int .i64 0] 35)) rfl rfl (fun ρ hρ => by rw [hn2]; go_simp) ⟨n1, n2, n3, v, G', hG, hv, i8, fun _ => e12, ?_, ?_⟩
      · rw [acts_some (ps := [(0, 47, .agg (cells6 t)), (1, 48, .agg (cells6 s)), (2, 49, v), (3, 50, T), (4, 46, T), (5, 51, .agg (cells6 s)), (6, 52, .agg #[.int .i64 t.d, .int .i64 s.d]), (7, 53, .agg #[.int .i64 0, .bool false]), (8, 11, .pointer (some ⟨n1, 0, none⟩)), (9, 12, .pointer (some ⟨n2, 0, none⟩)), (10, 13, .pointer (some ⟨n3, 0, none⟩))]) 9 rfl (by kernel_rfl) (by kernel_rfl)]
        congr 1
        simp only [acts, h9, Bool.false_eq_true, if_false]
      · show Sat G' _ (_ :: opt true (blk n2 (bif upd f 9 12 then _ else #[.int .i64 0, .int .i64 0]) 35) :: _)
        rw [e12, hn2]
        exact (opt_iff.2 (S.swap.drop.newBlk #[.int .i64 0, .int .i64 0] 35)).swap
    · rintro f a' W h10 hd ⟨n1, n2, n0, v, G', hG, hv, i8, i9, rfl, S⟩
      obtain ⟨n3, hn3⟩ : ∃ n1, n1 = W.heap.size := ⟨_, rfl⟩
      refine wpOp_mem (v := .pointer (some ⟨n3, 0, none⟩)) (w' := W.alloc (.cells #[.int .i64 0, .bool false] 38)) rfl rfl (fun ρ hρ => by rw [hn3]; go_simp) ⟨n1, n2, n3, v, G', hG, hv, i8, i9, ?_, ?_⟩
      · rw [acts_some (ps := [(0, 47, .agg (cells6 t)), (1, 48, .agg (cells6 s)), (2, 49, v), (3, 50, T), (4, 46, T), (5, 51, .agg (cells6 s)), (6, 52, .agg #[.int .i64 t.d, .int .i64 s.d]), (7, 53, .agg #[.int .i64 0, .bool false]), (8, 11, .pointer (some ⟨n1, 0, none⟩)), (9, 12, .pointer (some ⟨n2, 0, none⟩)), (10, 13, .pointer (some ⟨n3, 0, none⟩))]) 10 rfl (by kernel_rfl) (by kernel_rfl)]
        congr 1
        simp only [acts, h10, Bool.false_eq_true, if_false]
      · show Sat G' _ (_ :: _ :: opt true (blk n3 #[.int .i64 0, .bool false] 38) :: _)
        rw [hn3]
        exact Sat.dim [_, _] (opt_iff.2 ((Sat.mid [_, _] S).drop.newBlk #[.int .i64 0, .bool false] 38))
    · rintro f a' W h11 hd ⟨n1, n2, n3, v, G', hG, hv, i8, i9, rfl, S⟩
      have e8 : f 8 = true := hd.1
      rw [e8, h11] at S
      refine wpOp_list rfl ?_
      refine st_store rfl _ _ _ rfl _ _ (acts_eval_hit 8 rfl e8 (by rw [HSZ]; rfl) (by kernel_rfl)) (acts_eval_hit 5 rfl hd.2.1 (by rw [HSZ]; rfl) (by kernel_rfl)) _ _ (opt_iff.1 S) rfl rfl (by simp [cells6, Value.oneCell']) fun W' S' => ?_
      refine ⟨n1, n2, n3, v, G', hG, hv, fun e => absurd (show f 8 = false from e) (by simp [e8]), i9, (acts_none 11 (by kernel_rfl)).symm, ?_⟩
      show Sat G' W' (opt (f 8) (blk n1 (cells6 s) 26) :: _)
      rw [e8]
      exact opt_iff.2 S'
    · rintro f a' W h12 hd ⟨n1, n2, n3, v, G', hG, hv, i8, i9, rfl, S⟩
      have e9 : f 9 = true := hd.1
      rw [e9, h12] at S
      refine wpOp_list rfl ?_
      refine st_store rfl _ _ _ rfl _ _ (acts_eval_hit 9 rfl e9 (by rw [HSZ]; rfl) (by kernel_rfl)) (acts_eval_hit 6 rfl hd.2.1 (by rw [HSZ]; rfl) (by kernel_rfl)) _ _ (opt_iff.1 S.swap) rfl rfl (by simp [Value.oneCell']) fun W' S' => ?_
      refine ⟨n1, n2, n3, v, G', hG, hv, i8, fun e => absurd (show f 9 = false from e) (by simp [e9]), (acts_none 12 (by kernel_rfl)).symm, ?_⟩
      show Sat G' W' (_ :: opt (f 9) (blk n2 #[.int .i64 t.d, .int .i64 s.d] 35) :: _)
      rw [e9]
      exact (opt_iff.2 S').swap
    · rintro f a' W h13 hd ⟨n1, n2, n3, v, G', hG, hv, i8, i9, rfl, S⟩
      have e10 : f 10 = true := hd.1
      rw [e10] at S
      refine wpOp_list rfl ?_
      refine st_store rfl _ _ _ rfl _ _ (acts_eval_hit 10 rfl e10 (by rw [HSZ]; rfl) (by kernel_rfl)) (acts_eval_hit 7 rfl hd.2.1 (by rw [HSZ]; rfl) (by kernel_rfl)) _ _ (opt_iff.1 S.pull2) rfl rfl (by simp [Value.oneCell']) fun W' S' => ?_
      refine ⟨n1, n2, n3, v, G', hG, hv, i8, i9, (acts_none 13 (by kernel_rfl)).symm, ?_⟩
      show Sat G' W' (_ :: _ :: opt (f 10) (blk n3 #[.int .i64 0, .bool false] 38) :: _)
      rw [e10]
      exact Sat.dim [_, _] (opt_iff.2 S')
  · rintro a' W ⟨n1, n2, n3, v, G', hG, hv, _, _, rfl, S⟩
    subst ha0
    simp only [acts, if_true, Act.put, List.setIfInBounds_toArray, List.set_cons_succ, List.set_cons_zero]
    have S9 : Sat G' W (blk n1 (cells6 s) 26 :: blk n2 #[.int .i64 t.d, .int .i64 s.d] 35 :: blk n3 #[.int .i64 0, .bool false] 38 :: blk (r + 1 + 1) #[.int .i64 0, .bool yb] 38 :: blk r (cells6 t) 26 :: blk (q + 1 + 1) #[.int .i64 0, .bool zb] 38 :: blk q (cells6 s) 26 :: []) :=
      opt_iff.1 (Sat.swap (opt_iff.1 (Sat.swap (Sat.dim [_, _] (opt_iff.1 (Sat.mid [_, _] S))))))
    clear S S8
    generalize T = TT at *
    have d0 : W.cell? ⟨n3, 0, none⟩ = some (.int .i64 0) := (S9.pull2).cell 0; have d1 : W.cell? ⟨n3, 1, none⟩ = some (.bool false) := (S9.pull2).cell 1
    have hok := fault_none W
    go_wp2_with fail
    (with_reducible refine hok.mono ?_)
    clear hok d0 d1
    rintro e w8 ⟨rfl, hb8⟩
    have SA := S9.below hb8
    clear hb8 S9
    have c0 : w8.cell? ⟨n1, 0, none⟩ = some (.int .i64 s.a) := (SA).cell 0; have c1 : w8.cell? ⟨n1, 1, none⟩ = some (.int .i64 s.b) := (SA).cell 1; have c2 : w8.cell? ⟨n1, 2, none⟩ = some (.int .i64 s.c) := (SA).cell 2; have c3 : w8.cell? ⟨n1, 3, none⟩ = some (.int .i64 s.d) := (SA).cell 3; have c4 : w8.cell? ⟨n1, 4, none⟩ = some (.int .i64 s.e) := (SA).cell 4; have c5 : w8.cell? ⟨n1, 5, none⟩ = some (.int .i64 s.f) := (SA).cell 5
    have f0 : w8.cell? ⟨q, 0, none⟩ = some (.int .i64 s.a) := (SA.mid [_, _, _, _, _, _]).cell 0; have f1 : w8.cell? ⟨q, 1, none⟩ = some (.int .i64 s.b) := (SA.mid [_, _, _, _, _, _]).cell 1; have f2 : w8.cell? ⟨q, 2, none⟩ = some (.int .i64 s.c) := (SA.mid [_, _, _, _, _, _]).cell 2; have f3 : w8.cell? ⟨q, 3, none⟩ = some (.int .i64 s.d) := (SA.mid [_, _, _, _, _, _]).cell 3; have f4 : w8.cell? ⟨q, 4, none⟩ = some (.int .i64 s.e) := (SA.mid [_, _, _, _, _, _]).cell 4; have f5 : w8.cell? ⟨q, 5, none⟩ = some (.int .i64 s.f) := (SA.mid [_, _, _, _, _, _]).cell 5
    have g0 : w8.cell? ⟨r, 0, none⟩ = some (.int .i64 t.a) := (SA.mid [_, _, _, _]).cell 0; have g1 : w8.cell? ⟨r, 1, none⟩ = some (.int .i64 t.b) := (SA.mid [_, _, _, _]).cell 1; have g2 : w8.cell? ⟨r, 2, none⟩ = some (.int .i64 t.c) := (SA.mid [_, _, _, _]).cell 2; have g3 : w8.cell? ⟨r, 3, none⟩ = some (.int .i64 t.d) := (SA.mid [_, _, _, _]).cell 3; have g4 : w8.cell? ⟨r, 4, none⟩ = some (.int .i64 t.e) := (SA.mid [_, _, _, _]).cell 4; have g5 : w8.cell? ⟨r, 5, none⟩ = some (.int .i64 t.f) := (SA.mid [_, _, _, _]).cell 5
    have d0 : w8.cell? ⟨n2, 0, none⟩ = some (.int .i64 t.d) := (SA.swap).cell 0; have d1 : w8.cell? ⟨n2, 1, none⟩ = some (.int .i64 s.d) := (SA.swap).cell 1
    have haw := law_awake SA
    clear SA
    go_wp2_with fail
    (with_reducible refine haw.mono ?_)
    rintro e w99 ⟨G9, rfl, hG9, S9⟩
    go_wp2_with fail
    exact hK.out _ _ ⟨rfl, S9.above (hG.trans hG9)⟩
end Go.Proofs.Ytohknaoklcehaaa

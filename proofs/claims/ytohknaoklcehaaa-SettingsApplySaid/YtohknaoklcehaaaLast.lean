/- The walk of the law SettingsLast. -/
import Derived.Test.YtohknaoklcehaaaLaws
set_option linter.unusedSimpArgs false
set_option linter.unusedVariables false
namespace Go.Proofs.Ytohknaoklcehaaa
open Go.RowKit

theorem arg_pair {w : World} {v : Value} {d : D} (h : ArgV w (.agg [.int .i64, .int .i64]) v d) : ∃ a b : Int, v = .agg #[.int .i64 a, .int .i64 b] := by
  obtain ⟨cs, rfl, h⟩ := h
  have := pair_cells h
  have e : cs = #[.int .i64 (dpair d).1, .int .i64 (dpair d).2] := Array.toList_inj.1 this
  exact ⟨_, _, by rw [e]⟩
theorem one6_fst (s s' : S6) (n v : Int) : (one6 s n v).2 = (one6 s' n v).2 := by
  unfold one6
  (repeat' split) <;> first | rfl | omega
theorem one6_eq (s : S6) (n v : Int) (h : (one6 s n v).2 = 0) : (one6 s n v).1 = if n < 1 ∨ 6 < n then s else s.set n v := by
  unfold one6 at h ⊢
  by_cases c1 : v < 0 ∨ 4294967295 < v
  · simp [c1] at h
  by_cases c2 : n < 1 ∨ 6 < n
  · simp [c1, c2]
  by_cases c3 : n = 2 ∧ 1 < v
  · rw [if_neg c1, if_neg c2, if_pos c3] at h; simp at h
  by_cases c4 : n = 4 ∧ 2147483647 < v
  · rw [if_neg c1, if_neg c2, if_neg c3, if_pos c4] at h; simp at h
  by_cases c5 : n = 5 ∧ (v < 16384 ∨ 16777215 < v)
  · rw [if_neg c1, if_neg c2, if_neg c3, if_neg c4, if_pos c5] at h; simp at h
  simp only [c1, c2, c3, c4, c5, if_false]
theorem seven (n : Int) : n = 1 ∨ n = 2 ∨ n = 3 ∨ n = 4 ∨ n = 5 ∨ n = 6 ∨ (n ≠ 1 ∧ n ≠ 2 ∧ n ≠ 3 ∧ n ≠ 4 ∧ n ≠ 5 ∧ n ≠ 6) := by omega
theorem S6.set_none (s : S6) (n v : Int) (h : n ≠ 1 ∧ n ≠ 2 ∧ n ≠ 3 ∧ n ≠ 4 ∧ n ≠ 5 ∧ n ≠ 6) : s.set n v = s := by
  obtain ⟨h1, h2, h3, h4, h5, h6⟩ := h
  simp only [S6.set, h1, h2, h3, h4, h5, h6, if_false]
theorem S6.set_set (s : S6) (n u v : Int) : (s.set n u).set n v = s.set n v := by
  rcases seven n with rfl | rfl | rfl | rfl | rfl | rfl | h
  all_goals first | rfl | simp only [S6.set_none _ _ _ h]
theorem S6.set_comm (s : S6) (m n u v : Int) (h : m ≠ n) : (s.set m u).set n v = (s.set n v).set m u := by
  rcases seven m with rfl | rfl | rfl | rfl | rfl | rfl | hm <;> rcases seven n with rfl | rfl | rfl | rfl | rfl | rfl | hn
  all_goals first | rfl | (exact absurd rfl h) | simp only [S6.set_none _ _ _ hm] | simp only [S6.set_none _ _ _ hn]
theorem apply6_one (s : S6) (p : Int × Int) : (apply6 s [p]).2 = (one6 s p.1 p.2).2 ∧ ((one6 s p.1 p.2).2 = 0 → (apply6 s [p]).1 = (one6 s p.1 p.2).1) := by
  unfold apply6 all6 all6
  by_cases h : (one6 s p.1 p.2).2 = 0 <;> simp [h]
theorem apply6_two (s : S6) (p q : Int × Int) (h : (apply6 s [p, q]).2 = 0) : (one6 s p.1 p.2).2 = 0 ∧ (one6 s q.1 q.2).2 = 0 ∧ (apply6 s [p, q]).1 = (one6 (one6 s p.1 p.2).1 q.1 q.2).1 := by
  unfold apply6 all6 all6 all6 at *
  by_cases h1 : (one6 s p.1 p.2).2 = 0
  · have e := one6_fst s (one6 s p.1 p.2).1 q.1 q.2
    by_cases h2 : (one6 s q.1 q.2).2 = 0
    · rw [e] at h2; simp [h1, h2, e]
    · rw [e] at h2; simp [h1, h2] at h
  · simp [h1] at h
theorem last_same (s : S6) (p q : Int × Int) (h : (apply6 s [p, q]).2 = 0) (he : p.1 = q.1) : (apply6 s [p, q]).1 = (apply6 s [q]).1 := by
  obtain ⟨h1, h2, h3⟩ := apply6_two s p q h
  rw [h3, (apply6_one s q).2 h2, one6_eq _ _ _ h2, one6_eq (one6 s p.1 p.2).1 _ _ (by rw [one6_fst _ s]; exact h2), one6_eq _ _ _ h1, he]
  split
  · rfl
  · exact S6.set_set s q.1 p.2 q.2
theorem last_other (s : S6) (p q : Int × Int) (h : (apply6 s [p, q]).2 = 0) (h' : (apply6 s [q, p]).2 = 0) (he : p.1 ≠ q.1) : (apply6 s [p, q]).1 = (apply6 s [q, p]).1 := by
  obtain ⟨h1, h2, h3⟩ := apply6_two s p q h
  obtain ⟨_, _, h4⟩ := apply6_two s q p h'
  rw [h3, h4, one6_eq (one6 s p.1 p.2).1 _ _ (by rw [one6_fst _ s]; exact h2), one6_eq (one6 s q.1 q.2).1 _ _ (by rw [one6_fst _ s]; exact h1), one6_eq _ _ _ h1, one6_eq _ _ _ h2]
  (repeat' split) <;> first | rfl | exact S6.set_comm s p.1 q.1 p.2 q.2 he
theorem apply6_codes (s : S6) (ps : List (Int × Int)) : (apply6 s ps).2 ≠ 0 → (apply6 s ps).1 = s := by
  unfold apply6
  split
  · rename_i h; intro h'; exact absurd h h'
  · intro _; rfl
set_option maxHeartbeats 4000000 in
set_option maxRecDepth 100000 in
theorem settingsLast_walk (w : World) (v0 v1 v2 : Value) (h0 : ∃ d, ArgV w (.sl 16 (.agg [.int .i64, .int .i64])) v0 d) (h1 : ∃ d, ArgV w (.agg [.int .i64, .int .i64]) v1 d) (h2 : ∃ d, ArgV w (.agg [.int .i64, .int .i64]) v2 d) :
    Calls Try.prog 6 #[v0, v1, v2] w fun e w' => e = .returned (.bool true) ∧ Below w.heap.size w w' := by
  refine calls_any fun K hK => ?_
  obtain ⟨_, h1⟩ := h1
  obtain ⟨a0, a1, rfl⟩ := arg_pair h1
  obtain ⟨_, h2⟩ := h2
  obtain ⟨b0, b1, rfl⟩ := arg_pair h2
  obtain ⟨_, h0⟩ := h0
  obtain ⟨l, h0⟩ := arg_sl h0
  obtain ⟨hp, hb⟩ := pairs_of h0
  clear h0 h1 h2
  have S0 := ((Sat.start w).newBlk #[.int .i64 a0, .int .i64 a1] 31).newBlk #[.int .i64 b0, .int .i64 b1] 31
  simp only [World.size_alloc] at S0
  generalize l.map dpair = ps at *
  obtain ⟨A, c, rfl, hmx, hel⟩ := hp
  have hp : RPairs (Gnd.of w).ro (.slice A ps.length c) ps := ⟨A, c, rfl, hmx, hel⟩
  clear hel hb
  by_cases hlong : 100 < (ps.length : Int)
  · have haw := law_awake S0
    go_enter Try.func6, Try.ntmps6
    go_wp2_with fail
    (with_reducible refine haw.mono ?_)
    rintro e w1 ⟨G1, rfl, hG1, S1⟩
    go_wp2_with fail
    exact hK.out _ _ ⟨rfl, S1.above hG1⟩
  · go_enter Try.func6, Try.ntmps6
    go_wp2_with fail
    (with_reducible refine (set_first _).mono ?_)
    rintro e w1 ⟨rfl, hb1⟩
    have hap := set_apply (S0.below hb1) first6 _ _ hp
    clear hb1 S0
    go_wp2_with fail
    (with_reducible refine hap.mono ?_)
    clear hap hp
    rintro e w2 ⟨rfl, S2⟩
    generalize hpw : w.heap.size = p at *
    generalize apply6 first6 ps = r at *
    obtain ⟨s, z⟩ := r
    simp only at S2 ⊢
    unfold cells6 change fault
    generalize (if z = 0 then first6.d else 0) = g1 at *
    generalize (if z = 0 then s.d else 0) = g2 at *
    generalize hzb : (z != 0) = zb at *
    have S3 := ((S2.newBlk (cells6 s) 26).newBlk #[.int .i64 g1, .int .i64 g2] 35).newBlk #[.int .i64 z, .bool zb] 38
    simp only [World.size_alloc] at S3
    clear S2
    go_upto_region 4 with fail
    (with_reducible refine wp_world S3 fun W S => ?_)
    clear S3
    replace S := S.drop2
    generalize w2.heap.size = q at *
    have d0 : W.cell? ⟨q + 1 + 1, 0, none⟩ = some (.int .i64 z) := (S).cell 0; have d1 : W.cell? ⟨q + 1 + 1, 1, none⟩ = some (.bool zb) := (S).cell 1
    have hok := fault_ok z W
    unfold fault at hok
    rw [hzb] at hok
    go_wp2_with fail
    (with_reducible refine hok.mono ?_)
    clear hok d0 d1
    rintro e w3 ⟨rfl, hb3⟩
    have S5 := (S.below hb3).drop
    clear hb3 S
    by_cases hz : z = 0
    · subst hz
      clear hzb
      have c0 : w3.cell? ⟨q, 0, none⟩ = some (.int .i64 s.a) := (S5).cell 0; have c1 : w3.cell? ⟨q, 1, none⟩ = some (.int .i64 s.b) := (S5).cell 1; have c2 : w3.cell? ⟨q, 2, none⟩ = some (.int .i64 s.c) := (S5).cell 2; have c3 : w3.cell? ⟨q, 3, none⟩ = some (.int .i64 s.d) := (S5).cell 3; have c4 : w3.cell? ⟨q, 4, none⟩ = some (.int .i64 s.e) := (S5).cell 4; have c5 : w3.cell? ⟨q, 5, none⟩ = some (.int .i64 s.f) := (S5).cell 5
      have d0 : w3.cell? ⟨p + 1, 0, none⟩ = some (.int .i64 b0) := (S5.swap).cell 0; have d1 : w3.cell? ⟨p + 1, 1, none⟩ = some (.int .i64 b1) := (S5.swap).cell 1
      have f0 : w3.cell? ⟨p, 0, none⟩ = some (.int .i64 a0) := (S5.pull2).cell 0; have f1 : w3.cell? ⟨p, 1, none⟩ = some (.int .i64 a1) := (S5.pull2).cell 1
      obtain ⟨G1, hG1, S6, hp⟩ := RPairs.of_new (ps := [(a0, a1), (b0, b1)]) (S5.newBlk #[.int .i64 a0, .int .i64 a1, .int .i64 b0, .int .i64 b1] 31) (show 2 ≤ maxLen by decide)
      have hap := set_apply S6 s _ _ hp
      change Calls _ _ #[_, .slice _ 2 2] _ _ at hap
      unfold cells6 at hap
      clear S5 S6 hp
      go_wp2_with fail
      (with_reducible refine hap.mono ?_)
      clear hap d0 d1 f0 f1 c0 c1 c2 c3 c4 c5
      rintro e w4 ⟨rfl, S2⟩
      generalize hX : apply6 s [(a0, a1), (b0, b1)] = X at *
      obtain ⟨x, xz⟩ := X
      have HX := Lib.hid hX
      clear hX
      simp only at S2 ⊢
      unfold change fault
      generalize (if xz = 0 then s.d else 0) = x1 at *
      generalize (if xz = 0 then x.d else 0) = x2 at *
      generalize hxb : (xz != 0) = xb at *
      have S3 := ((S2.newBlk (cells6 x) 26).newBlk #[.int .i64 x1, .int .i64 x2] 35).newBlk #[.int .i64 xz, .bool xb] 38
      simp only [World.size_alloc] at S3
      clear S2
      go_upto_region 7 with fail
      (with_reducible refine wp_world S3 fun W4 S4 => ?_)
      clear S3
      replace S4 := S4.drop2
      generalize w4.heap.size = q4 at *
      have c0 : W4.cell? ⟨q, 0, none⟩ = some (.int .i64 s.a) := (S4.pull2).cell 0; have c1 : W4.cell? ⟨q, 1, none⟩ = some (.int .i64 s.b) := (S4.pull2).cell 1; have c2 : W4.cell? ⟨q, 2, none⟩ = some (.int .i64 s.c) := (S4.pull2).cell 2; have c3 : W4.cell? ⟨q, 3, none⟩ = some (.int .i64 s.d) := (S4.pull2).cell 3; have c4 : W4.cell? ⟨q, 4, none⟩ = some (.int .i64 s.e) := (S4.pull2).cell 4; have c5 : W4.cell? ⟨q, 5, none⟩ = some (.int .i64 s.f) := (S4.pull2).cell 5
      have d0 : W4.cell? ⟨p + 1, 0, none⟩ = some (.int .i64 b0) := (S4.pull3).cell 0; have d1 : W4.cell? ⟨p + 1, 1, none⟩ = some (.int .i64 b1) := (S4.pull3).cell 1
      have f0 : W4.cell? ⟨p, 0, none⟩ = some (.int .i64 a0) := (S4.mid [_, _, _, _]).cell 0; have f1 : W4.cell? ⟨p, 1, none⟩ = some (.int .i64 a1) := (S4.mid [_, _, _, _]).cell 1
      obtain ⟨G2, hG2, S6, hp⟩ := RPairs.of_new (ps := [(b0, b1), (a0, a1)]) (S4.newBlk #[.int .i64 b0, .int .i64 b1, .int .i64 a0, .int .i64 a1] 31) (show 2 ≤ maxLen by decide)
      have hap := set_apply S6 s _ _ hp
      change Calls _ _ #[_, .slice _ 2 2] _ _ at hap
      unfold cells6 at hap
      clear S4 S6 hp
      go_wp2_with fail
      (with_reducible refine hap.mono ?_)
      clear hap d0 d1 f0 f1 c0 c1 c2 c3 c4 c5
      rintro e w7 ⟨rfl, S2⟩
      generalize hY : apply6 s [(b0, b1), (a0, a1)] = Y at *
      obtain ⟨y, yz⟩ := Y
      have HY := Lib.hid hY
      clear hY
      simp only at S2 ⊢
      unfold change fault
      generalize (if yz = 0 then s.d else 0) = y1 at *
      generalize (if yz = 0 then y.d else 0) = y2 at *
      generalize hyb : (yz != 0) = yb at *
      have S3 := ((S2.newBlk (cells6 y) 26).newBlk #[.int .i64 y1, .int .i64 y2] 35).newBlk #[.int .i64 yz, .bool yb] 38
      simp only [World.size_alloc] at S3
      clear S2
      go_upto_region 8 with fail
      (with_reducible refine wp_world S3 fun W7 S7 => ?_)
      clear S3
      replace S7 := S7.drop2
      generalize w7.heap.size = q7 at *
      have c0 : W7.cell? ⟨q, 0, none⟩ = some (.int .i64 s.a) := (S7.mid [_, _, _, _]).cell 0; have c1 : W7.cell? ⟨q, 1, none⟩ = some (.int .i64 s.b) := (S7.mid [_, _, _, _]).cell 1; have c2 : W7.cell? ⟨q, 2, none⟩ = some (.int .i64 s.c) := (S7.mid [_, _, _, _]).cell 2; have c3 : W7.cell? ⟨q, 3, none⟩ = some (.int .i64 s.d) := (S7.mid [_, _, _, _]).cell 3; have c4 : W7.cell? ⟨q, 4, none⟩ = some (.int .i64 s.e) := (S7.mid [_, _, _, _]).cell 4; have c5 : W7.cell? ⟨q, 5, none⟩ = some (.int .i64 s.f) := (S7.mid [_, _, _, _]).cell 5
      have d0 : W7.cell? ⟨p + 1, 0, none⟩ = some (.int .i64 b0) := (S7.mid [_, _, _, _, _]).cell 0; have d1 : W7.cell? ⟨p + 1, 1, none⟩ = some (.int .i64 b1) := (S7.mid [_, _, _, _, _]).cell 1
      obtain ⟨G3, hG3, S6, hp⟩ := RPairs.of_new (ps := [(b0, b1)]) (S7.newBlk #[.int .i64 b0, .int .i64 b1] 31) (show 1 ≤ maxLen by decide)
      have hap := set_apply S6 s _ _ hp
      change Calls _ _ #[_, .slice _ 1 1] _ _ at hap
      unfold cells6 at hap
      clear S7 S6 hp
      go_wp2_with fail
      (with_reducible refine hap.mono ?_)
      clear hap d0 d1 c0 c1 c2 c3 c4 c5
      rintro e w8 ⟨rfl, S2⟩
      generalize hZ : apply6 s [(b0, b1)] = Z at *
      obtain ⟨z, zz⟩ := Z
      have HZ := Lib.hid hZ
      clear hZ
      simp only at S2 ⊢
      unfold change fault
      generalize (if zz = 0 then s.d else 0) = z1 at *
      generalize (if zz = 0 then z.d else 0) = z2 at *
      generalize hzb : (zz != 0) = zb' at *
      have S3 := ((S2.newBlk (cells6 z) 26).newBlk #[.int .i64 z1, .int .i64 z2] 35).newBlk #[.int .i64 zz, .bool zb'] 38
      simp only [World.size_alloc] at S3
      clear S2
      go_upto_region 9 with fail
      (with_reducible refine wp_world S3 fun W8 S8 => ?_)
      clear S3
      replace S8 := S8.drop2
      generalize w8.heap.size = q8 at *
      have hGG := hG1.trans (hG2.trans hG3)
      clear hG1 hG2 hG3
      have d0 : W8.cell? ⟨q4 + 1 + 1, 0, none⟩ = some (.int .i64 xz) := (S8.mid [_, _, _, _]).cell 0; have d1 : W8.cell? ⟨q4 + 1 + 1, 1, none⟩ = some (.bool xb) := (S8.mid [_, _, _, _]).cell 1
      have hok := fault_ok xz W8
      unfold fault at hok
      rw [hxb] at hok
      go_wp2_with fail
      (with_reducible refine hok.mono ?_)
      clear hok d0 d1
      rintro e w9 ⟨rfl, hb9⟩
      have S9 := S8.below hb9
      clear hb9 S8
      by_cases exz : xz = 0
      · subst exz
        rw [show ((0 : Int) == 0) = true from rfl]
        have d0 : w9.cell? ⟨q7 + 1 + 1, 0, none⟩ = some (.int .i64 yz) := (S9.mid [_, _]).cell 0; have d1 : w9.cell? ⟨q7 + 1 + 1, 1, none⟩ = some (.bool yb) := (S9.mid [_, _]).cell 1
        have hok := fault_ok yz w9
        unfold fault at hok
        rw [hyb] at hok
        go_wp2_with fail
        (with_reducible refine hok.mono ?_)
        clear hok d0 d1
        rintro e w10 ⟨rfl, hb9⟩
        have S10 := S9.below hb9
        clear hb9 S9
        by_cases eyz : yz = 0
        · subst eyz
          rw [show ((0 : Int) == 0) = true from rfl]
          have d0 : w10.cell? ⟨q8 + 1 + 1, 0, none⟩ = some (.int .i64 zz) := (S10).cell 0; have d1 : w10.cell? ⟨q8 + 1 + 1, 1, none⟩ = some (.bool zb') := (S10).cell 1
          have hok := fault_ok zz w10
          unfold fault at hok
          rw [hzb] at hok
          go_wp2_with fail
          (with_reducible refine hok.mono ?_)
          clear hok d0 d1
          rintro e w11 ⟨rfl, hb9⟩
          have S11 := S10.below hb9
          clear hb9 S10
          by_cases ezz : zz = 0
          · subst ezz
            rw [show ((0 : Int) == 0) = true from rfl]
            have d0 : w11.cell? ⟨p + 1, 0, none⟩ = some (.int .i64 b0) := (S11.mid [_, _, _, _, _, _, _]).cell 0; have d1 : w11.cell? ⟨p + 1, 1, none⟩ = some (.int .i64 b1) := (S11.mid [_, _, _, _, _, _, _]).cell 1
            have f0 : w11.cell? ⟨p, 0, none⟩ = some (.int .i64 a0) := (S11.mid [_, _, _, _, _, _, _, _]).cell 0; have f1 : w11.cell? ⟨p, 1, none⟩ = some (.int .i64 a1) := (S11.mid [_, _, _, _, _, _, _, _]).cell 1
            by_cases hab : a0 = b0
            · subst hab
              have e1 := last_same s (a0, a1) (a0, b1) (by rw [HX.out]) rfl
              rw [HX.out, HZ.out] at e1
              simp only at e1
              subst e1
              have c0 : w11.cell? ⟨q4, 0, none⟩ = some (.int .i64 x.a) := (S11.mid [_, _, _, _, _]).cell 0; have c1 : w11.cell? ⟨q4, 1, none⟩ = some (.int .i64 x.b) := (S11.mid [_, _, _, _, _]).cell 1; have c2 : w11.cell? ⟨q4, 2, none⟩ = some (.int .i64 x.c) := (S11.mid [_, _, _, _, _]).cell 2; have c3 : w11.cell? ⟨q4, 3, none⟩ = some (.int .i64 x.d) := (S11.mid [_, _, _, _, _]).cell 3; have c4 : w11.cell? ⟨q4, 4, none⟩ = some (.int .i64 x.e) := (S11.mid [_, _, _, _, _]).cell 4; have c5 : w11.cell? ⟨q4, 5, none⟩ = some (.int .i64 x.f) := (S11.mid [_, _, _, _, _]).cell 5
              have g0 : w11.cell? ⟨q8, 0, none⟩ = some (.int .i64 x.a) := (S11.mid [_]).cell 0; have g1 : w11.cell? ⟨q8, 1, none⟩ = some (.int .i64 x.b) := (S11.mid [_]).cell 1; have g2 : w11.cell? ⟨q8, 2, none⟩ = some (.int .i64 x.c) := (S11.mid [_]).cell 2; have g3 : w11.cell? ⟨q8, 3, none⟩ = some (.int .i64 x.d) := (S11.mid [_]).cell 3; have g4 : w11.cell? ⟨q8, 4, none⟩ = some (.int .i64 x.e) := (S11.mid [_]).cell 4; have g5 : w11.cell? ⟨q8, 5, none⟩ = some (.int .i64 x.f) := (S11.mid [_]).cell 5
              have haw := law_awake S11
              clear S11 HX HY HZ
              go_wp2_with fail
              (with_reducible refine haw.mono ?_)
              rintro e w99 ⟨G9, rfl, hG9, S9⟩
              go_wp2_with fail
              exact hK.out _ _ ⟨rfl, by rw [← hpw]; exact S9.above (hGG.trans hG9)⟩
            · have e1 := last_other s (a0, a1) (b0, b1) (by rw [HX.out]) (by rw [HY.out]) hab
              rw [HX.out, HY.out] at e1
              simp only at e1
              subst e1
              have c0 : w11.cell? ⟨q4, 0, none⟩ = some (.int .i64 x.a) := (S11.mid [_, _, _, _, _]).cell 0; have c1 : w11.cell? ⟨q4, 1, none⟩ = some (.int .i64 x.b) := (S11.mid [_, _, _, _, _]).cell 1; have c2 : w11.cell? ⟨q4, 2, none⟩ = some (.int .i64 x.c) := (S11.mid [_, _, _, _, _]).cell 2; have c3 : w11.cell? ⟨q4, 3, none⟩ = some (.int .i64 x.d) := (S11.mid [_, _, _, _, _]).cell 3; have c4 : w11.cell? ⟨q4, 4, none⟩ = some (.int .i64 x.e) := (S11.mid [_, _, _, _, _]).cell 4; have c5 : w11.cell? ⟨q4, 5, none⟩ = some (.int .i64 x.f) := (S11.mid [_, _, _, _, _]).cell 5
              have g0 : w11.cell? ⟨q7, 0, none⟩ = some (.int .i64 x.a) := (S11.mid [_, _, _]).cell 0; have g1 : w11.cell? ⟨q7, 1, none⟩ = some (.int .i64 x.b) := (S11.mid [_, _, _]).cell 1; have g2 : w11.cell? ⟨q7, 2, none⟩ = some (.int .i64 x.c) := (S11.mid [_, _, _]).cell 2; have g3 : w11.cell? ⟨q7, 3, none⟩ = some (.int .i64 x.d) := (S11.mid [_, _, _]).cell 3; have g4 : w11.cell? ⟨q7, 4, none⟩ = some (.int .i64 x.e) := (S11.mid [_, _, _]).cell 4; have g5 : w11.cell? ⟨q7, 5, none⟩ = some (.int .i64 x.f) := (S11.mid [_, _, _]).cell 5
              have haw := law_awake S11
              clear S11 HX HY HZ
              go_wp2_with fail
              (with_reducible refine haw.mono ?_)
              rintro e w99 ⟨G9, rfl, hG9, S9⟩
              go_wp2_with fail
              exact hK.out _ _ ⟨rfl, by rw [← hpw]; exact S9.above (hGG.trans hG9)⟩
          · have ez : (zz == 0) = false := by simpa using ezz
            rw [ez]
            have haw := law_awake S11
            go_wp2_with fail
            (with_reducible refine haw.mono ?_)
            rintro e w99 ⟨G9, rfl, hG9, S9⟩
            go_wp2_with fail
            exact hK.out _ _ ⟨rfl, by rw [← hpw]; exact S9.above (hGG.trans hG9)⟩
        · have ez : (yz == 0) = false := by simpa using eyz
          rw [ez]
          have haw := law_awake S10
          go_wp2_with fail
          (with_reducible refine haw.mono ?_)
          rintro e w99 ⟨G9, rfl, hG9, S9⟩
          go_wp2_with fail
          exact hK.out _ _ ⟨rfl, by rw [← hpw]; exact S9.above (hGG.trans hG9)⟩
      · have ez : (xz == 0) = false := by simpa using exz
        rw [ez]
        have haw := law_awake S9
        go_wp2_with fail
        (with_reducible refine haw.mono ?_)
        rintro e w99 ⟨G9, rfl, hG9, S9⟩
        go_wp2_with fail
        exact hK.out _ _ ⟨rfl, by rw [← hpw]; exact S9.above (hGG.trans hG9)⟩
    · have ez : (z == 0) = false := by simpa using hz
      rw [ez]
      have haw := law_awake S5
      go_wp2_with fail
      (with_reducible refine haw.mono ?_)
      rintro e w4 ⟨G1, rfl, hG1, S6⟩
      go_wp2_with fail
      exact hK.out _ _ ⟨rfl, by rw [← hpw]; exact S6.above hG1⟩
end Go.Proofs.Ytohknaoklcehaaa

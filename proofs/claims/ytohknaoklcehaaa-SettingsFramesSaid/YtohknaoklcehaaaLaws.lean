/- The walks of the laws SettingsShares and SettingsLast. -/
import Derived.Test.YtohknaoklcehaaaAwake
set_option linter.unusedSimpArgs false
set_option linter.unusedVariables false
namespace Go.Proofs.Ytohknaoklcehaaa
open Go.RowKit

def dpair : D → Int × Int
  | .agg [.int a, .int b] => (a, b)
  | _ => (0, 0)
theorem pair_cells {R : Hp} {d : D} {es : List Value} (h : Rd R (.agg [.int .i64, .int .i64]) d es) : es = [.int .i64 (dpair d).1, .int .i64 (dpair d).2] := by
  cases d <;> simp only [Rd] at h
  rename_i ds
  match ds, h with
  | [d0, d1], h =>
    simp only [RdAll] at h
    obtain ⟨c0, _, rfl, _, h0, c1, _, rfl, _, h1, rfl⟩ := h
    cases d0 <;> simp only [Rd] at h0
    cases d1 <;> simp only [Rd] at h1
    obtain ⟨rfl, _⟩ := h0
    obtain ⟨rfl, w1⟩ := h1
    rfl
  | [], h => simp [RdAll] at h
  | [_], h => simp [RdAll] at h
  | _ :: _ :: _ :: _, h => simp [RdAll] at h
theorem pairs_of {R : Hp} {v : Value} {l : List D} (h : RdSl R 16 (.agg [.int .i64, .int .i64]) v l) : RPairs R v (l.map dpair) ∧ l.length * 16 ≤ 140737488351232 := by
  obtain ⟨A, c, hv, _, _, hb, _, hel⟩ := h.form
  refine ⟨⟨A, c, by simpa using hv, by simp; omega, fun i p hp => ?_⟩, hb⟩
  rw [List.getElem?_map] at hp
  cases hd : l[i]? with
  | none => rw [hd] at hp; cases hp
  | some d =>
    rw [hd] at hp
    simp only [Option.map_some, Option.some.injEq] at hp
    subst hp
    obtain ⟨a, hA, es, he, hc, hr⟩ := hel i d hd
    have he' := pair_cells hr
    subst he'
    have h0 := hc 0 (by simp [Ty.size, sizeAll])
    have h1 := hc 1 (by simp [Ty.size, sizeAll])
    simp only [Ty.size, sizeAll, Nat.add_zero, Nat.reduceAdd, List.getElem?_cons_zero, List.getElem?_cons_succ] at h0 h1
    obtain ⟨b, off, hab⟩ : ∃ b off, a.add (i * 2) = ⟨b, off, none⟩ := by
      rcases hx : a.add (i * 2) with ⟨b, off, sp⟩
      cases sp with
      | none => exact ⟨b, off, rfl⟩
      | some s =>
        rw [hx] at h0
        simp only [cellR] at h0
        split at h0 <;> simp at h0
    refine ⟨a, b, off, hA, hab, by rw [← hab]; exact h0, ?_⟩
    have h2 : a.add (i * 2 + 1) = ⟨b, off + 1, none⟩ := by
      unfold Addr.add at hab ⊢
      by_cases hi : i * 2 = 0
      · simp only [hi, if_true] at hab; subst hab; simp [hi]
      · simp only [hi, if_false] at hab; simp at hab; simp [hab]; omega
    rw [← h2]; exact h1
/-- The range of the streams' number. -/
theorem one6_c (s : S6) (n v : Int) (h : 0 ≤ s.c ∧ s.c ≤ 4294967295) : 0 ≤ (one6 s n v).1.c ∧ (one6 s n v).1.c ≤ 4294967295 := by
  unfold one6 S6.set
  (repeat' split) <;> first | exact h | (simp only; omega)
theorem all6_c (ps : List (Int × Int)) : ∀ (s : S6), 0 ≤ s.c ∧ s.c ≤ 4294967295 → 0 ≤ (all6 s ps).1.c ∧ (all6 s ps).1.c ≤ 4294967295 := by
  induction ps with
  | nil => intro s h; exact h
  | cons p ps ih =>
    intro s h
    unfold all6
    split
    · exact ih _ (one6_c s p.1 p.2 h)
    · exact h
theorem apply6_c (s : S6) (ps : List (Int × Int)) (h : 0 ≤ s.c ∧ s.c ≤ 4294967295) : 0 ≤ (apply6 s ps).1.c ∧ (apply6 s ps).1.c ≤ 4294967295 := by
  unfold apply6
  split
  · exact all6_c ps s h
  · exact h
theorem share_law (c t n : Int) (hn : n = min (c / t) 65536) (h0 : 0 ≤ c) (h1 : c ≤ 4294967295) (t0 : 1 ≤ t) (t1 : t ≤ 64) :
    0 ≤ n ∧ n ≤ 65536 ∧ IntKind.i64.wrap (n * t) = n * t ∧ n * t ≤ c ∧ IntKind.i64.wrap (n + 1) = n + 1 ∧ IntKind.i64.wrap ((n + 1) * t) = (n + 1) * t ∧ (n ≠ 65536 → c < (n + 1) * t) := by
  have h2 : 0 ≤ c / t := Int.ediv_nonneg h0 (by omega)
  have h3 : c / t * t ≤ c := Int.ediv_mul_le c (by omega)
  have h4 : c < (c / t + 1) * t := Int.lt_ediv_add_one_mul_self c (by omega)
  have n0 : 0 ≤ n := by omega
  have n1 : n ≤ 65536 := by omega
  have n2 : n ≤ c / t := by omega
  have e1 : n * t ≤ c / t * t := Int.mul_le_mul_of_nonneg_right n2 (by omega)
  have e2 : 0 ≤ n * t := Int.mul_nonneg n0 (by omega)
  have e3 : (n + 1) * t = n * t + t := by rw [Int.add_mul, Int.one_mul]
  refine ⟨n0, n1, IntWalk.i64_in _ ⟨by omega, by omega⟩, by omega, IntWalk.i64_in _ ⟨by omega, by omega⟩, IntWalk.i64_in _ ⟨by omega, by omega⟩, fun hne => ?_⟩
  have : n = c / t := by omega
  rw [this]; exact h4
set_option maxHeartbeats 4000000 in
set_option maxRecDepth 100000 in
theorem settingsShares_walk (w : World) (v0 v1 : Value) (h0 : ∃ d, ArgV w (.sl 16 (.agg [.int .i64, .int .i64])) v0 d) (h1 : ∃ d, ArgV w (.int .i64) v1 d) :
    Calls Try.prog 5 #[v0, v1] w fun e w' => e = .returned (.bool true) ∧ Below w.heap.size w w' := by
  refine calls_any fun K hK => ?_
  obtain ⟨_, h1⟩ := h1
  obtain ⟨t, rfl, ht⟩ := arg_int h1
  obtain ⟨_, h0⟩ := h0
  obtain ⟨l, h0⟩ := arg_sl h0
  obtain ⟨hp, hb⟩ := pairs_of h0
  have S0 := Sat.start w
  generalize l.map dpair = ps at *
  obtain ⟨A, c, rfl, hmx, hel⟩ := hp
  have hp : RPairs (Gnd.of w).ro (.slice A ps.length c) ps := ⟨A, c, rfl, hmx, hel⟩
  clear hel h0 h1 ht hb
  by_cases hlong : 100 < (ps.length : Int)
  · have haw := law_awake S0
    go_enter Try.func5, Try.ntmps5
    go_wp2_with fail
    (with_reducible refine haw.mono ?_)
    rintro e w1 ⟨G1, rfl, hG1, S1⟩
    go_wp2_with fail
    exact hK.out _ _ ⟨rfl, S1.above hG1⟩
  · go_enter Try.func5, Try.ntmps5
    go_wp2_with fail
    (with_reducible refine (set_first _).mono ?_)
    rintro e w1 ⟨rfl, hb1⟩
    have hap := set_apply (S0.below hb1) first6 _ _ hp
    clear hb1 S0
    go_wp2_with fail
    (with_reducible refine hap.mono ?_)
    clear hap hp
    rintro e w2 ⟨rfl, S2⟩
    have hc := apply6_c first6 ps (by decide)
    generalize apply6 first6 ps = r at *
    obtain ⟨s, z⟩ := r
    simp only at hc S2 ⊢
    obtain ⟨hc0, hc1⟩ := hc
    unfold cells6 change fault
    generalize (if z = 0 then first6.d else 0) = g1 at *
    generalize (if z = 0 then s.d else 0) = g2 at *
    generalize (z != 0) = zb at *
    have S3 := ((S2.newBlk (cells6 s) 26).newBlk #[.int .i64 g1, .int .i64 g2] 35).newBlk #[.int .i64 z, .bool zb] 38
    simp only [World.size_alloc] at S3
    clear S2
    go_upto_region 4 with fail
    (with_reducible refine wp_world S3 fun W S => ?_)
    clear S3
    generalize w2.heap.size = q at *
    have b0 : W.cell? ⟨q, 0, none⟩ = some (.int .i64 s.a) := S.pull2.cell 0
    have b1 : W.cell? ⟨q, 1, none⟩ = some (.int .i64 s.b) := S.pull2.cell 1
    have b2 : W.cell? ⟨q, 2, none⟩ = some (.int .i64 s.c) := S.pull2.cell 2
    have b3 : W.cell? ⟨q, 3, none⟩ = some (.int .i64 s.d) := S.pull2.cell 3
    have b4 : W.cell? ⟨q, 4, none⟩ = some (.int .i64 s.e) := S.pull2.cell 4
    have b5 : W.cell? ⟨q, 5, none⟩ = some (.int .i64 s.f) := S.pull2.cell 5
    have hsh := set_share s t W hc0 hc1
    unfold cells6 at hsh
    go_wp2_with fail
    (with_reducible refine hsh.mono ?_)
    clear hsh b0 b1 b2 b3 b4 b5
    rintro e w3 ⟨rfl, hb3⟩
    have S5 := S.below hb3
    clear hb3 S
    have b2 : w3.cell? ⟨q, 2, none⟩ = some (.int .i64 s.c) := S5.pull2.cell 2
    have haw := law_awake S5
    clear S5
    by_cases t1 : t < 1
    · have e1 : share6 s t = 0 := by unfold share6; rw [if_pos (.inl t1)]
      rw [e1]
      go_wp2_with fail
      (with_reducible refine haw.mono ?_)
      rintro e w4 ⟨G1, rfl, hG1, S6⟩
      go_wp2_with fail
      exact hK.out _ _ ⟨rfl, S6.above hG1⟩
    · by_cases t2 : 64 < t
      · have e1 : share6 s t = 0 := by unfold share6; rw [if_pos (.inr t2)]
        rw [e1]
        go_wp2_with fail
        (with_reducible refine haw.mono ?_)
        rintro e w4 ⟨G1, rfl, hG1, S6⟩
        go_wp2_with fail
        exact hK.out _ _ ⟨rfl, S6.above hG1⟩
      · have e1 : share6 s t = min (s.c / t) 65536 := by unfold share6; rw [if_neg (by omega)]
        obtain ⟨n0, n1, n2, n3, n4, n5, n6⟩ := share_law s.c t _ e1 hc0 hc1 (by omega) (by omega)
        clear e1
        generalize share6 s t = n at *
        by_cases hn : n = 65536
        · subst hn
          clear n4 n5 n6
          go_wp2_with fail
          (with_reducible refine haw.mono ?_)
          rintro e w4 ⟨G1, rfl, hG1, S6⟩
          go_wp2_with fail
          exact hK.out _ _ ⟨rfl, S6.above hG1⟩
        · replace n6 := n6 hn
          go_wp2_with fail
          (with_reducible refine haw.mono ?_)
          rintro e w4 ⟨G1, rfl, hG1, S6⟩
          go_wp2_with fail
          exact hK.out _ _ ⟨rfl, S6.above hG1⟩
end Go.Proofs.Ytohknaoklcehaaa

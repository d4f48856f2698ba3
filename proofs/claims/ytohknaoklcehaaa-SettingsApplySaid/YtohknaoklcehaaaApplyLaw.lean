/- The walk of the law SettingsApply. -/
import Derived.Test.YtohknaoklcehaaaBack
set_option linter.unusedSimpArgs false
set_option linter.unusedVariables false
namespace Go.Proofs.Ytohknaoklcehaaa
open Go.RowKit

/-- A slice of slices of pairs. -/
theorem lists_of {R : Hp} {v : Value} {l : List D} (h : RdSl R 24 (.sl 16 (.agg [.int .i64, .int .i64])) v l) :
    ∃ A c, v = .slice A l.length c ∧ l.length ≤ 9223372036854775807 ∧ ∀ i, i < l.length → ∃ a bo off u qs, A = some a ∧ a.add i = ⟨bo, off, none⟩ ∧ cellR R ⟨bo, off, none⟩ = some u ∧ RPairs R u qs := by
  obtain ⟨A, c, hv, _, _, hb, _, hel⟩ := h.form
  refine ⟨A, c, hv, by omega, fun i hi => ?_⟩
  obtain ⟨a, hA, es, he, hc, hr⟩ := hel i l[i] (List.getElem?_eq_getElem hi)
  have h0 := hc 0 (by simp [Ty.size])
  simp only [Ty.size, Nat.mul_one, Nat.add_zero] at h0 he
  obtain ⟨u, rfl⟩ := List.length_eq_one_iff.1 he
  obtain ⟨bo, off, hab⟩ : ∃ b off, a.add i = ⟨b, off, none⟩ := by
    rcases hx : a.add i with ⟨b, off, sp⟩
    cases sp with
    | none => exact ⟨b, off, rfl⟩
    | some s =>
      rw [hx] at h0
      simp only [cellR] at h0
      split at h0 <;> simp at h0
  rw [hab] at h0
  cases hd : l[i] with
  | sl m =>
    rw [hd] at hr
    exact ⟨a, bo, off, u, m.map dpair, hA, hab, h0, (pairs_of (l := m) hr).1⟩
  | int n => rw [hd] at hr; simp [Rd] at hr
  | bool n => rw [hd] at hr; simp [Rd] at hr
  | str n => rw [hd] at hr; simp [Rd] at hr
  | agg n => rw [hd] at hr; simp [Rd] at hr
theorem wanted_hit {ops : Array Oper} {o : Oper} {a : Act} {g : Nat} {t : Tmp} {b : Bool} (hg : o.guard = some (g, b)) (ht : (ops[g]?).bind (·.dst) = some t) (he : a.eval (.tmp t) = .bool b) : Region.wanted o (yielded ops a.tmps) = true := by
  unfold Region.wanted
  rw [hg]
  simp [yielded_of ht he]
theorem one6_stay (s : S6) (n v : Int) (h : (one6 s n v).2 ≠ 0) : (one6 s n v).1 = s := by
  unfold one6 at h ⊢
  by_cases c1 : v < 0 ∨ 4294967295 < v
  · rw [if_pos c1]
  rw [if_neg c1] at h ⊢
  by_cases c2 : n < 1 ∨ 6 < n
  · rw [if_pos c2]
  rw [if_neg c2] at h ⊢
  by_cases c3 : n = 2 ∧ 1 < v
  · rw [if_pos c3]
  rw [if_neg c3] at h ⊢
  by_cases c4 : n = 4 ∧ 2147483647 < v
  · rw [if_pos c4]
  rw [if_neg c4] at h ⊢
  by_cases c5 : n = 5 ∧ (v < 16384 ∨ 16777215 < v)
  · rw [if_pos c5]
  rw [if_neg c5] at h
  exact absurd rfl h
theorem all6_snoc (s : S6) (ps : List (Int × Int)) (p : Int × Int) : all6 s (ps ++ [p]) = if (all6 s ps).2 = 0 then one6 (all6 s ps).1 p.1 p.2 else all6 s ps := by
  split
  · rename_i h
    by_cases h2 : (one6 (all6 s ps).1 p.1 p.2).2 = 0
    · exact all6_good s ps p h h2
    · rw [all6_stop s ps p h h2]; exact Prod.ext (one6_stay _ _ _ h2).symm rfl
  · rename_i h; exact all6_bad s ps [p] h
theorem apply6_zero (s : S6) (ps : List (Int × Int)) : ((all6 s ps).2 = 0 → apply6 s ps = ((all6 s ps).1, 0)) ∧ ((all6 s ps).2 ≠ 0 → apply6 s ps = (s, (all6 s ps).2)) := by
  unfold apply6
  exact ⟨fun h => by rw [if_pos h]; exact Prod.ext rfl h, fun h => by rw [if_neg h]⟩
theorem eq_arr (s : S6) (w : World) : (Op.equalIn 10000 28 (.agg #[.int .i64 s.a, .int .i64 s.b, .int .i64 s.c, .int .i64 s.d, .int .i64 s.e, .int .i64 s.f]) (.agg #[.int .i64 s.a, .int .i64 s.b, .int .i64 s.c, .int .i64 s.d, .int .i64 s.e, .int .i64 s.f])).run Try.prog w = .ok true w := by
  have u3 := Try.underlying3
  have a3 := Try.isAgg3
  have z3 := Try.sizeOf3
  rw [show (10000 : Nat) = 9999 + 1 from rfl, Op.equalIn]
  simp only [Sem.run_bind, run_underlying Try.underlying28, Result.andThen_ok]
  simp only [Std.Legacy.Range.forIn_eq_forIn_range', Std.Legacy.Range.size, Nat.sub_zero, Nat.add_sub_cancel, Nat.div_one, List.range'_succ, List.range'_zero, List.forIn_cons, List.forIn_nil]
  go_simp
set_option maxHeartbeats 4000000 in
set_option maxRecDepth 100000 in
theorem settingsApply_walk (w : World) (v0 : Value) (h0 : ∃ d, ArgV w (.sl 24 (.sl 16 (.agg [.int .i64, .int .i64]))) v0 d) :
    Calls Try.prog 3 #[v0] w fun e w' => e = .returned (.bool true) ∧ Below w.heap.size w w' := by
  refine calls_any fun K hK => ?_
  obtain ⟨_, h0⟩ := h0
  obtain ⟨l, h0⟩ := arg_sl h0
  obtain ⟨A, c, rfl, hmx, hel⟩ := lists_of h0
  clear h0
  have HEL := Lib.hid hel
  clear hel
  generalize l.length = L at *
  have S0 := Sat.start w
  have HS := Lib.hid S0
  clear S0
  go_enter Try.func3, Try.ntmps3
  go_wp2_with fail
  go_loopw [3, 20] (fun n i wr => ∃ k : Nat, k ≤ L ∧ i = .int .i64 k ∧ (∃ x : Int, n = .int .i64 x) ∧ Sat (Gnd.of w) wr []) (fun _ i _ => L - (intOf i).toNat)
  case atStart => exact ⟨0, Nat.zero_le _, rfl, ⟨0, rfl⟩, HS.out⟩
  case round =>
    obtain ⟨k, hk, rfl, ⟨x, rfl⟩, S⟩ := hrel
    clear HS
    by_cases hlt : k < L
    · obtain ⟨a, bo, off, u, qs, rfl, ha, c0, A', c', rfl, hq0, _⟩ := HEL.out k hlt
      replace c0 := S.cellR c0
      have HS := Lib.hid S
      clear S
      go_wp2_with fail
      go_roundw
      case rel => exact ⟨k + 1, by omega, by go_num, ⟨_, rfl⟩, HS.out⟩
      case measure => simp [intOf]; omega
    · obtain rfl : k = L := by omega
      have haw := (law_awake S).mono (R' := fun e w' => e = .returned (.bool true) ∧ Below w.heap.size w w') fun e w' h => by obtain ⟨G1, rfl, hG1, S1⟩ := h; exact ⟨rfl, S1.above hG1⟩
      by_cases hx : 200 < x
      · go_wp2_with fail
        (with_reducible refine haw.mono ?_)
        rintro e w9 ⟨rfl, hb9⟩
        go_wp2_with fail
        exact hK.out _ _ ⟨rfl, hb9⟩
      by_cases hx2 : 200 < (k : Int)
      · go_wp2_with fail
        (with_reducible refine haw.mono ?_)
        rintro e w9 ⟨rfl, hb9⟩
        go_wp2_with fail
        exact hK.out _ _ ⟨rfl, hb9⟩
      clear haw
      go_wp2_with fail
      (with_reducible refine (set_first _).mono ?_)
      rintro e w1 ⟨rfl, hb1⟩
      have S1 := S.below hb1
      clear S hb1
      have S2 := S1.newBlk (cells6 first6) 26
      unfold cells6
      go_upto_region 10 with fail
      rw [show #[Value.int .i64 first6.a, Value.int .i64 first6.b, Value.int .i64 first6.c, Value.int .i64 first6.d, Value.int .i64 first6.e, Value.int .i64 first6.f] = cells6 first6 from rfl]
      (with_reducible refine wp_world S2 fun W2 S3 => ?_)
      clear S1 S2
      generalize w1.heap.size = q at *
      go_wp2_with fail
      (with_reducible refine (ref_first _).mono ?_)
      rintro e w2 ⟨rfl, hb2⟩
      have S4 := (S3.below hb2).newBlk (cells6 first6) 28
      clear S3 hb2
      unfold cells6
      go_upto_region 11 with fail
      rw [show #[Value.int .i64 first6.a, Value.int .i64 first6.b, Value.int .i64 first6.c, Value.int .i64 first6.d, Value.int .i64 first6.e, Value.int .i64 first6.f] = cells6 first6 from rfl]
      (with_reducible refine wp_world S4 fun W3 S5 => ?_)
      clear S4
      generalize w2.heap.size = r at *
      refine wp_act fun a0 ha0 => ?_
      have HSZ : a0.tmps.size = 111 := by rw [ha0]; rfl
      have E6 : a0.eval (.tmp 6) = .pointer (some ⟨q, 0, none⟩) := by rw [ha0]; rfl
      have E7 : a0.eval (.tmp 7) = .pointer (some ⟨r, 0, none⟩) := by rw [ha0]; rfl
      refine wp_region_sat (by kernel_rfl) 4 (by kernel_rfl) [[], [0], [], [1, 2]] (by kernel_rfl) (by kernel_rfl) [(0, 40, .agg (cells6 first6)), (1, 41, .agg (cells6 first6)), (2, 42, .agg (cells6 first6)), (3, 43, .bool false)]
        (fun _ => [blk r (cells6 first6) 28, blk q (cells6 first6) 26]) (by kernel_rfl) S5 ?_ ?_
      · refine ⟨?_, ?_, ?_, ?_, trivial⟩
        · intro f W hf hd S
          refine wpOp_list rfl ?_
          refine st_load rfl _ _ rfl _ ((acts_eval_tmp 6 (by kernel_rfl)).trans E6) _ _ S.swap _ rfl rfl rfl ?_
          exact ⟨(acts_some 0 rfl (by kernel_rfl) (by kernel_rfl)).symm, S⟩
        · intro f W hf hd S
          refine wpOp_call rfl rfl (fun ρ hρ => ?_) (law_numbers first6 W) ?_
          · have e0 : ρ (.func 11) = .func (.func 11) #[] #[] := by rw [hρ]; rfl
            have e1 : ρ (.tmp 40) = .agg (cells6 first6) := by rw [hρ]; exact acts_eval_hit 0 rfl hd.1 (by rw [HSZ]; rfl) (by kernel_rfl)
            clear hρ
            go_simp
          · rintro e W' ⟨rfl, hb⟩
            exact ⟨_, rfl, (acts_some 1 rfl (by kernel_rfl) (by kernel_rfl)).symm, S.below hb⟩
        · intro f W hf hd S
          refine wpOp_list rfl ?_
          refine st_load rfl _ _ rfl _ ((acts_eval_tmp 7 (by kernel_rfl)).trans E7) _ _ S _ rfl rfl rfl ?_
          exact ⟨(acts_some 2 rfl (by kernel_rfl) (by kernel_rfl)).symm, S⟩
        · intro f W hf hd S
          refine wpOp_run (v := .bool false) rfl rfl (fun ρ hρ => ?_) ⟨(acts_some 3 rfl (by kernel_rfl) (by kernel_rfl)).symm, S⟩
          have e1 : ρ (.tmp 41) = .agg (cells6 first6) := by rw [hρ]; exact acts_eval_hit 1 rfl hd.1 (by rw [HSZ]; rfl) (by kernel_rfl)
          have e2 : ρ (.tmp 42) = .agg (cells6 first6) := by rw [hρ]; exact acts_eval_hit 2 rfl hd.2.1 (by rw [HSZ]; rfl) (by kernel_rfl)
          clear hρ
          unfold cells6 at e1 e2
          have e3 := eq_arr first6 W
          go_simp
      · intro W S
        subst ha0
        simp only [acts, if_true, Act.put, List.setIfInBounds_toArray, List.set_cons_succ, List.set_cons_zero]
        clear S5
        go_wp2_with fail
        have HS2 := Lib.hid S
        clear S
        go_loopw [46] (fun i wr => ∃ j : Nat, j ≤ k ∧ i = .int .i64 j ∧ ∃ s, Sat (Gnd.of w) wr [blk r (cells6 s) 28, blk q (cells6 s) 26]) (fun i _ => k - (intOf i).toNat)
        case atStart => exact ⟨0, Nat.zero_le _, rfl, first6, HS2.out⟩
        case round =>
          obtain ⟨j, hj, rfl, s, S⟩ := hrel
          clear HS2
          by_cases hlt : j < k
          · obtain ⟨a, bo, off, u, qs, rfl, ha, c0, hq⟩ := HEL.out j hlt
            have hq' := hq
            obtain ⟨A', c', rfl, hqm, hqe⟩ := hq
            have HQ := Lib.hid hqe
            clear hqe
            replace c0 := S.cellR c0
            have S1 := S.newBlk (cells6 s) 28
            have hr0 := S.blk_lt
            have hc : ∀ j : Nat, wr.cell? ⟨r, j, none⟩ = (cells6 s)[j]? := fun j => S.cell j
            have b0 : wr.cell? ⟨r, 0, none⟩ = some (.int .i64 s.a) := hc 0
            have b1 : wr.cell? ⟨r, 1, none⟩ = some (.int .i64 s.b) := hc 1
            have b2 : wr.cell? ⟨r, 2, none⟩ = some (.int .i64 s.c) := hc 2
            have b3 : wr.cell? ⟨r, 3, none⟩ = some (.int .i64 s.d) := hc 3
            have b4 : wr.cell? ⟨r, 4, none⟩ = some (.int .i64 s.e) := hc 4
            have b5 : wr.cell? ⟨r, 5, none⟩ = some (.int .i64 s.f) := hc 5
            clear hc S
            go_upto_region 17 with fail
            refine wp_world S1 fun W S => ?_
            clear S1 c0 b0 b1 b2 b3 b4 b5 hr0
            generalize wr.heap.size = p at *
            have HS3 := Lib.hid S
            clear S
            go_wp2_with fail
            go_loopw [11, 53] (fun cd i wr => ∃ n : Nat, n ≤ qs.length ∧ i = .int .i64 n ∧ cd = .int .i64 (all6 s (qs.take n)).2 ∧ Sat (Gnd.of w) wr [blk p (cells6 (all6 s (qs.take n)).1) 28, blk r (cells6 s) 28, blk q (cells6 s) 26]) (fun _ i _ => qs.length - (intOf i).toNat)
            case atStart => exact ⟨0, Nat.zero_le _, rfl, rfl, HS3.out⟩
            case round =>
              obtain ⟨n, hn, rfl, rfl, S⟩ := hrel
              clear HS3
              by_cases hlt2 : n < qs.length
              · obtain ⟨a2, bo2, off2, rfl, ha2, d0, d1⟩ := HQ.out n (qs[n]) (List.getElem?_eq_getElem hlt2)
                replace d0 := S.cellR d0
                replace d1 := S.cellR d1
                have hsn := all6_snoc s (qs.take n) qs[n]
                rw [← take_snoc' qs n hlt2] at hsn
                generalize qs[n] = pr at *
                obtain ⟨p0, p1⟩ := pr
                simp only at d0 d1 hsn
                generalize all6 s (qs.take n) = yc at *
                obtain ⟨y, cd⟩ := yc
                simp only at S hsn ⊢
                by_cases hcd : cd = 0
                · subst hcd
                  rw [if_pos rfl] at hsn
                  have HN := Lib.hid hsn
                  clear hsn
                  have b0 : wr.cell? ⟨p, 0, none⟩ = some (.int .i64 y.a) := S.cell 0
                  have b1 : wr.cell? ⟨p, 1, none⟩ = some (.int .i64 y.b) := S.cell 1
                  have b2 : wr.cell? ⟨p, 2, none⟩ = some (.int .i64 y.c) := S.cell 2
                  have b3 : wr.cell? ⟨p, 3, none⟩ = some (.int .i64 y.d) := S.cell 3
                  have b4 : wr.cell? ⟨p, 4, none⟩ = some (.int .i64 y.e) := S.cell 4
                  have b5 : wr.cell? ⟨p, 5, none⟩ = some (.int .i64 y.f) := S.cell 5
                  have hpl := S.blk_lt
                  have S1 := S.alloc (.cells #[.int .i64 p0, .int .i64 p1] 31)
                  have hone := ref_one y p0 p1 (wr.alloc (.cells #[.int .i64 p0, .int .i64 p1] 31))
                  generalize one6 y p0 p1 = yn at *
                  obtain ⟨y', c''⟩ := yn
                  unfold cells6 at hone
                  clear S
                  go_wp2_with fail
                  (with_reducible refine hone.mono ?_)
                  clear hone
                  rintro e w5 ⟨rfl, hb5⟩
                  have S2 := S1.below hb5
                  clear S1 hb5
                  go_wp2_with (refine st_store rfl _ _ _ rfl _ #[.int .i64 y'.a, .int .i64 y'.b, .int .i64 y'.c, .int .i64 y'.d, .int .i64 y'.e, .int .i64 y'.f] rfl rfl _ _ S2 rfl rfl (by simp [Value.oneCell']) fun W5 S3 => ?_)
                  clear S2 b0 b1 b2 b3 b4 b5
                  go_roundw
                  case rel => exact ⟨n + 1, by omega, by go_num, by rw [HN.out], by rw [HN.out]; exact S3⟩
                  case measure => simp [intOf]; omega
                · rw [if_neg hcd] at hsn
                  have HN := Lib.hid hsn
                  clear hsn
                  have S1 := S.alloc (.cells #[.int .i64 p0, .int .i64 p1] 31)
                  clear S
                  go_wp2_with fail
                  go_roundw
                  case rel => exact ⟨n + 1, by omega, by go_num, by rw [HN.out], by rw [HN.out]; exact S1⟩
                  case measure => simp [intOf]; omega
              · obtain rfl : n = qs.length := by omega
                rw [List.take_length] at S ⊢
                have hap := set_apply S s _ qs hq'
                have hc0 := apply6_zero s qs
                generalize all6 s qs = yc at *
                obtain ⟨y, cd⟩ := yc
                simp only at S hc0 ⊢
                have b0 : wr.cell? ⟨q, 0, none⟩ = some (.int .i64 s.a) := S.pull2.cell 0
                have b1 : wr.cell? ⟨q, 1, none⟩ = some (.int .i64 s.b) := S.pull2.cell 1
                have b2 : wr.cell? ⟨q, 2, none⟩ = some (.int .i64 s.c) := S.pull2.cell 2
                have b3 : wr.cell? ⟨q, 3, none⟩ = some (.int .i64 s.d) := S.pull2.cell 3
                have b4 : wr.cell? ⟨q, 4, none⟩ = some (.int .i64 s.e) := S.pull2.cell 4
                have b5 : wr.cell? ⟨q, 5, none⟩ = some (.int .i64 s.f) := S.pull2.cell 5
                by_cases hcd : cd = 0
                · subst hcd
                  rw [show apply6 s qs = (y, 0) from hc0.1 rfl] at hap
                  have hch : change 0 s y = .agg #[.int .i64 s.d, .int .i64 y.d] := by simp [change]
                  have hfl : fault 0 = .agg #[.int .i64 0, .bool false] := rfl
                  simp only [hch, hfl] at hap
                  unfold cells6 at hap
                  clear S hc0
                  go_wp2_with fail
                  (with_reducible refine hap.mono ?_)
                  clear hap b0 b1 b2 b3 b4 b5
                  rintro e w6 ⟨rfl, S⟩
                  have S3 := ((S.newBlk #[.int .i64 y.a, .int .i64 y.b, .int .i64 y.c, .int .i64 y.d, .int .i64 y.e, .int .i64 y.f] 26).newBlk #[.int .i64 s.d, .int .i64 y.d] 35).newBlk #[.int .i64 0, .bool false] 38
                  simp only [World.size_alloc] at S3
                  clear S
                  go_upto_region 24 with fail
                  refine wp_world S3 fun W6 S6 => ?_
                  clear S3
                  generalize w6.heap.size = g at *
                  have d0 : W6.cell? ⟨g + 1 + 1, 0, none⟩ = some (.int .i64 0) := (S6).cell 0; have d1 : W6.cell? ⟨g + 1 + 1, 1, none⟩ = some (.bool false) := (S6).cell 1
                  have h3 : W6.cell? ⟨r, 3, none⟩ = some (.int .i64 s.d) := (S6.mid [_, _, _, _]).cell 3
                  have k3 : W6.cell? ⟨p, 3, none⟩ = some (.int .i64 y.d) := S6.pull3.cell 3
                  have S7 := S6.newBlk #[.int .i64 s.d, .int .i64 y.d] 35
                  clear S6
                  go_upto_region 31 with fail
                  refine wp_world S7 fun W7 S8 => ?_
                  clear S7 d0 d1 h3 k3
                  generalize W6.heap.size = v at *
                  have S7 := S8
                  clear S8
                  refine wp_act fun a0 ha0 => ?_
                  have HSZ : a0.tmps.size = 111 := by rw [ha0]; rfl
                  have E14 : a0.eval (.tmp 14) = .pointer (some ⟨g, 0, none⟩) := by rw [ha0]; rfl
                  have E10 : a0.eval (.tmp 10) = .pointer (some ⟨p, 0, none⟩) := by rw [ha0]; rfl
                  have E15 : a0.eval (.tmp 15) = .pointer (some ⟨g + 1, 0, none⟩) := by rw [ha0]; rfl
                  have E17 : a0.eval (.tmp 17) = .pointer (some ⟨v, 0, none⟩) := by rw [ha0]; rfl
                  refine wp_region_sat (by kernel_rfl) 9 (by kernel_rfl) [[], [0], [], [1, 2], [3, 1], [4], [4], [5, 6, 4], [4, 7]] (by kernel_rfl) (by kernel_rfl) [(0, 98, .agg (cells6 y)), (1, 99, .agg (cells6 y)), (2, 100, .agg (cells6 y)), (3, 101, .bool false), (4, 102, .bool false), (5, 103, .agg #[.int .i64 s.d, .int .i64 y.d]), (6, 104, .agg #[.int .i64 s.d, .int .i64 y.d]), (7, 105, .bool false), (8, 106, .bool false)]
                    (fun _ => [blk v #[.int .i64 s.d, .int .i64 y.d] 35, blk (g + 1 + 1) #[.int .i64 0, .bool false] 38, blk (g + 1) #[.int .i64 s.d, .int .i64 y.d] 35, blk g (cells6 y) 26, blk p (cells6 y) 28, blk r (cells6 s) 28, blk q (cells6 s) 26]) (by kernel_rfl) S7 ?_ ?_
                  · refine ⟨?_, ?_, ?_, ?_, ?_, ?_, ?_, ?_, ?_, trivial⟩
                    · intro f W hf hd S
                      refine wpOp_list rfl ?_
                      refine st_load rfl _ _ rfl _ ((acts_eval_tmp 14 (by kernel_rfl)).trans E14) _ _ S.pull3 _ rfl rfl rfl ?_
                      exact ⟨(acts_some 0 rfl (by kernel_rfl) (by kernel_rfl)).symm, S⟩
                    · intro f W hf hd S
                      refine wpOp_call rfl rfl (fun ρ hρ => ?_) (law_numbers y W) ?_
                      · have e0 : ρ (.func 11) = .func (.func 11) #[] #[] := by rw [hρ]; rfl
                        have e1 : ρ (.tmp 98) = .agg (cells6 y) := by rw [hρ]; exact acts_eval_hit 0 rfl hd.1 (by rw [HSZ]; rfl) (by kernel_rfl)
                        clear hρ
                        go_simp
                      · rintro e W' ⟨rfl, hb⟩
                        exact ⟨_, rfl, (acts_some 1 rfl (by kernel_rfl) (by kernel_rfl)).symm, S.below hb⟩
                    · intro f W hf hd S
                      refine wpOp_list rfl ?_
                      refine st_load rfl _ _ rfl _ ((acts_eval_tmp 10 (by kernel_rfl)).trans E10) _ _ (S.mid [_, _, _, _]) _ rfl rfl rfl ?_
                      exact ⟨(acts_some 2 rfl (by kernel_rfl) (by kernel_rfl)).symm, S⟩
                    · intro f W hf hd S
                      refine wpOp_run (v := .bool false) rfl rfl (fun ρ hρ => ?_) ⟨(acts_some 3 rfl (by kernel_rfl) (by kernel_rfl)).symm, S⟩
                      have e1 : ρ (.tmp 99) = .agg (cells6 y) := by rw [hρ]; exact acts_eval_hit 1 rfl hd.1 (by rw [HSZ]; rfl) (by kernel_rfl)
                      have e2 : ρ (.tmp 100) = .agg (cells6 y) := by rw [hρ]; exact acts_eval_hit 2 rfl hd.2.1 (by rw [HSZ]; rfl) (by kernel_rfl)
                      clear hρ
                      unfold cells6 at e1 e2
                      have e3 := eq_arr y W
                      go_simp
                    · intro f W hf hd S
                      refine wpOp_run (v := .bool false) rfl rfl (fun ρ hρ => ?_) ⟨(acts_some 4 rfl (by kernel_rfl) (by kernel_rfl)).symm, S⟩
                      have e1 : ρ (.tmp 101) = .bool false := by rw [hρ]; exact acts_eval_hit 3 rfl hd.1 (by rw [HSZ]; rfl) (by kernel_rfl)
                      clear hρ
                      go_simp
                    · intro f W hf hd S
                      refine wpOp_runG (v := .agg #[.int .i64 s.d, .int .i64 y.d]) rfl ?_ (fun ρ hρ => ?_) ⟨(acts_some 5 rfl (by kernel_rfl) (by kernel_rfl)).symm, S⟩
                      · exact wanted_hit (t := 102) rfl rfl (acts_eval_hit 4 rfl hd.1 (by rw [HSZ]; rfl) (by kernel_rfl))
                      · have e1 : ρ (.tmp 15) = .pointer (some ⟨g + 1, 0, none⟩) := by rw [hρ]; exact (acts_eval_tmp 15 (by kernel_rfl)).trans E15
                        have d0 : W.cell? ⟨g + 1, 0, none⟩ = some (.int .i64 s.d) := (S.pull2).cell 0; have d1 : W.cell? ⟨g + 1, 1, none⟩ = some (.int .i64 y.d) := (S.pull2).cell 1
                        clear hρ
                        go_simp
                    · intro f W hf hd S
                      refine wpOp_runG (v := .agg #[.int .i64 s.d, .int .i64 y.d]) rfl ?_ (fun ρ hρ => ?_) ⟨(acts_some 6 rfl (by kernel_rfl) (by kernel_rfl)).symm, S⟩
                      · exact wanted_hit (t := 102) rfl rfl (acts_eval_hit 4 rfl hd.1 (by rw [HSZ]; rfl) (by kernel_rfl))
                      · have e1 : ρ (.tmp 17) = .pointer (some ⟨v, 0, none⟩) := by rw [hρ]; exact (acts_eval_tmp 17 (by kernel_rfl)).trans E17
                        have d0 : W.cell? ⟨v, 0, none⟩ = some (.int .i64 s.d) := (S).cell 0; have d1 : W.cell? ⟨v, 1, none⟩ = some (.int .i64 y.d) := (S).cell 1
                        clear hρ
                        go_simp
                    · intro f W hf hd S
                      refine wpOp_runG (v := .bool false) rfl ?_ (fun ρ hρ => ?_) ⟨(acts_some 7 rfl (by kernel_rfl) (by kernel_rfl)).symm, S⟩
                      · exact wanted_hit (t := 102) rfl rfl (acts_eval_hit 4 rfl hd.2.2.1 (by rw [HSZ]; rfl) (by kernel_rfl))
                      · have e1 : ρ (.tmp 103) = .agg #[.int .i64 s.d, .int .i64 y.d] := by rw [hρ]; exact acts_eval_hit 5 rfl hd.1 (by rw [HSZ]; rfl) (by kernel_rfl)
                        have e2 : ρ (.tmp 104) = .agg #[.int .i64 s.d, .int .i64 y.d] := by rw [hρ]; exact acts_eval_hit 6 rfl hd.2.1 (by rw [HSZ]; rfl) (by kernel_rfl)
                        clear hρ
                        go_simp
                    · intro f W hf hd S
                      refine wpOp_run (v := .bool false) rfl rfl (fun ρ hρ => ?_) ⟨(acts_some 8 rfl (by kernel_rfl) (by kernel_rfl)).symm, S⟩
                      have e1 : ρ (.tmp 102) = .bool false := by rw [hρ]; exact acts_eval_hit 4 rfl hd.1 (by rw [HSZ]; rfl) (by kernel_rfl)
                      have e2 : ρ (.tmp 105) = .bool false := by rw [hρ]; exact acts_eval_hit 7 rfl hd.2.1 (by rw [HSZ]; rfl) (by kernel_rfl)
                      clear hρ
                      go_simp
                  · intro W S
                    subst ha0
                    simp only [acts, if_true, Act.put, List.setIfInBounds_toArray, List.set_cons_succ, List.set_cons_zero]
                    clear S7
                    go_wp2_with fail
                    refine wp_act fun a0 ha0 => ?_
                    have HSZ : a0.tmps.size = 111 := by rw [ha0]; rfl
                    have E14 : a0.eval (.tmp 14) = .pointer (some ⟨g, 0, none⟩) := by rw [ha0]; rfl
                    have E10 : a0.eval (.tmp 10) = .pointer (some ⟨p, 0, none⟩) := by rw [ha0]; rfl
                    have E6 : a0.eval (.tmp 6) = .pointer (some ⟨q, 0, none⟩) := by rw [ha0]; rfl
                    have E7 : a0.eval (.tmp 7) = .pointer (some ⟨r, 0, none⟩) := by rw [ha0]; rfl
                    refine wp_region_sat (by kernel_rfl) 4 (by kernel_rfl) [[], [], [0, 0], [1, 2, 0, 1, 2]] (by kernel_rfl) (by kernel_rfl) [(0, 107, .agg (cells6 y)), (1, 108, .agg (cells6 y))]
                      (fun f => [blk g (cells6 y) 26, blk p (cells6 y) 28, blk r (bif f 3 then cells6 y else cells6 s) 28, blk q (bif f 2 then cells6 y else cells6 s) 26]) (by kernel_rfl) S.drop.drop.drop ?_ ?_
                    · refine ⟨?_, ?_, ?_, ?_, trivial⟩
                      · intro f W hf hd S
                        refine wpOp_list rfl ?_
                        refine st_load rfl _ _ rfl _ ((acts_eval_tmp 14 (by kernel_rfl)).trans E14) _ _ S _ rfl rfl rfl ?_
                        exact ⟨(acts_some 0 rfl (by kernel_rfl) (by kernel_rfl)).symm, S⟩
                      · intro f W hf hd S
                        refine wpOp_list rfl ?_
                        refine st_load rfl _ _ rfl _ ((acts_eval_tmp 10 (by kernel_rfl)).trans E10) _ _ S.swap _ rfl rfl rfl ?_
                        exact ⟨(acts_some 1 rfl (by kernel_rfl) (by kernel_rfl)).symm, S⟩
                      · intro f W h2 hd S
                        rw [h2] at S
                        refine wpOp_list rfl ?_
                        refine st_store rfl _ _ _ rfl _ _ ((acts_eval_tmp 6 (by kernel_rfl)).trans E6) (acts_eval_hit 0 rfl hd.1 (by rw [HSZ]; rfl) (by kernel_rfl)) _ _ S.pull3 rfl rfl (by simp [cells6, Value.oneCell']) fun W' S' => ?_
                        exact ⟨(acts_none 2 (by kernel_rfl)).symm, Sat.dim [_, _, _] S'⟩
                      · intro f W h3 hd S
                        rw [h3] at S
                        refine wpOp_list rfl ?_
                        refine st_store rfl _ _ _ rfl _ _ ((acts_eval_tmp 7 (by kernel_rfl)).trans E7) (acts_eval_hit 1 rfl hd.1 (by rw [HSZ]; rfl) (by kernel_rfl)) _ _ S.pull2 rfl rfl (by simp [cells6, Value.oneCell']) fun W' S' => ?_
                        exact ⟨(acts_none 3 (by kernel_rfl)).symm, Sat.dim [_, _] S'⟩
                    · intro W S
                      subst ha0
                      simp only [acts, if_true, Act.put, List.setIfInBounds_toArray, List.set_cons_succ, List.set_cons_zero, cond_true] at S ⊢
                      go_wp2_with fail
                      go_roundw
                      case rel => exact ⟨j + 1, by omega, by go_num, y, S.drop.drop⟩
                      case measure => simp [intOf]; omega
                · rw [show apply6 s qs = (s, cd) from hc0.2 hcd] at hap
                  have hch : change cd s s = .agg #[.int .i64 0, .int .i64 0] := by simp [change, hcd]
                  have ez : (cd != 0) = true := by simpa using hcd
                  have hfl : fault cd = .agg #[.int .i64 cd, .bool true] := by unfold fault; rw [ez]
                  simp only [hch, hfl] at hap
                  unfold cells6 at hap
                  clear S hc0 hch hfl
                  go_wp2_with fail
                  (with_reducible refine hap.mono ?_)
                  clear hap b0 b1 b2 b3 b4 b5
                  rintro e w6 ⟨rfl, S⟩
                  have S3 := ((S.newBlk #[.int .i64 s.a, .int .i64 s.b, .int .i64 s.c, .int .i64 s.d, .int .i64 s.e, .int .i64 s.f] 26).newBlk #[.int .i64 0, .int .i64 0] 35).newBlk #[.int .i64 cd, .bool true] 38
                  simp only [World.size_alloc] at S3
                  clear S
                  go_upto_region 24 with fail
                  refine wp_world S3 fun W6 S6 => ?_
                  clear S3
                  generalize w6.heap.size = g at *
                  have d0 : W6.cell? ⟨g + 1 + 1, 0, none⟩ = some (.int .i64 cd) := (S6).cell 0; have d1 : W6.cell? ⟨g + 1 + 1, 1, none⟩ = some (.bool true) := (S6).cell 1
                  have b0 : W6.cell? ⟨r, 0, none⟩ = some (.int .i64 s.a) := (S6.mid [_, _, _, _]).cell 0; have b1 : W6.cell? ⟨r, 1, none⟩ = some (.int .i64 s.b) := (S6.mid [_, _, _, _]).cell 1; have b2 : W6.cell? ⟨r, 2, none⟩ = some (.int .i64 s.c) := (S6.mid [_, _, _, _]).cell 2; have b3 : W6.cell? ⟨r, 3, none⟩ = some (.int .i64 s.d) := (S6.mid [_, _, _, _]).cell 3; have b4 : W6.cell? ⟨r, 4, none⟩ = some (.int .i64 s.e) := (S6.mid [_, _, _, _]).cell 4; have b5 : W6.cell? ⟨r, 5, none⟩ = some (.int .i64 s.f) := (S6.mid [_, _, _, _]).cell 5
                  go_upto_region 28 with (refine st_store rfl _ _ _ rfl _ #[.int .i64 s.a, .int .i64 s.b, .int .i64 s.c, .int .i64 s.d, .int .i64 s.e, .int .i64 s.f] rfl rfl _ _ (S6.mid [_, _, _]) rfl rfl (by simp [Value.oneCell']) fun W5 S5 => ?_)
                  clear d0 d1 b0 b1 b2 b3 b4 b5 S6
                  replace S5 := Sat.dim [_, _, _] S5
                  have h3 : W5.cell? ⟨r, 3, none⟩ = some (.int .i64 s.d) := (S5.mid [_, _, _, _]).cell 3
                  have k3 : W5.cell? ⟨p, 3, none⟩ = some (.int .i64 s.d) := S5.pull3.cell 3
                  have S7 := S5.newBlk #[.int .i64 s.d, .int .i64 s.d] 35
                  go_upto_region 29 with fail
                  refine wp_world S7 fun W7 S8 => ?_
                  clear S7 S5 h3 k3
                  generalize W5.heap.size = v at *
                  go_upto_region 31 with (refine st_store rfl _ _ _ rfl _ #[.int .i64 0, .int .i64 0] rfl rfl _ _ S8 rfl rfl (by simp [Value.oneCell']) fun W9 S7 => ?_)
                  clear S8
                  refine wp_act fun a0 ha0 => ?_
                  have HSZ : a0.tmps.size = 111 := by rw [ha0]; rfl
                  have E14 : a0.eval (.tmp 14) = .pointer (some ⟨g, 0, none⟩) := by rw [ha0]; rfl
                  have E10 : a0.eval (.tmp 10) = .pointer (some ⟨p, 0, none⟩) := by rw [ha0]; rfl
                  have E15 : a0.eval (.tmp 15) = .pointer (some ⟨g + 1, 0, none⟩) := by rw [ha0]; rfl
                  have E17 : a0.eval (.tmp 17) = .pointer (some ⟨v, 0, none⟩) := by rw [ha0]; rfl
                  refine wp_region_sat (by kernel_rfl) 9 (by kernel_rfl) [[], [0], [], [1, 2], [3, 1], [4], [4], [5, 6, 4], [4, 7]] (by kernel_rfl) (by kernel_rfl) [(0, 98, .agg (cells6 s)), (1, 99, .agg (cells6 s)), (2, 100, .agg (cells6 s)), (3, 101, .bool false), (4, 102, .bool false), (5, 103, .agg #[.int .i64 0, .int .i64 0]), (6, 104, .agg #[.int .i64 0, .int .i64 0]), (7, 105, .bool false), (8, 106, .bool false)]
                    (fun _ => [blk v #[.int .i64 0, .int .i64 0] 35, blk (g + 1 + 1) #[.int .i64 cd, .bool true] 38, blk (g + 1) #[.int .i64 0, .int .i64 0] 35, blk g (cells6 s) 26, blk p (cells6 s) 28, blk r (cells6 s) 28, blk q (cells6 s) 26]) (by kernel_rfl) S7 ?_ ?_
                  · refine ⟨?_, ?_, ?_, ?_, ?_, ?_, ?_, ?_, ?_, trivial⟩
                    · intro f W hf hd S
                      refine wpOp_list rfl ?_
                      refine st_load rfl _ _ rfl _ ((acts_eval_tmp 14 (by kernel_rfl)).trans E14) _ _ S.pull3 _ rfl rfl rfl ?_
                      exact ⟨(acts_some 0 rfl (by kernel_rfl) (by kernel_rfl)).symm, S⟩
                    · intro f W hf hd S
                      refine wpOp_call rfl rfl (fun ρ hρ => ?_) (law_numbers s W) ?_
                      · have e0 : ρ (.func 11) = .func (.func 11) #[] #[] := by rw [hρ]; rfl
                        have e1 : ρ (.tmp 98) = .agg (cells6 s) := by rw [hρ]; exact acts_eval_hit 0 rfl hd.1 (by rw [HSZ]; rfl) (by kernel_rfl)
                        clear hρ
                        go_simp
                      · rintro e W' ⟨rfl, hb⟩
                        exact ⟨_, rfl, (acts_some 1 rfl (by kernel_rfl) (by kernel_rfl)).symm, S.below hb⟩
                    · intro f W hf hd S
                      refine wpOp_list rfl ?_
                      refine st_load rfl _ _ rfl _ ((acts_eval_tmp 10 (by kernel_rfl)).trans E10) _ _ (S.mid [_, _, _, _]) _ rfl rfl rfl ?_
                      exact ⟨(acts_some 2 rfl (by kernel_rfl) (by kernel_rfl)).symm, S⟩
                    · intro f W hf hd S
                      refine wpOp_run (v := .bool false) rfl rfl (fun ρ hρ => ?_) ⟨(acts_some 3 rfl (by kernel_rfl) (by kernel_rfl)).symm, S⟩
                      have e1 : ρ (.tmp 99) = .agg (cells6 s) := by rw [hρ]; exact acts_eval_hit 1 rfl hd.1 (by rw [HSZ]; rfl) (by kernel_rfl)
                      have e2 : ρ (.tmp 100) = .agg (cells6 s) := by rw [hρ]; exact acts_eval_hit 2 rfl hd.2.1 (by rw [HSZ]; rfl) (by kernel_rfl)
                      clear hρ
                      unfold cells6 at e1 e2
                      have e3 := eq_arr s W
                      go_simp
                    · intro f W hf hd S
                      refine wpOp_run (v := .bool false) rfl rfl (fun ρ hρ => ?_) ⟨(acts_some 4 rfl (by kernel_rfl) (by kernel_rfl)).symm, S⟩
                      have e1 : ρ (.tmp 101) = .bool false := by rw [hρ]; exact acts_eval_hit 3 rfl hd.1 (by rw [HSZ]; rfl) (by kernel_rfl)
                      clear hρ
                      go_simp
                    · intro f W hf hd S
                      refine wpOp_runG (v := .agg #[.int .i64 0, .int .i64 0]) rfl ?_ (fun ρ hρ => ?_) ⟨(acts_some 5 rfl (by kernel_rfl) (by kernel_rfl)).symm, S⟩
                      · exact wanted_hit (t := 102) rfl rfl (acts_eval_hit 4 rfl hd.1 (by rw [HSZ]; rfl) (by kernel_rfl))
                      · have e1 : ρ (.tmp 15) = .pointer (some ⟨g + 1, 0, none⟩) := by rw [hρ]; exact (acts_eval_tmp 15 (by kernel_rfl)).trans E15
                        have d0 : W.cell? ⟨g + 1, 0, none⟩ = some (.int .i64 0) := (S.pull2).cell 0; have d1 : W.cell? ⟨g + 1, 1, none⟩ = some (.int .i64 0) := (S.pull2).cell 1
                        clear hρ
                        go_simp
                    · intro f W hf hd S
                      refine wpOp_runG (v := .agg #[.int .i64 0, .int .i64 0]) rfl ?_ (fun ρ hρ => ?_) ⟨(acts_some 6 rfl (by kernel_rfl) (by kernel_rfl)).symm, S⟩
                      · exact wanted_hit (t := 102) rfl rfl (acts_eval_hit 4 rfl hd.1 (by rw [HSZ]; rfl) (by kernel_rfl))
                      · have e1 : ρ (.tmp 17) = .pointer (some ⟨v, 0, none⟩) := by rw [hρ]; exact (acts_eval_tmp 17 (by kernel_rfl)).trans E17
                        have d0 : W.cell? ⟨v, 0, none⟩ = some (.int .i64 0) := (S).cell 0; have d1 : W.cell? ⟨v, 1, none⟩ = some (.int .i64 0) := (S).cell 1
                        clear hρ
                        go_simp
                    · intro f W hf hd S
                      refine wpOp_runG (v := .bool false) rfl ?_ (fun ρ hρ => ?_) ⟨(acts_some 7 rfl (by kernel_rfl) (by kernel_rfl)).symm, S⟩
                      · exact wanted_hit (t := 102) rfl rfl (acts_eval_hit 4 rfl hd.2.2.1 (by rw [HSZ]; rfl) (by kernel_rfl))
                      · have e1 : ρ (.tmp 103) = .agg #[.int .i64 0, .int .i64 0] := by rw [hρ]; exact acts_eval_hit 5 rfl hd.1 (by rw [HSZ]; rfl) (by kernel_rfl)
                        have e2 : ρ (.tmp 104) = .agg #[.int .i64 0, .int .i64 0] := by rw [hρ]; exact acts_eval_hit 6 rfl hd.2.1 (by rw [HSZ]; rfl) (by kernel_rfl)
                        clear hρ
                        go_simp
                    · intro f W hf hd S
                      refine wpOp_run (v := .bool false) rfl rfl (fun ρ hρ => ?_) ⟨(acts_some 8 rfl (by kernel_rfl) (by kernel_rfl)).symm, S⟩
                      have e1 : ρ (.tmp 102) = .bool false := by rw [hρ]; exact acts_eval_hit 4 rfl hd.1 (by rw [HSZ]; rfl) (by kernel_rfl)
                      have e2 : ρ (.tmp 105) = .bool false := by rw [hρ]; exact acts_eval_hit 7 rfl hd.2.1 (by rw [HSZ]; rfl) (by kernel_rfl)
                      clear hρ
                      go_simp
                  · intro W S
                    subst ha0
                    simp only [acts, if_true, Act.put, List.setIfInBounds_toArray, List.set_cons_succ, List.set_cons_zero]
                    clear S7
                    go_wp2_with fail
                    refine wp_act fun a0 ha0 => ?_
                    have HSZ : a0.tmps.size = 111 := by rw [ha0]; rfl
                    have E14 : a0.eval (.tmp 14) = .pointer (some ⟨g, 0, none⟩) := by rw [ha0]; rfl
                    have E10 : a0.eval (.tmp 10) = .pointer (some ⟨p, 0, none⟩) := by rw [ha0]; rfl
                    have E6 : a0.eval (.tmp 6) = .pointer (some ⟨q, 0, none⟩) := by rw [ha0]; rfl
                    have E7 : a0.eval (.tmp 7) = .pointer (some ⟨r, 0, none⟩) := by rw [ha0]; rfl
                    refine wp_region_sat (by kernel_rfl) 4 (by kernel_rfl) [[], [], [0, 0], [1, 2, 0, 1, 2]] (by kernel_rfl) (by kernel_rfl) [(0, 107, .agg (cells6 s)), (1, 108, .agg (cells6 s))]
                      (fun f => [blk g (cells6 s) 26, blk p (cells6 s) 28, blk r (bif f 3 then cells6 s else cells6 s) 28, blk q (bif f 2 then cells6 s else cells6 s) 26]) (by kernel_rfl) S.drop.drop.drop ?_ ?_
                    · refine ⟨?_, ?_, ?_, ?_, trivial⟩
                      · intro f W hf hd S
                        refine wpOp_list rfl ?_
                        refine st_load rfl _ _ rfl _ ((acts_eval_tmp 14 (by kernel_rfl)).trans E14) _ _ S _ rfl rfl rfl ?_
                        exact ⟨(acts_some 0 rfl (by kernel_rfl) (by kernel_rfl)).symm, S⟩
                      · intro f W hf hd S
                        refine wpOp_list rfl ?_
                        refine st_load rfl _ _ rfl _ ((acts_eval_tmp 10 (by kernel_rfl)).trans E10) _ _ S.swap _ rfl rfl rfl ?_
                        exact ⟨(acts_some 1 rfl (by kernel_rfl) (by kernel_rfl)).symm, S⟩
                      · intro f W h2 hd S
                        rw [h2] at S
                        refine wpOp_list rfl ?_
                        refine st_store rfl _ _ _ rfl _ _ ((acts_eval_tmp 6 (by kernel_rfl)).trans E6) (acts_eval_hit 0 rfl hd.1 (by rw [HSZ]; rfl) (by kernel_rfl)) _ _ S.pull3 rfl rfl (by simp [cells6, Value.oneCell']) fun W' S' => ?_
                        exact ⟨(acts_none 2 (by kernel_rfl)).symm, Sat.dim [_, _, _] S'⟩
                      · intro f W h3 hd S
                        rw [h3] at S
                        refine wpOp_list rfl ?_
                        refine st_store rfl _ _ _ rfl _ _ ((acts_eval_tmp 7 (by kernel_rfl)).trans E7) (acts_eval_hit 1 rfl hd.1 (by rw [HSZ]; rfl) (by kernel_rfl)) _ _ S.pull2 rfl rfl (by simp [cells6, Value.oneCell']) fun W' S' => ?_
                        exact ⟨(acts_none 3 (by kernel_rfl)).symm, Sat.dim [_, _] S'⟩
                    · intro W S
                      subst ha0
                      simp only [acts, if_true, Act.put, List.setIfInBounds_toArray, List.set_cons_succ, List.set_cons_zero, cond_true] at S ⊢
                      go_wp2_with fail
                      go_roundw
                      case rel => exact ⟨j + 1, by omega, by go_num, s, S.drop.drop⟩
                      case measure => simp [intOf]; omega
          · obtain rfl : j = k := by omega
            have haw := (law_awake S).mono (R' := fun e w' => e = .returned (.bool true) ∧ Below w.heap.size w w') fun e w' h => by obtain ⟨G1, rfl, hG1, S1⟩ := h; exact ⟨rfl, S1.above hG1⟩
            clear S
            go_wp2_with fail
            (with_reducible refine haw.mono ?_)
            rintro e w9 ⟨rfl, hb9⟩
            go_wp2_with fail
            exact hK.out _ _ ⟨rfl, hb9⟩
end Go.Proofs.Ytohknaoklcehaaa

/- The walk over Apply: pairs, one by one. -/
import Derived.Test.YtohknaoklcehaaaApply
import Derived.Test.YtohknaoklcehaaaRegion
set_option linter.unusedSimpArgs false
set_option linter.unusedVariables false
namespace Go.Proofs.Ytohknaoklcehaaa
open Go.RowKit

/-- A slice of pairs of numbers, that nobody turns. -/
def RPairs (R : Hp) (v : Value) (ps : List (Int × Int)) : Prop :=
  ∃ A c, v = .slice A ps.length c ∧ ps.length ≤ 9223372036854775807 ∧ ∀ i p, ps[i]? = some p → ∃ a b off, A = some a ∧ a.add (i * 2) = ⟨b, off, none⟩ ∧ cellR R ⟨b, off, none⟩ = some (.int .i64 p.1) ∧ cellR R ⟨b, off + 1, none⟩ = some (.int .i64 p.2)
theorem RPairs.mono {R R' : Hp} {v : Value} {ps : List (Int × Int)} (hR : ∀ k o, R k = some o → R' k = some o) (h : RPairs R v ps) : RPairs R' v ps := by
  obtain ⟨A, c, h1, h2, h3⟩ := h
  exact ⟨A, c, h1, h2, fun i p hp => by obtain ⟨a, b, off, e1, e2, e3, e4⟩ := h3 i p hp; exact ⟨a, b, off, e1, e2, cellR_mono hR e3, cellR_mono hR e4⟩⟩
/-- All pairs, one by one; the first fault ends it. -/
def all6 : S6 → List (Int × Int) → S6 × Int
  | s, [] => (s, 0)
  | s, p :: ps => if (one6 s p.1 p.2).2 = 0 then all6 (one6 s p.1 p.2).1 ps else (s, (one6 s p.1 p.2).2)
/-- What Apply tells. -/
def apply6 (s : S6) (ps : List (Int × Int)) : S6 × Int := if (all6 s ps).2 = 0 then all6 s ps else (s, (all6 s ps).2)
theorem all6_good (s : S6) (ps : List (Int × Int)) (p : Int × Int) (h : (all6 s ps).2 = 0) (h2 : (one6 (all6 s ps).1 p.1 p.2).2 = 0) : all6 s (ps ++ [p]) = one6 (all6 s ps).1 p.1 p.2 := by
  induction ps generalizing s with
  | nil =>
    simp only [all6] at h2
    simp only [List.nil_append, all6, h2, if_true]
    exact Prod.ext rfl h2.symm
  | cons q ps ih =>
    simp only [List.cons_append, all6] at h h2 ⊢
    by_cases h' : (one6 s q.1 q.2).2 = 0
    · simp only [h', if_true] at h h2 ⊢; exact ih _ h h2
    · simp only [h', if_false] at h
theorem all6_stop (s : S6) (ps : List (Int × Int)) (p : Int × Int) (h : (all6 s ps).2 = 0) (h2 : (one6 (all6 s ps).1 p.1 p.2).2 ≠ 0) : all6 s (ps ++ [p]) = ((all6 s ps).1, (one6 (all6 s ps).1 p.1 p.2).2) := by
  induction ps generalizing s with
  | nil =>
    simp only [all6] at h2
    simp only [List.nil_append, all6, h2, if_false]
  | cons q ps ih =>
    simp only [List.cons_append, all6] at h h2 ⊢
    by_cases h' : (one6 s q.1 q.2).2 = 0
    · simp only [h', if_true] at h h2 ⊢; exact ih _ h h2
    · simp only [h', if_false] at h
theorem all6_bad (s : S6) (ps qs : List (Int × Int)) (h : (all6 s ps).2 ≠ 0) : all6 s (ps ++ qs) = all6 s ps := by
  induction ps generalizing s with
  | nil => simp [all6] at h
  | cons q ps ih =>
    simp only [List.cons_append, all6] at h ⊢
    split
    · rename_i h'; rw [if_pos h'] at h; exact ih _ h
    · rfl
theorem take_snoc' {α : Type} (l : List α) (k : Nat) (h : k < l.length) : l.take (k + 1) = l.take k ++ [l[k]] := by rw [List.take_succ_eq_append_getElem h]
theorem one6_codes (s : S6) (n v : Int) : (one6 s n v).2 = 0 ∨ (one6 s n v).2 = 101 ∨ (one6 s n v).2 = 103 := by
  unfold one6
  (repeat' split) <;> simp
def change (c : Int) (x y : S6) : Value := .agg #[.int .i64 (if c = 0 then x.d else 0), .int .i64 (if c = 0 then y.d else 0)]
set_option maxHeartbeats 40000000 in
set_option maxRecDepth 100000 in
theorem set_apply {G : Gnd} {w : World} {l : List Asrt} (H : Sat G w l) (s : S6) (v : Value) (ps : List (Int × Int)) (hps : RPairs G.ro v ps) :
    Calls Try.prog 13 #[.agg (cells6 s), v] w fun e w' => e = .returned (.tuple #[.agg (cells6 (apply6 s ps).1), change (apply6 s ps).2 s (apply6 s ps).1, fault (apply6 s ps).2]) ∧ Sat G w' l := by
  refine calls_any fun K hK => ?_
  obtain ⟨A, c, rfl, hmx, hel⟩ := hps
  have HEL := Lib.hid hel
  clear hel
  have hap : ∀ r : S6 × Int, apply6 s ps = r → Hid (∀ (e : Ending) (w' : World), e = .returned (.tuple #[.agg (cells6 r.1), change r.2 s r.1, fault r.2]) ∧ Sat G w' l → K e w') := by
    rintro r rfl; exact hK
  clear hK
  have S0 := (((H.newBlk (cells6 s) 26).newBlk #[.int .i64 0, .int .i64 0, .int .i64 0, .int .i64 0, .int .i64 0, .int .i64 0] 26).newBlk #[.int .i64 0, .int .i64 0] 35).newBlk #[.int .i64 0, .bool false] 38
  simp only [World.size_alloc] at S0
  have S1 := S0.pull3.newBlk (cells6 s) 26
  simp only [World.size_alloc] at S1
  have HS := Lib.hid S1
  clear S0 S1 H
  go_enter Try.func13, Try.ntmps13
  unfold cells6
  go_wp2_with fail
  rw [show #[Value.int .i64 s.a, Value.int .i64 s.b, Value.int .i64 s.c, Value.int .i64 s.d, Value.int .i64 s.e, Value.int .i64 s.f] = cells6 s from rfl]
  generalize w.heap.size = q at *
  go_loopw [14] (fun i wr => ∃ k : Nat, k ≤ ps.length ∧ i = .int .i64 k ∧ (all6 s (ps.take k)).2 = 0 ∧ Sat G wr (blk (q + 1 + 1 + 1 + 1) (cells6 (all6 s (ps.take k)).1) 26 :: blk q (cells6 s) 26 :: blk (q + 1 + 1 + 1) #[.int .i64 0, .bool false] 38 :: blk (q + 1 + 1) #[.int .i64 0, .int .i64 0] 35 :: blk (q + 1) #[.int .i64 0, .int .i64 0, .int .i64 0, .int .i64 0, .int .i64 0, .int .i64 0] 26 :: l)) (fun i _ => ps.length - (intOf i).toNat)
  case atStart => exact ⟨0, Nat.zero_le _, rfl, rfl, HS.out⟩
  case round =>
    obtain ⟨k, hk, rfl, hz, hs⟩ := hrel
    clear HS
    by_cases hlt : k < ps.length
    · obtain ⟨a, bo, off, rfl, ha, c0, c1⟩ := HEL.out k (ps[k]) (List.getElem?_eq_getElem hlt)
      replace c0 := hs.cellR c0
      replace c1 := hs.cellR c1
      have hone := set_one (hs.alloc (.cells #[.int .i64 ps[k].1, .int .i64 ps[k].2] 31)) ps[k].1 ps[k].2
      have hgood := all6_good s (ps.take k) ps[k] hz
      have hstop := all6_stop s (ps.take k) ps[k] hz
      rw [← take_snoc' ps k hlt] at hgood hstop
      have hcodes := one6_codes (all6 s (ps.take k)).1 ps[k].1 ps[k].2
      generalize one6 (all6 s (ps.take k)).1 ps[k].1 ps[k].2 = r at *
      obtain ⟨s', z⟩ := r
      simp only at hgood hstop hcodes hone
      go_wp2_with fail
      (with_reducible refine hone.mono ?_)
      clear hone hs c0 c1
      rintro e w2 ⟨rfl, S2⟩
      rcases hcodes with rfl | hbad
      · have hg := hgood rfl
        have HG := Lib.hid hg
        clear hg hgood hstop hz
        rw [show fault 0 = .agg #[.int .i64 0, .bool false] from rfl]
        go_wp2_with fail
        (with_reducible refine (fault_none _).mono ?_)
        rintro e w3 ⟨rfl, hb3⟩
        have S3 := (S2.alloc _).below hb3
        clear hb3 S2
        go_wp2_with fail
        go_roundw
        case rel => exact ⟨k + 1, by omega, by go_num, by rw [HG.out], by rw [HG.out]; exact S3⟩
        case measure => simp [intOf]; omega
      · have hzn : z ≠ 0 := by omega
        have hst := hstop hzn
        have hall : (all6 s ps).2 = z := by
          have e1 := all6_bad s (ps.take (k + 1)) (ps.drop (k + 1)) (by rw [hst]; exact hzn)
          rw [List.take_append_drop, hst] at e1
          rw [e1]
        have hK := hap (s, z) (by unfold apply6; rw [hall, if_neg hzn])
        have ez : (z != 0) = true := by simpa using hzn
        rw [show fault z = .agg #[.int .i64 z, .bool true] from by unfold fault; rw [ez]]
        have hfs := fun W => fault_some z true W hzn
        clear hgood hstop hz hst hall hap hbad ez HEL ha
        go_wp2_with fail
        (with_reducible refine (hfs _).mono ?_)
        rintro e w3 ⟨rfl, hb3⟩
        have S3 := (S2.newBlk #[.int .i64 z, .bool true] 38).below hb3
        clear hb3 hfs
        go_wp2_with fail
        generalize w2.heap.size = m at *
        refine wp_region_sat (by kernel_rfl) 6 (by kernel_rfl) [[], [], [], [0, 0], [1, 3, 0, 1, 3], [2, 4, 0, 1, 2, 3, 4]] (by kernel_rfl) (by kernel_rfl) [(0, 23, .agg (cells6 s)), (1, 24, .agg #[.int .i64 0, .int .i64 0]), (2, 25, .agg #[.int .i64 z, .bool true])]
          (fun f => blk m #[.int .i64 z, .bool true] 38 :: blk (q + 1 + 1 + 1 + 1) (cells6 s') 26 :: blk q (cells6 s) 26 :: blk (q + 1 + 1 + 1) (bif f 5 then #[.int .i64 z, .bool true] else #[.int .i64 0, .bool false]) 38 :: blk (q + 1 + 1) #[.int .i64 0, .int .i64 0] 35 :: blk (q + 1) (bif f 3 then cells6 s else #[.int .i64 0, .int .i64 0, .int .i64 0, .int .i64 0, .int .i64 0, .int .i64 0]) 26 :: l) (by kernel_rfl) S3 ?_ ?_
        · refine ⟨?_, ?_, ?_, ?_, ?_, ?_, trivial⟩
          · intro f W _ hd S
            refine wpOp_list rfl ?_
            refine st_load rfl _ _ rfl _ ((acts_eval_tmp 2 (by kernel_rfl)).trans rfl) _ _ S.pull2 _ rfl rfl rfl ?_
            exact ⟨(acts_some 0 rfl (by kernel_rfl) (by kernel_rfl)).symm, S⟩
          · intro f W _ hd S
            refine wpOp_run (v := .agg #[.int .i64 0, .int .i64 0]) rfl rfl (fun ρ _ => ?_) ⟨(acts_some 1 rfl (by kernel_rfl) (by kernel_rfl)).symm, S⟩
            go_simp
          · intro f W _ hd S
            refine wpOp_list rfl ?_
            refine st_load rfl _ _ rfl _ ((acts_eval_tmp 10 (by kernel_rfl)).trans rfl) _ _ S _ rfl rfl rfl ?_
            exact ⟨(acts_some 2 rfl (by kernel_rfl) (by kernel_rfl)).symm, S⟩
          · intro f W h3 hd S
            replace S := Sat.mid [_, _, _, _, _] S
            rw [h3] at S
            refine wpOp_list rfl ?_
            refine st_store rfl _ _ _ rfl _ _ ((acts_eval_tmp 4 (by kernel_rfl)).trans rfl) (acts_eval_hit 0 rfl hd.1 (by kernel_rfl) (by kernel_rfl)) _ _ S rfl rfl (by simp [cells6, Value.oneCell']) fun W' S' => ?_
            exact ⟨(acts_none 3 (by kernel_rfl)).symm, Sat.dim [_, _, _, _, _] S'⟩
          · intro f W h4 hd S
            replace S := Sat.mid [_, _, _, _] S
            refine wpOp_list rfl ?_
            refine st_store rfl _ _ _ rfl _ _ ((acts_eval_tmp 5 (by kernel_rfl)).trans rfl) (acts_eval_hit 1 rfl hd.1 (by kernel_rfl) (by kernel_rfl)) _ _ S rfl rfl (by simp [Value.oneCell']) fun W' S' => ?_
            exact ⟨(acts_none 4 (by kernel_rfl)).symm, Sat.dim [_, _, _, _] S'⟩
          · intro f W h5 hd S
            replace S := Sat.mid [_, _, _] S
            rw [h5] at S
            refine wpOp_list rfl ?_
            refine st_store rfl _ _ _ rfl _ _ ((acts_eval_tmp 6 (by kernel_rfl)).trans rfl) (acts_eval_hit 2 rfl hd.1 (by kernel_rfl) (by kernel_rfl)) _ _ S rfl rfl (by simp [Value.oneCell']) fun W' S' => ?_
            exact ⟨(acts_none 5 (by kernel_rfl)).symm, Sat.dim [_, _, _] S'⟩
        · intro W S
          simp only [acts, if_true, Act.put, cond_true, List.setIfInBounds_toArray, List.set_cons_succ, List.set_cons_zero] at S ⊢
          go_wp2_with fail
          refine bodyPost_ret (results_cells3 rfl _ _ (q + 1) (q + 1 + 1) (q + 1 + 1 + 1) _ _ _ _ _ _ _ _ _ rfl (S.mid [_, _, _, _, _]).blk_at rfl rfl rfl rfl (S.mid [_, _, _, _]).blk_at rfl rfl rfl rfl (S.mid [_, _, _]).blk_at rfl rfl rfl) rfl ?_
          exact hK.out _ _ ⟨by simp [change, fault, hzn], S.drop.drop.drop.drop.drop.drop⟩
    · obtain rfl : k = ps.length := by omega
      rw [List.take_length] at hz hs
      have hK := hap (all6 s ps) (by unfold apply6; rw [if_pos hz])
      generalize all6 s ps = r at *
      obtain ⟨s', z⟩ := r
      simp only at hz hs hK
      subst hz
      clear hap HEL
      go_wp2_with fail
      refine wp_region_sat (by kernel_rfl) 10 (by kernel_rfl) [[], [], [1], [], [3], [2, 4], [], [0, 0], [5, 7, 0, 1, 2, 3, 4, 5, 7], [6, 8, 0, 1, 2, 3, 4, 5, 6, 7, 8]] (by kernel_rfl) (by kernel_rfl)
        [(0, 27, .agg (cells6 s')), (1, 28, .pointer (some ⟨q, 3, none⟩)), (2, 29, .int .i64 s.d), (3, 30, .pointer (some ⟨q + 1 + 1 + 1 + 1, 3, none⟩)), (4, 31, .int .i64 s'.d), (5, 32, .agg #[.int .i64 s.d, .int .i64 s'.d]), (6, 33, .agg #[.int .i64 0, .bool false])]
        (fun f => blk (q + 1 + 1 + 1 + 1) (cells6 s') 26 :: blk q (cells6 s) 26 :: blk (q + 1 + 1 + 1) #[.int .i64 0, .bool false] 38 :: blk (q + 1 + 1) (bif f 8 then #[.int .i64 s.d, .int .i64 s'.d] else #[.int .i64 0, .int .i64 0]) 35 :: blk (q + 1) (bif f 7 then cells6 s' else #[.int .i64 0, .int .i64 0, .int .i64 0, .int .i64 0, .int .i64 0, .int .i64 0]) 26 :: l) (by kernel_rfl) hs ?_ ?_
      · refine ⟨?_, ?_, ?_, ?_, ?_, ?_, ?_, ?_, ?_, ?_, trivial⟩
        · intro f W _ hd S
          refine wpOp_list rfl ?_
          refine st_load rfl _ _ rfl _ ((acts_eval_tmp 7 (by kernel_rfl)).trans rfl) _ _ S _ rfl rfl rfl ?_
          exact ⟨(acts_some 0 rfl (by kernel_rfl) (by kernel_rfl)).symm, S⟩
        · intro f W _ hd S
          refine wpOp_run (v := .pointer (some ⟨q, 3, none⟩)) rfl rfl (fun ρ hρ => ?_) ⟨(acts_some 1 rfl (by kernel_rfl) (by kernel_rfl)).symm, S⟩
          have e1 : ρ (.tmp 2) = .pointer (some ⟨q, 0, none⟩) := by rw [hρ]; exact (acts_eval_tmp 2 (by kernel_rfl)).trans rfl
          clear hρ
          go_simp
        · intro f W _ hd S
          refine wpOp_run (v := .int .i64 s.d) rfl rfl (fun ρ hρ => ?_) ⟨(acts_some 2 rfl (by kernel_rfl) (by kernel_rfl)).symm, S⟩
          have e1 : ρ (.tmp 28) = .pointer (some ⟨q, 3, none⟩) := by rw [hρ]; exact acts_eval_hit 1 rfl hd.1 (by kernel_rfl) (by kernel_rfl)
          have e2 : W.cell? ⟨q, 3, none⟩ = some (.int .i64 s.d) := S.swap.cell 3
          clear hρ
          go_simp
        · intro f W _ hd S
          refine wpOp_run (v := .pointer (some ⟨q + 1 + 1 + 1 + 1, 3, none⟩)) rfl rfl (fun ρ hρ => ?_) ⟨(acts_some 3 rfl (by kernel_rfl) (by kernel_rfl)).symm, S⟩
          have e1 : ρ (.tmp 7) = .pointer (some ⟨q + 1 + 1 + 1 + 1, 0, none⟩) := by rw [hρ]; exact (acts_eval_tmp 7 (by kernel_rfl)).trans rfl
          clear hρ
          go_simp
        · intro f W _ hd S
          refine wpOp_run (v := .int .i64 s'.d) rfl rfl (fun ρ hρ => ?_) ⟨(acts_some 4 rfl (by kernel_rfl) (by kernel_rfl)).symm, S⟩
          have e1 : ρ (.tmp 30) = .pointer (some ⟨q + 1 + 1 + 1 + 1, 3, none⟩) := by rw [hρ]; exact acts_eval_hit 3 rfl hd.1 (by kernel_rfl) (by kernel_rfl)
          have e2 : W.cell? ⟨q + 1 + 1 + 1 + 1, 3, none⟩ = some (.int .i64 s'.d) := S.cell 3
          clear hρ
          go_simp
        · intro f W _ hd S
          refine wpOp_run (v := .agg #[.int .i64 s.d, .int .i64 s'.d]) rfl rfl (fun ρ hρ => ?_) ⟨(acts_some 5 rfl (by kernel_rfl) (by kernel_rfl)).symm, S⟩
          have e1 : ρ (.tmp 29) = .int .i64 s.d := by rw [hρ]; exact acts_eval_hit 2 rfl hd.1 (by kernel_rfl) (by kernel_rfl)
          have e2 : ρ (.tmp 31) = .int .i64 s'.d := by rw [hρ]; exact acts_eval_hit 4 rfl hd.2.1 (by kernel_rfl) (by kernel_rfl)
          clear hρ
          go_simp
        · intro f W _ hd S
          refine wpOp_run (v := .agg #[.int .i64 0, .bool false]) rfl rfl (fun ρ _ => ?_) ⟨(acts_some 6 rfl (by kernel_rfl) (by kernel_rfl)).symm, S⟩
          go_simp
        · intro f W h7 hd S
          replace S := Sat.mid [_, _, _, _] S
          rw [h7] at S
          refine wpOp_list rfl ?_
          refine st_store rfl _ _ _ rfl _ _ ((acts_eval_tmp 4 (by kernel_rfl)).trans rfl) (acts_eval_hit 0 rfl hd.1 (by kernel_rfl) (by kernel_rfl)) _ _ S rfl rfl (by simp [cells6, Value.oneCell']) fun W' S' => ?_
          exact ⟨(acts_none 7 (by kernel_rfl)).symm, Sat.dim [_, _, _, _] S'⟩
        · intro f W h8 hd S
          replace S := Sat.mid [_, _, _] S
          rw [h8] at S
          refine wpOp_list rfl ?_
          refine st_store rfl _ _ _ rfl _ _ ((acts_eval_tmp 5 (by kernel_rfl)).trans rfl) (acts_eval_hit 5 rfl hd.1 (by kernel_rfl) (by kernel_rfl)) _ _ S rfl rfl (by simp [Value.oneCell']) fun W' S' => ?_
          exact ⟨(acts_none 8 (by kernel_rfl)).symm, Sat.dim [_, _, _] S'⟩
        · intro f W h9 hd S
          replace S := Sat.mid [_, _] S
          refine wpOp_list rfl ?_
          refine st_store rfl _ _ _ rfl _ _ ((acts_eval_tmp 6 (by kernel_rfl)).trans rfl) (acts_eval_hit 6 rfl hd.1 (by kernel_rfl) (by kernel_rfl)) _ _ S rfl rfl (by simp [Value.oneCell']) fun W' S' => ?_
          exact ⟨(acts_none 9 (by kernel_rfl)).symm, Sat.dim [_, _] S'⟩
      · intro W S
        simp only [acts, if_true, Act.put, cond_true, List.setIfInBounds_toArray, List.set_cons_succ, List.set_cons_zero] at S ⊢
        go_wp2_with fail
        refine bodyPost_ret (results_cells3 rfl _ _ (q + 1) (q + 1 + 1) (q + 1 + 1 + 1) _ _ _ _ _ _ _ _ _ rfl (S.mid [_, _, _, _]).blk_at rfl rfl rfl rfl (S.mid [_, _, _]).blk_at rfl rfl rfl rfl (S.mid [_, _]).blk_at rfl rfl rfl) rfl ?_
        exact hK.out _ _ ⟨by simp [change, fault], S.drop.drop.drop.drop.drop⟩
end Go.Proofs.Ytohknaoklcehaaa

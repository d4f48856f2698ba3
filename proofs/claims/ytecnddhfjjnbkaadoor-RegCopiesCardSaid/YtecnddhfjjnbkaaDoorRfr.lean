/- Chapter 14: the reference's Find, Open, Do, walked. -/
import Derived.Test.YtecnddhfjjnbkaaDoorRl
import Derived.Deep.Cut
import Derived.IntWalk
set_option linter.unusedSimpArgs false
set_option linter.unusedVariables false
namespace Go.Proofs.YtecnddhfjjnbkaaDoor
open Go.RowKit

def findR (X : List RSt) (id : Int) : Int := match X.findIdx? fun x => x.id == id with | none => -1 | some i => i
def countR (X : List RSt) (t : Int) : Nat := (X.filter fun x => x.t == t).length
def newR (id t : Int) : RSt := ⟨id, t, ⟨1, 1, 1, 0⟩⟩
def roOpen (X : List RSt) (ten quo last tick : Int) : List RSt × Int :=
  if 2 * tick + 1 ≤ last then (X, 25) else if quo ≤ (countR X (tick % ten) : Int) then (X, 33) else (X ++ [newR (2 * tick + 1) (tick % ten)], 0)
def roDo (X : List RSt) (i : Nat) (x : RSt) (e : Int) : List RSt × Int :=
  (X.take i ++ (if rNum (rDo x.s e).1 = 4 then [] else [⟨x.id, x.t, (rDo x.s e).1⟩]) ++ X.drop (i + 1), (rDo x.s e).2)
section
variable {G : Gnd} {w w' : World} {l : List Asrt} {X : List RSt} {v : Value}
theorem countR_snoc {k : Nat} {x : RSt} (h : X[k]? = some x) (t : Int) : countR (X.take (k + 1)) t = countR (X.take k) t + (if x.t = t then 1 else 0) := by
  unfold countR
  rw [take_snoc h, List.filter_append, List.length_append]
  by_cases e : x.t = t <;> simp [e]
theorem countR_le (X : List RSt) (t : Int) : countR X t ≤ X.length := List.length_filter_le _ _
theorem countR_take_le (k : Nat) (t : Int) : countR (X.take k) t ≤ X.length := Nat.le_trans (countR_le _ _) (by rw [List.length_take]; omega)
set_option maxHeartbeats 2000000 in
theorem ref_find (hv : RL w.cell? v X) (hX : X.length ≤ 100000) (id : Int) : Calls Tryd.prog 17 #[v, .int .i64 id] w fun e w' => e = .returned (.int .i64 (findR X id)) ∧ w = w' := by
  refine calls_any fun K hK => ?_
  obtain ⟨A, c, rfl, hlc, hc, h0, hel⟩ := hv
  have HEL := Lib.hid hel
  clear hel h0
  unfold findR at hK
  obtain ⟨N, hN⟩ : ∃ N, N = X.length := ⟨_, rfl⟩
  rw [← hN] at hX hlc ⊢
  have HN := Lib.hid hN
  clear hN
  go_enter Tryd.func17, Tryd.ntmps17
  go_wp2_with fail
  go_loopw [5] (fun i wr => ∃ k : Nat, k ≤ N ∧ i = .int .i64 k ∧ (∀ j x, X[j]? = some x → j < k → x.id ≠ id) ∧ wr = w) (fun i _ => N - (intOf i).toNat)
  case atStart => exact ⟨0, Nat.zero_le _, rfl, (fun j x _ h => absurd h (Nat.not_lt_zero _)), rfl⟩
  case round =>
    obtain ⟨k, hk, rfl, hno, rfl⟩ := hrel
    have HNO := Lib.hid hno
    clear hno
    by_cases hlt : k < N
    · obtain ⟨x, hx⟩ : ∃ x, X[k]? = some x := ⟨_, List.getElem?_eq_getElem (by rw [← HN.out]; exact hlt)⟩
      obtain ⟨g, o, rfl, hcl⟩ := HEL.out k x hx
      have d0 := hcl 0 _ rfl
      simp only [Nat.add_zero] at d0
      have HX := Lib.hid hx
      have hlt2 : (k : Int) < (N : Int) := by omega
      clear hcl hx
      by_cases he : x.id = id
      · have heb : (x.id == id) = true := beq_iff_eq.2 he
        go_wp2_with fail
        have e1 : X.findIdx? (fun x => x.id == id) = some k := by
          obtain ⟨hi, hxe⟩ := List.getElem?_eq_some_iff.1 HX.out
          rw [List.findIdx?_eq_some_iff_getElem]
          refine ⟨hi, by rw [hxe]; exact heb, fun j hj => ?_⟩
          have := HNO.out j _ (List.getElem?_eq_getElem (show j < X.length by omega)) hj
          simpa using this
        refine hK.out _ _ ⟨?_, rfl⟩
        rw [e1]
        rfl
      · have heb : (x.id == id) = false := beq_eq_false_iff_ne.2 he
        go_wp2_with fail
        go_roundw
        case rel => exact ⟨k + 1, by omega, by go_num, (fun j y hj hjk => by
          by_cases e : j = k
          · subst e
            have := HX.out.symm.trans hj
            simp only [Option.some.injEq] at this
            rw [← this]; exact he
          · exact HNO.out j y hj (by omega)), (by trivial)⟩
        case measure => simp [intOf]; omega
    · obtain rfl : k = N := by omega
      go_wp2_with fail
      have e1 : X.findIdx? (fun x => x.id == id) = none := by
        rw [List.findIdx?_eq_none_iff]
        intro x hx
        obtain ⟨j, hj⟩ := List.mem_iff_getElem?.1 hx
        exact beq_eq_false_iff_ne.2 (HNO.out j x hj (by rw [HN.out]; exact (List.getElem?_eq_some_iff.1 hj).1))
      refine hK.out _ _ ⟨?_, rfl⟩
      rw [e1]
      rfl
set_option maxHeartbeats 8000000 in
set_option maxRecDepth 100000 in
theorem ref_open_full (H : Sat G w l) (hv : RL (cellR G.ro) v X) (hX : X.length ≤ 1000) (T : Nat) (hT0 : 1 ≤ T) (hT1 : T ≤ 64) (quo last : Int) (m : Nat) (hm : (m : Int) ≤ 1073741823) (h1 : ¬ 2 * (m : Int) + 1 ≤ last) (hq : quo ≤ (countR X ((m : Int) % T) : Int)) :
    Calls Tryd.prog 29 #[v, .int .i64 T, .int .i64 quo, .int .i64 last, .int .i64 m] w fun e w' => ∃ u G', G.le G' ∧ e = .returned (.tuple #[u, .int .i64 (roOpen X T quo last m).2]) ∧ RL (cellR G'.ro) u (roOpen X T quo last m).1 ∧ Sat G' w' l := by
  refine calls_any fun K hK => ?_
  unfold roOpen at hK
  rw [if_neg h1, if_pos hq] at hK
  obtain ⟨A, c, rfl, hlc, hc, h0, hel⟩ := id hv
  have HV := Lib.hid hv
  have HEL := Lib.hid hel
  have HQ := Lib.hid hq
  have HM := Lib.hid hm
  have htm : Int.tmod (m : Int) (T : Int) = (m : Int) % T := Int.tmod_eq_emod_of_nonneg (by omega)
  have hT0b : ((T : Int) == 0) = false := beq_eq_false_iff_ne.2 (by omega)
  have hidl : ¬ 2 * (m : Int) + 1 ≤ last := h1
  clear hel h0 hv hq h1
  obtain ⟨N, hN⟩ : ∃ N, N = X.length := ⟨_, rfl⟩
  rw [← hN] at hX hlc ⊢
  have HN := Lib.hid hN
  clear hN
  go_enter Tryd.func29, Tryd.ntmps29
  go_wp2_with fail
  go_loopw [13, 14] (fun n i wr => ∃ k : Nat, k ≤ N ∧ i = .int .i64 k ∧ n = .int .i64 (countR (X.take k) ((m : Int) % T)) ∧ Sat G wr l) (fun _ i _ => N - (intOf i).toNat)
  case atStart => exact ⟨0, Nat.zero_le _, rfl, rfl, H⟩
  case round =>
    obtain ⟨k, hk, rfl, rfl, S1⟩ := hrel
    clear H
    by_cases hlt : k < N
    · obtain ⟨x, hx⟩ : ∃ x, X[k]? = some x := ⟨_, List.getElem?_eq_getElem (by rw [← HN.out]; exact hlt)⟩
      have hcs := countR_snoc hx ((m : Int) % T)
      obtain ⟨g, o, rfl, hcl⟩ := HEL.out k x hx
      have d1 := S1.cellR (hcl 1 _ rfl)
      have hlt2 : (k : Int) < (N : Int) := by omega
      have hcl2 := countR_take_le (X := X) k ((m : Int) % T)
      rw [← HN.out] at hcl2
      have HCS := Lib.hid hcs
      have HS := Lib.hid S1
      clear hcl hx hcs S1
      generalize countR (X.take k) ((m : Int) % T) = ct at *
      have hwr : IntKind.i64.wrap ((ct : Int) + 1) = (ct : Int) + 1 := IntWalk.i64_in _ (by omega)
      go_upto_region 8 with fail
      by_cases he : x.t = (m : Int) % T
      · have heb : (x.t == (m : Int) % T) = true := beq_iff_eq.2 he
        go_quiet (fail)
        go_wp2_with fail
        go_roundw
        case rel => exact ⟨k + 1, by omega, by go_num, (by rw [HCS.out, if_pos he]; go_num), HS.out.drewQ _⟩
        case measure => simp [intOf]; omega
      · have heb : (x.t == (m : Int) % T) = false := beq_eq_false_iff_ne.2 he
        go_quiet (fail)
        go_wp2_with fail
        go_roundw
        case rel => exact ⟨k + 1, by omega, by go_num, (by rw [HCS.out, if_neg he]; go_num), HS.out.drewQ _⟩
        case measure => simp [intOf]; omega
    · obtain rfl : k = N := by omega
      rw [HN.out, List.take_length, ← HN.out]
      have hct := HQ.out
      have HS := Lib.hid S1
      clear S1
      generalize hcg : countR X ((m : Int) % T) = ct at *
      clear hcg
      have hge : decide ((ct : Int) ≥ quo) = true := decide_eq_true hct
      go_wp2_with fail
      have e := HN.out
      subst e
      exact hK.out _ _ ⟨_, G, Gnd.le.rfl', rfl, HV.out, HS.out⟩
def HNq (f : Nat → Bool) : Prop := (f 8 = true → f 7 = true) ∧ (f 9 = true → f 8 = true)
set_option maxHeartbeats 8000000 in
set_option maxRecDepth 100000 in
theorem ref_open_ok (H : Sat G w l) (hv : RL (cellR G.ro) v X) (hX : X.length ≤ 1000) (T : Nat) (hT0 : 1 ≤ T) (hT1 : T ≤ 64) (quo last : Int) (m : Nat) (hm : (m : Int) ≤ 1073741823) (h1 : ¬ 2 * (m : Int) + 1 ≤ last) (hq : ¬ quo ≤ (countR X ((m : Int) % T) : Int)) :
    Calls Tryd.prog 29 #[v, .int .i64 T, .int .i64 quo, .int .i64 last, .int .i64 m] w fun e w' => ∃ u G', G.le G' ∧ e = .returned (.tuple #[u, .int .i64 (roOpen X T quo last m).2]) ∧ RL (cellR G'.ro) u (roOpen X T quo last m).1 ∧ Sat G' w' l := by
  refine calls_any fun K hK => ?_
  unfold roOpen at hK
  rw [if_neg h1, if_neg hq] at hK
  obtain ⟨A, c, rfl, hlc, hc, h0, hel⟩ := id hv
  have HV := Lib.hid hv
  have HEL := Lib.hid hel
  have HQ := Lib.hid hq
  have HM := Lib.hid hm
  have htm : Int.tmod (m : Int) (T : Int) = (m : Int) % T := Int.tmod_eq_emod_of_nonneg (by omega)
  have hT0b : ((T : Int) == 0) = false := beq_eq_false_iff_ne.2 (by omega)
  have hidl : ¬ 2 * (m : Int) + 1 ≤ last := h1
  clear hel h0 hv hq h1
  obtain ⟨N, hN⟩ : ∃ N, N = X.length := ⟨_, rfl⟩
  rw [← hN] at hX hlc ⊢
  have HN := Lib.hid hN
  clear hN
  go_enter Tryd.func29, Tryd.ntmps29
  go_wp2_with fail
  go_loopw [13, 14] (fun n i wr => ∃ k : Nat, k ≤ N ∧ i = .int .i64 k ∧ n = .int .i64 (countR (X.take k) ((m : Int) % T)) ∧ Sat G wr l) (fun _ i _ => N - (intOf i).toNat)
  case atStart => exact ⟨0, Nat.zero_le _, rfl, rfl, H⟩
  case round =>
    obtain ⟨k, hk, rfl, rfl, S1⟩ := hrel
    clear H
    by_cases hlt : k < N
    · obtain ⟨x, hx⟩ : ∃ x, X[k]? = some x := ⟨_, List.getElem?_eq_getElem (by rw [← HN.out]; exact hlt)⟩
      have hcs := countR_snoc hx ((m : Int) % T)
      obtain ⟨g, o, rfl, hcl⟩ := HEL.out k x hx
      have d1 := S1.cellR (hcl 1 _ rfl)
      have hlt2 : (k : Int) < (N : Int) := by omega
      have hcl2 := countR_take_le (X := X) k ((m : Int) % T)
      rw [← HN.out] at hcl2
      have HCS := Lib.hid hcs
      have HS := Lib.hid S1
      clear hcl hx hcs S1
      generalize countR (X.take k) ((m : Int) % T) = ct at *
      have hwr : IntKind.i64.wrap ((ct : Int) + 1) = (ct : Int) + 1 := IntWalk.i64_in _ (by omega)
      go_upto_region 8 with fail
      by_cases he : x.t = (m : Int) % T
      · have heb : (x.t == (m : Int) % T) = true := beq_iff_eq.2 he
        go_quiet (fail)
        go_wp2_with fail
        go_roundw
        case rel => exact ⟨k + 1, by omega, by go_num, (by rw [HCS.out, if_pos he]; go_num), HS.out.drewQ _⟩
        case measure => simp [intOf]; omega
      · have heb : (x.t == (m : Int) % T) = false := beq_eq_false_iff_ne.2 he
        go_quiet (fail)
        go_wp2_with fail
        go_roundw
        case rel => exact ⟨k + 1, by omega, by go_num, (by rw [HCS.out, if_neg he]; go_num), HS.out.drewQ _⟩
        case measure => simp [intOf]; omega
    · obtain rfl : k = N := by omega
      rw [HN.out, List.take_length, ← HN.out]
      have hct := HQ.out
      have HS := Lib.hid S1
      clear S1
      generalize hcg : countR X ((m : Int) % T) = ct at *
      clear hcg
      have hge : decide ((ct : Int) ≥ quo) = false := decide_eq_false (by omega)
      have S5 := HS.out.ownNil 59 6
      have hv2 : RL wr.cell? (.slice A k c) X := by rw [HN.out]; exact HV.out.sat S5
      have hLb : 0 + X.length ≤ 100000 := by rw [← HN.out]; omega
      clear HS
      go_upto_region 14 with (at_builtin; refine st_appL S5 rfl _ _ rfl rfl rfl hv2 hLb ?_; clear S5 hv2; intro v1 w4 S5)
      rw [Nat.zero_add, List.nil_append, ← HN.out] at S5
      refine wp_world S5 fun w5 S6 => ?_
      clear S5 hLb
      have hn := ref_new S6
      go_wp2_with fail
      (with_reducible refine hn.mono ?_)
      clear hn
      rintro e w6 ⟨rfl, S7⟩
      clear S6
      have hd : Calls Tryd.prog 45 #[.agg (R4.cells ⟨0, 1, 1, 0⟩), .int .i64 0] w6 _ := ref_do S7 ⟨0, 1, 1, 0⟩ (by decide) 0 (by decide)
      rw [show rDo ⟨0, 1, 1, 0⟩ ((0 : Nat) : Int) = (⟨1, 1, 1, 0⟩, 0) from by decide] at hd
      simp only [R4.cells] at hd ⊢
      clear S7
      go_wp2_with fail
      (with_reducible refine hd.mono ?_)
      clear hd
      rintro e w7 ⟨rfl, S8⟩
      have S9 := S8.newBlk #[.int .i64 1, .int .i64 1, .int .i64 1, .int .i64 0] 57
      clear S8
      go_upto_region 15 with fail
      generalize w7.heap.size = z at *
      refine wp_world S9 fun w8 S2 => ?_
      clear S9
      have HBK : Hid (k + 1 ≤ 1001) := Lib.hid (by omega)
      have HXS : Hid (encs renc X = encs renc X) := Lib.hid rfl
      obtain ⟨id, hid⟩ : ∃ id : Int, id = 2 * m + 1 := ⟨_, rfl⟩
      obtain ⟨tt, htt⟩ : ∃ tt : Int, tt = (m : Int) % T := ⟨_, rfl⟩
      rw [← htt] at htm hK
      rw [← hid] at hK hidl ⊢
      obtain ⟨xs, hxs⟩ : ∃ xs, xs = encs renc X := ⟨_, rfl⟩
      rw [← hxs] at S2
      have HXX := Lib.hid hxs
      clear hid htt hxs
      refine wp_act fun a0 ha0 => ?_
      have HSZ : a0.tmps.size = 63 := by rw [ha0]; rfl
      have E15 : a0.eval (.tmp 15) = v1 := by rw [ha0]; rfl
      have E12 : a0.eval (.tmp 12) = .int .i64 id := by rw [ha0]; rfl
      have E4 : a0.eval (.tmp 4) = .int .i64 m := by rw [ha0]; rfl
      have E1 : a0.eval (.tmp 1) = .int .i64 T := by rw [ha0]; rfl
      have E16 : a0.eval (.tmp 16) = .pointer (some ⟨z, 0, none⟩) := by rw [ha0]; rfl
      refine wp_region_J (by kernel_rfl) 11 (by kernel_rfl) [[], [], [], [], [2, 3], [], [1, 4, 5], [6], [0, 7], [8, 8, 0, 1, 2, 3, 4, 5, 6, 7, 8], [9, 0, 1, 2, 3, 4, 5, 6, 7, 8, 9]] (by kernel_rfl) (by kernel_rfl) (fun f a' W => ∃ q v', HNq f ∧ a' = acts [(0, 54, v1), (1, 55, .int .i64 id), (2, 56, .int .i64 m), (3, 57, .int .i64 T), (4, 58, .int .i64 tt), (5, 59, .agg #[.int .i64 1, .int .i64 1, .int .i64 1, .int .i64 0]), (6, 60, .agg #[.int .i64 id, .int .i64 tt, .int .i64 1, .int .i64 1, .int .i64 1, .int .i64 0]), (7, 61, .slice (some ⟨q, 0, none⟩) 1 1), (8, 62, v'), (9, 10, v'), (10, 11, .int .i64 0)] f a0 ∧ Sat G W (opt (f 7) (blk q #[.int .i64 id, .int .i64 tt, .int .i64 1, .int .i64 1, .int .i64 1, .int .i64 0] 59) :: blk z #[.int .i64 1, .int .i64 1, .int .i64 1, .int .i64 0] 57 :: ownS 59 6 (cond (f 8) v' v1) (cond (f 8) (k + 1) k) (cond (f 8) (xs ++ renc (newR id tt)) xs) :: l)) ?_ ?_ ?_
      · exact ⟨0, undef, (by unfold HNq; decide), rfl, S2.drew.opt0⟩
      · refine ⟨?_, ?_, ?_, ?_, ?_, ?_, ?_, ?_, ?_, ?_, ?_, trivial⟩
        · rintro f a' W h0 hd ⟨q, v', hh, rfl, S⟩
          refine wpOp_run (v := v1) rfl rfl (fun ρ hρ => ?_) ⟨q, v', hh, (acts_some 0 rfl (by kernel_rfl) (by kernel_rfl)).symm, S⟩
          have e0 : ρ (.tmp 15) = v1 := by rw [hρ]; exact (acts_eval_tmp 15 (by kernel_rfl)).trans E15
          clear hρ
          go_simp
        · rintro f a' W h1 hd ⟨q, v', hh, rfl, S⟩
          refine wpOp_run (v := .int .i64 id) rfl rfl (fun ρ hρ => ?_) ⟨q, v', hh, (acts_some 1 rfl (by kernel_rfl) (by kernel_rfl)).symm, S⟩
          have e0 : ρ (.tmp 12) = .int .i64 id := by rw [hρ]; exact (acts_eval_tmp 12 (by kernel_rfl)).trans E12
          clear hρ
          go_simp
        · rintro f a' W h2 hd ⟨q, v', hh, rfl, S⟩
          refine wpOp_run (v := .int .i64 m) rfl rfl (fun ρ hρ => ?_) ⟨q, v', hh, (acts_some 2 rfl (by kernel_rfl) (by kernel_rfl)).symm, S⟩
          have e0 : ρ (.tmp 4) = .int .i64 m := by rw [hρ]; exact (acts_eval_tmp 4 (by kernel_rfl)).trans E4
          clear hρ
          go_simp
        · rintro f a' W h3 hd ⟨q, v', hh, rfl, S⟩
          refine wpOp_run (v := .int .i64 T) rfl rfl (fun ρ hρ => ?_) ⟨q, v', hh, (acts_some 3 rfl (by kernel_rfl) (by kernel_rfl)).symm, S⟩
          have e0 : ρ (.tmp 1) = .int .i64 T := by rw [hρ]; exact (acts_eval_tmp 1 (by kernel_rfl)).trans E1
          clear hρ
          go_simp
        · rintro f a' W h4 hd ⟨q, v', hh, rfl, S⟩
          refine wpOp_run (v := .int .i64 tt) rfl rfl (fun ρ hρ => ?_) ⟨q, v', hh, (acts_some 4 rfl (by kernel_rfl) (by kernel_rfl)).symm, S⟩
          have e0 : ρ (.tmp 56) = .int .i64 m := by rw [hρ]; exact acts_eval_hit 2 rfl hd.1 (by rw [HSZ]; rfl) (by kernel_rfl)
          have e1 : ρ (.tmp 57) = .int .i64 T := by rw [hρ]; exact acts_eval_hit 3 rfl hd.2.1 (by rw [HSZ]; rfl) (by kernel_rfl)
          clear hρ
          (have hTz : ¬ T = 0 := by omega)
          go_simp
        · rintro f a' W h5 hd ⟨q, v', hh, rfl, S⟩
          refine wpOp_list rfl ?_
          refine st_load rfl _ _ rfl _ ((acts_eval_tmp 16 (by kernel_rfl)).trans E16) _ _ (S.swap) _ rfl rfl rfl ?_
          exact ⟨q, v', hh, (acts_some 5 rfl (by kernel_rfl) (by kernel_rfl)).symm, S⟩
        · rintro f a' W h6 hd ⟨q, v', hh, rfl, S⟩
          refine wpOp_run (v := .agg #[.int .i64 id, .int .i64 tt, .int .i64 1, .int .i64 1, .int .i64 1, .int .i64 0]) rfl rfl (fun ρ hρ => ?_) ⟨q, v', hh, (acts_some 6 rfl (by kernel_rfl) (by kernel_rfl)).symm, S⟩
          have e0 : ρ (.tmp 55) = .int .i64 id := by rw [hρ]; exact acts_eval_hit 1 rfl hd.1 (by rw [HSZ]; rfl) (by kernel_rfl)
          have e1 : ρ (.tmp 58) = .int .i64 tt := by rw [hρ]; exact acts_eval_hit 4 rfl hd.2.1 (by rw [HSZ]; rfl) (by kernel_rfl)
          have e2 : ρ (.tmp 59) = .agg #[.int .i64 1, .int .i64 1, .int .i64 1, .int .i64 0] := by rw [hρ]; exact acts_eval_hit 5 rfl hd.2.2.1 (by rw [HSZ]; rfl) (by kernel_rfl)
          clear hρ
          go_simp
        · rintro f a' W h7 hd ⟨q, v', hh, rfl, S⟩
          (have z8 := no_of hh.1 h7)
          refine wpOp_mem (v := .slice (some ⟨W.heap.size, 0, none⟩) 1 1) (w' := W.alloc (.cells #[.int .i64 id, .int .i64 tt, .int .i64 1, .int .i64 1, .int .i64 1, .int .i64 0] 59)) rfl rfl (fun ρ hρ => ?_) (⟨W.heap.size, v', ⟨fun _ => rfl, hh.2⟩, acts_swap (by simp only [acts, h7, Bool.false_eq_true, if_false]) (k := 7) rfl (by kernel_rfl) (by kernel_rfl), Sat.optI rfl (S.newBlk _ _).drop2⟩)
          have e0 : ρ (.tmp 60) = .agg #[.int .i64 id, .int .i64 tt, .int .i64 1, .int .i64 1, .int .i64 1, .int .i64 0] := by rw [hρ]; exact acts_eval_hit 6 rfl hd.1 (by rw [HSZ]; rfl) (by kernel_rfl)
          clear hρ
          go_simp
        · rintro f a' W h8 hd ⟨q, v', hh, rfl, S⟩
          have q54 : (acts [(0, 54, v1), (1, 55, .int .i64 id), (2, 56, .int .i64 m), (3, 57, .int .i64 T), (4, 58, .int .i64 tt), (5, 59, .agg #[.int .i64 1, .int .i64 1, .int .i64 1, .int .i64 0]), (6, 60, .agg #[.int .i64 id, .int .i64 tt, .int .i64 1, .int .i64 1, .int .i64 1, .int .i64 0]), (7, 61, .slice (some ⟨q, 0, none⟩) 1 1), (8, 62, v'), (9, 10, v'), (10, 11, .int .i64 0)] f a0).eval (.tmp 54) = v1 := acts_eval_hit 0 rfl hd.1 (by rw [HSZ]; rfl) (by kernel_rfl)
          have q61 : (acts [(0, 54, v1), (1, 55, .int .i64 id), (2, 56, .int .i64 m), (3, 57, .int .i64 T), (4, 58, .int .i64 tt), (5, 59, .agg #[.int .i64 1, .int .i64 1, .int .i64 1, .int .i64 0]), (6, 60, .agg #[.int .i64 id, .int .i64 tt, .int .i64 1, .int .i64 1, .int .i64 1, .int .i64 0]), (7, 61, .slice (some ⟨q, 0, none⟩) 1 1), (8, 62, v'), (9, 10, v'), (10, 11, .int .i64 0)] f a0).eval (.tmp 61) = .slice (some ⟨q, 0, none⟩) 1 1 := acts_eval_hit 7 rfl hd.2.1 (by rw [HSZ]; rfl) (by kernel_rfl)
          (have z9 := no_of hh.2 h8; simp only [hd.2.1, h8, cond_false] at S; have S2 := (opt_iff.1 S).pull2; refine wpOp_list rfl ?_; refine st_append rfl _ _ 45 rfl 59 _ 6 48 Tryd.underlying45 info_ri rfl (by omega) v1 k xs q54 S2 ⟨q, 0, none⟩ 1 1 (renc (newR id tt)) q61 rfl (fun j u hj => blk_cells (opt_iff.1 S) j u hj) rfl (Nat.le_trans HBK.out (by decide)) (by have := HBK.out; omega) ?_; intro v2 w2 S3; refine ⟨q, v2, ⟨fun _ => hd.2.1, fun _ => rfl⟩, acts_swap (by simp only [acts, h8, z9, Bool.false_eq_true, if_false]) (k := 8) rfl (by kernel_rfl) (by kernel_rfl), ?_⟩; show Sat G w2 (opt (f 7) _ :: _ :: ownS _ _ v2 _ _ :: _); rw [hd.2.1]; exact opt_iff.2 S3.push2)
        · rintro f a' W h9 hd ⟨q, v', hh, rfl, S⟩
          refine wpOp_run (v := v') rfl rfl (fun ρ hρ => ?_) ⟨q, v', ⟨hh.1, fun _ => hd.1⟩, (acts_some 9 rfl (by kernel_rfl) (by kernel_rfl)).symm, S⟩
          have e0 : ρ (.tmp 62) = v' := by rw [hρ]; exact acts_eval_hit 8 rfl hd.1 (by rw [HSZ]; rfl) (by kernel_rfl)
          clear hρ
          go_simp
        · rintro f a' W h10 hd ⟨q, v', hh, rfl, S⟩
          refine wpOp_run (v := .int .i64 0) rfl rfl (fun ρ hρ => ?_) ⟨q, v', hh, (acts_some 10 rfl (by kernel_rfl) (by kernel_rfl)).symm, S⟩
          have ec : ∀ v, ρ (.const v) = v := by rw [hρ]; exact fun _ => rfl
          clear hρ
          go_simp
      rintro a' W ⟨q, v', -, rfl, S3⟩
      subst ha0
      simp only [acts, if_true, Act.put, List.setIfInBounds_toArray, List.set_cons_succ, List.set_cons_zero]
      have S4 := S3.drop.drop
      clear S3 S2 HSZ E15 E12 E4 E1 E16
      have e1 : (X ++ [newR id tt]).length = k + 1 := by simp [← HN.out]
      have S5 : Sat G W (ownS 59 6 v' (X ++ [newR id tt]).length (encs renc (X ++ [newR id tt])) :: l) := by
        rw [e1, encs_append, encs_one, ← HXX.out]; exact S4
      obtain ⟨G', hG, S6, hr⟩ := S5.rl
      have HF := Lib.hid (And.intro hG (And.intro hr S6))
      clear S4 S5 S6 hr hG e1
      go_wp2_with fail
      exact hK.out _ _ ⟨_, G', HF.out.1, rfl, HF.out.2.1, HF.out.2.2⟩
theorem ref_open (H : Sat G w l) (hv : RL (cellR G.ro) v X) (hX : X.length ≤ 1000) (T : Nat) (hT0 : 1 ≤ T) (hT1 : T ≤ 64) (quo last : Int) (m : Nat) (hm : (m : Int) ≤ 1073741823) :
    Calls Tryd.prog 29 #[v, .int .i64 T, .int .i64 quo, .int .i64 last, .int .i64 m] w fun e w' => ∃ u G', G.le G' ∧ e = .returned (.tuple #[u, .int .i64 (roOpen X T quo last m).2]) ∧ RL (cellR G'.ro) u (roOpen X T quo last m).1 ∧ Sat G' w' l := by
  by_cases h1 : 2 * (m : Int) + 1 ≤ last
  · refine calls_any fun K hK => ?_
    unfold roOpen at hK
    rw [if_pos h1] at hK
    have HV := Lib.hid hv
    have HS := Lib.hid H
    clear hv H
    go_enter Tryd.func29, Tryd.ntmps29
    go_wp2_with fail
    exact hK.out _ _ ⟨_, G, Gnd.le.rfl', rfl, HV.out, HS.out⟩
  · by_cases hq : quo ≤ (countR X ((m : Int) % T) : Int)
    · exact ref_open_full H hv hX T hT0 hT1 quo last m hm h1 hq
    · exact ref_open_ok H hv hX T hT0 hT1 quo last m hm h1 hq
def midR (x : RSt) (s : R4) : List RSt := if rNum s = 4 then [] else [⟨x.id, x.t, s⟩]
/-- What stands in the new list behind k streams. -/
def outK (X : List RSt) (i : Nat) (mid : List RSt) (k : Nat) : List RSt := if k ≤ i then X.take k else X.take i ++ mid ++ (X.drop (i + 1)).take (k - (i + 1))
theorem outK_zero (X : List RSt) (i : Nat) (mid : List RSt) : outK X i mid 0 = [] := by simp [outK]
theorem outK_other {X : List RSt} {i k : Nat} {mid : List RSt} {y : RSt} (hy : X[k]? = some y) (hk : k ≠ i) : outK X i mid (k + 1) = outK X i mid k ++ [y] := by
  unfold outK
  by_cases h : k < i
  · rw [if_pos (by omega), if_pos (by omega), take_snoc hy]
  · rw [if_neg (by omega), if_neg (by omega), show k + 1 - (i + 1) = (k - (i + 1)) + 1 by omega, take_snoc (x := y) (by rw [List.getElem?_drop, show i + 1 + (k - (i + 1)) = k by omega]; exact hy), List.append_assoc, List.append_assoc, List.append_assoc]
theorem outK_self {X : List RSt} {i : Nat} {mid : List RSt} : outK X i mid (i + 1) = outK X i mid i ++ mid := by
  unfold outK
  rw [if_neg (by omega), if_pos (Nat.le_refl _)]
  simp
theorem outK_all {X : List RSt} {i : Nat} {mid : List RSt} (h : i < X.length) : outK X i mid X.length = X.take i ++ mid ++ X.drop (i + 1) := by
  unfold outK
  rw [if_neg (by omega), List.take_of_length_le (l := X.drop (i + 1)) (by rw [List.length_drop]; omega)]
theorem outK_le (X : List RSt) (i : Nat) (x : RSt) (s : R4) (k : Nat) (hk : k ≤ X.length) : (outK X i (midR x s) k).length ≤ X.length := by
  unfold outK
  have hm : (midR x s).length ≤ 1 := by unfold midR; split <;> simp
  split
  · rw [List.length_take]; omega
  · simp only [List.length_append, List.length_take, List.length_drop]; omega
set_option maxHeartbeats 8000000 in
set_option maxRecDepth 100000 in
theorem ref_rdo (H : Sat G w l) (hv : RL (cellR G.ro) v X) (hX : X.length ≤ 1000) (i : Nat) (x : RSt) (hx : X[i]? = some x) (hg : x.s ∈ goods) (e : Nat) (he : e < 9) :
    Calls Tryd.prog 31 #[v, .int .i64 i, .int .i64 e] w fun y w' => ∃ u G', G.le G' ∧ y = .returned (.tuple #[u, .int .i64 (roDo X i x e).2]) ∧ RL (cellR G'.ro) u (roDo X i x e).1 ∧ Sat G' w' l := by
  refine calls_any fun K hK => ?_
  have hsm := (same_of x.s hg e he).good
  have hd := ref_do H x.s hg e he
  have hi := (List.getElem?_eq_some_iff.1 hx).1
  have hro : roDo X i x e = (X.take i ++ midR x (rDo x.s e).1 ++ X.drop (i + 1), (rDo x.s e).2) := rfl
  rw [hro] at hK
  clear hro
  generalize rDo x.s e = q at *
  obtain ⟨sn, wh⟩ := q
  simp only at hK hd hsm
  have hall := outK_all (mid := midR x sn) hi
  rw [← hall] at hK
  have hle := outK_le X i x sn
  have hnum := fun W => ref_number sn hsm W
  have hmid : midR x sn = if rNum sn = 4 then [] else [⟨x.id, x.t, sn⟩] := rfl
  obtain ⟨mid, hmd⟩ : ∃ mid, mid = midR x sn := ⟨_, rfl⟩
  rw [← hmd] at hK hle hmid
  clear hall hmd hsm
  obtain ⟨A, c, rfl, hlc, hc, h0, hel⟩ := id hv
  have HEL := Lib.hid hel
  have HLE := Lib.hid hle
  have HMID := Lib.hid hmid
  have HX := Lib.hid hx
  obtain ⟨g, o, rfl, hcl⟩ := hel i x hx
  have d2 := H.cellR (hcl 2 _ rfl)
  have d3 := H.cellR (hcl 3 _ rfl)
  have d4 := H.cellR (hcl 4 _ rfl)
  have d5 := H.cellR (hcl 5 _ rfl)
  clear hel h0 hv hx hcl hle hmid H
  obtain ⟨xid, xt, ⟨xb, xw, xtt, xr⟩⟩ := x
  obtain ⟨sb, sw, st, sr⟩ := sn
  simp only [R4.cells] at d2 d3 d4 d5 hd hnum
  obtain ⟨N, hN⟩ : ∃ N, N = X.length := ⟨_, rfl⟩
  rw [← hN] at hX hlc hi hK ⊢
  have HN := Lib.hid hN
  have hi2 : (i : Int) < (N : Int) := by omega
  clear hN
  go_enter Tryd.func31, Tryd.ntmps31
  go_wp2_with fail
  (with_reducible refine hd.mono ?_)
  clear hd d2 d3 d4 d5
  rintro e1 w1 ⟨rfl, S1⟩
  have S2 := S1.newBlk #[.int .i64 sb, .int .i64 sw, .int .i64 st, .int .i64 sr] 57
  clear S1
  go_upto_region 4 with fail
  generalize w1.heap.size = y at *
  refine wp_world S2 fun w2 S3 => ?_
  clear S2
  have S4 : Sat G w2 (ownS 59 6 (.slice none 0 0) (outK X i mid 0).length (encs renc (outK X i mid 0)) :: blk y #[.int .i64 sb, .int .i64 sw, .int .i64 st, .int .i64 sr] 57 :: l) := by rw [outK_zero]; exact S3.ownNil _ _
  clear S3
  go_loopw [10, 11] (fun u j wr => ∃ k : Nat, k ≤ N ∧ j = .int .i64 k ∧ Sat G wr (ownS 59 6 u (outK X i mid k).length (encs renc (outK X i mid k)) :: blk y #[.int .i64 sb, .int .i64 sw, .int .i64 st, .int .i64 sr] 57 :: l)) (fun _ j _ => N - (intOf j).toNat)
  case atStart => exact ⟨0, Nat.zero_le _, rfl, S4⟩
  case round =>
    obtain ⟨k, hk, rfl, S5⟩ := hrel
    clear S4
    by_cases hlt : k < N
    · obtain ⟨z, hz⟩ : ∃ z, X[k]? = some z := ⟨_, List.getElem?_eq_getElem (by rw [← HN.out]; exact hlt)⟩
      obtain ⟨g', o', e', hcl⟩ := HEL.out k z hz
      cases e'
      have d0 := S5.cellR (hcl 0 _ rfl)
      have d1 := S5.cellR (hcl 1 _ rfl)
      have d2 := S5.cellR (hcl 2 _ rfl)
      have d3 := S5.cellR (hcl 3 _ rfl)
      have d4 := S5.cellR (hcl 4 _ rfl)
      have d5 := S5.cellR (hcl 5 _ rfl)
      simp only [Nat.add_zero] at d0
      have HZ := Lib.hid hz
      have hlt2 : (k : Int) < (N : Int) := by omega
      have hll := HLE.out k (by rw [← HN.out]; omega)
      have S6 := S5.newBlk (renc z).toArray 59
      simp only [renc] at S6
      clear hcl hz S5
      go_upto_region 7 with fail
      generalize wr.heap.size = p at *
      refine wp_world S6 fun w3 S7 => ?_
      clear S6 d0 d1 d2 d3 d4 d5
      by_cases hki : k = i
      · subst hki
        have hzx := HZ.out.symm.trans HX.out
        simp only [Option.some.injEq] at hzx
        subst hzx
        simp only at S7
        have hkb : ((k : Int) == (k : Int)) = true := beq_self_eq_true _
        have b0 := (S7.re [2, 0, 1]).cell 0
        have b1 := (S7.re [2, 0, 1]).cell 1
        have b2 := (S7.re [2, 0, 1]).cell 2
        have b3 := (S7.re [2, 0, 1]).cell 3
        have d2 := S7.cell 2
        have d3 := S7.cell 3
        have d4 := S7.cell 4
        have d5 := S7.cell 5
        have f2 := S7.frozen 2
        have f3 := S7.frozen 3
        have f4 := S7.frozen 4
        have f5 := S7.frozen 5
        have S8 := (((S7.setCell 2 (.int .i64 sb)).setCell 3 (.int .i64 sw)).setCell 4 (.int .i64 st)).setCell 5 (.int .i64 sr)
        replace S8 : Sat G _ (blk p (renc ⟨xid, xt, ⟨sb, sw, st, sr⟩⟩).toArray 59 :: _) := S8
        simp only [renc] at S8
        clear S7
        go_upto_region 9 with fail
        clear d2 d3 d4 d5 f2 f3 f4 f5 b0 b1 b2 b3
        refine wp_world S8 fun w4 S9 => ?_
        clear S8
        have b0 := (S9.re [2, 0, 1]).cell 0
        have b1 := (S9.re [2, 0, 1]).cell 1
        have b2 := (S9.re [2, 0, 1]).cell 2
        have b3 := (S9.re [2, 0, 1]).cell 3
        by_cases h4 : rNum ⟨sb, sw, st, sr⟩ = 4
        · have hm4 : mid = [] := by rw [HMID.out, if_pos h4]
          rw [h4] at hnum
          have HS := Lib.hid S9
          clear S9
          go_wp2_with fail
          (with_reducible refine (hnum _).mono ?_)
          rintro e1 w5 ⟨rfl, rfl⟩
          go_wp2_with fail
          go_roundw
          case rel => exact ⟨k + 1, by omega, by go_num, by
            rw [outK_self, hm4, List.append_nil, ← hm4]
            exact (HS.out.alloc _).drop⟩
          case measure => simp [intOf]; omega
        · have hm4 : mid = [⟨xid, xt, ⟨sb, sw, st, sr⟩⟩] := by rw [HMID.out, if_neg h4]
          have h4b : (rNum ⟨sb, sw, st, sr⟩ == 4) = false := beq_eq_false_iff_ne.2 h4
          generalize rNum ⟨sb, sw, st, sr⟩ = nn at *
          go_wp2_with fail
          (with_reducible refine (hnum _).mono ?_)
          rintro e1 w5 ⟨rfl, hw5⟩
          have S10 := S9.alloc (.cells #[.int .i64 sb, .int .i64 sw, .int .i64 st, .int .i64 sr] 57)
          rw [← hw5] at S10
          clear S9 b0 b1 b2 b3 hw5 hnum
          have d0 := S10.cell 0
          have d1 := S10.cell 1
          have d2 := S10.cell 2
          have d3 := S10.cell 3
          have d4 := S10.cell 4
          have d5 := S10.cell 5
          have S11 := (S10.alloc (.cells (renc (⟨xid, xt, ⟨sb, sw, st, sr⟩⟩ : RSt)).toArray 59)).re [1, 0, 2]
          have hv3 := rl_new (⟨xid, xt, ⟨sb, sw, st, sr⟩⟩ : RSt) w5 _ rfl
          simp only [renc] at S11 hv3
          have hLb2 : (outK X k mid k).length + ([⟨xid, xt, ⟨sb, sw, st, sr⟩⟩] : List RSt).length ≤ 100000 := by simp only [List.length_cons, List.length_nil]; rw [← HN.out] at hll; omega
          clear S10
          go_wp2_with (at_builtin; refine st_appL S11 rfl _ _ rfl rfl rfl hv3 hLb2 ?_; clear S11 hv3 d0 d1 d2 d3 d4 d5; intro v2 w7 S12)
          have e2 : (outK X k mid k).length + ([⟨xid, xt, ⟨sb, sw, st, sr⟩⟩] : List RSt).length = (outK X k mid (k + 1)).length := by rw [outK_self, hm4, List.length_append]
          have e3 : encs renc (outK X k mid k) ++ encs renc [(⟨xid, xt, ⟨sb, sw, st, sr⟩⟩ : RSt)] = encs renc (outK X k mid (k + 1)) := by rw [outK_self, hm4, encs_append]
          rw [e2, e3] at S12
          have HS := Lib.hid S12
          clear S12 e2 e3
          go_roundw
          case rel => exact ⟨k + 1, by omega, by go_num, (HS.out.re [1, 0, 2]).drop⟩
          case measure => simp [intOf]; omega
      · have hkb : ((k : Int) == (i : Int)) = false := beq_eq_false_iff_ne.2 (by omega)
        have S10 := S7
        clear S7
        have d0 := S10.cell 0
        have d1 := S10.cell 1
        have d2 := S10.cell 2
        have d3 := S10.cell 3
        have d4 := S10.cell 4
        have d5 := S10.cell 5
        have S11 := (S10.alloc (.cells (renc z).toArray 59)).re [1, 0, 2]
        have hv3 := rl_new z w3 _ rfl
        simp only [renc] at S11 hv3
        have hLb2 : (outK X i mid k).length + [z].length ≤ 100000 := by simp only [List.length_cons, List.length_nil]; rw [← HN.out] at hll; omega
        clear S10
        go_wp2_with (at_builtin; refine st_appL S11 rfl _ _ rfl rfl rfl hv3 hLb2 ?_; clear S11 hv3 d0 d1 d2 d3 d4 d5; intro v2 w7 S12)
        have e2 : (outK X i mid k).length + [z].length = (outK X i mid (k + 1)).length := by rw [outK_other HZ.out hki, List.length_append]
        have e3 : encs renc (outK X i mid k) ++ encs renc [z] = encs renc (outK X i mid (k + 1)) := by rw [outK_other HZ.out hki, encs_append]
        rw [e2, e3] at S12
        have HS := Lib.hid S12
        clear S12 e2 e3
        go_roundw
        case rel => exact ⟨k + 1, by omega, by go_num, (HS.out.re [1, 0, 2]).drop⟩
        case measure => simp [intOf]; omega
    · obtain rfl : k = N := by omega
      obtain ⟨G', hG, S6, hr⟩ := S5.rl
      have HF := Lib.hid (And.intro hG (And.intro hr S6.drop))
      clear S5 S6 hr hG
      go_wp2_with fail
      exact hK.out _ _ ⟨_, G', HF.out.1, rfl, HF.out.2.1, HF.out.2.2⟩
end
end Go.Proofs.YtecnddhfjjnbkaaDoor

/- An event: the walk. -/
import Derived.Test.YtecnddhfjjnbkaaDoorRun
import Derived.Test.YtecnddhfjjnbkaaDoorPerm
set_option linter.unusedSimpArgs false
set_option linter.unusedVariables false
namespace Go.Proofs.YtecnddhfjjnbkaaDoor
open Go.RowKit

/-- The table lies in the ground. -/
def TabG (G : Gnd) : Prop := ∀ k, k < 45 → cellR G.ro ⟨0, k, none⟩ = some (.int .i64 (tabL.getD k 0))
theorem TabG.mono {G G' : Gnd} (h : TabG G) (hG : G.le G') : TabG G' := fun k hk => cellR_mono hG.ro (h k hk)
theorem TabG.of {w : World} (h : TabW w) : TabG (Gnd.of w) := fun k hk => h k hk
theorem Sat.tab {G : Gnd} {w : World} {l : List Asrt} (H : Sat G w l) (h : TabG G) : TabW w := fun k hk => H.cellR (h k hk)
/-- A run that lies within a block, behind `pre`. -/
def runD (pre : List Value) (n : Int) (C : List Int) (post : List Value) : Array Value := (pre ++ (Value.int .i64 n :: (ints C ++ post))).toArray
theorem runD_at0 (pre : List Value) (n : Int) (C : List Int) (post : List Value) {off : Nat} (ho : pre.length = off) : (runD pre n C post)[off]? = some (.int .i64 n) := by
  subst ho
  simp [runD]
theorem runD_get (pre : List Value) (n : Int) (C : List Int) (post : List Value) {off : Nat} (ho : pre.length = off) (k : Nat) (h : k < C.length) : (runD pre n C post)[off + 1 + k]? = some (.int .i64 (C.getD k 0)) := by
  subst ho
  rw [Nat.add_assoc]
  have e : (pre ++ (Value.int .i64 n :: (ints C ++ post)))[pre.length + (1 + k)]? = (Value.int .i64 n :: (ints C ++ post))[1 + k]? := by
    rw [List.getElem?_append_right (by omega)]; congr 1; omega
  simp only [runD, List.getElem?_toArray, e]
  rw [Nat.add_comm 1 k, List.getElem?_cons_succ, List.getElem?_append_left (by simpa [ints] using h)]
  simp [ints, h]
theorem runD_set (pre : List Value) (n : Int) (C : List Int) (post : List Value) {off : Nat} (ho : pre.length = off) (k : Nat) (h : k < C.length) (x : Int) : (runD pre n C post).setIfInBounds (off + 1 + k) (.int .i64 x) = runD pre n (C.set k x) post := by
  subst ho
  rw [Nat.add_assoc]
  have hi : k < (ints C).length := by simpa [ints] using h
  simp only [runD, List.setIfInBounds_toArray]
  rw [List.set_append_right _ _ (by omega), show pre.length + (1 + k) - pre.length = k + 1 by omega, List.set_cons_succ, List.set_append_left _ _ hi]
  simp [ints, List.map_set]
theorem runD_at (pre : List Value) (n m : Int) (C : List Int) (post : List Value) {off : Nat} (ho : pre.length = off) : (runD pre n C post).setIfInBounds off (.int .i64 m) = runD pre m C post := by
  subst ho
  simp [runD]
def runO (r : Nat) (t : TypeId) (pre : List Value) (n : Int) (C : List Int) (post : List Value) : Asrt := blk r (runD pre n C post) t
structure PRes where
  n : Int
  err : Int
  code : Int
  conn : Bool
  cnt : Bool
def pDo (n e : Int) : PRes :=
  if eSends e then (if (sSend n e).2 = 0 then ⟨(sSend n e).1, 0, 0, false, true⟩ else ⟨n, (sSend n e).2, 0, false, false⟩)
  else if eGets e then ⟨(sGet n e).1, 0, (sGet n e).2.1, (sGet n e).2.2, (sGet n e).2.1 == 0 && !(sGet n e).2.2⟩
  else ⟨n, 11, 0, false, false⟩
def bump (C : List Int) (e : Int) (b : Bool) : List Int := if b then C.set e.toNat (C.getD e.toNat 0 + 1) else C
section
variable {G : Gnd} {w : World} {l : List Asrt} {r off : Nat} {n : Int} {C : List Int} {pre post : List Value} {t : TypeId}
set_option maxHeartbeats 4000000 in
set_option maxRecDepth 100000 in
theorem rn_do (H : Sat G w (runO r t pre n C post :: l)) (hoff : pre.length = off) (ht : TabG G) (hC : C.length = 9) (hb : ∀ x ∈ C, 0 ≤ x ∧ x ≤ 1000) (e : Int) :
    Calls Tryd.prog 24 #[.pointer (some ⟨r, off, none⟩), .int .i64 e] w fun x w' => x = .returned (.tuple #[.int .i64 (pDo n e).err, .agg #[.int .i64 (pDo n e).code, .bool (pDo n e).conn]]) ∧ Sat G w' (runO r t pre (pDo n e).n (bump C e (pDo n e).cnt) post :: l) := by
  refine calls_any fun K hK => ?_
  have h1 := fun W => ev_sends e W
  have h2 := fun W => ev_gets e W
  have S1 := H.newBlk #[.int .i64 0, .bool false] 41
  have HO := Lib.hid hoff
  cases hs : eSends e with
  | true =>
    rw [hs] at h1
    obtain ⟨e0, e1⟩ := of_decide_eq_true hs
    obtain ⟨e, rfl⟩ : ∃ j : Nat, e = j := ⟨e.toNat, by omega⟩
    have hsd := st_send n e _ (S1.tab ht)
    have hp : pDo n e = if (sSend n e).2 = 0 then ⟨(sSend n e).1, 0, 0, false, true⟩ else ⟨n, (sSend n e).2, 0, false, false⟩ := by unfold pDo; rw [hs]; rfl
    rw [hp] at hK
    clear h2 hs hp
    generalize sSend n e = q at *
    obtain ⟨to, er⟩ := q
    simp only at hK hsd
    have c0 : (w.alloc (.cells #[.int .i64 0, .bool false] 41)).cell? ⟨r, off, none⟩ = some (.int .i64 n) := (Sat.cell S1.swap off).trans (runD_at0 _ _ _ _ hoff)
    by_cases her : er = 0
    · subst her
      rw [if_pos rfl] at hK
      have hce := hb _ (List.getElem_mem (show e < C.length by omega))
      have S2 := Sat.setCell S1.swap off (.int .i64 to)
      rw [runD_at _ _ _ _ _ hoff] at S2
      have f0 := Sat.frozen S1.swap off
      clear H
      go_enter Tryd.func24, Tryd.ntmps24
      go_wp2_with fail
      (with_reducible refine (h1 _).mono ?_)
      rintro x w1 ⟨rfl, rfl⟩
      go_wp2_with fail
      (with_reducible refine (h1 _).mono ?_)
      rintro x w1 ⟨rfl, rfl⟩
      clear h1
      go_wp2_with fail
      (with_reducible refine hsd.mono ?_)
      rintro x w1 ⟨rfl, rfl⟩
      clear hsd
      go_upto_region 8 with fail
      generalize w.heap.size = a at *
      refine wp_world S2 fun W S3 => ?_
      clear S1 S2 c0 f0
      have S4 := S3.drew
      have c0 := (Sat.cell S3 (off + 1 + e)).trans (runD_get pre to C post HO.out e (by omega))
      have c1 := (Sat.cell S4 (off + 1 + e)).trans (runD_get pre to C post HO.out e (by omega))
      have f1 := Sat.frozen S4 (off + 1 + e)
      have HS := Lib.hid (Sat.setCell S4 (off + 1 + e) (.int .i64 (C.getD e 0 + 1)))
      have hx : 0 ≤ C.getD e 0 ∧ C.getD e 0 ≤ 1000 := by rw [List.getD_eq_getElem?_getD, List.getElem?_eq_getElem (by omega)]; exact hce
      have hbm : bump C e true = C.set e (C.getD e 0 + 1) := rfl
      rw [hbm] at hK
      obtain ⟨hx0, hx1⟩ := hx
      clear hce hb S3 S4 hbm
      rw [runD_set _ _ _ _ HO.out _ (by omega)] at HS
      generalize C.getD e 0 = x at *
      have hlt : e < 9 := by omega
      have hlt2 : (e : Int) < 9 := by omega
      go_still_tail 10, (by kernel_rfl)
      change wpList _ _ _ _ _ W.drew
      have hwr : IntKind.i64.wrap (x + 1) = x + 1 := IntWalk.i64_in _ (by omega)
      go_upto_region 9 with fail
      rw [hwr]
      refine wp_world HS.out fun W2 S5 => ?_
      clear c0 c1 f1 HS hwr
      have S6 := S5.swap
      have d0 := S6.cell 0
      have d1 := S6.cell 1
      have g0 := S6.frozen 0
      have g1 := S6.frozen 1
      have S7 := (S6.setCell 0 (.int .i64 0)).setCell 1 (.bool false)
      change Sat _ _ (blk a #[.int .i64 0, .bool false] _ :: _) at S7
      clear S5 S6
      go_wp2_with fail
      refine bodyPost_ret (results_t_cell rfl _ _ _ _ _ _ rfl (S7).blk_at Tryd.underlying41 rfl (by kernel_rfl)) rfl ?_
      exact hK.out _ _ ⟨rfl, S7.drop⟩
    · rw [if_neg her] at hK
      have herb : (er != 0) = true := by simpa using her
      have HST := Lib.hid fun (cs : Array Value) => H.newBlk cs 41
      clear H her S1 hb
      go_enter Tryd.func24, Tryd.ntmps24
      go_wp2_with fail
      (with_reducible refine (h1 _).mono ?_)
      rintro x w1 ⟨rfl, rfl⟩
      go_wp2_with fail
      (with_reducible refine (h1 _).mono ?_)
      rintro x w1 ⟨rfl, rfl⟩
      clear h1
      go_wp2_with fail
      (with_reducible refine hsd.mono ?_)
      rintro x w1 ⟨rfl, rfl⟩
      clear hsd
      go_wp2_with fail
      refine bodyPost_ret (results_t_cell rfl _ _ _ _ _ _ rfl (HST.out #[.int .i64 0, .bool false]).blk_at Tryd.underlying41 rfl (by kernel_rfl)) rfl ?_
      exact hK.out _ _ ⟨rfl, (HST.out #[.int .i64 0, .bool false]).drop⟩
  | false =>
    rw [hs] at h1
    cases hg : eGets e with
    | false =>
      rw [hg] at h2
      rw [show pDo n e = ⟨n, 11, 0, false, false⟩ by unfold pDo; rw [hs, hg]; rfl] at hK
      have HST := Lib.hid fun (cs : Array Value) => H.newBlk cs 41
      clear H S1 hb
      go_enter Tryd.func24, Tryd.ntmps24
      go_wp2_with fail
      (with_reducible refine (h1 _).mono ?_)
      rintro x w1 ⟨rfl, rfl⟩
      go_wp2_with fail
      (with_reducible refine (h2 _).mono ?_)
      rintro x w1 ⟨rfl, rfl⟩
      go_wp2_with fail
      refine bodyPost_ret (results_t_cell rfl _ _ _ _ _ _ rfl (HST.out #[.int .i64 0, .bool false]).blk_at Tryd.underlying41 rfl (by kernel_rfl)) rfl ?_
      exact hK.out _ _ ⟨rfl, (HST.out #[.int .i64 0, .bool false]).drop⟩
    | true =>
      rw [hg] at h2
      obtain ⟨e0, e1⟩ := of_decide_eq_true hg
      obtain ⟨e, rfl⟩ : ∃ j : Nat, e = j := ⟨e.toNat, by omega⟩
      have hgt := sta_get S1 n e (S1.tab ht)
      have hp : pDo n e = ⟨(sGet n e).1, 0, (sGet n e).2.1, (sGet n e).2.2, (sGet n e).2.1 == 0 && !(sGet n e).2.2⟩ := by unfold pDo; rw [hs, hg]; rfl
      rw [hp] at hK
      clear hs hp hg
      generalize sGet n e = q at *
      obtain ⟨to, cd, cn⟩ := q
      simp only at hK hgt
      have c0 : (w.alloc (.cells #[.int .i64 0, .bool false] 41)).cell? ⟨r, off, none⟩ = some (.int .i64 n) := (Sat.cell S1.swap off).trans (runD_at0 _ _ _ _ hoff)
      have hlt : e < 9 := by omega
      have hlt2 : (e : Int) < 9 := by omega
      have hce := hb _ (List.getElem_mem (show e < C.length by omega))
      have hx : 0 ≤ C.getD e 0 ∧ C.getD e 0 ≤ 1000 := by rw [List.getD_eq_getElem?_getD, List.getElem?_eq_getElem (by omega)]; exact hce
      clear H S1 hb hce
      go_enter Tryd.func24, Tryd.ntmps24
      go_wp2_with fail
      (with_reducible refine (h1 _).mono ?_)
      rintro x w1 ⟨rfl, rfl⟩
      go_wp2_with fail
      (with_reducible refine (h2 _).mono ?_)
      rintro x w1 ⟨rfl, rfl⟩
      go_wp2_with fail
      (with_reducible refine (h1 _).mono ?_)
      rintro x w1 ⟨rfl, rfl⟩
      clear h1 h2
      go_wp2_with fail
      (with_reducible refine hgt.mono ?_)
      rintro x w1 ⟨rfl, S2⟩
      clear hgt c0
      generalize w.heap.size = a at *
      have S3 := S2.newBlk #[.int .i64 cd, .bool cn] 41
      clear S2
      go_upto_region 11 with fail
      generalize w1.heap.size = b at *
      refine wp_world S3 fun w2 S4 => ?_
      clear S3
      have S5 := S4.pull2
      have c0 : w2.cell? ⟨r, off, none⟩ = some (.int .i64 n) := (Sat.cell S5 off).trans (runD_at0 _ _ _ _ HO.out)
      have f0 := Sat.frozen S5 off
      have S6 := Sat.setCell S5 off (.int .i64 to)
      rw [runD_at _ _ _ _ _ HO.out] at S6
      clear S4 S5
      go_upto_region 12 with fail
      refine wp_world S6 fun w3 S7 => ?_
      clear c0 f0 S6
      have b0 := S7.swap.cell 0
      have b1 := S7.swap.cell 1
      have hok := fa_ok S7 cd cn
      clear S7
      go_wp2_with fail
      (with_reducible refine hok.mono ?_)
      rintro x w4 ⟨rfl, S8⟩
      clear hok b0 b1
      have e0' : (cd == 0 && !cn) = (cd == 0 && !cn) := rfl
      cases hq : (cd == 0 && !cn) with
      | true =>
        rw [hq] at hK
        rw [show bump C e true = C.set e (C.getD e 0 + 1) from rfl] at hK
        have S9 := S8.drew
        have c0 := (Sat.cell S8 (off + 1 + e)).trans (runD_get pre to C post HO.out e (by omega))
        have c1 := (Sat.cell S9 (off + 1 + e)).trans (runD_get pre to C post HO.out e (by omega))
        have f1 := Sat.frozen S9 (off + 1 + e)
        have HS := Lib.hid (Sat.setCell S9 (off + 1 + e) (.int .i64 (C.getD e 0 + 1)))
        obtain ⟨hx0, hx1⟩ := hx
        rw [runD_set _ _ _ _ HO.out _ (by omega)] at HS
        generalize hC2 : C.set e (C.getD e 0 + 1) = C2 at *
        clear hC2
        generalize C.getD e 0 = x at *
        have hwr : IntKind.i64.wrap (x + 1) = x + 1 := IntWalk.i64_in _ (by omega)
        clear S8 S9 e0'
        go_upto_region 13 with fail
        go_still_tail 10, (by kernel_rfl)
        change wpList _ _ _ _ _ w4.drew
        go_upto_region 14 with fail
        refine wp_world HS.out fun W2 T => ?_
        have T1 := T.pull2
        change Sat _ _ (_ :: _ :: _) at T1
        clear c0 c1 f1 HS hwr T
        have T1 := T1.re [0, 2, 1]
        refine wp_act fun a0 ha0 => ?_
        have HSZ : a0.tmps.size = 75 := by rw [ha0]; rfl
        have E9 : a0.eval (.tmp 9) = .pointer (some ⟨b, 0, none⟩) := by rw [ha0]; rfl
        have E5 : a0.eval (.tmp 5) = .pointer (some ⟨a, 0, none⟩) := by rw [ha0]; rfl
        refine wp_region_sat (by kernel_rfl) 3 (by kernel_rfl) [[], [], [0, 1, 0, 1]] (by kernel_rfl) (by kernel_rfl) [(0, 74, .agg #[.int .i64 cd, .bool cn]), (1, 4, .int .i64 0)] (fun f => blk a (cond (f 2) #[.int .i64 cd, .bool cn] #[.int .i64 0, .bool false]) 41 :: blk b #[.int .i64 cd, .bool cn] 41 :: runO r t pre to C2 post :: l) (by kernel_rfl) T1 ?_ ?_
        · refine ⟨?_, ?_, ?_, trivial⟩
          · intro f W h0 hd S
            refine wpOp_list rfl ?_
            refine st_load rfl _ _ rfl _ ((acts_eval_tmp 9 (by kernel_rfl)).trans E9) _ _ (S.swap) _ rfl rfl rfl ?_
            exact ⟨(acts_some 0 rfl (by kernel_rfl) (by kernel_rfl)).symm, S⟩
          · intro f W h1 hd S
            refine wpOp_run (v := .int .i64 0) rfl rfl (fun ρ hρ => ?_) ⟨(acts_some 1 rfl (by kernel_rfl) (by kernel_rfl)).symm, S⟩
            have ec : ∀ v, ρ (.const v) = v := by rw [hρ]; exact fun _ => rfl
            clear hρ
            go_simp
          · intro f W h2 hd S
            rw [h2] at S
            refine wpOp_list rfl ?_
            refine st_store rfl _ _ _ rfl _ _ ((acts_eval_tmp 5 (by kernel_rfl)).trans E5) (acts_eval_hit 0 rfl hd.1 (by rw [HSZ]; rfl) (by kernel_rfl)) _ _ (S) rfl rfl (by simp [Value.oneCell']) fun W' S' => ?_
            exact ⟨(acts_none 2 (by kernel_rfl)).symm, S'⟩
        intro W3 T2
        subst ha0
        simp only [acts, if_true, Act.put, List.setIfInBounds_toArray, List.set_cons_succ, List.set_cons_zero]
        change Sat _ _ (blk a #[.int .i64 cd, .bool cn] _ :: _) at T2
        have HT2 := Lib.hid T2
        clear T2 T1 HSZ E9 E5
        go_wp2_with fail
        refine bodyPost_ret (results_t_cell rfl _ _ _ _ _ _ rfl (HT2.out).blk_at Tryd.underlying41 rfl (by kernel_rfl)) rfl ?_
        exact hK.out _ _ ⟨rfl, HT2.out.drop.drop⟩
      | false =>
        rw [hq] at hK
        rw [show bump C e false = C from rfl] at hK
        clear e0'
        go_upto_region 14 with fail
        have T1 := S8.re [2, 1, 0]
        clear S8
        refine wp_act fun a0 ha0 => ?_
        have HSZ : a0.tmps.size = 75 := by rw [ha0]; rfl
        have E9 : a0.eval (.tmp 9) = .pointer (some ⟨b, 0, none⟩) := by rw [ha0]; rfl
        have E5 : a0.eval (.tmp 5) = .pointer (some ⟨a, 0, none⟩) := by rw [ha0]; rfl
        refine wp_region_sat (by kernel_rfl) 3 (by kernel_rfl) [[], [], [0, 1, 0, 1]] (by kernel_rfl) (by kernel_rfl) [(0, 74, .agg #[.int .i64 cd, .bool cn]), (1, 4, .int .i64 0)] (fun f => blk a (cond (f 2) #[.int .i64 cd, .bool cn] #[.int .i64 0, .bool false]) 41 :: blk b #[.int .i64 cd, .bool cn] 41 :: runO r t pre to C post :: l) (by kernel_rfl) T1 ?_ ?_
        · refine ⟨?_, ?_, ?_, trivial⟩
          · intro f W h0 hd S
            refine wpOp_list rfl ?_
            refine st_load rfl _ _ rfl _ ((acts_eval_tmp 9 (by kernel_rfl)).trans E9) _ _ (S.swap) _ rfl rfl rfl ?_
            exact ⟨(acts_some 0 rfl (by kernel_rfl) (by kernel_rfl)).symm, S⟩
          · intro f W h1 hd S
            refine wpOp_run (v := .int .i64 0) rfl rfl (fun ρ hρ => ?_) ⟨(acts_some 1 rfl (by kernel_rfl) (by kernel_rfl)).symm, S⟩
            have ec : ∀ v, ρ (.const v) = v := by rw [hρ]; exact fun _ => rfl
            clear hρ
            go_simp
          · intro f W h2 hd S
            rw [h2] at S
            refine wpOp_list rfl ?_
            refine st_store rfl _ _ _ rfl _ _ ((acts_eval_tmp 5 (by kernel_rfl)).trans E5) (acts_eval_hit 0 rfl hd.1 (by rw [HSZ]; rfl) (by kernel_rfl)) _ _ (S) rfl rfl (by simp [Value.oneCell']) fun W' S' => ?_
            exact ⟨(acts_none 2 (by kernel_rfl)).symm, S'⟩
        intro W3 T2
        subst ha0
        simp only [acts, if_true, Act.put, List.setIfInBounds_toArray, List.set_cons_succ, List.set_cons_zero]
        change Sat _ _ (blk a #[.int .i64 cd, .bool cn] _ :: _) at T2
        have HT2 := Lib.hid T2
        clear T2 T1 HSZ E9 E5
        go_wp2_with fail
        refine bodyPost_ret (results_t_cell rfl _ _ _ _ _ _ rfl (HT2.out).blk_at Tryd.underlying41 rfl (by kernel_rfl)) rfl ?_
        exact hK.out _ _ ⟨rfl, HT2.out.drop.drop⟩
end
end Go.Proofs.YtecnddhfjjnbkaaDoor

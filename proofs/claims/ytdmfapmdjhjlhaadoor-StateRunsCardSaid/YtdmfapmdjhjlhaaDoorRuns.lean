/- The walk of the law StateRuns. -/
import Derived.Test.YtdmfapmdjhjlhaaDoorLaid
import Derived.Test.YtdmfapmdjhjlhaaDoorPerm
set_option linter.unusedSimpArgs false
set_option linter.unusedVariables false
namespace Go.Proofs.YtdmfapmdjhjlhaaDoor
open Go.RowKit

theorem ints_get {C : List Int} {k : Nat} (h : k < C.length) : (ints C).toArray[k]? = some (.int .i64 (C.getD k 0)) := by
  simp [ints, h]
theorem ints_set (C : List Int) (k : Nat) (x : Int) : (ints C).toArray.setIfInBounds k (.int .i64 x) = (ints (C.set k x)).toArray := by
  simp [ints, List.map_set]
set_option maxHeartbeats 4000000 in
set_option maxRecDepth 100000 in
theorem stateRuns_walk (w : World) (v0 : Value) (h0 : ∃ d, ArgV w (.sl 8 (.int .i64)) v0 d) (htw : TabW w) :
    Calls Tryd.prog 3 #[v0] w fun e w' => e = .returned (.bool true) ∧ Below w.heap.size w w' := by
  refine calls_any fun K hK => ?_
  have ht := TabG.of htw
  obtain ⟨_, h0⟩ := h0
  obtain ⟨l, h0⟩ := arg_sl h0
  obtain ⟨es, h0⟩ := ints_of h0
  change RInts (Gnd.of w).ro v0 es at h0
  obtain ⟨A, c, rfl, hlc, hc, hel⟩ := h0
  have HEL := Lib.hid hel
  clear hel htw
  have hnew := rn_new (Sat.start w)
  by_cases hlen : 200 < (es.length : Int)
  · go_enter Tryd.func3, Tryd.ntmps3
    go_wp2_with fail
    (with_reducible refine hnew.mono ?_)
    rintro y w1 ⟨r, rfl, S1⟩
    clear hnew
    go_wp2_with fail
    (with_reducible refine (law_awake (S1.drop) ht).mono ?_); rintro y w9 ⟨rfl, S9⟩; go_wp2_with fail; exact hK.out _ _ ⟨rfl, S9.above Gnd.le.rfl'⟩
  go_enter Tryd.func3, Tryd.ntmps3
  go_wp2_with fail
  (with_reducible refine hnew.mono ?_)
  clear hnew
  rintro y w1 ⟨r, rfl, S1⟩
  have hrn := ref_new S1
  clear S1
  go_wp2_with fail
  (with_reducible refine hrn.mono ?_)
  clear hrn
  rintro y w2 ⟨rfl, S2⟩
  have S3 := (S2.newBlk (R4.cells ⟨0, 1, 1, 0⟩) 27).newBlk (ints [0, 0, 0, 0, 0, 0, 0, 0, 0]).toArray 29
  clear S2
  simp only [World.size_alloc] at S3
  simp only [R4.cells]
  go_wp2_with fail
  generalize w2.heap.size + 1 = b at *
  generalize w2.heap.size = a at *
  go_loopw [27] (fun i wr => ∃ (k : Nat) (x : R4) (C : List Int), k ≤ es.length ∧ i = .int .i64 k ∧ x ∈ goods ∧ C.length = 9 ∧ (∀ y ∈ C, 0 ≤ y ∧ y ≤ (k : Int)) ∧ Sat (Gnd.of w) wr [blk b (ints C).toArray 29, blk a x.cells 27, runA r (rNum x) C]) (fun i _ => es.length - (intOf i).toNat)
  case atStart => exact ⟨0, ⟨0, 1, 1, 0⟩, [0, 0, 0, 0, 0, 0, 0, 0, 0], Nat.zero_le _, rfl, by decide, rfl, by decide, S3⟩
  case round =>
    obtain ⟨k, x, C, hk, rfl, hx, hC, hCr, S⟩ := hrel
    clear S3
    by_cases hlt : k < es.length
    · obtain ⟨ad, bo, off, rfl, had, d0, -⟩ := HEL.out k hlt
      have c0 := S.cellR d0
      have hdo := rn_do S.pull2 ht hC (fun y hy => by have := hCr y hy; omega) (es.getD k 0)
      generalize es.getD k 0 = e at *
      clear d0
      by_cases hfar : e < 0 ∨ 8 < e
      · rw [far _ _ hfar] at hdo
        have hcn := cnt_far (C := C) hfar
        simp only at hdo
        rw [show bump C e false = C from rfl] at hdo
        have hcl : Hid (∀ y ∈ C, 0 ≤ y ∧ y ≤ ((k + 1 : Nat) : Int)) := Lib.hid fun y hy => by have := hCr y hy; omega
        have hfar2 : (e < 0) ∨ (¬ e < 0 ∧ 8 < e) := by omega
        clear hCr hfar
        have HX := Lib.hid hx
        clear hx S
        rcases hfar2 with a1 | ⟨a1, a2⟩
        · go_wp2_with fail
          (with_reducible refine hdo.mono ?_)
          clear hdo
          rintro y w3 ⟨rfl, S4⟩
          have S5 := S4.newBlk #[.int .i64 0, .bool false] 33
          have e0 := S5.cell 0
          have e1 := S5.cell 1
          have hok := fa_ok S5 0 false
          clear S4
          go_wp2_with fail
          (with_reducible refine hok.mono ?_)
          clear hok e0 e1 S5
          rintro y w4 ⟨rfl, S6⟩
          have hct := rn_count S6.swap hC e
          rw [hcn] at hct
          go_wp2_with fail
          (with_reducible refine hct.mono ?_)
          clear hct
          rintro y w5 ⟨rfl, rfl⟩
          go_wp2_with fail
          go_roundw
          case rel => exact ⟨k + 1, x, C, by omega, by go_num, HX.out, hC, hcl.out, S6.drop.push2⟩
          case measure => simp [intOf]; omega
        · go_wp2_with fail
          (with_reducible refine hdo.mono ?_)
          clear hdo
          rintro y w3 ⟨rfl, S4⟩
          have S5 := S4.newBlk #[.int .i64 0, .bool false] 33
          have e0 := S5.cell 0
          have e1 := S5.cell 1
          have hok := fa_ok S5 0 false
          clear S4
          go_wp2_with fail
          (with_reducible refine hok.mono ?_)
          clear hok e0 e1 S5
          rintro y w4 ⟨rfl, S6⟩
          have hct := rn_count S6.swap hC e
          rw [hcn] at hct
          go_wp2_with fail
          (with_reducible refine hct.mono ?_)
          clear hct
          rintro y w5 ⟨rfl, rfl⟩
          go_wp2_with fail
          go_roundw
          case rel => exact ⟨k + 1, x, C, by omega, by go_num, HX.out, hC, hcl.out, S6.drop.push2⟩
          case measure => simp [intOf]; omega
      · obtain ⟨e, rfl⟩ : ∃ j : Nat, e = j := ⟨e.toNat, by omega⟩
        have he : e < 9 := by omega
        have hsm := same_of x hx e he
        have hrd := fun {W : World} {l : List Asrt} (S : Sat (Gnd.of w) W l) => ref_do S x hx e he
        obtain ⟨q1, q2, q3, q4, q5, q6⟩ := hsm
        have hnu := fun W => ref_number _ q1 W
        have HG := Lib.hid q1
        have hbl := bump_len C e (pDo (rNum x) e).cnt
        have HBR := Lib.hid (bump_range (k := (k : Int)) hCr (by omega) e (pDo (rNum x) e).cnt)
        have hce := hCr (C.getD e 0) (by rw [List.getD_eq_getElem?_getD, List.getElem?_eq_getElem (by omega)]; exact List.getElem_mem _)
        have hbd : bump C e (pDo (rNum x) e).cnt = if ((rDo x e).2 == 0) = true then C.set e (C.getD e 0 + 1) else C := by rw [q6]; rfl
        obtain ⟨hce0, hce1⟩ := hce
        clear hCr hx q1
        unfold codeOk at q4
        generalize hpp : pDo (rNum x) e = pp at *
        clear hpp
        obtain ⟨pn, pe, pc, pk, pb⟩ := pp
        simp only at hdo q2 q3 q4 q5 q6 hbl hbd HBR
        subst q5
        subst q6
        generalize hqq : rDo x e = qq at *
        clear hqq
        obtain ⟨⟨yb, yw, yt, yr⟩, q⟩ := qq
        simp only [R4.cells] at hrd hnu q2 q3 q4 HG hdo hbl hbd HBR
        subst q2
        obtain ⟨xb, xw, xt, xr⟩ := x
        simp only [R4.cells] at hrd S
        have HBL := Lib.hid hbl
        have HBD := Lib.hid hbd
        clear hbl hbd
        have a1 : ¬ ((e : Int) < 0) := by omega
        have a2 : ¬ ((e : Int) > 8) := by omega
        clear hfar S
        go_wp2_with fail
        (with_reducible refine hdo.mono ?_)
        clear hdo
        rintro y w3 ⟨rfl, S4⟩
        have S5 := S4.newBlk #[.int .i64 pc, .bool (q == 2)] 33
        have g0 := S5.pull3.cell 0
        have g1 := S5.pull3.cell 1
        have g2 := S5.pull3.cell 2
        have g3 := S5.pull3.cell 3
        have hrd2 := hrd S5
        clear S4 S5 hrd
        go_wp2_with fail
        (with_reducible refine hrd2.mono ?_)
        clear hrd2 g0 g1 g2 g3
        rintro y w4 ⟨rfl, S6⟩
        generalize w3.heap.size = aF at *
        have S7 := S6.pull3
        have g0 := S7.cell 0
        have g1 := S7.cell 1
        have g2 := S7.cell 2
        have g3 := S7.cell 3
        have j0 := S7.frozen 0
        have j1 := S7.frozen 1
        have j2 := S7.frozen 2
        have j3 := S7.frozen 3
        have S8 := (((S7.setCell 0 (.int .i64 yb)).setCell 1 (.int .i64 yw)).setCell 2 (.int .i64 yt)).setCell 3 (.int .i64 yr)
        change Sat _ _ (blk a #[.int .i64 yb, .int .i64 yw, .int .i64 yt, .int .i64 yr] _ :: _) at S8
        clear S6 S7
        go_upto_region 15 with fail
        refine wp_world S8 fun w5 S9 => ?_
        clear S8 g0 g1 g2 g3 j0 j1 j2 j3
        have hbd := HBD.out
        generalize hC2 : bump C e (q == 0) = C2 at *
        clear hC2
        cases hq0 : (q == 0) with
        | true =>
          rw [hq0, if_pos rfl] at hbd
          have h0 := (S9.pull3.cell e).trans (ints_get (C := C) (by omega))
          have h1 := S9.pull3.frozen e
          have S10 := S9.pull3.setCell e (.int .i64 (C.getD e 0 + 1))
          rw [ints_set, ← hbd] at S10
          clear S9 hbd
          generalize C.getD e 0 = z at *
          have hwr : IntKind.i64.wrap (z + 1) = z + 1 := IntWalk.i64_in _ (by omega)
          go_upto_region 17 with fail
          refine wp_world S10 fun w6 S11 => ?_
          clear S10 h0 h1
          have T1 := (S11.re [3, 1, 2, 0])
          have hbl := HBL.out.trans hC
          have he9 : (e : Int) < 9 := by omega
          have hcn2 := cnt_near (C := C2) he
          have hcm := ints_get (C := C2) (k := e) (by omega)
          generalize C2.getD e 0 = m at *
          generalize hN : rNum ⟨yb, yw, yt, yr⟩ = n at *
          have HN := Lib.hid hN
          clear hN
          refine wp_act fun a0 ha0 => ?_
          have HSZ : a0.tmps.size = 106 := by rw [ha0]; rfl
          have E3 : a0.eval (.tmp 3) = .pointer (some ⟨r, 0, none⟩) := by rw [ha0]; rfl
          have E4 : a0.eval (.tmp 4) = .pointer (some ⟨a, 0, none⟩) := by rw [ha0]; rfl
          have E5 : a0.eval (.tmp 5) = .pointer (some ⟨b, 0, none⟩) := by rw [ha0]; rfl
          have E7 : a0.eval (.tmp 7) = .int .i64 e := by rw [ha0]; rfl
          have E8 : a0.eval (.tmp 8) = .int .i64 pe := by rw [ha0]; rfl
          have E9 : a0.eval (.tmp 9) = .pointer (some ⟨aF, 0, none⟩) := by rw [ha0]; rfl
          have E10 : a0.eval (.tmp 10) = .int .i64 q := by rw [ha0]; rfl
          refine wp_region_sat (by kernel_rfl) 35 (by kernel_rfl) [[], [0], [], [2, 1], [1, 3], [4, 3], [5], [6, 5], [5], [8, 5], [7, 9, 5], [5, 10], [11, 5], [12], [13, 12, 12], [12], [15, 12], [14, 16, 12], [12, 17], [18, 14], [19], [20, 19], [19], [22, 19], [21, 23, 19], [19, 24], [25, 19], [26], [26], [27, 28, 26, 26], [26], [30, 26], [31, 26], [29, 32, 26], [26, 33]] (by kernel_rfl) (by kernel_rfl) [(0, 69, .pointer (some ⟨r, 0, none⟩)), (1, 70, .int .i64 n), (2, 71, .agg #[.int .i64 yb, .int .i64 yw, .int .i64 yt, .int .i64 yr]), (3, 72, .int .i64 n), (4, 73, .bool false), (5, 74, .bool false), (6, 75, .int .i64 pe), (7, 76, .bool (q == 1)), (8, 77, .int .i64 q), (9, 78, .bool (q == 1)), (10, 79, .bool false), (11, 80, .bool false), (12, 81, .bool false), (13, 82, .agg #[.int .i64 pc, .bool (q == 2)]), (14, 83, .bool (decide (q < 2))), (15, 84, .int .i64 q), (16, 85, .bool (decide (q < 2))), (17, 86, .bool false), (18, 87, .bool false), (19, 88, .bool false), (20, 89, .pointer (some ⟨aF, 1, none⟩)), (21, 90, .bool (q == 2)), (22, 91, .int .i64 q), (23, 92, .bool (q == 2)), (24, 93, .bool false), (25, 94, .bool false), (26, 95, .bool false), (27, 96, .pointer (some ⟨r, 0, none⟩)), (28, 97, .int .i64 e), (29, 98, .int .i64 m), (30, 99, .int .i64 e), (31, 100, .pointer (some ⟨b, e, none⟩)), (32, 101, .int .i64 m), (33, 102, .bool false), (34, 103, .bool false)] (fun _ => [runA r n C2, blk a #[.int .i64 yb, .int .i64 yw, .int .i64 yt, .int .i64 yr] 27, blk aF #[.int .i64 pc, .bool (q == 2)] 33, blk b (ints C2).toArray 29]) (by kernel_rfl) T1 ?_ ?_
          · refine ⟨?_, ?_, ?_, ?_, ?_, ?_, ?_, ?_, ?_, ?_, ?_, ?_, ?_, ?_, ?_, ?_, ?_, ?_, ?_, ?_, ?_, ?_, ?_, ?_, ?_, ?_, ?_, ?_, ?_, ?_, ?_, ?_, ?_, ?_, ?_, trivial⟩
            · intro f W h0 hd S
              refine wpOp_run (v := .pointer (some ⟨r, 0, none⟩)) rfl rfl (fun ρ hρ => ?_) ⟨(acts_some 0 rfl (by kernel_rfl) (by kernel_rfl)).symm, S⟩
              have e0 : ρ (.tmp 3) = .pointer (some ⟨r, 0, none⟩) := by rw [hρ]; exact (acts_eval_tmp 3 (by kernel_rfl)).trans E3
              clear hρ
              go_simp
            · intro f W h1 hd S
              refine wpOp_call rfl rfl (fun ρ hρ => ?_) (rn_at S) ?_
              · skip
                have e0 : ρ (.tmp 69) = .pointer (some ⟨r, 0, none⟩) := by rw [hρ]; exact acts_eval_hit 0 rfl hd.1 (by rw [HSZ]; rfl) (by kernel_rfl)
                have ef : ρ (.func 14) = .func (.func 14) #[] #[] := by rw [hρ]; rfl
                clear hρ
                go_simp
              · (rintro x W' ⟨rfl, rfl⟩; exact ⟨_, rfl, (acts_some 1 rfl (by kernel_rfl) (by kernel_rfl)).symm, S⟩)
            · intro f W h2 hd S
              refine wpOp_list rfl ?_
              refine st_load rfl _ _ rfl _ ((acts_eval_tmp 4 (by kernel_rfl)).trans E4) _ _ (S.swap) _ rfl rfl rfl ?_
              exact ⟨(acts_some 2 rfl (by kernel_rfl) (by kernel_rfl)).symm, S⟩
            · intro f W h3 hd S
              refine wpOp_call rfl rfl (fun ρ hρ => ?_) (hnu W) ?_
              · skip
                have e0 : ρ (.tmp 71) = .agg #[.int .i64 yb, .int .i64 yw, .int .i64 yt, .int .i64 yr] := by rw [hρ]; exact acts_eval_hit 2 rfl hd.1 (by rw [HSZ]; rfl) (by kernel_rfl)
                have ef : ρ (.func 15) = .func (.func 15) #[] #[] := by rw [hρ]; rfl
                clear hρ
                go_simp
              · (rintro x W' ⟨rfl, rfl⟩; exact ⟨_, rfl, (acts_some 3 rfl (by kernel_rfl) (by kernel_rfl)).symm, S.alloc _⟩)
            · intro f W h4 hd S
              refine wpOp_run (v := .bool false) rfl rfl (fun ρ hρ => ?_) ⟨(acts_some 4 rfl (by kernel_rfl) (by kernel_rfl)).symm, S⟩
              have e0 : ρ (.tmp 70) = .int .i64 n := by rw [hρ]; exact acts_eval_hit 1 rfl hd.1 (by rw [HSZ]; rfl) (by kernel_rfl)
              have e1 : ρ (.tmp 72) = .int .i64 n := by rw [hρ]; exact acts_eval_hit 3 rfl hd.2.1 (by rw [HSZ]; rfl) (by kernel_rfl)
              clear hρ
              go_simp
            · intro f W h5 hd S
              refine wpOp_run (v := .bool false) rfl rfl (fun ρ hρ => ?_) ⟨(acts_some 5 rfl (by kernel_rfl) (by kernel_rfl)).symm, S⟩
              have e0 : ρ (.tmp 73) = .bool false := by rw [hρ]; exact acts_eval_hit 4 rfl hd.1 (by rw [HSZ]; rfl) (by kernel_rfl)
              clear hρ
              go_simp
            · intro f W h6 hd S
              refine wpOp_runG (v := .int .i64 pe) rfl ?_ (fun ρ hρ => ?_) ⟨(acts_some 6 rfl (by kernel_rfl) (by kernel_rfl)).symm, S⟩
              · exact wanted_hit (t := 74) rfl rfl (acts_eval_hit 5 rfl hd.1 (by rw [HSZ]; rfl) (by kernel_rfl))
              · skip
                have e0 : ρ (.tmp 8) = .int .i64 pe := by rw [hρ]; exact (acts_eval_tmp 8 (by kernel_rfl)).trans E8
                clear hρ
                go_simp
            · intro f W h7 hd S
              refine wpOp_runG (v := .bool (q == 1)) rfl ?_ (fun ρ hρ => ?_) ⟨(acts_some 7 rfl (by kernel_rfl) (by kernel_rfl)).symm, S⟩
              · exact wanted_hit (t := 74) rfl rfl (acts_eval_hit 5 rfl hd.2.1 (by rw [HSZ]; rfl) (by kernel_rfl))
              · skip
                have e0 : ρ (.tmp 75) = .int .i64 pe := by rw [hρ]; exact acts_eval_hit 6 rfl hd.1 (by rw [HSZ]; rfl) (by kernel_rfl)
                have ec : ∀ v, ρ (.const v) = v := by rw [hρ]; exact fun _ => rfl
                clear hρ
                go_simp
            · intro f W h8 hd S
              refine wpOp_runG (v := .int .i64 q) rfl ?_ (fun ρ hρ => ?_) ⟨(acts_some 8 rfl (by kernel_rfl) (by kernel_rfl)).symm, S⟩
              · exact wanted_hit (t := 74) rfl rfl (acts_eval_hit 5 rfl hd.1 (by rw [HSZ]; rfl) (by kernel_rfl))
              · skip
                have e0 : ρ (.tmp 10) = .int .i64 q := by rw [hρ]; exact (acts_eval_tmp 10 (by kernel_rfl)).trans E10
                clear hρ
                go_simp
            · intro f W h9 hd S
              refine wpOp_runG (v := .bool (q == 1)) rfl ?_ (fun ρ hρ => ?_) ⟨(acts_some 9 rfl (by kernel_rfl) (by kernel_rfl)).symm, S⟩
              · exact wanted_hit (t := 74) rfl rfl (acts_eval_hit 5 rfl hd.2.1 (by rw [HSZ]; rfl) (by kernel_rfl))
              · skip
                have e0 : ρ (.tmp 77) = .int .i64 q := by rw [hρ]; exact acts_eval_hit 8 rfl hd.1 (by rw [HSZ]; rfl) (by kernel_rfl)
                have ec : ∀ v, ρ (.const v) = v := by rw [hρ]; exact fun _ => rfl
                clear hρ
                go_simp
            · intro f W h10 hd S
              refine wpOp_runG (v := .bool false) rfl ?_ (fun ρ hρ => ?_) ⟨(acts_some 10 rfl (by kernel_rfl) (by kernel_rfl)).symm, S⟩
              · exact wanted_hit (t := 74) rfl rfl (acts_eval_hit 5 rfl hd.2.2.1 (by rw [HSZ]; rfl) (by kernel_rfl))
              · skip
                have e0 : ρ (.tmp 76) = .bool (q == 1) := by rw [hρ]; exact acts_eval_hit 7 rfl hd.1 (by rw [HSZ]; rfl) (by kernel_rfl)
                have e1 : ρ (.tmp 78) = .bool (q == 1) := by rw [hρ]; exact acts_eval_hit 9 rfl hd.2.1 (by rw [HSZ]; rfl) (by kernel_rfl)
                clear hρ
                go_simp
            · intro f W h11 hd S
              refine wpOp_run (v := .bool false) rfl rfl (fun ρ hρ => ?_) ⟨(acts_some 11 rfl (by kernel_rfl) (by kernel_rfl)).symm, S⟩
              have e0 : ρ (.tmp 74) = .bool false := by rw [hρ]; exact acts_eval_hit 5 rfl hd.1 (by rw [HSZ]; rfl) (by kernel_rfl)
              have e1 : ρ (.tmp 79) = .bool false := by rw [hρ]; exact acts_eval_hit 10 rfl hd.2.1 (by rw [HSZ]; rfl) (by kernel_rfl)
              have ec : ∀ v, ρ (.const v) = v := by rw [hρ]; exact fun _ => rfl
              clear hρ
              go_simp
            · intro f W h12 hd S
              refine wpOp_run (v := .bool false) rfl rfl (fun ρ hρ => ?_) ⟨(acts_some 12 rfl (by kernel_rfl) (by kernel_rfl)).symm, S⟩
              have e0 : ρ (.tmp 80) = .bool false := by rw [hρ]; exact acts_eval_hit 11 rfl hd.1 (by rw [HSZ]; rfl) (by kernel_rfl)
              clear hρ
              go_simp
            · intro f W h13 hd S
              refine wpOp_runG (v := .agg #[.int .i64 pc, .bool (q == 2)]) rfl ?_ (fun ρ hρ => ?_) ⟨(acts_some 13 rfl (by kernel_rfl) (by kernel_rfl)).symm, S⟩
              · exact wanted_hit (t := 81) rfl rfl (acts_eval_hit 12 rfl hd.1 (by rw [HSZ]; rfl) (by kernel_rfl))
              · skip
                have e0 : ρ (.tmp 9) = .pointer (some ⟨aF, 0, none⟩) := by rw [hρ]; exact (acts_eval_tmp 9 (by kernel_rfl)).trans E9
                clear hρ
                (have hz0 : W.cell? ⟨aF, 0, none⟩ = some (.int .i64 pc) := S.pull2.cell 0; have hz1 : W.cell? ⟨aF, 1, none⟩ = some (.bool (q == 2)) := S.pull2.cell 1)
                go_simp
            · intro f W h14 hd S
              refine wpOp_callG rfl (wanted_hit (t := 81) rfl rfl (acts_eval_hit 12 rfl hd.2.1 (by rw [HSZ]; rfl) (by kernel_rfl))) (fun ρ hρ => ?_) (fa_ok S pc (q == 2)) ?_
              · skip
                have e0 : ρ (.tmp 82) = .agg #[.int .i64 pc, .bool (q == 2)] := by rw [hρ]; exact acts_eval_hit 13 rfl hd.1 (by rw [HSZ]; rfl) (by kernel_rfl)
                have ef : ρ (.func 11) = .func (.func 11) #[] #[] := by rw [hρ]; rfl
                clear hρ
                go_simp
              · (rintro x W' ⟨rfl, S'⟩; rw [q4]; exact ⟨_, rfl, (acts_some 14 rfl (by kernel_rfl) (by kernel_rfl)).symm, S'⟩)
            · intro f W h15 hd S
              refine wpOp_runG (v := .int .i64 q) rfl ?_ (fun ρ hρ => ?_) ⟨(acts_some 15 rfl (by kernel_rfl) (by kernel_rfl)).symm, S⟩
              · exact wanted_hit (t := 81) rfl rfl (acts_eval_hit 12 rfl hd.1 (by rw [HSZ]; rfl) (by kernel_rfl))
              · skip
                have e0 : ρ (.tmp 10) = .int .i64 q := by rw [hρ]; exact (acts_eval_tmp 10 (by kernel_rfl)).trans E10
                clear hρ
                go_simp
            · intro f W h16 hd S
              refine wpOp_runG (v := .bool (decide (q < 2))) rfl ?_ (fun ρ hρ => ?_) ⟨(acts_some 16 rfl (by kernel_rfl) (by kernel_rfl)).symm, S⟩
              · exact wanted_hit (t := 81) rfl rfl (acts_eval_hit 12 rfl hd.2.1 (by rw [HSZ]; rfl) (by kernel_rfl))
              · skip
                have e0 : ρ (.tmp 84) = .int .i64 q := by rw [hρ]; exact acts_eval_hit 15 rfl hd.1 (by rw [HSZ]; rfl) (by kernel_rfl)
                have ec : ∀ v, ρ (.const v) = v := by rw [hρ]; exact fun _ => rfl
                clear hρ
                go_simp
            · intro f W h17 hd S
              refine wpOp_runG (v := .bool false) rfl ?_ (fun ρ hρ => ?_) ⟨(acts_some 17 rfl (by kernel_rfl) (by kernel_rfl)).symm, S⟩
              · exact wanted_hit (t := 81) rfl rfl (acts_eval_hit 12 rfl hd.2.2.1 (by rw [HSZ]; rfl) (by kernel_rfl))
              · skip
                have e0 : ρ (.tmp 83) = .bool (decide (q < 2)) := by rw [hρ]; exact acts_eval_hit 14 rfl hd.1 (by rw [HSZ]; rfl) (by kernel_rfl)
                have e1 : ρ (.tmp 85) = .bool (decide (q < 2)) := by rw [hρ]; exact acts_eval_hit 16 rfl hd.2.1 (by rw [HSZ]; rfl) (by kernel_rfl)
                clear hρ
                go_simp
            · intro f W h18 hd S
              refine wpOp_run (v := .bool false) rfl rfl (fun ρ hρ => ?_) ⟨(acts_some 18 rfl (by kernel_rfl) (by kernel_rfl)).symm, S⟩
              have e0 : ρ (.tmp 81) = .bool false := by rw [hρ]; exact acts_eval_hit 12 rfl hd.1 (by rw [HSZ]; rfl) (by kernel_rfl)
              have e1 : ρ (.tmp 86) = .bool false := by rw [hρ]; exact acts_eval_hit 17 rfl hd.2.1 (by rw [HSZ]; rfl) (by kernel_rfl)
              have ec : ∀ v, ρ (.const v) = v := by rw [hρ]; exact fun _ => rfl
              clear hρ
              go_simp
            · intro f W h19 hd S
              refine wpOp_run (v := .bool false) rfl rfl (fun ρ hρ => ?_) ⟨(acts_some 19 rfl (by kernel_rfl) (by kernel_rfl)).symm, S⟩
              have e0 : ρ (.tmp 87) = .bool false := by rw [hρ]; exact acts_eval_hit 18 rfl hd.1 (by rw [HSZ]; rfl) (by kernel_rfl)
              clear hρ
              go_simp
            · intro f W h20 hd S
              refine wpOp_runG (v := .pointer (some ⟨aF, 1, none⟩)) rfl ?_ (fun ρ hρ => ?_) ⟨(acts_some 20 rfl (by kernel_rfl) (by kernel_rfl)).symm, S⟩
              · exact wanted_hit (t := 88) rfl rfl (acts_eval_hit 19 rfl hd.1 (by rw [HSZ]; rfl) (by kernel_rfl))
              · skip
                have e0 : ρ (.tmp 9) = .pointer (some ⟨aF, 0, none⟩) := by rw [hρ]; exact (acts_eval_tmp 9 (by kernel_rfl)).trans E9
                clear hρ
                go_simp
            · intro f W h21 hd S
              refine wpOp_runG (v := .bool (q == 2)) rfl ?_ (fun ρ hρ => ?_) ⟨(acts_some 21 rfl (by kernel_rfl) (by kernel_rfl)).symm, S⟩
              · exact wanted_hit (t := 88) rfl rfl (acts_eval_hit 19 rfl hd.2.1 (by rw [HSZ]; rfl) (by kernel_rfl))
              · skip
                have e0 : ρ (.tmp 89) = .pointer (some ⟨aF, 1, none⟩) := by rw [hρ]; exact acts_eval_hit 20 rfl hd.1 (by rw [HSZ]; rfl) (by kernel_rfl)
                clear hρ
                (have hz1 : W.cell? ⟨aF, 1, none⟩ = some (.bool (q == 2)) := S.pull2.cell 1)
                go_simp
            · intro f W h22 hd S
              refine wpOp_runG (v := .int .i64 q) rfl ?_ (fun ρ hρ => ?_) ⟨(acts_some 22 rfl (by kernel_rfl) (by kernel_rfl)).symm, S⟩
              · exact wanted_hit (t := 88) rfl rfl (acts_eval_hit 19 rfl hd.1 (by rw [HSZ]; rfl) (by kernel_rfl))
              · skip
                have e0 : ρ (.tmp 10) = .int .i64 q := by rw [hρ]; exact (acts_eval_tmp 10 (by kernel_rfl)).trans E10
                clear hρ
                go_simp
            · intro f W h23 hd S
              refine wpOp_runG (v := .bool (q == 2)) rfl ?_ (fun ρ hρ => ?_) ⟨(acts_some 23 rfl (by kernel_rfl) (by kernel_rfl)).symm, S⟩
              · exact wanted_hit (t := 88) rfl rfl (acts_eval_hit 19 rfl hd.2.1 (by rw [HSZ]; rfl) (by kernel_rfl))
              · skip
                have e0 : ρ (.tmp 91) = .int .i64 q := by rw [hρ]; exact acts_eval_hit 22 rfl hd.1 (by rw [HSZ]; rfl) (by kernel_rfl)
                have ec : ∀ v, ρ (.const v) = v := by rw [hρ]; exact fun _ => rfl
                clear hρ
                go_simp
            · intro f W h24 hd S
              refine wpOp_runG (v := .bool false) rfl ?_ (fun ρ hρ => ?_) ⟨(acts_some 24 rfl (by kernel_rfl) (by kernel_rfl)).symm, S⟩
              · exact wanted_hit (t := 88) rfl rfl (acts_eval_hit 19 rfl hd.2.2.1 (by rw [HSZ]; rfl) (by kernel_rfl))
              · skip
                have e0 : ρ (.tmp 90) = .bool (q == 2) := by rw [hρ]; exact acts_eval_hit 21 rfl hd.1 (by rw [HSZ]; rfl) (by kernel_rfl)
                have e1 : ρ (.tmp 92) = .bool (q == 2) := by rw [hρ]; exact acts_eval_hit 23 rfl hd.2.1 (by rw [HSZ]; rfl) (by kernel_rfl)
                clear hρ
                go_simp
            · intro f W h25 hd S
              refine wpOp_run (v := .bool false) rfl rfl (fun ρ hρ => ?_) ⟨(acts_some 25 rfl (by kernel_rfl) (by kernel_rfl)).symm, S⟩
              have e0 : ρ (.tmp 88) = .bool false := by rw [hρ]; exact acts_eval_hit 19 rfl hd.1 (by rw [HSZ]; rfl) (by kernel_rfl)
              have e1 : ρ (.tmp 93) = .bool false := by rw [hρ]; exact acts_eval_hit 24 rfl hd.2.1 (by rw [HSZ]; rfl) (by kernel_rfl)
              have ec : ∀ v, ρ (.const v) = v := by rw [hρ]; exact fun _ => rfl
              clear hρ
              go_simp
            · intro f W h26 hd S
              refine wpOp_run (v := .bool false) rfl rfl (fun ρ hρ => ?_) ⟨(acts_some 26 rfl (by kernel_rfl) (by kernel_rfl)).symm, S⟩
              have e0 : ρ (.tmp 94) = .bool false := by rw [hρ]; exact acts_eval_hit 25 rfl hd.1 (by rw [HSZ]; rfl) (by kernel_rfl)
              clear hρ
              go_simp
            · intro f W h27 hd S
              refine wpOp_runG (v := .pointer (some ⟨r, 0, none⟩)) rfl ?_ (fun ρ hρ => ?_) ⟨(acts_some 27 rfl (by kernel_rfl) (by kernel_rfl)).symm, S⟩
              · exact wanted_hit (t := 95) rfl rfl (acts_eval_hit 26 rfl hd.1 (by rw [HSZ]; rfl) (by kernel_rfl))
              · skip
                have e0 : ρ (.tmp 3) = .pointer (some ⟨r, 0, none⟩) := by rw [hρ]; exact (acts_eval_tmp 3 (by kernel_rfl)).trans E3
                clear hρ
                go_simp
            · intro f W h28 hd S
              refine wpOp_runG (v := .int .i64 e) rfl ?_ (fun ρ hρ => ?_) ⟨(acts_some 28 rfl (by kernel_rfl) (by kernel_rfl)).symm, S⟩
              · exact wanted_hit (t := 95) rfl rfl (acts_eval_hit 26 rfl hd.1 (by rw [HSZ]; rfl) (by kernel_rfl))
              · skip
                have e0 : ρ (.tmp 7) = .int .i64 e := by rw [hρ]; exact (acts_eval_tmp 7 (by kernel_rfl)).trans E7
                clear hρ
                go_simp
            · intro f W h29 hd S
              refine wpOp_callG rfl (wanted_hit (t := 95) rfl rfl (acts_eval_hit 26 rfl hd.2.2.1 (by rw [HSZ]; rfl) (by kernel_rfl))) (fun ρ hρ => ?_) (rn_count S hbl e) ?_
              · skip
                have e0 : ρ (.tmp 96) = .pointer (some ⟨r, 0, none⟩) := by rw [hρ]; exact acts_eval_hit 27 rfl hd.1 (by rw [HSZ]; rfl) (by kernel_rfl)
                have e1 : ρ (.tmp 97) = .int .i64 e := by rw [hρ]; exact acts_eval_hit 28 rfl hd.2.1 (by rw [HSZ]; rfl) (by kernel_rfl)
                have ef : ρ (.func 12) = .func (.func 12) #[] #[] := by rw [hρ]; rfl
                clear hρ
                go_simp
              · (rintro x W' ⟨rfl, rfl⟩; rw [hcn2]; exact ⟨_, rfl, (acts_some 29 rfl (by kernel_rfl) (by kernel_rfl)).symm, S⟩)
            · intro f W h30 hd S
              refine wpOp_runG (v := .int .i64 e) rfl ?_ (fun ρ hρ => ?_) ⟨(acts_some 30 rfl (by kernel_rfl) (by kernel_rfl)).symm, S⟩
              · exact wanted_hit (t := 95) rfl rfl (acts_eval_hit 26 rfl hd.1 (by rw [HSZ]; rfl) (by kernel_rfl))
              · skip
                have e0 : ρ (.tmp 7) = .int .i64 e := by rw [hρ]; exact (acts_eval_tmp 7 (by kernel_rfl)).trans E7
                clear hρ
                go_simp
            · intro f W h31 hd S
              refine wpOp_runG (v := .pointer (some ⟨b, e, none⟩)) rfl ?_ (fun ρ hρ => ?_) ⟨(acts_some 31 rfl (by kernel_rfl) (by kernel_rfl)).symm, S⟩
              · exact wanted_hit (t := 95) rfl rfl (acts_eval_hit 26 rfl hd.2.1 (by rw [HSZ]; rfl) (by kernel_rfl))
              · skip
                have e0 : ρ (.tmp 5) = .pointer (some ⟨b, 0, none⟩) := by rw [hρ]; exact (acts_eval_tmp 5 (by kernel_rfl)).trans E5
                have e1 : ρ (.tmp 99) = .int .i64 e := by rw [hρ]; exact acts_eval_hit 30 rfl hd.1 (by rw [HSZ]; rfl) (by kernel_rfl)
                clear hρ
                go_simp
            · intro f W h32 hd S
              refine wpOp_runG (v := .int .i64 m) rfl ?_ (fun ρ hρ => ?_) ⟨(acts_some 32 rfl (by kernel_rfl) (by kernel_rfl)).symm, S⟩
              · exact wanted_hit (t := 95) rfl rfl (acts_eval_hit 26 rfl hd.2.1 (by rw [HSZ]; rfl) (by kernel_rfl))
              · skip
                have e0 : ρ (.tmp 100) = .pointer (some ⟨b, e, none⟩) := by rw [hρ]; exact acts_eval_hit 31 rfl hd.1 (by rw [HSZ]; rfl) (by kernel_rfl)
                clear hρ
                (have hz : W.cell? ⟨b, e, none⟩ = some (.int .i64 m) := (S.pull3.cell e).trans hcm)
                go_simp
            · intro f W h33 hd S
              refine wpOp_runG (v := .bool false) rfl ?_ (fun ρ hρ => ?_) ⟨(acts_some 33 rfl (by kernel_rfl) (by kernel_rfl)).symm, S⟩
              · exact wanted_hit (t := 95) rfl rfl (acts_eval_hit 26 rfl hd.2.2.1 (by rw [HSZ]; rfl) (by kernel_rfl))
              · skip
                have e0 : ρ (.tmp 98) = .int .i64 m := by rw [hρ]; exact acts_eval_hit 29 rfl hd.1 (by rw [HSZ]; rfl) (by kernel_rfl)
                have e1 : ρ (.tmp 101) = .int .i64 m := by rw [hρ]; exact acts_eval_hit 32 rfl hd.2.1 (by rw [HSZ]; rfl) (by kernel_rfl)
                clear hρ
                go_simp
            · intro f W h34 hd S
              refine wpOp_run (v := .bool false) rfl rfl (fun ρ hρ => ?_) ⟨(acts_some 34 rfl (by kernel_rfl) (by kernel_rfl)).symm, S⟩
              have e0 : ρ (.tmp 95) = .bool false := by rw [hρ]; exact acts_eval_hit 26 rfl hd.1 (by rw [HSZ]; rfl) (by kernel_rfl)
              have e1 : ρ (.tmp 102) = .bool false := by rw [hρ]; exact acts_eval_hit 33 rfl hd.2.1 (by rw [HSZ]; rfl) (by kernel_rfl)
              have ec : ∀ v, ρ (.const v) = v := by rw [hρ]; exact fun _ => rfl
              clear hρ
              go_simp
          intro W6 T2
          subst ha0
          simp only [acts, if_true, Act.put, List.setIfInBounds_toArray, List.set_cons_succ, List.set_cons_zero]
          have HT2 := Lib.hid T2
          clear T2 T1 HSZ E3 E4 E5 E7 E8 E9 E10
          go_wp2_with fail
          go_roundw
          case rel => exact ⟨k + 1, ⟨yb, yw, yt, yr⟩, C2, by omega, by go_num, HG.out, hbl, HBR.out, by rw [← HN.out] at HT2; exact (HT2.out.re [3, 1, 0, 2]).mid [_, _, _] |>.drop⟩
          case measure => simp [intOf]; omega
        | false =>
          rw [hq0, if_neg (by simp)] at hbd
          subst hbd
          go_upto_region 17 with fail
          have S11 := S9
          clear S9
          have T1 := (S11.re [2, 0, 1, 3])
          have hbl := HBL.out.trans hC
          have he9 : (e : Int) < 9 := by omega
          have hcn2 := cnt_near (C := C2) he
          have hcm := ints_get (C := C2) (k := e) (by omega)
          generalize C2.getD e 0 = m at *
          generalize hN : rNum ⟨yb, yw, yt, yr⟩ = n at *
          have HN := Lib.hid hN
          clear hN
          refine wp_act fun a0 ha0 => ?_
          have HSZ : a0.tmps.size = 106 := by rw [ha0]; rfl
          have E3 : a0.eval (.tmp 3) = .pointer (some ⟨r, 0, none⟩) := by rw [ha0]; rfl
          have E4 : a0.eval (.tmp 4) = .pointer (some ⟨a, 0, none⟩) := by rw [ha0]; rfl
          have E5 : a0.eval (.tmp 5) = .pointer (some ⟨b, 0, none⟩) := by rw [ha0]; rfl
          have E7 : a0.eval (.tmp 7) = .int .i64 e := by rw [ha0]; rfl
          have E8 : a0.eval (.tmp 8) = .int .i64 pe := by rw [ha0]; rfl
          have E9 : a0.eval (.tmp 9) = .pointer (some ⟨aF, 0, none⟩) := by rw [ha0]; rfl
          have E10 : a0.eval (.tmp 10) = .int .i64 q := by rw [ha0]; rfl
          refine wp_region_sat (by kernel_rfl) 35 (by kernel_rfl) [[], [0], [], [2, 1], [1, 3], [4, 3], [5], [6, 5], [5], [8, 5], [7, 9, 5], [5, 10], [11, 5], [12], [13, 12, 12], [12], [15, 12], [14, 16, 12], [12, 17], [18, 14], [19], [20, 19], [19], [22, 19], [21, 23, 19], [19, 24], [25, 19], [26], [26], [27, 28, 26, 26], [26], [30, 26], [31, 26], [29, 32, 26], [26, 33]] (by kernel_rfl) (by kernel_rfl) [(0, 69, .pointer (some ⟨r, 0, none⟩)), (1, 70, .int .i64 n), (2, 71, .agg #[.int .i64 yb, .int .i64 yw, .int .i64 yt, .int .i64 yr]), (3, 72, .int .i64 n), (4, 73, .bool false), (5, 74, .bool false), (6, 75, .int .i64 pe), (7, 76, .bool (q == 1)), (8, 77, .int .i64 q), (9, 78, .bool (q == 1)), (10, 79, .bool false), (11, 80, .bool false), (12, 81, .bool false), (13, 82, .agg #[.int .i64 pc, .bool (q == 2)]), (14, 83, .bool (decide (q < 2))), (15, 84, .int .i64 q), (16, 85, .bool (decide (q < 2))), (17, 86, .bool false), (18, 87, .bool false), (19, 88, .bool false), (20, 89, .pointer (some ⟨aF, 1, none⟩)), (21, 90, .bool (q == 2)), (22, 91, .int .i64 q), (23, 92, .bool (q == 2)), (24, 93, .bool false), (25, 94, .bool false), (26, 95, .bool false), (27, 96, .pointer (some ⟨r, 0, none⟩)), (28, 97, .int .i64 e), (29, 98, .int .i64 m), (30, 99, .int .i64 e), (31, 100, .pointer (some ⟨b, e, none⟩)), (32, 101, .int .i64 m), (33, 102, .bool false), (34, 103, .bool false)] (fun _ => [runA r n C2, blk a #[.int .i64 yb, .int .i64 yw, .int .i64 yt, .int .i64 yr] 27, blk aF #[.int .i64 pc, .bool (q == 2)] 33, blk b (ints C2).toArray 29]) (by kernel_rfl) T1 ?_ ?_
          · refine ⟨?_, ?_, ?_, ?_, ?_, ?_, ?_, ?_, ?_, ?_, ?_, ?_, ?_, ?_, ?_, ?_, ?_, ?_, ?_, ?_, ?_, ?_, ?_, ?_, ?_, ?_, ?_, ?_, ?_, ?_, ?_, ?_, ?_, ?_, ?_, trivial⟩
            · intro f W h0 hd S
              refine wpOp_run (v := .pointer (some ⟨r, 0, none⟩)) rfl rfl (fun ρ hρ => ?_) ⟨(acts_some 0 rfl (by kernel_rfl) (by kernel_rfl)).symm, S⟩
              have e0 : ρ (.tmp 3) = .pointer (some ⟨r, 0, none⟩) := by rw [hρ]; exact (acts_eval_tmp 3 (by kernel_rfl)).trans E3
              clear hρ
              go_simp
            · intro f W h1 hd S
              refine wpOp_call rfl rfl (fun ρ hρ => ?_) (rn_at S) ?_
              · skip
                have e0 : ρ (.tmp 69) = .pointer (some ⟨r, 0, none⟩) := by rw [hρ]; exact acts_eval_hit 0 rfl hd.1 (by rw [HSZ]; rfl) (by kernel_rfl)
                have ef : ρ (.func 14) = .func (.func 14) #[] #[] := by rw [hρ]; rfl
                clear hρ
                go_simp
              · (rintro x W' ⟨rfl, rfl⟩; exact ⟨_, rfl, (acts_some 1 rfl (by kernel_rfl) (by kernel_rfl)).symm, S⟩)
            · intro f W h2 hd S
              refine wpOp_list rfl ?_
              refine st_load rfl _ _ rfl _ ((acts_eval_tmp 4 (by kernel_rfl)).trans E4) _ _ (S.swap) _ rfl rfl rfl ?_
              exact ⟨(acts_some 2 rfl (by kernel_rfl) (by kernel_rfl)).symm, S⟩
            · intro f W h3 hd S
              refine wpOp_call rfl rfl (fun ρ hρ => ?_) (hnu W) ?_
              · skip
                have e0 : ρ (.tmp 71) = .agg #[.int .i64 yb, .int .i64 yw, .int .i64 yt, .int .i64 yr] := by rw [hρ]; exact acts_eval_hit 2 rfl hd.1 (by rw [HSZ]; rfl) (by kernel_rfl)
                have ef : ρ (.func 15) = .func (.func 15) #[] #[] := by rw [hρ]; rfl
                clear hρ
                go_simp
              · (rintro x W' ⟨rfl, rfl⟩; exact ⟨_, rfl, (acts_some 3 rfl (by kernel_rfl) (by kernel_rfl)).symm, S.alloc _⟩)
            · intro f W h4 hd S
              refine wpOp_run (v := .bool false) rfl rfl (fun ρ hρ => ?_) ⟨(acts_some 4 rfl (by kernel_rfl) (by kernel_rfl)).symm, S⟩
              have e0 : ρ (.tmp 70) = .int .i64 n := by rw [hρ]; exact acts_eval_hit 1 rfl hd.1 (by rw [HSZ]; rfl) (by kernel_rfl)
              have e1 : ρ (.tmp 72) = .int .i64 n := by rw [hρ]; exact acts_eval_hit 3 rfl hd.2.1 (by rw [HSZ]; rfl) (by kernel_rfl)
              clear hρ
              go_simp
            · intro f W h5 hd S
              refine wpOp_run (v := .bool false) rfl rfl (fun ρ hρ => ?_) ⟨(acts_some 5 rfl (by kernel_rfl) (by kernel_rfl)).symm, S⟩
              have e0 : ρ (.tmp 73) = .bool false := by rw [hρ]; exact acts_eval_hit 4 rfl hd.1 (by rw [HSZ]; rfl) (by kernel_rfl)
              clear hρ
              go_simp
            · intro f W h6 hd S
              refine wpOp_runG (v := .int .i64 pe) rfl ?_ (fun ρ hρ => ?_) ⟨(acts_some 6 rfl (by kernel_rfl) (by kernel_rfl)).symm, S⟩
              · exact wanted_hit (t := 74) rfl rfl (acts_eval_hit 5 rfl hd.1 (by rw [HSZ]; rfl) (by kernel_rfl))
              · skip
                have e0 : ρ (.tmp 8) = .int .i64 pe := by rw [hρ]; exact (acts_eval_tmp 8 (by kernel_rfl)).trans E8
                clear hρ
                go_simp
            · intro f W h7 hd S
              refine wpOp_runG (v := .bool (q == 1)) rfl ?_ (fun ρ hρ => ?_) ⟨(acts_some 7 rfl (by kernel_rfl) (by kernel_rfl)).symm, S⟩
              · exact wanted_hit (t := 74) rfl rfl (acts_eval_hit 5 rfl hd.2.1 (by rw [HSZ]; rfl) (by kernel_rfl))
              · skip
                have e0 : ρ (.tmp 75) = .int .i64 pe := by rw [hρ]; exact acts_eval_hit 6 rfl hd.1 (by rw [HSZ]; rfl) (by kernel_rfl)
                have ec : ∀ v, ρ (.const v) = v := by rw [hρ]; exact fun _ => rfl
                clear hρ
                go_simp
            · intro f W h8 hd S
              refine wpOp_runG (v := .int .i64 q) rfl ?_ (fun ρ hρ => ?_) ⟨(acts_some 8 rfl (by kernel_rfl) (by kernel_rfl)).symm, S⟩
              · exact wanted_hit (t := 74) rfl rfl (acts_eval_hit 5 rfl hd.1 (by rw [HSZ]; rfl) (by kernel_rfl))
              · skip
                have e0 : ρ (.tmp 10) = .int .i64 q := by rw [hρ]; exact (acts_eval_tmp 10 (by kernel_rfl)).trans E10
                clear hρ
                go_simp
            · intro f W h9 hd S
              refine wpOp_runG (v := .bool (q == 1)) rfl ?_ (fun ρ hρ => ?_) ⟨(acts_some 9 rfl (by kernel_rfl) (by kernel_rfl)).symm, S⟩
              · exact wanted_hit (t := 74) rfl rfl (acts_eval_hit 5 rfl hd.2.1 (by rw [HSZ]; rfl) (by kernel_rfl))
              · skip
                have e0 : ρ (.tmp 77) = .int .i64 q := by rw [hρ]; exact acts_eval_hit 8 rfl hd.1 (by rw [HSZ]; rfl) (by kernel_rfl)
                have ec : ∀ v, ρ (.const v) = v := by rw [hρ]; exact fun _ => rfl
                clear hρ
                go_simp
            · intro f W h10 hd S
              refine wpOp_runG (v := .bool false) rfl ?_ (fun ρ hρ => ?_) ⟨(acts_some 10 rfl (by kernel_rfl) (by kernel_rfl)).symm, S⟩
              · exact wanted_hit (t := 74) rfl rfl (acts_eval_hit 5 rfl hd.2.2.1 (by rw [HSZ]; rfl) (by kernel_rfl))
              · skip
                have e0 : ρ (.tmp 76) = .bool (q == 1) := by rw [hρ]; exact acts_eval_hit 7 rfl hd.1 (by rw [HSZ]; rfl) (by kernel_rfl)
                have e1 : ρ (.tmp 78) = .bool (q == 1) := by rw [hρ]; exact acts_eval_hit 9 rfl hd.2.1 (by rw [HSZ]; rfl) (by kernel_rfl)
                clear hρ
                go_simp
            · intro f W h11 hd S
              refine wpOp_run (v := .bool false) rfl rfl (fun ρ hρ => ?_) ⟨(acts_some 11 rfl (by kernel_rfl) (by kernel_rfl)).symm, S⟩
              have e0 : ρ (.tmp 74) = .bool false := by rw [hρ]; exact acts_eval_hit 5 rfl hd.1 (by rw [HSZ]; rfl) (by kernel_rfl)
              have e1 : ρ (.tmp 79) = .bool false := by rw [hρ]; exact acts_eval_hit 10 rfl hd.2.1 (by rw [HSZ]; rfl) (by kernel_rfl)
              have ec : ∀ v, ρ (.const v) = v := by rw [hρ]; exact fun _ => rfl
              clear hρ
              go_simp
            · intro f W h12 hd S
              refine wpOp_run (v := .bool false) rfl rfl (fun ρ hρ => ?_) ⟨(acts_some 12 rfl (by kernel_rfl) (by kernel_rfl)).symm, S⟩
              have e0 : ρ (.tmp 80) = .bool false := by rw [hρ]; exact acts_eval_hit 11 rfl hd.1 (by rw [HSZ]; rfl) (by kernel_rfl)
              clear hρ
              go_simp
            · intro f W h13 hd S
              refine wpOp_runG (v := .agg #[.int .i64 pc, .bool (q == 2)]) rfl ?_ (fun ρ hρ => ?_) ⟨(acts_some 13 rfl (by kernel_rfl) (by kernel_rfl)).symm, S⟩
              · exact wanted_hit (t := 81) rfl rfl (acts_eval_hit 12 rfl hd.1 (by rw [HSZ]; rfl) (by kernel_rfl))
              · skip
                have e0 : ρ (.tmp 9) = .pointer (some ⟨aF, 0, none⟩) := by rw [hρ]; exact (acts_eval_tmp 9 (by kernel_rfl)).trans E9
                clear hρ
                (have hz0 : W.cell? ⟨aF, 0, none⟩ = some (.int .i64 pc) := S.pull2.cell 0; have hz1 : W.cell? ⟨aF, 1, none⟩ = some (.bool (q == 2)) := S.pull2.cell 1)
                go_simp
            · intro f W h14 hd S
              refine wpOp_callG rfl (wanted_hit (t := 81) rfl rfl (acts_eval_hit 12 rfl hd.2.1 (by rw [HSZ]; rfl) (by kernel_rfl))) (fun ρ hρ => ?_) (fa_ok S pc (q == 2)) ?_
              · skip
                have e0 : ρ (.tmp 82) = .agg #[.int .i64 pc, .bool (q == 2)] := by rw [hρ]; exact acts_eval_hit 13 rfl hd.1 (by rw [HSZ]; rfl) (by kernel_rfl)
                have ef : ρ (.func 11) = .func (.func 11) #[] #[] := by rw [hρ]; rfl
                clear hρ
                go_simp
              · (rintro x W' ⟨rfl, S'⟩; rw [q4]; exact ⟨_, rfl, (acts_some 14 rfl (by kernel_rfl) (by kernel_rfl)).symm, S'⟩)
            · intro f W h15 hd S
              refine wpOp_runG (v := .int .i64 q) rfl ?_ (fun ρ hρ => ?_) ⟨(acts_some 15 rfl (by kernel_rfl) (by kernel_rfl)).symm, S⟩
              · exact wanted_hit (t := 81) rfl rfl (acts_eval_hit 12 rfl hd.1 (by rw [HSZ]; rfl) (by kernel_rfl))
              · skip
                have e0 : ρ (.tmp 10) = .int .i64 q := by rw [hρ]; exact (acts_eval_tmp 10 (by kernel_rfl)).trans E10
                clear hρ
                go_simp
            · intro f W h16 hd S
              refine wpOp_runG (v := .bool (decide (q < 2))) rfl ?_ (fun ρ hρ => ?_) ⟨(acts_some 16 rfl (by kernel_rfl) (by kernel_rfl)).symm, S⟩
              · exact wanted_hit (t := 81) rfl rfl (acts_eval_hit 12 rfl hd.2.1 (by rw [HSZ]; rfl) (by kernel_rfl))
              · skip
                have e0 : ρ (.tmp 84) = .int .i64 q := by rw [hρ]; exact acts_eval_hit 15 rfl hd.1 (by rw [HSZ]; rfl) (by kernel_rfl)
                have ec : ∀ v, ρ (.const v) = v := by rw [hρ]; exact fun _ => rfl
                clear hρ
                go_simp
            · intro f W h17 hd S
              refine wpOp_runG (v := .bool false) rfl ?_ (fun ρ hρ => ?_) ⟨(acts_some 17 rfl (by kernel_rfl) (by kernel_rfl)).symm, S⟩
              · exact wanted_hit (t := 81) rfl rfl (acts_eval_hit 12 rfl hd.2.2.1 (by rw [HSZ]; rfl) (by kernel_rfl))
              · skip
                have e0 : ρ (.tmp 83) = .bool (decide (q < 2)) := by rw [hρ]; exact acts_eval_hit 14 rfl hd.1 (by rw [HSZ]; rfl) (by kernel_rfl)
                have e1 : ρ (.tmp 85) = .bool (decide (q < 2)) := by rw [hρ]; exact acts_eval_hit 16 rfl hd.2.1 (by rw [HSZ]; rfl) (by kernel_rfl)
                clear hρ
                go_simp
            · intro f W h18 hd S
              refine wpOp_run (v := .bool false) rfl rfl (fun ρ hρ => ?_) ⟨(acts_some 18 rfl (by kernel_rfl) (by kernel_rfl)).symm, S⟩
              have e0 : ρ (.tmp 81) = .bool false := by rw [hρ]; exact acts_eval_hit 12 rfl hd.1 (by rw [HSZ]; rfl) (by kernel_rfl)
              have e1 : ρ (.tmp 86) = .bool false := by rw [hρ]; exact acts_eval_hit 17 rfl hd.2.1 (by rw [HSZ]; rfl) (by kernel_rfl)
              have ec : ∀ v, ρ (.const v) = v := by rw [hρ]; exact fun _ => rfl
              clear hρ
              go_simp
            · intro f W h19 hd S
              refine wpOp_run (v := .bool false) rfl rfl (fun ρ hρ => ?_) ⟨(acts_some 19 rfl (by kernel_rfl) (by kernel_rfl)).symm, S⟩
              have e0 : ρ (.tmp 87) = .bool false := by rw [hρ]; exact acts_eval_hit 18 rfl hd.1 (by rw [HSZ]; rfl) (by kernel_rfl)
              clear hρ
              go_simp
            · intro f W h20 hd S
              refine wpOp_runG (v := .pointer (some ⟨aF, 1, none⟩)) rfl ?_ (fun ρ hρ => ?_) ⟨(acts_some 20 rfl (by kernel_rfl) (by kernel_rfl)).symm, S⟩
              · exact wanted_hit (t := 88) rfl rfl (acts_eval_hit 19 rfl hd.1 (by rw [HSZ]; rfl) (by kernel_rfl))
              · skip
                have e0 : ρ (.tmp 9) = .pointer (some ⟨aF, 0, none⟩) := by rw [hρ]; exact (acts_eval_tmp 9 (by kernel_rfl)).trans E9
                clear hρ
                go_simp
            · intro f W h21 hd S
              refine wpOp_runG (v := .bool (q == 2)) rfl ?_ (fun ρ hρ => ?_) ⟨(acts_some 21 rfl (by kernel_rfl) (by kernel_rfl)).symm, S⟩
              · exact wanted_hit (t := 88) rfl rfl (acts_eval_hit 19 rfl hd.2.1 (by rw [HSZ]; rfl) (by kernel_rfl))
              · skip
                have e0 : ρ (.tmp 89) = .pointer (some ⟨aF, 1, none⟩) := by rw [hρ]; exact acts_eval_hit 20 rfl hd.1 (by rw [HSZ]; rfl) (by kernel_rfl)
                clear hρ
                (have hz1 : W.cell? ⟨aF, 1, none⟩ = some (.bool (q == 2)) := S.pull2.cell 1)
                go_simp
            · intro f W h22 hd S
              refine wpOp_runG (v := .int .i64 q) rfl ?_ (fun ρ hρ => ?_) ⟨(acts_some 22 rfl (by kernel_rfl) (by kernel_rfl)).symm, S⟩
              · exact wanted_hit (t := 88) rfl rfl (acts_eval_hit 19 rfl hd.1 (by rw [HSZ]; rfl) (by kernel_rfl))
              · skip
                have e0 : ρ (.tmp 10) = .int .i64 q := by rw [hρ]; exact (acts_eval_tmp 10 (by kernel_rfl)).trans E10
                clear hρ
                go_simp
            · intro f W h23 hd S
              refine wpOp_runG (v := .bool (q == 2)) rfl ?_ (fun ρ hρ => ?_) ⟨(acts_some 23 rfl (by kernel_rfl) (by kernel_rfl)).symm, S⟩
              · exact wanted_hit (t := 88) rfl rfl (acts_eval_hit 19 rfl hd.2.1 (by rw [HSZ]; rfl) (by kernel_rfl))
              · skip
                have e0 : ρ (.tmp 91) = .int .i64 q := by rw [hρ]; exact acts_eval_hit 22 rfl hd.1 (by rw [HSZ]; rfl) (by kernel_rfl)
                have ec : ∀ v, ρ (.const v) = v := by rw [hρ]; exact fun _ => rfl
                clear hρ
                go_simp
            · intro f W h24 hd S
              refine wpOp_runG (v := .bool false) rfl ?_ (fun ρ hρ => ?_) ⟨(acts_some 24 rfl (by kernel_rfl) (by kernel_rfl)).symm, S⟩
              · exact wanted_hit (t := 88) rfl rfl (acts_eval_hit 19 rfl hd.2.2.1 (by rw [HSZ]; rfl) (by kernel_rfl))
              · skip
                have e0 : ρ (.tmp 90) = .bool (q == 2) := by rw [hρ]; exact acts_eval_hit 21 rfl hd.1 (by rw [HSZ]; rfl) (by kernel_rfl)
                have e1 : ρ (.tmp 92) = .bool (q == 2) := by rw [hρ]; exact acts_eval_hit 23 rfl hd.2.1 (by rw [HSZ]; rfl) (by kernel_rfl)
                clear hρ
                go_simp
            · intro f W h25 hd S
              refine wpOp_run (v := .bool false) rfl rfl (fun ρ hρ => ?_) ⟨(acts_some 25 rfl (by kernel_rfl) (by kernel_rfl)).symm, S⟩
              have e0 : ρ (.tmp 88) = .bool false := by rw [hρ]; exact acts_eval_hit 19 rfl hd.1 (by rw [HSZ]; rfl) (by kernel_rfl)
              have e1 : ρ (.tmp 93) = .bool false := by rw [hρ]; exact acts_eval_hit 24 rfl hd.2.1 (by rw [HSZ]; rfl) (by kernel_rfl)
              have ec : ∀ v, ρ (.const v) = v := by rw [hρ]; exact fun _ => rfl
              clear hρ
              go_simp
            · intro f W h26 hd S
              refine wpOp_run (v := .bool false) rfl rfl (fun ρ hρ => ?_) ⟨(acts_some 26 rfl (by kernel_rfl) (by kernel_rfl)).symm, S⟩
              have e0 : ρ (.tmp 94) = .bool false := by rw [hρ]; exact acts_eval_hit 25 rfl hd.1 (by rw [HSZ]; rfl) (by kernel_rfl)
              clear hρ
              go_simp
            · intro f W h27 hd S
              refine wpOp_runG (v := .pointer (some ⟨r, 0, none⟩)) rfl ?_ (fun ρ hρ => ?_) ⟨(acts_some 27 rfl (by kernel_rfl) (by kernel_rfl)).symm, S⟩
              · exact wanted_hit (t := 95) rfl rfl (acts_eval_hit 26 rfl hd.1 (by rw [HSZ]; rfl) (by kernel_rfl))
              · skip
                have e0 : ρ (.tmp 3) = .pointer (some ⟨r, 0, none⟩) := by rw [hρ]; exact (acts_eval_tmp 3 (by kernel_rfl)).trans E3
                clear hρ
                go_simp
            · intro f W h28 hd S
              refine wpOp_runG (v := .int .i64 e) rfl ?_ (fun ρ hρ => ?_) ⟨(acts_some 28 rfl (by kernel_rfl) (by kernel_rfl)).symm, S⟩
              · exact wanted_hit (t := 95) rfl rfl (acts_eval_hit 26 rfl hd.1 (by rw [HSZ]; rfl) (by kernel_rfl))
              · skip
                have e0 : ρ (.tmp 7) = .int .i64 e := by rw [hρ]; exact (acts_eval_tmp 7 (by kernel_rfl)).trans E7
                clear hρ
                go_simp
            · intro f W h29 hd S
              refine wpOp_callG rfl (wanted_hit (t := 95) rfl rfl (acts_eval_hit 26 rfl hd.2.2.1 (by rw [HSZ]; rfl) (by kernel_rfl))) (fun ρ hρ => ?_) (rn_count S hbl e) ?_
              · skip
                have e0 : ρ (.tmp 96) = .pointer (some ⟨r, 0, none⟩) := by rw [hρ]; exact acts_eval_hit 27 rfl hd.1 (by rw [HSZ]; rfl) (by kernel_rfl)
                have e1 : ρ (.tmp 97) = .int .i64 e := by rw [hρ]; exact acts_eval_hit 28 rfl hd.2.1 (by rw [HSZ]; rfl) (by kernel_rfl)
                have ef : ρ (.func 12) = .func (.func 12) #[] #[] := by rw [hρ]; rfl
                clear hρ
                go_simp
              · (rintro x W' ⟨rfl, rfl⟩; rw [hcn2]; exact ⟨_, rfl, (acts_some 29 rfl (by kernel_rfl) (by kernel_rfl)).symm, S⟩)
            · intro f W h30 hd S
              refine wpOp_runG (v := .int .i64 e) rfl ?_ (fun ρ hρ => ?_) ⟨(acts_some 30 rfl (by kernel_rfl) (by kernel_rfl)).symm, S⟩
              · exact wanted_hit (t := 95) rfl rfl (acts_eval_hit 26 rfl hd.1 (by rw [HSZ]; rfl) (by kernel_rfl))
              · skip
                have e0 : ρ (.tmp 7) = .int .i64 e := by rw [hρ]; exact (acts_eval_tmp 7 (by kernel_rfl)).trans E7
                clear hρ
                go_simp
            · intro f W h31 hd S
              refine wpOp_runG (v := .pointer (some ⟨b, e, none⟩)) rfl ?_ (fun ρ hρ => ?_) ⟨(acts_some 31 rfl (by kernel_rfl) (by kernel_rfl)).symm, S⟩
              · exact wanted_hit (t := 95) rfl rfl (acts_eval_hit 26 rfl hd.2.1 (by rw [HSZ]; rfl) (by kernel_rfl))
              · skip
                have e0 : ρ (.tmp 5) = .pointer (some ⟨b, 0, none⟩) := by rw [hρ]; exact (acts_eval_tmp 5 (by kernel_rfl)).trans E5
                have e1 : ρ (.tmp 99) = .int .i64 e := by rw [hρ]; exact acts_eval_hit 30 rfl hd.1 (by rw [HSZ]; rfl) (by kernel_rfl)
                clear hρ
                go_simp
            · intro f W h32 hd S
              refine wpOp_runG (v := .int .i64 m) rfl ?_ (fun ρ hρ => ?_) ⟨(acts_some 32 rfl (by kernel_rfl) (by kernel_rfl)).symm, S⟩
              · exact wanted_hit (t := 95) rfl rfl (acts_eval_hit 26 rfl hd.2.1 (by rw [HSZ]; rfl) (by kernel_rfl))
              · skip
                have e0 : ρ (.tmp 100) = .pointer (some ⟨b, e, none⟩) := by rw [hρ]; exact acts_eval_hit 31 rfl hd.1 (by rw [HSZ]; rfl) (by kernel_rfl)
                clear hρ
                (have hz : W.cell? ⟨b, e, none⟩ = some (.int .i64 m) := (S.pull3.cell e).trans hcm)
                go_simp
            · intro f W h33 hd S
              refine wpOp_runG (v := .bool false) rfl ?_ (fun ρ hρ => ?_) ⟨(acts_some 33 rfl (by kernel_rfl) (by kernel_rfl)).symm, S⟩
              · exact wanted_hit (t := 95) rfl rfl (acts_eval_hit 26 rfl hd.2.2.1 (by rw [HSZ]; rfl) (by kernel_rfl))
              · skip
                have e0 : ρ (.tmp 98) = .int .i64 m := by rw [hρ]; exact acts_eval_hit 29 rfl hd.1 (by rw [HSZ]; rfl) (by kernel_rfl)
                have e1 : ρ (.tmp 101) = .int .i64 m := by rw [hρ]; exact acts_eval_hit 32 rfl hd.2.1 (by rw [HSZ]; rfl) (by kernel_rfl)
                clear hρ
                go_simp
            · intro f W h34 hd S
              refine wpOp_run (v := .bool false) rfl rfl (fun ρ hρ => ?_) ⟨(acts_some 34 rfl (by kernel_rfl) (by kernel_rfl)).symm, S⟩
              have e0 : ρ (.tmp 95) = .bool false := by rw [hρ]; exact acts_eval_hit 26 rfl hd.1 (by rw [HSZ]; rfl) (by kernel_rfl)
              have e1 : ρ (.tmp 102) = .bool false := by rw [hρ]; exact acts_eval_hit 33 rfl hd.2.1 (by rw [HSZ]; rfl) (by kernel_rfl)
              have ec : ∀ v, ρ (.const v) = v := by rw [hρ]; exact fun _ => rfl
              clear hρ
              go_simp
          intro W6 T2
          subst ha0
          simp only [acts, if_true, Act.put, List.setIfInBounds_toArray, List.set_cons_succ, List.set_cons_zero]
          have HT2 := Lib.hid T2
          clear T2 T1 HSZ E3 E4 E5 E7 E8 E9 E10
          go_wp2_with fail
          go_roundw
          case rel => exact ⟨k + 1, ⟨yb, yw, yt, yr⟩, C2, by omega, by go_num, HG.out, hbl, HBR.out, by rw [← HN.out] at HT2; exact (HT2.out.re [3, 1, 0, 2]).mid [_, _, _] |>.drop⟩
          case measure => simp [intOf]; omega
    · go_wp2_with fail
      (with_reducible refine (law_awake (S.drop.drop.drop) ht).mono ?_); rintro y w9 ⟨rfl, S9⟩; go_wp2_with fail; exact hK.out _ _ ⟨rfl, S9.above Gnd.le.rfl'⟩
end Go.Proofs.YtdmfapmdjhjlhaaDoor

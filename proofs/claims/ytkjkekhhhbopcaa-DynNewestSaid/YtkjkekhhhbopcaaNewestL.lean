/- The walk of the law DynNewest. -/
import Derived.Test.YtkjkekhhhbopcaaRfd
set_option linter.unusedSimpArgs false
set_option linter.unusedVariables false
namespace Go.Proofs.Ytkjkekhhhbopcaa
open Go.RowKit

theorem newest_get {F : List Fd} {K0 k : Nat} {x y : Fd} (h : (F.drop K0 ++ [x]).reverse[k + 1]? = some y) : F.reverse[k]? = some y := by
  rw [List.reverse_append] at h
  simp only [List.reverse_cons, List.reverse_nil, List.nil_append, List.singleton_append, List.getElem?_cons_succ] at h
  have hk := (List.getElem?_eq_some_iff.1 h).1
  rw [List.length_reverse, List.length_drop] at hk
  rw [List.getElem?_reverse (by rw [List.length_drop]; omega), List.getElem?_drop, List.length_drop] at h
  rw [List.getElem?_reverse (by omega), ← h]
  congr 1
  omega
set_option maxHeartbeats 16000000 in
set_option maxRecDepth 100000 in
theorem dynNewest_walk (w : World) (v0 v1 v2 : Value) (h0 : ∃ d, ArgV w (.int .i64) v0 d) (h1 : ∃ d, ArgV w (.sl 48 (Ty.agg [.int .i64, .int .i64, (Ty.agg [.str, .str])])) v1 d) (h2 : ∃ d, ArgV w (Ty.agg [.str, .str]) v2 d) :
    Calls Try.prog 7 #[v0, v1, v2] w fun e w' => e = .returned (.bool true) ∧ Below w.heap.size w w' := by
  refine calls_any fun K hK => ?_
  obtain ⟨_, h0⟩ := h0
  obtain ⟨n, rfl, -⟩ := arg_int h0
  obtain ⟨_, h1⟩ := h1
  obtain ⟨l, h1⟩ := arg_sl h1
  obtain ⟨ops, hops⟩ := ops_of h1
  obtain ⟨_, h2⟩ := h2
  obtain ⟨x, rfl, hx1, hx2⟩ := arg_field h2
  clear h0 h1 h2
  have S0 := (Sat.start w).newBlk #[.string (bstr x.1), .string (bstr x.2)] 23
  have hG0 := Gnd.le.rfl' (G := Gnd.of w)
  have hsm := law_small S0 v1 ops hops
  obtain ⟨X, xc, rfl, hlc, hc, hel⟩ := hops
  have HEL := Lib.hid hel
  have hbs1 := bstr_size x.1
  have hbs2 := bstr_size x.2
  clear hel S0
  by_cases hq : osum ops ≤ 120
  · rw [decide_eq_true hq] at hsm
    by_cases hn : lRight n = true
    · obtain ⟨a1, a2⟩ := of_decide_eq_true hn
      have z1 : ¬ (n < 0) := by omega
      have z2 : ¬ (65536 < n) := by omega
      by_cases hn1 : 1000 < (x.1.length : Int)
      · clear hq hn
        go_enter Try.func7, Try.ntmps7
        go_wp2_with fail; (with_reducible refine hsm.mono ?_); clear hsm; generalize w.heap.size = r; rintro e w1 ⟨rfl, S1⟩; have d0 := S1.cell 0; have d1 := S1.cell 1
        go_wp2_with fail
        (with_reducible refine (law_awake (S1.drop)).mono ?_); rintro e w9 ⟨rfl, S9⟩; go_wp2_with fail; exact hK.out _ _ ⟨rfl, S9.above hG0⟩
      by_cases hn2 : 1000 < (x.2.length : Int)
      · clear hq hn
        go_enter Try.func7, Try.ntmps7
        go_wp2_with fail; (with_reducible refine hsm.mono ?_); clear hsm; generalize w.heap.size = r; rintro e w1 ⟨rfl, S1⟩; have d0 := S1.cell 0; have d1 := S1.cell 1
        go_wp2_with fail
        (with_reducible refine (law_awake (S1.drop)).mono ?_); rintro e w9 ⟨rfl, S9⟩; go_wp2_with fail; exact hK.out _ _ ⟨rfl, S9.above hG0⟩
      have HN := Lib.hid hn
      have hwf0 : TWf [] [] n := ⟨a1, a2, by simpa [fsz] using a1, Nat.le_refl _⟩
      have HW0 := Lib.hid hwf0
      clear hq hwf0 hn
      go_enter Try.func7, Try.ntmps7
      go_wp2_with fail; (with_reducible refine hsm.mono ?_); clear hsm; generalize w.heap.size = r; rintro e w1 ⟨rfl, S1⟩; have d0 := S1.cell 0; have d1 := S1.cell 1
      have hnew := tb_new S1 n HN.out
      clear S1
      go_wp2_with fail
      (with_reducible refine hnew.mono ?_)
      clear hnew d0 d1
      rintro e w2 ⟨p, rfl, S2⟩
      go_wp2_with fail
      go_loopw [0, 9, 54] (fun lv xv i wr => ∃ (k : Nat) (Z F : List Fd) (lim : Int) (G' : Gnd), k ≤ ops.length ∧ i = .int .i64 k ∧ lv = .int .i64 lim ∧ (Gnd.of w).le G' ∧ TWf Z F lim ∧ RF (cellR G'.ro) xv F.reverse ∧ Sat G' wr [tbA p Z F lim, blk r #[.string (bstr x.1), .string (bstr x.2)] 23]) (fun _ _ i _ => ops.length - (intOf i).toNat)
      case atStart => exact ⟨0, [], [], n, Gnd.of w, Nat.zero_le _, rfl, rfl, hG0, HW0.out, RF.nil _, S2⟩
      case round =>
        obtain ⟨k, Z, F, lim, G1, hk, rfl, rfl, hG1, hwf, hrf, S⟩ := hrel
        clear S2
        by_cases hlt : k < ops.length
        · have hok := List.getElem?_eq_getElem hlt
          obtain ⟨ad, bo, off, rfl, had, hcl, ho⟩ := HEL.out k _ hok
          generalize ops[k] = o at hcl ho
          clear hok
          obtain ⟨ok, on, ⟨h, b⟩⟩ := o
          simp only [OpD.cells, fenc] at hcl
          have d0 := S.cellR (cellR_mono hG1.ro (hcl 0 _ rfl))
          have d1 := S.cellR (cellR_mono hG1.ro (hcl 1 _ rfl))
          have d2 := S.cellR (cellR_mono hG1.ro (hcl 2 _ rfl))
          have d3 := S.cellR (cellR_mono hG1.ro (hcl 3 _ rfl))
          rw [Nat.add_zero] at d0
          have HS6 := Lib.hid (S.newBlk #[.int .i64 ok, .int .i64 on, .string (bstr h), .string (bstr b)] 36)
          have HO := Lib.hid ho
          have HWF := Lib.hid hwf
          have HRF := Lib.hid hrf
          obtain ⟨Y, yc, rfl, -⟩ := id hrf
          clear S hcl ho hwf hrf
          rw [List.length_reverse] at HRF ⊢
          go_upto_region 10 with fail
          generalize wr.heap.size = z at *
          refine wp_world HS6.out fun w5 S7 => ?_
          clear HS6 d0 d1 d2 d3
          have d0 := S7.cell 0
          have d1 := S7.cell 1
          have d2 := S7.cell 2
          have d3 := S7.cell 3
          have hst := law_step S7.swap HWF.out HRF.out ok on (h, b) HO.out.h HO.out.b
          clear S7
          go_wp2_with fail
          (with_reducible refine hst.mono ?_)
          clear hst d0 d1 d2 d3
          rintro e w6 ⟨u, G2, Z2, hG2, rfl, hu, hwf2, S8⟩
          obtain ⟨q, hq⟩ : ∃ q, q = stepF lim F ⟨ok, on, (h, b)⟩ := ⟨_, rfl⟩
          rw [← hq] at hu hwf2 S8 ⊢
          obtain ⟨F2, lim2⟩ := q
          simp only at hu hwf2 S8 ⊢
          clear hq
          have HU := Lib.hid hu
          have HW2 := Lib.hid hwf2
          have HS8 := Lib.hid S8
          obtain ⟨Y2, yc2, rfl, -⟩ := id hu
          rw [List.length_reverse] at HU ⊢
          clear hu hwf2 S8
          go_wp2_with fail
          go_roundw
          case rel => exact ⟨k + 1, Z2, F2, lim2, G2, by omega, by go_num, rfl, hG1.trans hG2, HW2.out, HU.out, HS8.out.drop2⟩
          case measure => simp [intOf]; omega
        · have hkk : k = ops.length := by omega
          have hzl := hwf.z
          have hfl := hwf.len
          have hl1 := hwf.l1
          have hsz := hwf.sz
          have HZF : Hid (Z.length ≤ 10000 ∧ F.length ≤ 10000) := Lib.hid (by omega)
          have HRF := Lib.hid hrf
          have HWF := Lib.hid hwf
          obtain ⟨Y, yc, rfl, -⟩ := id hrf
          rw [List.length_reverse] at HRF ⊢
          have d0 := S.swap.cell 0
          have d1 := S.swap.cell 1
          have hl0 := hwf.l0
          have had := tb_add S hwf x (by omega) (by omega)
          have HSX0 : Hid (fsz1 x ≤ 1000000000) := Lib.hid (by unfold fsz1; omega)
          have hF2l := addF_len lim F x
          have hK0l := shrF_len (lim - fsz1 x) F
          have hdr := shrF_drop (lim - fsz1 x) F
          obtain ⟨K0, hK0⟩ : ∃ K0, K0 = (shrF (lim - fsz1 x) F).2 := ⟨_, rfl⟩
          rw [← hK0] at had hF2l hdr hK0l
          have HK0 : Hid (addF lim F x = F.drop K0 ++ (if (fsz1 x : Int) ≤ lim then [x] else [])) := Lib.hid (by rw [← hdr]; rfl)
          have HAL : Hid (lim - (fsz1 x : Int) < 0 → F.drop K0 = []) := Lib.hid fun h => by rw [← hdr, shrF_all h]
          clear S hrf hwf hdr hK0
          go_wp2_with fail
          (with_reducible refine had.mono ?_)
          clear had d0 d1
          rintro e w3 ⟨rfl, Z2, wf2, S3⟩
          have d0 := S3.swap.cell 0
          have d1 := S3.swap.cell 1
          have hs := fd_size S3 x.1 x.2 (by omega) (by omega)
          have hsx : ((fsz1 (x.1, x.2) : Nat) : Int) = (fsz1 x : Nat) := rfl
          obtain ⟨sx, hsx2⟩ : ∃ sx, sx = fsz1 x := ⟨_, rfl⟩
          rw [hsx, ← hsx2] at hs
          rw [← hsx2] at HK0 HAL hF2l HSX0
          have hzl2 := wf2.z
          clear S3 hsx hsx2
          by_cases hfit : (sx : Int) ≤ lim
          · rw [if_pos hfit] at hF2l
            have hF2 := HK0.out
            rw [if_pos hfit] at hF2
            rw [hF2] at hs hF2l hzl2
            rw [hF2] at wf2
            obtain ⟨F2, hF3⟩ : ∃ F2, F2 = F.drop K0 ++ [x] := ⟨_, rfl⟩
            rw [← hF3] at hs hF2l hzl2 wf2
            have hrev : F2.reverse = x :: (F.drop K0).reverse := by rw [hF3, List.reverse_append]; rfl
            have hfd : findR F2.reverse x = (1, true) := by
              rw [hrev]
              have h1 : firstAt (isF x) (x :: (F.drop K0).reverse) = 1 := by rw [firstAt]; simp [isF]
              unfold findR
              rw [if_neg (by rw [h1]; decide), h1]
            have HGT : Hid (∀ k y, F2.reverse[k + 1]? = some y → F.reverse[k]? = some y) := Lib.hid fun k y h => newest_get (by rw [← hF3]; exact h)
            have hgt : ¬ (lim < (sx : Int)) := by omega
            have hpos : 1 ≤ F2.length := by rw [hF3]; simp
            have hle : F2.length ≤ F.length + 1 := by omega
            have HZ2 : Hid (Z2.length ≤ 10000 ∧ F2.length ≤ 10000) := Lib.hid (by omega)
            have HL2 : Hid (F2.reverse.length = F2.length) := Lib.hid List.length_reverse
            have HWF2 := Lib.hid wf2
            clear hF2 hF3 hrev wf2 hzl2 hzl hfl hsz hF2l hK0l
            go_wp2_with fail
            (with_reducible refine hs.mono ?_)
            clear hs d0 d1
            rintro e w4 ⟨rfl, S4⟩
            have d0 := S4.swap.cell 0
            have d1 := S4.swap.cell 1
            have hfi := tb_find S4 HZ2.out.1 HZ2.out.2 x
            rw [hfd] at hfi
            change Calls _ _ _ _ (fun e w' => e = .returned (.tuple #[.int .i64 1, .bool true]) ∧ _) at hfi
            clear S4 hfd
            go_wp2_with fail
            (with_reducible refine hfi.mono ?_)
            clear hfi d0 d1
            rintro e w5 ⟨rfl, G2, hG2, S5⟩
            have hln := tb_len S5 (by have := HZ2.out; omega) (by have := HZ2.out; omega)
            obtain ⟨nl, hnl⟩ : ∃ nl, nl = F.length := ⟨_, rfl⟩
            obtain ⟨n2, hn2⟩ : ∃ n2, n2 = F2.length := ⟨_, rfl⟩
            have HNL := Lib.hid hnl
            have HN2 := Lib.hid hn2
            have hb : nl ≤ 10000 ∧ n2 ≤ 10000 := by have h1 := HZF.out.2; have h2 := HZ2.out.2; omega
            rw [← hn2] at hln hpos hle
            rw [← hnl] at hle HRF ⊢
            have hwl : IntKind.i64.wrap ((nl : Int) + 1) = ((nl + 1 : Nat) : Int) := by rw [IntWalk.i64_in _ (by omega)]; omega
            have hle2 : ¬ (((nl + 1 : Nat) : Int) < (n2 : Int)) := by omega
            clear S5 hnl hn2
            go_wp2_with fail
            (with_reducible refine hln.mono ?_)
            clear hln
            rintro e w6 ⟨rfl, S6⟩
            have hle3 : ¬ ((nl : Int) + 1 < (n2 : Int)) := by omega
            have hln := tb_len S6 (by have := HZ2.out; omega) (by have := HZ2.out; omega)
            rw [← HN2.out] at hln
            clear S6
            go_wp2_with fail
            (with_reducible refine hln.mono ?_)
            clear hln
            rintro e w7 ⟨rfl, S7⟩
            obtain ⟨m, hm⟩ : ∃ m, m + 1 = n2 := ⟨n2 - 1, by omega⟩
            have hwm : IntKind.i64.wrap ((n2 : Int) - 1) = (m : Int) := by rw [IntWalk.i64_in _ (by omega)]; omega
            have HM := Lib.hid hm
            have HMN : Hid (m ≤ nl) := Lib.hid (by omega)
            have hmb : m ≤ 10000 := by omega
            clear hm hle hle2 hle3 hpos hgt hfit
            go_wp2_with fail
            go_loopw [109] (fun i wr => ∃ k : Nat, k ≤ m ∧ i = .int .i64 k ∧ Sat G2 wr [tbA p Z2 F2 lim, blk r #[.string (bstr x.1), .string (bstr x.2)] 23]) (fun i _ => m - (intOf i).toNat)
            case atStart => exact ⟨0, Nat.zero_le _, rfl, S7⟩
            case round =>
              obtain ⟨k, hk, rfl, S⟩ := hrel
              clear S7
              by_cases hlt : k < m
              · have hm2 := HM.out
                have hmn := HMN.out
                have hx := List.getElem?_eq_getElem (l := F2.reverse) (i := k + 1) (by rw [HL2.out, ← HN2.out]; omega)
                have hget0 := (rev_get (F := F2) (i := k + 1) (by rw [← HN2.out]; omega)).trans hx
                have hyF := HGT.out k _ hx
                generalize F2.reverse[k + 1]'(by rw [HL2.out, ← HN2.out]; omega) = y at *
                obtain ⟨A, c, e, -, -, -, hel⟩ := HRF.out.mono hG2
                obtain ⟨e1, e2, e3⟩ := Value.slice.inj e
                subst e1
                obtain ⟨g, o, rfl, hcl⟩ := hel k y hyF
                have hget := tb_get S (by have := HZ2.out; omega) (by have := HZ2.out; omega) (k + 1 + 1) (by omega) (by rw [← HN2.out]; omega) y hget0
                have HCL := Lib.hid hcl
                obtain ⟨k2, hk2⟩ : ∃ k2, k2 = k + 1 + 1 := ⟨_, rfl⟩
                rw [← hk2] at hget
                have hwk : IntKind.i64.wrap ((k : Int) + 2) = (k2 : Int) := by rw [IntWalk.i64_in _ (by omega)]; omega
                have hwk1 : IntKind.i64.wrap ((k : Int) + 1) = (k : Int) + 1 := IntWalk.i64_in _ (by omega)
                have HLT : Hid ((k : Int) < (nl : Int) ∧ k < nl ∧ k < m) := Lib.hid (by omega)
                have hlc : nl ≤ c := by
                  obtain ⟨A', c', e', h1, -⟩ := HRF.out
                  obtain ⟨-, h2, h3⟩ := Value.slice.inj e'
                  omega
                clear hcl hx hget0 S hel e e2 e3 hk2 hyF hm2 hmn
                go_wp2_with fail
                (with_reducible refine hget.mono ?_)
                clear hget hwk
                rintro e w8 ⟨rfl, S8⟩
                have S9 := S8.newBlk #[.string (bstr y.1), .string (bstr y.2)] 23
                clear S8
                go_upto_region 22 with fail
                generalize w8.heap.size = r2 at *
                refine wp_world S9 fun w9 S10 => ?_
                clear S9
                refine wp_act fun a0 ha0 => ?_
                have HSZ : a0.tmps.size = 138 := by rw [ha0]; rfl
                have E9 : a0.eval (.tmp 9) = .slice (some ⟨g, o, none⟩) nl yc := by rw [ha0]; rfl
                have E14 : a0.eval (.tmp 14) = .int .i64 k := by rw [ha0]; rfl
                have E15 : a0.eval (.tmp 15) = .pointer (some ⟨r2, 0, none⟩) := by rw [ha0]; rfl
                have E16 : a0.eval (.tmp 16) = .int .i64 0 := by rw [ha0]; rfl
                refine wp_region_J (by kernel_rfl) 17 (by kernel_rfl) [[], [0], [1], [2], [2], [4, 2], [3, 5, 2], [2, 6], [7, 2], [8], [9, 8, 8], [8], [8], [11, 12, 8], [13, 8], [10, 14, 8], [8, 15]] (by kernel_rfl) (by kernel_rfl) (fun f a' W => a' = acts [(0, 119, .int .i64 0), (1, 120, .bool false), (2, 121, .bool false), (3, 122, .int .i64 k), (4, 123, .slice (some ⟨g, o, none⟩) nl yc), (5, 124, .int .i64 nl), (6, 125, .bool false), (7, 126, .bool false), (8, 127, .bool false), (9, 128, .agg #[.string (bstr y.1), .string (bstr y.2)]), (10, 129, .agg #[.string (bstr y.1), .string (bstr y.2)]), (11, 130, .slice (some ⟨g, o, none⟩) nl yc), (12, 131, .int .i64 k), (13, 132, .pointer (some ⟨g, o + k * 2, none⟩)), (14, 133, .agg #[.string (bstr y.1), .string (bstr y.2)]), (15, 134, .bool false), (16, 135, .bool false)] f a0 ∧ Sat G2 W [blk r2 #[.string (bstr y.1), .string (bstr y.2)] 23, tbA p Z2 F2 lim, blk r #[.string (bstr x.1), .string (bstr x.2)] 23]) ?_ ?_ ?_
                · exact ⟨rfl, S10.drew⟩
                · refine ⟨?_, ?_, ?_, ?_, ?_, ?_, ?_, ?_, ?_, ?_, ?_, ?_, ?_, ?_, ?_, ?_, ?_, trivial⟩
                  · rintro f a' W h0 hd ⟨rfl, S⟩
                    refine wpOp_run (v := .int .i64 0) rfl rfl (fun ρ hρ => ?_) ⟨(acts_some 0 rfl (by kernel_rfl) (by kernel_rfl)).symm, S⟩
                    have e0 : ρ (.tmp 16) = .int .i64 0 := by rw [hρ]; exact (acts_eval_tmp 16 (by kernel_rfl)).trans E16
                    clear hρ
                    go_simp
                  · rintro f a' W h1 hd ⟨rfl, S⟩
                    refine wpOp_run (v := .bool false) rfl rfl (fun ρ hρ => ?_) ⟨(acts_some 1 rfl (by kernel_rfl) (by kernel_rfl)).symm, S⟩
                    have e0 : ρ (.tmp 119) = .int .i64 0 := by rw [hρ]; exact acts_eval_hit 0 rfl hd.1 (by rw [HSZ]; rfl) (by kernel_rfl)
                    have ec : ∀ v, ρ (.const v) = v := by rw [hρ]; exact fun _ => rfl
                    clear hρ
                    go_simp
                  · rintro f a' W h2 hd ⟨rfl, S⟩
                    refine wpOp_run (v := .bool false) rfl rfl (fun ρ hρ => ?_) ⟨(acts_some 2 rfl (by kernel_rfl) (by kernel_rfl)).symm, S⟩
                    have e0 : ρ (.tmp 120) = .bool false := by rw [hρ]; exact acts_eval_hit 1 rfl hd.1 (by rw [HSZ]; rfl) (by kernel_rfl)
                    clear hρ
                    go_simp
                  · rintro f a' W h3 hd ⟨rfl, S⟩
                    refine wpOp_runG (v := .int .i64 k) rfl ?_ (fun ρ hρ => ?_) ⟨(acts_some 3 rfl (by kernel_rfl) (by kernel_rfl)).symm, S⟩
                    · exact wanted_hit (t := 121) rfl rfl (acts_eval_hit 2 rfl hd.1 (by rw [HSZ]; rfl) (by kernel_rfl))
                    · skip
                      have e0 : ρ (.tmp 14) = .int .i64 k := by rw [hρ]; exact (acts_eval_tmp 14 (by kernel_rfl)).trans E14
                      clear hρ
                      go_simp
                  · rintro f a' W h4 hd ⟨rfl, S⟩
                    refine wpOp_runG (v := .slice (some ⟨g, o, none⟩) nl yc) rfl ?_ (fun ρ hρ => ?_) ⟨(acts_some 4 rfl (by kernel_rfl) (by kernel_rfl)).symm, S⟩
                    · exact wanted_hit (t := 121) rfl rfl (acts_eval_hit 2 rfl hd.1 (by rw [HSZ]; rfl) (by kernel_rfl))
                    · skip
                      have e0 : ρ (.tmp 9) = .slice (some ⟨g, o, none⟩) nl yc := by rw [hρ]; exact (acts_eval_tmp 9 (by kernel_rfl)).trans E9
                      clear hρ
                      go_simp
                  · rintro f a' W h5 hd ⟨rfl, S⟩
                    refine wpOp_runG (v := .int .i64 nl) rfl ?_ (fun ρ hρ => ?_) ⟨(acts_some 5 rfl (by kernel_rfl) (by kernel_rfl)).symm, S⟩
                    · exact wanted_hit (t := 121) rfl rfl (acts_eval_hit 2 rfl hd.2.1 (by rw [HSZ]; rfl) (by kernel_rfl))
                    · skip
                      have e0 : ρ (.tmp 123) = .slice (some ⟨g, o, none⟩) nl yc := by rw [hρ]; exact acts_eval_hit 4 rfl hd.1 (by rw [HSZ]; rfl) (by kernel_rfl)
                      clear hρ
                      go_simp
                  · rintro f a' W h6 hd ⟨rfl, S⟩
                    refine wpOp_runG (v := .bool false) rfl ?_ (fun ρ hρ => ?_) ⟨(acts_some 6 rfl (by kernel_rfl) (by kernel_rfl)).symm, S⟩
                    · exact wanted_hit (t := 121) rfl rfl (acts_eval_hit 2 rfl hd.2.2.1 (by rw [HSZ]; rfl) (by kernel_rfl))
                    · skip
                      have e0 : ρ (.tmp 122) = .int .i64 k := by rw [hρ]; exact acts_eval_hit 3 rfl hd.1 (by rw [HSZ]; rfl) (by kernel_rfl)
                      have e1 : ρ (.tmp 124) = .int .i64 nl := by rw [hρ]; exact acts_eval_hit 5 rfl hd.2.1 (by rw [HSZ]; rfl) (by kernel_rfl)
                      clear hρ
                      (have hh := HLT.out.1; have hh2 : ¬ ((nl : Int) ≤ (k : Int)) := (by omega))
                      go_simp
                  · rintro f a' W h7 hd ⟨rfl, S⟩
                    refine wpOp_run (v := .bool false) rfl rfl (fun ρ hρ => ?_) ⟨(acts_some 7 rfl (by kernel_rfl) (by kernel_rfl)).symm, S⟩
                    have e0 : ρ (.tmp 121) = .bool false := by rw [hρ]; exact acts_eval_hit 2 rfl hd.1 (by rw [HSZ]; rfl) (by kernel_rfl)
                    have e1 : ρ (.tmp 125) = .bool false := by rw [hρ]; exact acts_eval_hit 6 rfl hd.2.1 (by rw [HSZ]; rfl) (by kernel_rfl)
                    have ec : ∀ v, ρ (.const v) = v := by rw [hρ]; exact fun _ => rfl
                    clear hρ
                    go_simp
                  · rintro f a' W h8 hd ⟨rfl, S⟩
                    refine wpOp_run (v := .bool false) rfl rfl (fun ρ hρ => ?_) ⟨(acts_some 8 rfl (by kernel_rfl) (by kernel_rfl)).symm, S⟩
                    have e0 : ρ (.tmp 126) = .bool false := by rw [hρ]; exact acts_eval_hit 7 rfl hd.1 (by rw [HSZ]; rfl) (by kernel_rfl)
                    clear hρ
                    go_simp
                  · rintro f a' W h9 hd ⟨rfl, S⟩
                    refine wpOp_runG (v := .agg #[.string (bstr y.1), .string (bstr y.2)]) rfl ?_ (fun ρ hρ => ?_) ⟨(acts_some 9 rfl (by kernel_rfl) (by kernel_rfl)).symm, S⟩
                    · exact wanted_hit (t := 127) rfl rfl (acts_eval_hit 8 rfl hd.1 (by rw [HSZ]; rfl) (by kernel_rfl))
                    · skip
                      have e0 : ρ (.tmp 15) = .pointer (some ⟨r2, 0, none⟩) := by rw [hρ]; exact (acts_eval_tmp 15 (by kernel_rfl)).trans E15
                      clear hρ
                      (have hz0 := S.cell 0; have hz1 := S.cell 1)
                      go_simp
                  · rintro f a' W h10 hd ⟨rfl, S⟩
                    refine wpOp_callG rfl (wanted_hit (t := 127) rfl rfl (acts_eval_hit 8 rfl hd.2.1 (by rw [HSZ]; rfl) (by kernel_rfl))) (fun ρ hρ => ?_) (law_pair S y) ?_
                    · skip
                      have e0 : ρ (.tmp 128) = .agg #[.string (bstr y.1), .string (bstr y.2)] := by rw [hρ]; exact acts_eval_hit 9 rfl hd.1 (by rw [HSZ]; rfl) (by kernel_rfl)
                      have ef : ρ (.func 20) = .func (.func 20) #[] #[] := by rw [hρ]; rfl
                      clear hρ
                      go_simp
                    · (rintro e W' ⟨rfl, S'⟩; exact ⟨_, rfl, (acts_some 10 rfl (by kernel_rfl) (by kernel_rfl)).symm, S'⟩)
                  · rintro f a' W h11 hd ⟨rfl, S⟩
                    refine wpOp_runG (v := .slice (some ⟨g, o, none⟩) nl yc) rfl ?_ (fun ρ hρ => ?_) ⟨(acts_some 11 rfl (by kernel_rfl) (by kernel_rfl)).symm, S⟩
                    · exact wanted_hit (t := 127) rfl rfl (acts_eval_hit 8 rfl hd.1 (by rw [HSZ]; rfl) (by kernel_rfl))
                    · skip
                      have e0 : ρ (.tmp 9) = .slice (some ⟨g, o, none⟩) nl yc := by rw [hρ]; exact (acts_eval_tmp 9 (by kernel_rfl)).trans E9
                      clear hρ
                      go_simp
                  · rintro f a' W h12 hd ⟨rfl, S⟩
                    refine wpOp_runG (v := .int .i64 k) rfl ?_ (fun ρ hρ => ?_) ⟨(acts_some 12 rfl (by kernel_rfl) (by kernel_rfl)).symm, S⟩
                    · exact wanted_hit (t := 127) rfl rfl (acts_eval_hit 8 rfl hd.1 (by rw [HSZ]; rfl) (by kernel_rfl))
                    · skip
                      have e0 : ρ (.tmp 14) = .int .i64 k := by rw [hρ]; exact (acts_eval_tmp 14 (by kernel_rfl)).trans E14
                      clear hρ
                      go_simp
                  · rintro f a' W h13 hd ⟨rfl, S⟩
                    refine wpOp_runG (v := .pointer (some ⟨g, o + k * 2, none⟩)) rfl ?_ (fun ρ hρ => ?_) ⟨(acts_some 13 rfl (by kernel_rfl) (by kernel_rfl)).symm, S⟩
                    · exact wanted_hit (t := 127) rfl rfl (acts_eval_hit 8 rfl hd.2.2.1 (by rw [HSZ]; rfl) (by kernel_rfl))
                    · skip
                      have e0 : ρ (.tmp 130) = .slice (some ⟨g, o, none⟩) nl yc := by rw [hρ]; exact acts_eval_hit 11 rfl hd.1 (by rw [HSZ]; rfl) (by kernel_rfl)
                      have e1 : ρ (.tmp 131) = .int .i64 k := by rw [hρ]; exact acts_eval_hit 12 rfl hd.2.1 (by rw [HSZ]; rfl) (by kernel_rfl)
                      clear hρ
                      (have hh1 := HLT.out.1; have hh2 := HLT.out.2.1)
                      go_simp
                  · rintro f a' W h14 hd ⟨rfl, S⟩
                    refine wpOp_runG (v := .agg #[.string (bstr y.1), .string (bstr y.2)]) rfl ?_ (fun ρ hρ => ?_) ⟨(acts_some 14 rfl (by kernel_rfl) (by kernel_rfl)).symm, S⟩
                    · exact wanted_hit (t := 127) rfl rfl (acts_eval_hit 8 rfl hd.2.1 (by rw [HSZ]; rfl) (by kernel_rfl))
                    · skip
                      have e0 : ρ (.tmp 132) = .pointer (some ⟨g, o + k * 2, none⟩) := by rw [hρ]; exact acts_eval_hit 13 rfl hd.1 (by rw [HSZ]; rfl) (by kernel_rfl)
                      clear hρ
                      (have hz0 := S.cellR (HCL.out 0 _ rfl); have hz1 := S.cellR (HCL.out 1 _ rfl); generalize o + k * 2 = jj at *)
                      go_simp
                  · rintro f a' W h15 hd ⟨rfl, S⟩
                    refine wpOp_runG (v := .bool false) rfl ?_ (fun ρ hρ => ?_) ⟨(acts_some 15 rfl (by kernel_rfl) (by kernel_rfl)).symm, S⟩
                    · exact wanted_hit (t := 127) rfl rfl (acts_eval_hit 8 rfl hd.2.2.1 (by rw [HSZ]; rfl) (by kernel_rfl))
                    · skip
                      have e0 : ρ (.tmp 129) = .agg #[.string (bstr y.1), .string (bstr y.2)] := by rw [hρ]; exact acts_eval_hit 10 rfl hd.1 (by rw [HSZ]; rfl) (by kernel_rfl)
                      have e1 : ρ (.tmp 133) = .agg #[.string (bstr y.1), .string (bstr y.2)] := by rw [hρ]; exact acts_eval_hit 14 rfl hd.2.1 (by rw [HSZ]; rfl) (by kernel_rfl)
                      clear hρ
                      (have hz := eq_arrS y W)
                      go_simp
                  · rintro f a' W h16 hd ⟨rfl, S⟩
                    refine wpOp_run (v := .bool false) rfl rfl (fun ρ hρ => ?_) ⟨(acts_some 16 rfl (by kernel_rfl) (by kernel_rfl)).symm, S⟩
                    have e0 : ρ (.tmp 127) = .bool false := by rw [hρ]; exact acts_eval_hit 8 rfl hd.1 (by rw [HSZ]; rfl) (by kernel_rfl)
                    have e1 : ρ (.tmp 134) = .bool false := by rw [hρ]; exact acts_eval_hit 15 rfl hd.2.1 (by rw [HSZ]; rfl) (by kernel_rfl)
                    have ec : ∀ v, ρ (.const v) = v := by rw [hρ]; exact fun _ => rfl
                    clear hρ
                    go_simp
                rintro a' W ⟨rfl, S11⟩
                subst ha0
                simp only [acts, if_true, Act.put, List.setIfInBounds_toArray, List.set_cons_succ, List.set_cons_zero]
                clear HSZ E9 E14 E15 E16 S10
                go_wp2_with fail
                go_roundw
                case rel => exact ⟨k + 1, by have := HLT.out; omega, by go_num, S11.drop⟩
                case measure => simp [intOf]; have := HLT.out; omega
              · have hkm : k = m := by omega
                have HS := Lib.hid S
                clear S
                go_wp2_with fail
                (with_reducible refine (law_awake (HS.out.drop.drop)).mono ?_); rintro e w9 ⟨rfl, S9⟩; go_wp2_with fail; exact hK.out _ _ ⟨rfl, S9.above (hG1.trans hG2)⟩
          · have hF2 := HK0.out
            rw [if_neg hfit, List.append_nil, HAL.out (by omega)] at hF2
            rw [hF2] at hs hzl2
            have hgt : lim < (sx : Int) := by omega
            simp only [List.length_nil] at hzl2
            have HZ2 : Hid (Z2.length ≤ 100000) := Lib.hid (by omega)
            clear hF2 wf2 hzl2 hzl hfl hsz hF2l hK0l
            go_wp2_with fail
            (with_reducible refine hs.mono ?_)
            clear hs d0 d1
            rintro e w4 ⟨rfl, S4⟩
            have hln := tb_len S4 HZ2.out (by decide)
            change Calls _ _ _ _ (fun e w' => e = .returned (.int .i64 0) ∧ _) at hln
            clear S4
            go_wp2_with fail
            (with_reducible refine hln.mono ?_)
            clear hln
            rintro e w5 ⟨rfl, S5⟩
            have hts := tb_size S5
            change Calls _ _ _ _ (fun e w' => e = .returned (.int .i64 0) ∧ _) at hts
            go_wp2_with fail
            (with_reducible refine hts.mono ?_)
            clear hts
            rintro e w6 ⟨rfl, rfl⟩
            go_wp2_with fail
            (with_reducible refine (law_awake (S5.drop.drop)).mono ?_); rintro e w9 ⟨rfl, S9⟩; go_wp2_with fail; exact hK.out _ _ ⟨rfl, S9.above hG1⟩
    · have hn := eq_false_of_ne_true hn
      have h3 : ¬ (0 ≤ n ∧ n ≤ 65536) := of_decide_eq_false hn
      clear hq hn
      by_cases h4 : n < 0
      · go_enter Try.func7, Try.ntmps7
        go_wp2_with fail; (with_reducible refine hsm.mono ?_); clear hsm; generalize w.heap.size = r; rintro e w1 ⟨rfl, S1⟩; have d0 := S1.cell 0; have d1 := S1.cell 1
        go_wp2_with fail
        (with_reducible refine (law_awake (S1.drop)).mono ?_); rintro e w9 ⟨rfl, S9⟩; go_wp2_with fail; exact hK.out _ _ ⟨rfl, S9.above hG0⟩
      · have h5 : 65536 < n := by omega
        go_enter Try.func7, Try.ntmps7
        go_wp2_with fail; (with_reducible refine hsm.mono ?_); clear hsm; generalize w.heap.size = r; rintro e w1 ⟨rfl, S1⟩; have d0 := S1.cell 0; have d1 := S1.cell 1
        go_wp2_with fail
        (with_reducible refine (law_awake (S1.drop)).mono ?_); rintro e w9 ⟨rfl, S9⟩; go_wp2_with fail; exact hK.out _ _ ⟨rfl, S9.above hG0⟩
  · rw [decide_eq_false hq] at hsm
    go_enter Try.func7, Try.ntmps7
    go_wp2_with fail; (with_reducible refine hsm.mono ?_); clear hsm; generalize w.heap.size = r; rintro e w1 ⟨rfl, S1⟩; have d0 := S1.cell 0; have d1 := S1.cell 1
    go_wp2_with fail
    (with_reducible refine (law_awake (S1.drop)).mono ?_); rintro e w9 ⟨rfl, S9⟩; go_wp2_with fail; exact hK.out _ _ ⟨rfl, S9.above hG0⟩
end Go.Proofs.Ytkjkekhhhbopcaa

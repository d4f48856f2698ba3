/- The walk over same. -/
import Derived.Test.YtkjkekhhhbopcaaSml
set_option linter.unusedSimpArgs false
set_option linter.unusedVariables false
namespace Go.Proofs.Ytkjkekhhhbopcaa
open Go.RowKit

theorem eq_arrS (x : Fd) (w : World) : (Op.equalIn 10000 47 (.agg #[.string (bstr x.1), .string (bstr x.2)]) (.agg #[.string (bstr x.1), .string (bstr x.2)])).run Try.prog w = .ok true w := by
  have u3 := Try.underlying9
  have a3 := Try.isAgg9
  have z3 := Try.sizeOf9
  rw [show (10000 : Nat) = 9999 + 1 from rfl, Op.equalIn]
  simp only [Sem.run_bind, run_underlying Try.underlying47, Result.andThen_ok]
  simp only [Std.Legacy.Range.forIn_eq_forIn_range', Std.Legacy.Range.size, Nat.sub_zero, Nat.add_sub_cancel, Nat.div_one, List.range'_succ, List.range'_zero, List.forIn_cons, List.forIn_nil]
  go_simp
theorem rev_get {F : List Fd} {i : Nat} (h : i < F.length) : F[F.length - (i + 1)]? = F.reverse[i]? := by
  rw [List.getElem?_reverse h]
  congr 1
  omega
section
variable {G : Gnd} {w w' : World} {l : List Asrt} {p : Nat} {Z F : List Fd} {lim : Int}
set_option maxHeartbeats 8000000 in
set_option maxRecDepth 100000 in
theorem law_same {v : Value} (H : Sat G w (tbA p Z F lim :: l)) (wf : TWf Z F lim) (hv : RF (cellR G.ro) v F.reverse) :
    Calls Try.prog 17 #[.pointer (some ⟨p, 0, none⟩), v, .int .i64 lim] w fun e w' => e = .returned (.bool true) ∧ Sat G w' (tbA p Z F lim :: l) := by
  refine calls_any fun K hK => ?_
  have hl1 := wf.l1
  have hsz := wf.sz
  have hfl := wf.len
  have hzl := wf.z
  have hfs : fsz F ≤ 65536 := by omega
  have HZ : Hid (Z.length ≤ 100000) := Lib.hid (by omega)
  have HF : Hid (F.length ≤ 100000) := Lib.hid (by omega)
  have HFS : Hid (fsz F.reverse ≤ 1152921504606846976) := Lib.hid (by rw [fsz_rev]; omega)
  obtain ⟨A, c, rfl, hlc, hc, h0, hel⟩ := id hv
  rw [List.length_reverse] at hv hlc ⊢
  have HV := Lib.hid hv
  have HEL := Lib.hid hel
  have HG : Hid (∀ i x, F.reverse[i]? = some x → i < F.length → F[F.length - (i + 1)]? = some x) := Lib.hid fun i x h hi => by rw [rev_get hi, h]
  have hlen := tb_len H HZ.out HF.out
  obtain ⟨nl, hnl⟩ : ∃ nl, nl = F.length := ⟨_, rfl⟩
  have hnb : nl ≤ 4000 := by omega
  have HNL := Lib.hid hnl
  rw [← hnl] at HV hlen hlc ⊢
  obtain ⟨s, hs⟩ : ∃ s, s = fsz F := ⟨_, rfl⟩
  have HSS := Lib.hid hs
  have hsl : ¬ (lim < (s : Int)) := by rw [hs]; omega
  clear hel hv hnl wf hfl hzl hfs hsz hs h0
  go_enter Try.func17, Try.ntmps17
  go_wp2_with fail
  (with_reducible refine hlen.mono ?_)
  clear hlen H
  rintro e w1 ⟨rfl, S1⟩
  have hts := tb_size S1
  have hrs := ref_size (HV.out.sat S1) HFS.out
  rw [fsz_rev, ← HSS.out] at hrs
  rw [← HSS.out] at hts
  go_wp2_with fail
  (with_reducible refine hts.mono ?_)
  clear hts
  rintro e w2 ⟨rfl, rfl⟩
  go_wp2_with fail
  (with_reducible refine hrs.mono ?_)
  clear hrs
  rintro e w2 ⟨rfl, n1, rfl⟩
  have S2 := S1.drewQ n1
  have htl := tb_limit S2
  have hts := tb_size S2
  rw [← HSS.out] at hts
  clear S1
  go_wp2_with fail
  (with_reducible refine htl.mono ?_)
  clear htl
  rintro e w2 ⟨rfl, rfl⟩
  go_wp2_with fail
  (with_reducible refine hts.mono ?_)
  clear hts
  rintro e w2 ⟨rfl, rfl⟩
  go_wp2_with fail
  go_loopw [40] (fun i wr => ∃ k : Nat, k ≤ nl ∧ i = .int .i64 k ∧ Sat G wr (tbA p Z F lim :: l)) (fun i _ => nl - (intOf i).toNat)
  case atStart => exact ⟨0, Nat.zero_le _, rfl, S2⟩
  case round =>
    obtain ⟨k, hk, rfl, S⟩ := hrel
    clear S2
    by_cases hlt : k < nl
    · have hx := List.getElem?_eq_getElem (l := F.reverse) (i := k) (by rw [List.length_reverse, ← HNL.out]; exact hlt)
      obtain ⟨g, o, rfl, hcl⟩ := HEL.out k _ hx
      have hget0 := HG.out k _ hx (by rw [← HNL.out]; exact hlt)
      generalize F.reverse[k]'(by rw [List.length_reverse, ← HNL.out]; exact hlt) = x at *
      have hget := tb_get S HZ.out HF.out (k + 1) (by omega) (by rw [← HNL.out]; omega) x hget0
      have HCL := Lib.hid hcl
      have hwk : IntKind.i64.wrap ((k : Int) + 1) = ((k + 1 : Nat) : Int) := by rw [IntWalk.i64_in _ (by omega)]; omega
      have HW1 := Lib.hid (by rw [IntWalk.i64_in _ (by omega)] : IntKind.i64.wrap ((k : Int) + 1) = (k : Int) + 1)
      clear hcl hx hget0 S
      obtain ⟨k1, hk1⟩ : ∃ k1, k1 = k + 1 := ⟨_, rfl⟩
      rw [← hk1] at hget hwk
      have HK1 := Lib.hid hk1
      clear hk1
      go_wp2_with fail
      (with_reducible refine hget.mono ?_)
      clear hget
      rintro e w3 ⟨rfl, S3⟩
      have S4 := S3.newBlk #[.string (bstr x.1), .string (bstr x.2)] 23
      clear S3
      go_upto_region 7 with fail
      generalize w3.heap.size = r at *
      refine wp_world S4 fun w4 S5 => ?_
      have HLT : Hid ((k : Int) < (nl : Int) ∧ k < nl) := Lib.hid (by omega)
      clear S4 hwk
      refine wp_act fun a0 ha0 => ?_
      have HSZ : a0.tmps.size = 81 := by rw [ha0]; rfl
      have E0 : a0.eval (.tmp 0) = .pointer (some ⟨p, 0, none⟩) := by rw [ha0]; rfl
      have E1 : a0.eval (.tmp 1) = .slice (some ⟨g, o, none⟩) nl c := by rw [ha0]; rfl
      have E7 : a0.eval (.tmp 7) = .int .i64 k := by rw [ha0]; rfl
      have E8 : a0.eval (.tmp 8) = .pointer (some ⟨r, 0, none⟩) := by rw [ha0]; rfl
      have E9 : a0.eval (.tmp 9) = .int .i64 0 := by rw [ha0]; rfl
      refine wp_region_J (by kernel_rfl) 11 (by kernel_rfl) [[], [0], [1], [2], [3, 2, 2], [2], [2], [5, 6, 2], [7, 2], [4, 8, 2], [2, 9]] (by kernel_rfl) (by kernel_rfl) (fun f a' W => a' = acts [(0, 50, .int .i64 0), (1, 51, .bool false), (2, 52, .bool false), (3, 53, .agg #[.string (bstr x.1), .string (bstr x.2)]), (4, 54, .agg #[.string (bstr x.1), .string (bstr x.2)]), (5, 55, .slice (some ⟨g, o, none⟩) nl c), (6, 56, .int .i64 k), (7, 57, .pointer (some ⟨g, o + k * 2, none⟩)), (8, 58, .agg #[.string (bstr x.1), .string (bstr x.2)]), (9, 59, .bool false), (10, 60, .bool false)] f a0 ∧ Sat G W (blk r #[.string (bstr x.1), .string (bstr x.2)] 23 :: tbA p Z F lim :: l)) ?_ ?_ ?_
      · exact ⟨rfl, S5.drew⟩
      · refine ⟨?_, ?_, ?_, ?_, ?_, ?_, ?_, ?_, ?_, ?_, ?_, trivial⟩
        · rintro f a' W h0 hd ⟨rfl, S⟩
          refine wpOp_run (v := .int .i64 0) rfl rfl (fun ρ hρ => ?_) ⟨(acts_some 0 rfl (by kernel_rfl) (by kernel_rfl)).symm, S⟩
          have e0 : ρ (.tmp 9) = .int .i64 0 := by rw [hρ]; exact (acts_eval_tmp 9 (by kernel_rfl)).trans E9
          clear hρ
          go_simp
        · rintro f a' W h1 hd ⟨rfl, S⟩
          refine wpOp_run (v := .bool false) rfl rfl (fun ρ hρ => ?_) ⟨(acts_some 1 rfl (by kernel_rfl) (by kernel_rfl)).symm, S⟩
          have e0 : ρ (.tmp 50) = .int .i64 0 := by rw [hρ]; exact acts_eval_hit 0 rfl hd.1 (by rw [HSZ]; rfl) (by kernel_rfl)
          have ec : ∀ v, ρ (.const v) = v := by rw [hρ]; exact fun _ => rfl
          clear hρ
          go_simp
        · rintro f a' W h2 hd ⟨rfl, S⟩
          refine wpOp_run (v := .bool false) rfl rfl (fun ρ hρ => ?_) ⟨(acts_some 2 rfl (by kernel_rfl) (by kernel_rfl)).symm, S⟩
          have e0 : ρ (.tmp 51) = .bool false := by rw [hρ]; exact acts_eval_hit 1 rfl hd.1 (by rw [HSZ]; rfl) (by kernel_rfl)
          clear hρ
          go_simp
        · rintro f a' W h3 hd ⟨rfl, S⟩
          refine wpOp_runG (v := .agg #[.string (bstr x.1), .string (bstr x.2)]) rfl ?_ (fun ρ hρ => ?_) ⟨(acts_some 3 rfl (by kernel_rfl) (by kernel_rfl)).symm, S⟩
          · exact wanted_hit (t := 52) rfl rfl (acts_eval_hit 2 rfl hd.1 (by rw [HSZ]; rfl) (by kernel_rfl))
          · skip
            have e0 : ρ (.tmp 8) = .pointer (some ⟨r, 0, none⟩) := by rw [hρ]; exact (acts_eval_tmp 8 (by kernel_rfl)).trans E8
            clear hρ
            (have hz0 := S.cell 0; have hz1 := S.cell 1)
            go_simp
        · rintro f a' W h4 hd ⟨rfl, S⟩
          refine wpOp_callG rfl (wanted_hit (t := 52) rfl rfl (acts_eval_hit 2 rfl hd.2.1 (by rw [HSZ]; rfl) (by kernel_rfl))) (fun ρ hρ => ?_) (law_pair S x) ?_
          · skip
            have e0 : ρ (.tmp 53) = .agg #[.string (bstr x.1), .string (bstr x.2)] := by rw [hρ]; exact acts_eval_hit 3 rfl hd.1 (by rw [HSZ]; rfl) (by kernel_rfl)
            have ef : ρ (.func 20) = .func (.func 20) #[] #[] := by rw [hρ]; rfl
            clear hρ
            go_simp
          · (rintro e W' ⟨rfl, S'⟩; exact ⟨_, rfl, (acts_some 4 rfl (by kernel_rfl) (by kernel_rfl)).symm, S'⟩)
        · rintro f a' W h5 hd ⟨rfl, S⟩
          refine wpOp_runG (v := .slice (some ⟨g, o, none⟩) nl c) rfl ?_ (fun ρ hρ => ?_) ⟨(acts_some 5 rfl (by kernel_rfl) (by kernel_rfl)).symm, S⟩
          · exact wanted_hit (t := 52) rfl rfl (acts_eval_hit 2 rfl hd.1 (by rw [HSZ]; rfl) (by kernel_rfl))
          · skip
            have e0 : ρ (.tmp 1) = .slice (some ⟨g, o, none⟩) nl c := by rw [hρ]; exact (acts_eval_tmp 1 (by kernel_rfl)).trans E1
            clear hρ
            go_simp
        · rintro f a' W h6 hd ⟨rfl, S⟩
          refine wpOp_runG (v := .int .i64 k) rfl ?_ (fun ρ hρ => ?_) ⟨(acts_some 6 rfl (by kernel_rfl) (by kernel_rfl)).symm, S⟩
          · exact wanted_hit (t := 52) rfl rfl (acts_eval_hit 2 rfl hd.1 (by rw [HSZ]; rfl) (by kernel_rfl))
          · skip
            have e0 : ρ (.tmp 7) = .int .i64 k := by rw [hρ]; exact (acts_eval_tmp 7 (by kernel_rfl)).trans E7
            clear hρ
            go_simp
        · rintro f a' W h7 hd ⟨rfl, S⟩
          refine wpOp_runG (v := .pointer (some ⟨g, o + k * 2, none⟩)) rfl ?_ (fun ρ hρ => ?_) ⟨(acts_some 7 rfl (by kernel_rfl) (by kernel_rfl)).symm, S⟩
          · exact wanted_hit (t := 52) rfl rfl (acts_eval_hit 2 rfl hd.2.2.1 (by rw [HSZ]; rfl) (by kernel_rfl))
          · skip
            have e0 : ρ (.tmp 55) = .slice (some ⟨g, o, none⟩) nl c := by rw [hρ]; exact acts_eval_hit 5 rfl hd.1 (by rw [HSZ]; rfl) (by kernel_rfl)
            have e1 : ρ (.tmp 56) = .int .i64 k := by rw [hρ]; exact acts_eval_hit 6 rfl hd.2.1 (by rw [HSZ]; rfl) (by kernel_rfl)
            clear hρ
            (have hh1 := HLT.out.1; have hh2 := HLT.out.2)
            go_simp
        · rintro f a' W h8 hd ⟨rfl, S⟩
          refine wpOp_runG (v := .agg #[.string (bstr x.1), .string (bstr x.2)]) rfl ?_ (fun ρ hρ => ?_) ⟨(acts_some 8 rfl (by kernel_rfl) (by kernel_rfl)).symm, S⟩
          · exact wanted_hit (t := 52) rfl rfl (acts_eval_hit 2 rfl hd.2.1 (by rw [HSZ]; rfl) (by kernel_rfl))
          · skip
            have e0 : ρ (.tmp 57) = .pointer (some ⟨g, o + k * 2, none⟩) := by rw [hρ]; exact acts_eval_hit 7 rfl hd.1 (by rw [HSZ]; rfl) (by kernel_rfl)
            clear hρ
            (have hz0 := S.cellR (HCL.out 0 _ rfl); have hz1 := S.cellR (HCL.out 1 _ rfl); generalize o + k * 2 = jj at *)
            go_simp
        · rintro f a' W h9 hd ⟨rfl, S⟩
          refine wpOp_runG (v := .bool false) rfl ?_ (fun ρ hρ => ?_) ⟨(acts_some 9 rfl (by kernel_rfl) (by kernel_rfl)).symm, S⟩
          · exact wanted_hit (t := 52) rfl rfl (acts_eval_hit 2 rfl hd.2.2.1 (by rw [HSZ]; rfl) (by kernel_rfl))
          · skip
            have e0 : ρ (.tmp 54) = .agg #[.string (bstr x.1), .string (bstr x.2)] := by rw [hρ]; exact acts_eval_hit 4 rfl hd.1 (by rw [HSZ]; rfl) (by kernel_rfl)
            have e1 : ρ (.tmp 58) = .agg #[.string (bstr x.1), .string (bstr x.2)] := by rw [hρ]; exact acts_eval_hit 8 rfl hd.2.1 (by rw [HSZ]; rfl) (by kernel_rfl)
            clear hρ
            (have hz := eq_arrS x W)
            go_simp
        · rintro f a' W h10 hd ⟨rfl, S⟩
          refine wpOp_run (v := .bool false) rfl rfl (fun ρ hρ => ?_) ⟨(acts_some 10 rfl (by kernel_rfl) (by kernel_rfl)).symm, S⟩
          have e0 : ρ (.tmp 52) = .bool false := by rw [hρ]; exact acts_eval_hit 2 rfl hd.1 (by rw [HSZ]; rfl) (by kernel_rfl)
          have e1 : ρ (.tmp 59) = .bool false := by rw [hρ]; exact acts_eval_hit 9 rfl hd.2.1 (by rw [HSZ]; rfl) (by kernel_rfl)
          have ec : ∀ v, ρ (.const v) = v := by rw [hρ]; exact fun _ => rfl
          clear hρ
          go_simp
      rintro a' W ⟨rfl, S6⟩
      subst ha0
      simp only [acts, if_true, Act.put, List.setIfInBounds_toArray, List.set_cons_succ, List.set_cons_zero]
      clear HSZ E0 E1 E7 E8 E9 S5
      go_wp2_with fail
      go_roundw
      case rel => exact ⟨k + 1, by omega, by go_num, S6.drop⟩
      case measure => simp [intOf]; omega
    · obtain rfl : k = nl := by omega
      have hget := tb_get_not S HZ.out HF.out ((k : Int) + 1) (.inr (by rw [← HNL.out]; omega))
      have hw1 : IntKind.i64.wrap ((k : Int) + 1) = (k : Int) + 1 := IntWalk.i64_in _ (by omega)
      clear S
      go_wp2_with fail
      (with_reducible refine hget.mono ?_)
      clear hget
      rintro e w3 ⟨rfl, S3⟩
      have S4 := S3.newBlk #[.string { data := #[] }, .string { data := #[] }] 23
      have HS4 := Lib.hid S4
      clear S3 S4
      go_wp2_with fail
      refine calls_world HS4.out fun w4 S4 => ?_
      have hget := tb_get_not S4.swap HZ.out HF.out 0 (.inl (by omega))
      clear HS4 S4
      (with_reducible refine hget.mono ?_)
      clear hget
      rintro e w5 ⟨rfl, S5⟩
      have S6 := S5.newBlk #[.string { data := #[] }, .string { data := #[] }] 23
      have HS6 := Lib.hid S6
      clear S5 S6
      go_wp2_with fail
      exact hK.out _ _ ⟨rfl, HS6.out.drop.drop2⟩
end
end Go.Proofs.Ytkjkekhhhbopcaa

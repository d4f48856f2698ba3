/- The walk over payload.Parse. -/
import Derived.Test.YtdfdcenbpanegaaParse0
set_option linter.unusedSimpArgs false
set_option linter.unusedVariables false
namespace Go.Proofs.Ytdfdcenbpanegaa
open Go.RowKit

theorem sepAll_front {A B C D : Asrt} {E F I : Asrt} {l : List Asrt} {R h : Hp} (H : sepAll (A :: B :: C :: D :: E :: F :: I :: l) R h) : sepAll (A :: B :: C :: D :: l) R h :=
  sepAll_tail (fun _ => sepAll_tail fun _ => sepAll_tail fun _ => sepAll_tail fun _ h => sepAll_drop (sepAll_drop (sepAll_drop h))) H
section
variable {G : Gnd} {w : World} {l : List Asrt} {bs : List UInt8}
set_option maxHeartbeats 32000000 in
set_option maxRecDepth 100000 in
theorem pl_parse (H : Sat G w l) (k fl s : Int) (v : Value) (hv : SlB (cellR G.ro) v bs) (hlen : bs.length ≤ 1000000000) :
    Calls Try.prog 9 #[.agg #[.int .i64 k, .int .i64 fl, .int .i64 s, v]] w fun e w' => ∃ G' v' u', G.le G' ∧ e = .returned (.tuple #[.agg ((parseS k fl s bs).x.cs v' u'), .agg #[.int .i64 (parseS k fl s bs).f.1, .bool (parseS k fl s bs).f.2]]) ∧ SlB (Go.Proofs.Ytdfdcenbpanegaa.cellR G'.ro) v' (parseS k fl s bs).t ∧ RPr G'.ro u' (parseS k fl s bs).ps ∧ Sat G' w' l := by
  refine calls_any fun K hK => ?_
  obtain ⟨A, c, hvv, -, -, -⟩ := hv.form
  obtain ⟨n0, hn0⟩ : ∃ n0, n0 = bs.length := ⟨_, rfl⟩
  rw [← hn0] at hvv
  subst hvv
  have hn0b : n0 ≤ 1000000000 := by omega
  have HV := Lib.hid hv
  have HN0 := Lib.hid hn0
  generalize hx : parseS k fl s bs = res at *
  have HX := Lib.hid hx
  have S1 := ((((H.newBlk #[.int .i64 k, .int .i64 fl, .int .i64 s, .slice A n0 c] 24).newBlk #[.int .i64 0, .int .i64 0, .slice none 0 0, .bool false, .bool false, .bool false, .int .i64 0, .int .i64 0, .int .i64 0, .int .i64 0, .int .i64 0, .int .i64 0, .bool false, .bool false, .slice none 0 0] 28).newBlk #[.int .i64 0, .bool false] 31).newBlk ((bareS k s n0).cs (.slice none 0 0) (.slice none 0 0)) 28).newBlk ((bareS k s n0).cs (.slice none 0 0) (.slice none 0 0)) 28
  simp only [World.size_alloc] at S1
  clear H hv hn0 hx hlen
  cases k0 : (k == 0) with
  | true =>
    obtain rfl : k = 0 := beq_iff_eq.1 k0
    have HS1 := Lib.hid S1
    clear S1 k0
    go_enter Try.func9, Try.ntmps9
    go_upto_region 5 with fail
    refine wp_world HS1.out fun w5 S5 => ?_
    clear HS1
    generalize w.heap.size + 1 + 1 + 1 + 1 = aX at *
    generalize w.heap.size + 1 + 1 + 1 = aB at *
    generalize w.heap.size + 1 + 1 = aZ at *
    generalize w.heap.size + 1 = aI at *
    generalize w.heap.size = aF at *
    skip
    obtain ⟨b, hb⟩ : ∃ b, b = bareS 0 s n0 := ⟨_, rfl⟩
    rw [← hb] at S5
    have HB := Lib.hid hb
    clear hb
    have S6 := S5.newBlk #[.func (.func 15) #[] #[.pointer (some ⟨aF, 0, none⟩)], .func (.func 17) #[] #[.pointer (some ⟨aF, 0, none⟩)], .func (.func 19) #[] #[.pointer (some ⟨aX, 0, none⟩), .pointer (some ⟨aF, 0, none⟩)]] 45
    go_wp2_with fail
    generalize w5.heap.size = aS at *
    have hG := Gnd.le.rfl' (G := G)
    go_loopw [27] (fun i wr => ∃ (j : Nat) (G1 : Gnd) (v' u' : Value) (X : ItS), j ≤ 3 ∧ i = .int .i64 j ∧ G.le G1 ∧ ((1 ≤ j → placeBad 0 s = false) ∧ (2 ≤ j → lenF 0 fl bs.length = (0, false)) ∧ (j < 3 → X = b ∧ v' = (.slice none 0 0) ∧ u' = (.slice none 0 0)) ∧ (j = 3 → (readS 0 fl s bs).f = (0, false) ∧ X = (readS 0 fl s bs).x ∧ SlB (Go.Proofs.Ytdfdcenbpanegaa.cellR G1.ro) v' (readS 0 fl s bs).t ∧ RPr G1.ro u' (readS 0 fl s bs).ps)) ∧ Sat G1 wr (blk aS #[.func (.func 15) #[] #[.pointer (some ⟨aF, 0, none⟩)], .func (.func 17) #[] #[.pointer (some ⟨aF, 0, none⟩)], .func (.func 19) #[] #[.pointer (some ⟨aX, 0, none⟩), .pointer (some ⟨aF, 0, none⟩)]] 45 :: blk aX (X.cs v' u') 28 :: blk aB (b.cs (.slice none 0 0) (.slice none 0 0)) 28 :: blk aZ #[.int .i64 0, .bool false] 31 :: blk aI #[.int .i64 0, .int .i64 0, .slice none 0 0, .bool false, .bool false, .bool false, .int .i64 0, .int .i64 0, .int .i64 0, .int .i64 0, .int .i64 0, .int .i64 0, .bool false, .bool false, .slice none 0 0] 28 :: blk aF #[.int .i64 0, .int .i64 fl, .int .i64 s, .slice A n0 c] 24 :: l)) (fun i _ => 3 - (intOf i).toNat)
    case atStart => exact ⟨0, G, (.slice none 0 0), (.slice none 0 0), b, by omega, rfl, hG, ⟨fun h => absurd h (by omega), fun h => absurd h (by omega), fun _ => ⟨rfl, rfl, rfl⟩, fun h => absurd h (by omega)⟩, S6⟩
    case round =>
      obtain ⟨j, G1, v', u', X, hj, rfl, hG1, ⟨q1, q2, q3, q4⟩, S⟩ := hrel
      clear S5 S6
      have hj4 : j = 0 ∨ j = 1 ∨ j = 2 ∨ j = 3 := by omega
      rcases hj4 with rfl | rfl | rfl | rfl
      · obtain ⟨rfl, rfl, rfl⟩ := q3 (by omega)
        have d0 := S.cell 0
        clear q1 q2 q4
        have hc := pl_1 0 fl s A n0 c (S.re [5, 0, 1, 2, 3, 4])
        cases hp : placeBad 0 s with
        | true =>
          rw [hp] at hc
          simp only [if_true] at hc
          clear S
          go_wp2_with fail
          (with_reducible refine hc.mono ?_)
          clear hc d0
          rintro e w7 ⟨rfl, T⟩
          have hX : (⟨(101, true), X, [], []⟩ : RdRes) = res := by rw [← HX.out, HB.out, HN0.out]; simp only [parseS, hp, if_true]; rfl
          clear HX hp
          have T1 := T.newBlk #[.int .i64 101, .bool true] 31
          have hok := pl_ok T1 101 true
          rw [show ((101 : Int) == 0 && !true) = false from rfl] at hok
          clear T T1
          go_wp2_with fail
          (with_reducible refine hok.mono ?_)
          clear hok
          rintro e w8 ⟨rfl, T⟩
          generalize w7.heap.size = a8 at *
          subst hX
          go_upto_region 10 with fail
          have T2 : Sat G1 _ (blk aI #[.int .i64 0, .int .i64 0, .slice none 0 0, .bool false, .bool false, .bool false, .int .i64 0, .int .i64 0, .int .i64 0, .int .i64 0, .int .i64 0, .int .i64 0, .bool false, .bool false, .slice none 0 0] 28 :: blk aZ #[.int .i64 0, .bool false] 31 :: blk aB (X.cs (.slice none 0 0) (.slice none 0 0)) 28 :: blk a8 #[.int .i64 101, .bool true] 31 :: l) := (T.re [6, 5, 4, 0, 1, 2, 3]).map fun _ h => sepAll_front h
          clear T
          refine wp_world T2 fun w9 T3 => ?_
          clear T2
          refine wp_act fun a0 ha0 => ?_
          have HSZ : a0.tmps.size = 41 := by rw [ha0]; rfl
          have E2 : a0.eval (.tmp 2) = .pointer (some ⟨aI, 0, none⟩) := by rw [ha0]; rfl
          have E3 : a0.eval (.tmp 3) = .pointer (some ⟨aZ, 0, none⟩) := by rw [ha0]; rfl
          have E4 : a0.eval (.tmp 4) = .pointer (some ⟨aB, 0, none⟩) := by rw [ha0]; rfl
          have E8 : a0.eval (.tmp 8) = .pointer (some ⟨a8, 0, none⟩) := by rw [ha0]; rfl
          refine wp_region_J (by kernel_rfl) 4 (by kernel_rfl) [[], [], [0, 0], [1, 2, 0, 1, 2]] (by kernel_rfl) (by kernel_rfl) (fun f a' W => a' = acts [(0, 36, .agg (X.cs (.slice none 0 0) (.slice none 0 0))), (1, 37, .agg #[.int .i64 101, .bool true])] f a0 ∧ Sat G1 W (blk aI (cond (f 2) (X.cs (.slice none 0 0) (.slice none 0 0)) #[.int .i64 0, .int .i64 0, .slice none 0 0, .bool false, .bool false, .bool false, .int .i64 0, .int .i64 0, .int .i64 0, .int .i64 0, .int .i64 0, .int .i64 0, .bool false, .bool false, .slice none 0 0]) 28 :: blk aZ (cond (f 3) #[.int .i64 101, .bool true] #[.int .i64 0, .bool false]) 31 :: blk aB (X.cs (.slice none 0 0) (.slice none 0 0)) 28 :: blk a8 #[.int .i64 101, .bool true] 31 :: l)) ?_ ?_ ?_
          · exact ⟨rfl, T3.drew⟩
          · refine ⟨?_, ?_, ?_, ?_, trivial⟩
            · rintro f a' W h0 hd ⟨rfl, S⟩
              refine wpOp_list rfl ?_
              refine st_load rfl _ _ rfl _ ((acts_eval_tmp 4 (by kernel_rfl)).trans E4) _ _ ((S.re [2, 0, 1])) _ rfl rfl rfl ?_
              exact ⟨(acts_some 0 rfl (by kernel_rfl) (by kernel_rfl)).symm, S⟩
            · rintro f a' W h1 hd ⟨rfl, S⟩
              refine wpOp_list rfl ?_
              refine st_load rfl _ _ rfl _ ((acts_eval_tmp 8 (by kernel_rfl)).trans E8) _ _ ((S.re [3, 0, 1, 2])) _ rfl rfl rfl ?_
              exact ⟨(acts_some 1 rfl (by kernel_rfl) (by kernel_rfl)).symm, S⟩
            · rintro f a' W h2 hd ⟨rfl, S⟩
              rw [h2] at S
              refine wpOp_list rfl ?_
              refine st_store rfl _ _ _ rfl _ _ ((acts_eval_tmp 2 (by kernel_rfl)).trans E2) (acts_eval_hit 0 rfl hd.1 (by rw [HSZ]; rfl) (by kernel_rfl)) _ _ (S) rfl rfl (by simp [Value.oneCell', ItS.cs]) fun W' S' => ?_
              exact ⟨(acts_none 2 (by kernel_rfl)).symm, S'⟩
            · rintro f a' W h3 hd ⟨rfl, S⟩
              rw [h3] at S
              refine wpOp_list rfl ?_
              refine st_store rfl _ _ _ rfl _ _ ((acts_eval_tmp 3 (by kernel_rfl)).trans E3) (acts_eval_hit 1 rfl hd.1 (by rw [HSZ]; rfl) (by kernel_rfl)) _ _ (S.swap) rfl rfl (by simp [Value.oneCell']) fun W' S' => ?_
              exact ⟨(acts_none 3 (by kernel_rfl)).symm, S'.swap⟩
          · rintro a' W ⟨rfl, T4⟩
            subst ha0
            simp only [acts, if_true, Act.put, List.setIfInBounds_toArray, List.set_cons_succ, List.set_cons_zero]
            have HT := Lib.hid T4
            clear T3 T4 HSZ E2 E3 E4 E8
            go_wp2_with fail
            refine bodyPost_ret (results_cells2 rfl _ _ aI aZ _ _ _ _ _ _ rfl (HT.out).blk_at Try.underlying28 rfl (by kernel_rfl) rfl (HT.out).swap.blk_at Try.underlying31 rfl (by kernel_rfl)) rfl ?_
            exact hK.out _ _ ⟨G1, _, _, hG1, rfl, SlB.nil _, RPr.nil _, HT.out.drop.drop.drop.drop⟩
        | false =>
          rw [hp] at hc
          simp only [Bool.false_eq_true, if_false] at hc
          clear S
          go_wp2_with fail
          (with_reducible refine hc.mono ?_)
          clear hc d0
          rintro e w7 ⟨rfl, T⟩
          have HP := Lib.hid hp
          clear hp
          have T1 := T.newBlk #[.int .i64 0, .bool false] 31
          have hok := pl_ok T1 0 false
          rw [show ((0 : Int) == 0 && !false) = true from rfl] at hok
          clear T T1
          go_wp2_with fail
          (with_reducible refine hok.mono ?_)
          clear hok
          rintro e w8 ⟨rfl, T⟩
          generalize w7.heap.size = a8 at *
          go_wp2_with fail
          go_roundw
          case rel => exact ⟨1, G1, _, _, X, by omega, by go_num, hG1, ⟨fun _ => by first | exact HP.out | trivial, fun h => absurd h (by omega), fun _ => ⟨rfl, rfl, rfl⟩, fun h => absurd h (by omega)⟩, (T.drop).re [1, 2, 3, 4, 5, 0]⟩
          case measure => simp [intOf]
      · obtain ⟨rfl, rfl, rfl⟩ := q3 (by omega)
        have d1 := S.cell 1
        have hc := pl_2 0 fl s A n0 c (by omega) (S.re [5, 0, 1, 2, 3, 4])
        have hp := q1 (by omega)
        obtain ⟨lf, hlf⟩ : ∃ lf, lf = lenF 0 fl n0 := ⟨_, rfl⟩
        rw [← hlf] at hc
        have hlf2 : lenF 0 fl bs.length = lf := by rw [hlf, HN0.out]
        clear hlf
        obtain ⟨pc, pb⟩ := lf
        simp only at hc
        clear S
        go_wp2_with fail
        (with_reducible refine hc.mono ?_)
        clear hc d1
        rintro e w7 ⟨rfl, T⟩
        cases hok : (pc == 0 && !pb) with
        | false =>
          have HOK := Lib.hid hok
          have hX : (⟨(pc, pb), X, [], []⟩ : RdRes) = res := by rw [← HX.out, HB.out, HN0.out]; simp only [parseS, hp, Bool.false_eq_true, if_false, hlf2, hok]; rfl
          clear HX hp hok hlf2 q1 q2
          have T1 := T.newBlk #[.int .i64 pc, .bool pb] 31
          have hok := pl_ok T1 pc pb
          rw [show ((pc : Int) == 0 && !pb) = false from HOK.out] at hok
          clear T T1
          go_wp2_with fail
          (with_reducible refine hok.mono ?_)
          clear hok
          rintro e w8 ⟨rfl, T⟩
          generalize w7.heap.size = a8 at *
          subst hX
          go_upto_region 10 with fail
          have T2 : Sat G1 _ (blk aI #[.int .i64 0, .int .i64 0, .slice none 0 0, .bool false, .bool false, .bool false, .int .i64 0, .int .i64 0, .int .i64 0, .int .i64 0, .int .i64 0, .int .i64 0, .bool false, .bool false, .slice none 0 0] 28 :: blk aZ #[.int .i64 0, .bool false] 31 :: blk aB (X.cs (.slice none 0 0) (.slice none 0 0)) 28 :: blk a8 #[.int .i64 pc, .bool pb] 31 :: l) := (T.re [6, 5, 4, 0, 1, 2, 3]).map fun _ h => sepAll_front h
          clear T
          refine wp_world T2 fun w9 T3 => ?_
          clear T2
          refine wp_act fun a0 ha0 => ?_
          have HSZ : a0.tmps.size = 41 := by rw [ha0]; rfl
          have E2 : a0.eval (.tmp 2) = .pointer (some ⟨aI, 0, none⟩) := by rw [ha0]; rfl
          have E3 : a0.eval (.tmp 3) = .pointer (some ⟨aZ, 0, none⟩) := by rw [ha0]; rfl
          have E4 : a0.eval (.tmp 4) = .pointer (some ⟨aB, 0, none⟩) := by rw [ha0]; rfl
          have E8 : a0.eval (.tmp 8) = .pointer (some ⟨a8, 0, none⟩) := by rw [ha0]; rfl
          refine wp_region_J (by kernel_rfl) 4 (by kernel_rfl) [[], [], [0, 0], [1, 2, 0, 1, 2]] (by kernel_rfl) (by kernel_rfl) (fun f a' W => a' = acts [(0, 36, .agg (X.cs (.slice none 0 0) (.slice none 0 0))), (1, 37, .agg #[.int .i64 pc, .bool pb])] f a0 ∧ Sat G1 W (blk aI (cond (f 2) (X.cs (.slice none 0 0) (.slice none 0 0)) #[.int .i64 0, .int .i64 0, .slice none 0 0, .bool false, .bool false, .bool false, .int .i64 0, .int .i64 0, .int .i64 0, .int .i64 0, .int .i64 0, .int .i64 0, .bool false, .bool false, .slice none 0 0]) 28 :: blk aZ (cond (f 3) #[.int .i64 pc, .bool pb] #[.int .i64 0, .bool false]) 31 :: blk aB (X.cs (.slice none 0 0) (.slice none 0 0)) 28 :: blk a8 #[.int .i64 pc, .bool pb] 31 :: l)) ?_ ?_ ?_
          · exact ⟨rfl, T3.drew⟩
          · refine ⟨?_, ?_, ?_, ?_, trivial⟩
            · rintro f a' W h0 hd ⟨rfl, S⟩
              refine wpOp_list rfl ?_
              refine st_load rfl _ _ rfl _ ((acts_eval_tmp 4 (by kernel_rfl)).trans E4) _ _ ((S.re [2, 0, 1])) _ rfl rfl rfl ?_
              exact ⟨(acts_some 0 rfl (by kernel_rfl) (by kernel_rfl)).symm, S⟩
            · rintro f a' W h1 hd ⟨rfl, S⟩
              refine wpOp_list rfl ?_
              refine st_load rfl _ _ rfl _ ((acts_eval_tmp 8 (by kernel_rfl)).trans E8) _ _ ((S.re [3, 0, 1, 2])) _ rfl rfl rfl ?_
              exact ⟨(acts_some 1 rfl (by kernel_rfl) (by kernel_rfl)).symm, S⟩
            · rintro f a' W h2 hd ⟨rfl, S⟩
              rw [h2] at S
              refine wpOp_list rfl ?_
              refine st_store rfl _ _ _ rfl _ _ ((acts_eval_tmp 2 (by kernel_rfl)).trans E2) (acts_eval_hit 0 rfl hd.1 (by rw [HSZ]; rfl) (by kernel_rfl)) _ _ (S) rfl rfl (by simp [Value.oneCell', ItS.cs]) fun W' S' => ?_
              exact ⟨(acts_none 2 (by kernel_rfl)).symm, S'⟩
            · rintro f a' W h3 hd ⟨rfl, S⟩
              rw [h3] at S
              refine wpOp_list rfl ?_
              refine st_store rfl _ _ _ rfl _ _ ((acts_eval_tmp 3 (by kernel_rfl)).trans E3) (acts_eval_hit 1 rfl hd.1 (by rw [HSZ]; rfl) (by kernel_rfl)) _ _ (S.swap) rfl rfl (by simp [Value.oneCell']) fun W' S' => ?_
              exact ⟨(acts_none 3 (by kernel_rfl)).symm, S'.swap⟩
          · rintro a' W ⟨rfl, T4⟩
            subst ha0
            simp only [acts, if_true, Act.put, List.setIfInBounds_toArray, List.set_cons_succ, List.set_cons_zero]
            have HT := Lib.hid T4
            clear T3 T4 HSZ E2 E3 E4 E8
            go_wp2_with fail
            refine bodyPost_ret (results_cells2 rfl _ _ aI aZ _ _ _ _ _ _ rfl (HT.out).blk_at Try.underlying28 rfl (by kernel_rfl) rfl (HT.out).swap.blk_at Try.underlying31 rfl (by kernel_rfl)) rfl ?_
            exact hK.out _ _ ⟨G1, _, _, hG1, rfl, SlB.nil _, RPr.nil _, HT.out.drop.drop.drop.drop⟩
        | true =>
          obtain ⟨rfl, rfl⟩ : pc = 0 ∧ pb = false := by simpa using hok
          have HP := Lib.hid hp
          have HL := Lib.hid hlf2
          clear hp hok hlf2 q1 q2
          have T1 := T.newBlk #[.int .i64 0, .bool false] 31
          have hok := pl_ok T1 0 false
          rw [show ((0 : Int) == 0 && !false) = true from rfl] at hok
          clear T T1
          go_wp2_with fail
          (with_reducible refine hok.mono ?_)
          clear hok
          rintro e w8 ⟨rfl, T⟩
          generalize w7.heap.size = a8 at *
          go_wp2_with fail
          go_roundw
          case rel => exact ⟨2, G1, _, _, X, by omega, by go_num, hG1, ⟨fun _ => HP.out, fun _ => HL.out, fun _ => ⟨rfl, rfl, rfl⟩, fun h => absurd h (by omega)⟩, (T.drop).re [1, 2, 3, 4, 5, 0]⟩
          case measure => simp [intOf]
      · obtain ⟨rfl, rfl, rfl⟩ := q3 (by omega)
        have d2 := S.cell 2
        have hp := q1 (by omega)
        have hl2 := q2 (by omega)
        have S9 := S.re [1, 5, 0, 2, 3, 4]
        have hc := pl_3b X 0 fl s A n0 c HB.out HN0.out S9 (HV.out.mono hG1) (by have := HN0.out; omega) hl2
        obtain ⟨rr, hrr⟩ : ∃ rr, rr = readS 0 fl s bs := ⟨_, rfl⟩
        rw [← hrr] at hc
        clear S S9
        go_wp2_with fail
        (with_reducible refine hc.mono ?_)
        clear hc d2
        rintro e w7 ⟨G2, v2, u2, hG2, rfl, hv2, hu2, T⟩
        obtain ⟨⟨pc, pb⟩, x, t, ps⟩ := rr
        cases hok : (pc == 0 && !pb) with
        | false =>
          have HOK := Lib.hid hok
          have hX : (⟨(pc, pb), X, [], []⟩ : RdRes) = res := by rw [← HX.out, HB.out, HN0.out]; simp only [parseS, hp, Bool.false_eq_true, if_false, hl2, ← hrr, hok, BEq.rfl, Bool.not_false, Bool.and_self, if_true]; rfl
          clear HX hp hok hl2 hrr q1 q2 hv2 hu2
          have T1 := T.newBlk #[.int .i64 pc, .bool pb] 31
          have hok := pl_ok T1 pc pb
          rw [show ((pc : Int) == 0 && !pb) = false from HOK.out] at hok
          clear T T1
          go_wp2_with fail
          (with_reducible refine hok.mono ?_)
          clear hok
          rintro e w8 ⟨rfl, T⟩
          generalize w7.heap.size = a8 at *
          subst hX
          go_upto_region 10 with fail
          have T2 : Sat G2 _ (blk aI #[.int .i64 0, .int .i64 0, .slice none 0 0, .bool false, .bool false, .bool false, .int .i64 0, .int .i64 0, .int .i64 0, .int .i64 0, .int .i64 0, .int .i64 0, .bool false, .bool false, .slice none 0 0] 28 :: blk aZ #[.int .i64 0, .bool false] 31 :: blk aB (X.cs (.slice none 0 0) (.slice none 0 0)) 28 :: blk a8 #[.int .i64 pc, .bool pb] 31 :: l) := (T.re [6, 5, 4, 0, 1, 2, 3]).map fun _ h => sepAll_front h
          clear T
          refine wp_world T2 fun w9 T3 => ?_
          clear T2
          refine wp_act fun a0 ha0 => ?_
          have HSZ : a0.tmps.size = 41 := by rw [ha0]; rfl
          have E2 : a0.eval (.tmp 2) = .pointer (some ⟨aI, 0, none⟩) := by rw [ha0]; rfl
          have E3 : a0.eval (.tmp 3) = .pointer (some ⟨aZ, 0, none⟩) := by rw [ha0]; rfl
          have E4 : a0.eval (.tmp 4) = .pointer (some ⟨aB, 0, none⟩) := by rw [ha0]; rfl
          have E8 : a0.eval (.tmp 8) = .pointer (some ⟨a8, 0, none⟩) := by rw [ha0]; rfl
          refine wp_region_J (by kernel_rfl) 4 (by kernel_rfl) [[], [], [0, 0], [1, 2, 0, 1, 2]] (by kernel_rfl) (by kernel_rfl) (fun f a' W => a' = acts [(0, 36, .agg (X.cs (.slice none 0 0) (.slice none 0 0))), (1, 37, .agg #[.int .i64 pc, .bool pb])] f a0 ∧ Sat G2 W (blk aI (cond (f 2) (X.cs (.slice none 0 0) (.slice none 0 0)) #[.int .i64 0, .int .i64 0, .slice none 0 0, .bool false, .bool false, .bool false, .int .i64 0, .int .i64 0, .int .i64 0, .int .i64 0, .int .i64 0, .int .i64 0, .bool false, .bool false, .slice none 0 0]) 28 :: blk aZ (cond (f 3) #[.int .i64 pc, .bool pb] #[.int .i64 0, .bool false]) 31 :: blk aB (X.cs (.slice none 0 0) (.slice none 0 0)) 28 :: blk a8 #[.int .i64 pc, .bool pb] 31 :: l)) ?_ ?_ ?_
          · exact ⟨rfl, T3.drew⟩
          · refine ⟨?_, ?_, ?_, ?_, trivial⟩
            · rintro f a' W h0 hd ⟨rfl, S⟩
              refine wpOp_list rfl ?_
              refine st_load rfl _ _ rfl _ ((acts_eval_tmp 4 (by kernel_rfl)).trans E4) _ _ ((S.re [2, 0, 1])) _ rfl rfl rfl ?_
              exact ⟨(acts_some 0 rfl (by kernel_rfl) (by kernel_rfl)).symm, S⟩
            · rintro f a' W h1 hd ⟨rfl, S⟩
              refine wpOp_list rfl ?_
              refine st_load rfl _ _ rfl _ ((acts_eval_tmp 8 (by kernel_rfl)).trans E8) _ _ ((S.re [3, 0, 1, 2])) _ rfl rfl rfl ?_
              exact ⟨(acts_some 1 rfl (by kernel_rfl) (by kernel_rfl)).symm, S⟩
            · rintro f a' W h2 hd ⟨rfl, S⟩
              rw [h2] at S
              refine wpOp_list rfl ?_
              refine st_store rfl _ _ _ rfl _ _ ((acts_eval_tmp 2 (by kernel_rfl)).trans E2) (acts_eval_hit 0 rfl hd.1 (by rw [HSZ]; rfl) (by kernel_rfl)) _ _ (S) rfl rfl (by simp [Value.oneCell', ItS.cs]) fun W' S' => ?_
              exact ⟨(acts_none 2 (by kernel_rfl)).symm, S'⟩
            · rintro f a' W h3 hd ⟨rfl, S⟩
              rw [h3] at S
              refine wpOp_list rfl ?_
              refine st_store rfl _ _ _ rfl _ _ ((acts_eval_tmp 3 (by kernel_rfl)).trans E3) (acts_eval_hit 1 rfl hd.1 (by rw [HSZ]; rfl) (by kernel_rfl)) _ _ (S.swap) rfl rfl (by simp [Value.oneCell']) fun W' S' => ?_
              exact ⟨(acts_none 3 (by kernel_rfl)).symm, S'.swap⟩
          · rintro a' W ⟨rfl, T4⟩
            subst ha0
            simp only [acts, if_true, Act.put, List.setIfInBounds_toArray, List.set_cons_succ, List.set_cons_zero]
            have HT := Lib.hid T4
            clear T3 T4 HSZ E2 E3 E4 E8
            go_wp2_with fail
            refine bodyPost_ret (results_cells2 rfl _ _ aI aZ _ _ _ _ _ _ rfl (HT.out).blk_at Try.underlying28 rfl (by kernel_rfl) rfl (HT.out).swap.blk_at Try.underlying31 rfl (by kernel_rfl)) rfl ?_
            exact hK.out _ _ ⟨G2, _, _, (hG1.trans hG2), rfl, SlB.nil _, RPr.nil _, HT.out.drop.drop.drop.drop⟩
        | true =>
          obtain ⟨rfl, rfl⟩ : pc = 0 ∧ pb = false := by simpa using hok
          have HP := Lib.hid hp
          have HL := Lib.hid hl2
          have HR := Lib.hid hrr
          clear hp hok hl2 hrr q1 q2
          have T1 := T.newBlk #[.int .i64 0, .bool false] 31
          have hok := pl_ok T1 0 false
          rw [show ((0 : Int) == 0 && !false) = true from rfl] at hok
          clear T T1
          go_wp2_with fail
          (with_reducible refine hok.mono ?_)
          clear hok
          rintro e w8 ⟨rfl, T⟩
          generalize w7.heap.size = a8 at *
          go_wp2_with fail
          go_roundw
          case rel => exact ⟨3, G2, v2, u2, x, by omega, by go_num, hG1.trans hG2, ⟨fun _ => HP.out, fun _ => HL.out, fun h => absurd h (by omega), fun _ => by rw [← HR.out]; exact ⟨rfl, rfl, hv2, hu2⟩⟩, (T.drop).re [2, 0, 3, 4, 5, 1]⟩
          case measure => simp [intOf]
      · obtain ⟨r1, rfl, r2, r3⟩ := q4 rfl
        have hp := q1 (by omega)
        have hl2 := q2 (by omega)
        obtain ⟨rr, hrr⟩ : ∃ rr, rr = readS 0 fl s bs := ⟨_, rfl⟩
        rw [← hrr] at r1 r2 r3 S
        obtain ⟨⟨pc, pb⟩, x, t, ps⟩ := rr
        obtain ⟨rfl, rfl⟩ : pc = 0 ∧ pb = false := by simpa using r1
        have hX : (⟨(0, false), x, t, ps⟩ : RdRes) = res := by rw [← HX.out]; simp only [parseS, hp, Bool.false_eq_true, if_false, hl2, ← hrr, BEq.rfl, Bool.not_false, Bool.and_self, if_true]
        subst hX
        have HV2 := Lib.hid r2
        have HU2 := Lib.hid r3
        obtain ⟨VA, vc, rfl, -, -, -⟩ := r2.form
        obtain ⟨UA, uc, rfl, -, -, -⟩ := id r3
        clear HX hp hl2 hrr q1 q2 r1 r2 r3
        simp only at S HV2 HU2
        clear q3 q4
        have T1 := S.re [4, 1, 0, 2, 3]
        clear S
        go_upto_region 12 with fail
        refine wp_region_lit ?_
        refine st_load rfl _ _ rfl aX rfl _ _ T1.swap _ Try.underlying28 rfl (by kernel_rfl) ?_
        refine st_run rfl (.agg #[.int .i64 0, .bool false]) (by go_simp) ?_
        refine st_store rfl _ _ _ rfl aI _ rfl rfl _ _ T1 (by kernel_rfl) rfl (by simp [ItS.cs, Value.oneCell']) fun w8 T2 => ?_
        refine st_store rfl _ _ _ rfl aZ _ rfl rfl _ _ (T2.re [4, 0, 1, 2, 3]) (by kernel_rfl) rfl (by simp [Value.oneCell']) fun w9 T3 => ?_
        have HT := Lib.hid (T3.swap)
        clear T1 T2 T3
        go_wp2_with fail
        refine bodyPost_ret (results_cells2 rfl _ _ aI aZ _ _ _ _ _ _ rfl (HT.out).blk_at Try.underlying28 rfl (by kernel_rfl) rfl (HT.out).swap.blk_at Try.underlying31 rfl (by kernel_rfl)) rfl ?_
        exact hK.out _ _ ⟨G1, .slice VA t.length vc, .slice UA ps.length uc, hG1, rfl, HV2.out, HU2.out, HT.out.drop.drop.drop.drop.drop.drop⟩
  | false =>
    have hb0 : bareS k s n0 = ⟨k, s, false, false, false, 0, 0, 0, 0, 0, 0, false, false⟩ := by simp [bareS, k0]
    have HB0 := Lib.hid hb0
    have S2 := S1
    rw [hb0] at S2
    have HS1 := Lib.hid S2
    clear S1 S2 hb0
    go_enter Try.func9, Try.ntmps9
    go_upto_region 5 with fail
    refine wp_world HS1.out fun w5 S5 => ?_
    clear HS1
    generalize w.heap.size + 1 + 1 + 1 + 1 = aX at *
    generalize w.heap.size + 1 + 1 + 1 = aB at *
    generalize w.heap.size + 1 + 1 = aZ at *
    generalize w.heap.size + 1 = aI at *
    generalize w.heap.size = aF at *
    rw [← HB0.out] at S5
    obtain ⟨b, hb⟩ : ∃ b, b = bareS k s n0 := ⟨_, rfl⟩
    rw [← hb] at S5
    have HB := Lib.hid hb
    clear hb
    have S6 := S5.newBlk #[.func (.func 15) #[] #[.pointer (some ⟨aF, 0, none⟩)], .func (.func 17) #[] #[.pointer (some ⟨aF, 0, none⟩)], .func (.func 19) #[] #[.pointer (some ⟨aX, 0, none⟩), .pointer (some ⟨aF, 0, none⟩)]] 45
    go_wp2_with fail
    generalize w5.heap.size = aS at *
    have hG := Gnd.le.rfl' (G := G)
    go_loopw [27] (fun i wr => ∃ (j : Nat) (G1 : Gnd) (v' u' : Value) (X : ItS), j ≤ 3 ∧ i = .int .i64 j ∧ G.le G1 ∧ ((1 ≤ j → placeBad k s = false) ∧ (2 ≤ j → lenF k fl bs.length = (0, false)) ∧ (j < 3 → X = b ∧ v' = (.slice none 0 0) ∧ u' = (.slice none 0 0)) ∧ (j = 3 → (readS k fl s bs).f = (0, false) ∧ X = (readS k fl s bs).x ∧ SlB (Go.Proofs.Ytdfdcenbpanegaa.cellR G1.ro) v' (readS k fl s bs).t ∧ RPr G1.ro u' (readS k fl s bs).ps)) ∧ Sat G1 wr (blk aS #[.func (.func 15) #[] #[.pointer (some ⟨aF, 0, none⟩)], .func (.func 17) #[] #[.pointer (some ⟨aF, 0, none⟩)], .func (.func 19) #[] #[.pointer (some ⟨aX, 0, none⟩), .pointer (some ⟨aF, 0, none⟩)]] 45 :: blk aX (X.cs v' u') 28 :: blk aB (b.cs (.slice none 0 0) (.slice none 0 0)) 28 :: blk aZ #[.int .i64 0, .bool false] 31 :: blk aI #[.int .i64 0, .int .i64 0, .slice none 0 0, .bool false, .bool false, .bool false, .int .i64 0, .int .i64 0, .int .i64 0, .int .i64 0, .int .i64 0, .int .i64 0, .bool false, .bool false, .slice none 0 0] 28 :: blk aF #[.int .i64 k, .int .i64 fl, .int .i64 s, .slice A n0 c] 24 :: l)) (fun i _ => 3 - (intOf i).toNat)
    case atStart => exact ⟨0, G, (.slice none 0 0), (.slice none 0 0), b, by omega, rfl, hG, ⟨fun h => absurd h (by omega), fun h => absurd h (by omega), fun _ => ⟨rfl, rfl, rfl⟩, fun h => absurd h (by omega)⟩, S6⟩
    case round =>
      obtain ⟨j, G1, v', u', X, hj, rfl, hG1, ⟨q1, q2, q3, q4⟩, S⟩ := hrel
      clear S5 S6
      have hj4 : j = 0 ∨ j = 1 ∨ j = 2 ∨ j = 3 := by omega
      rcases hj4 with rfl | rfl | rfl | rfl
      · obtain ⟨rfl, rfl, rfl⟩ := q3 (by omega)
        have d0 := S.cell 0
        clear q1 q2 q4
        have hc := pl_1 k fl s A n0 c (S.re [5, 0, 1, 2, 3, 4])
        cases hp : placeBad k s with
        | true =>
          rw [hp] at hc
          simp only [if_true] at hc
          clear S
          go_wp2_with fail
          (with_reducible refine hc.mono ?_)
          clear hc d0
          rintro e w7 ⟨rfl, T⟩
          have hX : (⟨(101, true), X, [], []⟩ : RdRes) = res := by rw [← HX.out, HB.out, HN0.out]; simp only [parseS, hp, if_true]; rfl
          clear HX hp
          have T1 := T.newBlk #[.int .i64 101, .bool true] 31
          have hok := pl_ok T1 101 true
          rw [show ((101 : Int) == 0 && !true) = false from rfl] at hok
          clear T T1
          go_wp2_with fail
          (with_reducible refine hok.mono ?_)
          clear hok
          rintro e w8 ⟨rfl, T⟩
          generalize w7.heap.size = a8 at *
          subst hX
          go_upto_region 10 with fail
          have T2 : Sat G1 _ (blk aI #[.int .i64 0, .int .i64 0, .slice none 0 0, .bool false, .bool false, .bool false, .int .i64 0, .int .i64 0, .int .i64 0, .int .i64 0, .int .i64 0, .int .i64 0, .bool false, .bool false, .slice none 0 0] 28 :: blk aZ #[.int .i64 0, .bool false] 31 :: blk aB (X.cs (.slice none 0 0) (.slice none 0 0)) 28 :: blk a8 #[.int .i64 101, .bool true] 31 :: l) := (T.re [6, 5, 4, 0, 1, 2, 3]).map fun _ h => sepAll_front h
          clear T
          refine wp_world T2 fun w9 T3 => ?_
          clear T2
          refine wp_act fun a0 ha0 => ?_
          have HSZ : a0.tmps.size = 41 := by rw [ha0]; rfl
          have E2 : a0.eval (.tmp 2) = .pointer (some ⟨aI, 0, none⟩) := by rw [ha0]; rfl
          have E3 : a0.eval (.tmp 3) = .pointer (some ⟨aZ, 0, none⟩) := by rw [ha0]; rfl
          have E4 : a0.eval (.tmp 4) = .pointer (some ⟨aB, 0, none⟩) := by rw [ha0]; rfl
          have E8 : a0.eval (.tmp 8) = .pointer (some ⟨a8, 0, none⟩) := by rw [ha0]; rfl
          refine wp_region_J (by kernel_rfl) 4 (by kernel_rfl) [[], [], [0, 0], [1, 2, 0, 1, 2]] (by kernel_rfl) (by kernel_rfl) (fun f a' W => a' = acts [(0, 36, .agg (X.cs (.slice none 0 0) (.slice none 0 0))), (1, 37, .agg #[.int .i64 101, .bool true])] f a0 ∧ Sat G1 W (blk aI (cond (f 2) (X.cs (.slice none 0 0) (.slice none 0 0)) #[.int .i64 0, .int .i64 0, .slice none 0 0, .bool false, .bool false, .bool false, .int .i64 0, .int .i64 0, .int .i64 0, .int .i64 0, .int .i64 0, .int .i64 0, .bool false, .bool false, .slice none 0 0]) 28 :: blk aZ (cond (f 3) #[.int .i64 101, .bool true] #[.int .i64 0, .bool false]) 31 :: blk aB (X.cs (.slice none 0 0) (.slice none 0 0)) 28 :: blk a8 #[.int .i64 101, .bool true] 31 :: l)) ?_ ?_ ?_
          · exact ⟨rfl, T3.drew⟩
          · refine ⟨?_, ?_, ?_, ?_, trivial⟩
            · rintro f a' W h0 hd ⟨rfl, S⟩
              refine wpOp_list rfl ?_
              refine st_load rfl _ _ rfl _ ((acts_eval_tmp 4 (by kernel_rfl)).trans E4) _ _ ((S.re [2, 0, 1])) _ rfl rfl rfl ?_
              exact ⟨(acts_some 0 rfl (by kernel_rfl) (by kernel_rfl)).symm, S⟩
            · rintro f a' W h1 hd ⟨rfl, S⟩
              refine wpOp_list rfl ?_
              refine st_load rfl _ _ rfl _ ((acts_eval_tmp 8 (by kernel_rfl)).trans E8) _ _ ((S.re [3, 0, 1, 2])) _ rfl rfl rfl ?_
              exact ⟨(acts_some 1 rfl (by kernel_rfl) (by kernel_rfl)).symm, S⟩
            · rintro f a' W h2 hd ⟨rfl, S⟩
              rw [h2] at S
              refine wpOp_list rfl ?_
              refine st_store rfl _ _ _ rfl _ _ ((acts_eval_tmp 2 (by kernel_rfl)).trans E2) (acts_eval_hit 0 rfl hd.1 (by rw [HSZ]; rfl) (by kernel_rfl)) _ _ (S) rfl rfl (by simp [Value.oneCell', ItS.cs]) fun W' S' => ?_
              exact ⟨(acts_none 2 (by kernel_rfl)).symm, S'⟩
            · rintro f a' W h3 hd ⟨rfl, S⟩
              rw [h3] at S
              refine wpOp_list rfl ?_
              refine st_store rfl _ _ _ rfl _ _ ((acts_eval_tmp 3 (by kernel_rfl)).trans E3) (acts_eval_hit 1 rfl hd.1 (by rw [HSZ]; rfl) (by kernel_rfl)) _ _ (S.swap) rfl rfl (by simp [Value.oneCell']) fun W' S' => ?_
              exact ⟨(acts_none 3 (by kernel_rfl)).symm, S'.swap⟩
          · rintro a' W ⟨rfl, T4⟩
            subst ha0
            simp only [acts, if_true, Act.put, List.setIfInBounds_toArray, List.set_cons_succ, List.set_cons_zero]
            have HT := Lib.hid T4
            clear T3 T4 HSZ E2 E3 E4 E8
            go_wp2_with fail
            refine bodyPost_ret (results_cells2 rfl _ _ aI aZ _ _ _ _ _ _ rfl (HT.out).blk_at Try.underlying28 rfl (by kernel_rfl) rfl (HT.out).swap.blk_at Try.underlying31 rfl (by kernel_rfl)) rfl ?_
            exact hK.out _ _ ⟨G1, _, _, hG1, rfl, SlB.nil _, RPr.nil _, HT.out.drop.drop.drop.drop⟩
        | false =>
          rw [hp] at hc
          simp only [Bool.false_eq_true, if_false] at hc
          clear S
          go_wp2_with fail
          (with_reducible refine hc.mono ?_)
          clear hc d0
          rintro e w7 ⟨rfl, T⟩
          have HP := Lib.hid hp
          clear hp
          have T1 := T.newBlk #[.int .i64 0, .bool false] 31
          have hok := pl_ok T1 0 false
          rw [show ((0 : Int) == 0 && !false) = true from rfl] at hok
          clear T T1
          go_wp2_with fail
          (with_reducible refine hok.mono ?_)
          clear hok
          rintro e w8 ⟨rfl, T⟩
          generalize w7.heap.size = a8 at *
          go_wp2_with fail
          go_roundw
          case rel => exact ⟨1, G1, _, _, X, by omega, by go_num, hG1, ⟨fun _ => by first | exact HP.out | trivial, fun h => absurd h (by omega), fun _ => ⟨rfl, rfl, rfl⟩, fun h => absurd h (by omega)⟩, (T.drop).re [1, 2, 3, 4, 5, 0]⟩
          case measure => simp [intOf]
      · obtain ⟨rfl, rfl, rfl⟩ := q3 (by omega)
        have d1 := S.cell 1
        have hc := pl_2 k fl s A n0 c (by omega) (S.re [5, 0, 1, 2, 3, 4])
        have hp := q1 (by omega)
        obtain ⟨lf, hlf⟩ : ∃ lf, lf = lenF k fl n0 := ⟨_, rfl⟩
        rw [← hlf] at hc
        have hlf2 : lenF k fl bs.length = lf := by rw [hlf, HN0.out]
        clear hlf
        obtain ⟨pc, pb⟩ := lf
        simp only at hc
        clear S
        go_wp2_with fail
        (with_reducible refine hc.mono ?_)
        clear hc d1
        rintro e w7 ⟨rfl, T⟩
        cases hok : (pc == 0 && !pb) with
        | false =>
          have HOK := Lib.hid hok
          have hX : (⟨(pc, pb), X, [], []⟩ : RdRes) = res := by rw [← HX.out, HB.out, HN0.out]; simp only [parseS, hp, Bool.false_eq_true, if_false, hlf2, hok]; rfl
          clear HX hp hok hlf2 q1 q2
          have T1 := T.newBlk #[.int .i64 pc, .bool pb] 31
          have hok := pl_ok T1 pc pb
          rw [show ((pc : Int) == 0 && !pb) = false from HOK.out] at hok
          clear T T1
          go_wp2_with fail
          (with_reducible refine hok.mono ?_)
          clear hok
          rintro e w8 ⟨rfl, T⟩
          generalize w7.heap.size = a8 at *
          subst hX
          go_upto_region 10 with fail
          have T2 : Sat G1 _ (blk aI #[.int .i64 0, .int .i64 0, .slice none 0 0, .bool false, .bool false, .bool false, .int .i64 0, .int .i64 0, .int .i64 0, .int .i64 0, .int .i64 0, .int .i64 0, .bool false, .bool false, .slice none 0 0] 28 :: blk aZ #[.int .i64 0, .bool false] 31 :: blk aB (X.cs (.slice none 0 0) (.slice none 0 0)) 28 :: blk a8 #[.int .i64 pc, .bool pb] 31 :: l) := (T.re [6, 5, 4, 0, 1, 2, 3]).map fun _ h => sepAll_front h
          clear T
          refine wp_world T2 fun w9 T3 => ?_
          clear T2
          refine wp_act fun a0 ha0 => ?_
          have HSZ : a0.tmps.size = 41 := by rw [ha0]; rfl
          have E2 : a0.eval (.tmp 2) = .pointer (some ⟨aI, 0, none⟩) := by rw [ha0]; rfl
          have E3 : a0.eval (.tmp 3) = .pointer (some ⟨aZ, 0, none⟩) := by rw [ha0]; rfl
          have E4 : a0.eval (.tmp 4) = .pointer (some ⟨aB, 0, none⟩) := by rw [ha0]; rfl
          have E8 : a0.eval (.tmp 8) = .pointer (some ⟨a8, 0, none⟩) := by rw [ha0]; rfl
          refine wp_region_J (by kernel_rfl) 4 (by kernel_rfl) [[], [], [0, 0], [1, 2, 0, 1, 2]] (by kernel_rfl) (by kernel_rfl) (fun f a' W => a' = acts [(0, 36, .agg (X.cs (.slice none 0 0) (.slice none 0 0))), (1, 37, .agg #[.int .i64 pc, .bool pb])] f a0 ∧ Sat G1 W (blk aI (cond (f 2) (X.cs (.slice none 0 0) (.slice none 0 0)) #[.int .i64 0, .int .i64 0, .slice none 0 0, .bool false, .bool false, .bool false, .int .i64 0, .int .i64 0, .int .i64 0, .int .i64 0, .int .i64 0, .int .i64 0, .bool false, .bool false, .slice none 0 0]) 28 :: blk aZ (cond (f 3) #[.int .i64 pc, .bool pb] #[.int .i64 0, .bool false]) 31 :: blk aB (X.cs (.slice none 0 0) (.slice none 0 0)) 28 :: blk a8 #[.int .i64 pc, .bool pb] 31 :: l)) ?_ ?_ ?_
          · exact ⟨rfl, T3.drew⟩
          · refine ⟨?_, ?_, ?_, ?_, trivial⟩
            · rintro f a' W h0 hd ⟨rfl, S⟩
              refine wpOp_list rfl ?_
              refine st_load rfl _ _ rfl _ ((acts_eval_tmp 4 (by kernel_rfl)).trans E4) _ _ ((S.re [2, 0, 1])) _ rfl rfl rfl ?_
              exact ⟨(acts_some 0 rfl (by kernel_rfl) (by kernel_rfl)).symm, S⟩
            · rintro f a' W h1 hd ⟨rfl, S⟩
              refine wpOp_list rfl ?_
              refine st_load rfl _ _ rfl _ ((acts_eval_tmp 8 (by kernel_rfl)).trans E8) _ _ ((S.re [3, 0, 1, 2])) _ rfl rfl rfl ?_
              exact ⟨(acts_some 1 rfl (by kernel_rfl) (by kernel_rfl)).symm, S⟩
            · rintro f a' W h2 hd ⟨rfl, S⟩
              rw [h2] at S
              refine wpOp_list rfl ?_
              refine st_store rfl _ _ _ rfl _ _ ((acts_eval_tmp 2 (by kernel_rfl)).trans E2) (acts_eval_hit 0 rfl hd.1 (by rw [HSZ]; rfl) (by kernel_rfl)) _ _ (S) rfl rfl (by simp [Value.oneCell', ItS.cs]) fun W' S' => ?_
              exact ⟨(acts_none 2 (by kernel_rfl)).symm, S'⟩
            · rintro f a' W h3 hd ⟨rfl, S⟩
              rw [h3] at S
              refine wpOp_list rfl ?_
              refine st_store rfl _ _ _ rfl _ _ ((acts_eval_tmp 3 (by kernel_rfl)).trans E3) (acts_eval_hit 1 rfl hd.1 (by rw [HSZ]; rfl) (by kernel_rfl)) _ _ (S.swap) rfl rfl (by simp [Value.oneCell']) fun W' S' => ?_
              exact ⟨(acts_none 3 (by kernel_rfl)).symm, S'.swap⟩
          · rintro a' W ⟨rfl, T4⟩
            subst ha0
            simp only [acts, if_true, Act.put, List.setIfInBounds_toArray, List.set_cons_succ, List.set_cons_zero]
            have HT := Lib.hid T4
            clear T3 T4 HSZ E2 E3 E4 E8
            go_wp2_with fail
            refine bodyPost_ret (results_cells2 rfl _ _ aI aZ _ _ _ _ _ _ rfl (HT.out).blk_at Try.underlying28 rfl (by kernel_rfl) rfl (HT.out).swap.blk_at Try.underlying31 rfl (by kernel_rfl)) rfl ?_
            exact hK.out _ _ ⟨G1, _, _, hG1, rfl, SlB.nil _, RPr.nil _, HT.out.drop.drop.drop.drop⟩
        | true =>
          obtain ⟨rfl, rfl⟩ : pc = 0 ∧ pb = false := by simpa using hok
          have HP := Lib.hid hp
          have HL := Lib.hid hlf2
          clear hp hok hlf2 q1 q2
          have T1 := T.newBlk #[.int .i64 0, .bool false] 31
          have hok := pl_ok T1 0 false
          rw [show ((0 : Int) == 0 && !false) = true from rfl] at hok
          clear T T1
          go_wp2_with fail
          (with_reducible refine hok.mono ?_)
          clear hok
          rintro e w8 ⟨rfl, T⟩
          generalize w7.heap.size = a8 at *
          go_wp2_with fail
          go_roundw
          case rel => exact ⟨2, G1, _, _, X, by omega, by go_num, hG1, ⟨fun _ => HP.out, fun _ => HL.out, fun _ => ⟨rfl, rfl, rfl⟩, fun h => absurd h (by omega)⟩, (T.drop).re [1, 2, 3, 4, 5, 0]⟩
          case measure => simp [intOf]
      · obtain ⟨rfl, rfl, rfl⟩ := q3 (by omega)
        have d2 := S.cell 2
        have hp := q1 (by omega)
        have hl2 := q2 (by omega)
        have S9 := S.re [1, 5, 0, 2, 3, 4]
        have hc := pl_3b X k fl s A n0 c HB.out HN0.out S9 (HV.out.mono hG1) (by have := HN0.out; omega) hl2
        obtain ⟨rr, hrr⟩ : ∃ rr, rr = readS k fl s bs := ⟨_, rfl⟩
        rw [← hrr] at hc
        clear S S9
        go_wp2_with fail
        (with_reducible refine hc.mono ?_)
        clear hc d2
        rintro e w7 ⟨G2, v2, u2, hG2, rfl, hv2, hu2, T⟩
        obtain ⟨⟨pc, pb⟩, x, t, ps⟩ := rr
        cases hok : (pc == 0 && !pb) with
        | false =>
          have HOK := Lib.hid hok
          have hX : (⟨(pc, pb), X, [], []⟩ : RdRes) = res := by rw [← HX.out, HB.out, HN0.out]; simp only [parseS, hp, Bool.false_eq_true, if_false, hl2, ← hrr, hok, BEq.rfl, Bool.not_false, Bool.and_self, if_true]; rfl
          clear HX hp hok hl2 hrr q1 q2 hv2 hu2
          have T1 := T.newBlk #[.int .i64 pc, .bool pb] 31
          have hok := pl_ok T1 pc pb
          rw [show ((pc : Int) == 0 && !pb) = false from HOK.out] at hok
          clear T T1
          go_wp2_with fail
          (with_reducible refine hok.mono ?_)
          clear hok
          rintro e w8 ⟨rfl, T⟩
          generalize w7.heap.size = a8 at *
          subst hX
          go_upto_region 10 with fail
          have T2 : Sat G2 _ (blk aI #[.int .i64 0, .int .i64 0, .slice none 0 0, .bool false, .bool false, .bool false, .int .i64 0, .int .i64 0, .int .i64 0, .int .i64 0, .int .i64 0, .int .i64 0, .bool false, .bool false, .slice none 0 0] 28 :: blk aZ #[.int .i64 0, .bool false] 31 :: blk aB (X.cs (.slice none 0 0) (.slice none 0 0)) 28 :: blk a8 #[.int .i64 pc, .bool pb] 31 :: l) := (T.re [6, 5, 4, 0, 1, 2, 3]).map fun _ h => sepAll_front h
          clear T
          refine wp_world T2 fun w9 T3 => ?_
          clear T2
          refine wp_act fun a0 ha0 => ?_
          have HSZ : a0.tmps.size = 41 := by rw [ha0]; rfl
          have E2 : a0.eval (.tmp 2) = .pointer (some ⟨aI, 0, none⟩) := by rw [ha0]; rfl
          have E3 : a0.eval (.tmp 3) = .pointer (some ⟨aZ, 0, none⟩) := by rw [ha0]; rfl
          have E4 : a0.eval (.tmp 4) = .pointer (some ⟨aB, 0, none⟩) := by rw [ha0]; rfl
          have E8 : a0.eval (.tmp 8) = .pointer (some ⟨a8, 0, none⟩) := by rw [ha0]; rfl
          refine wp_region_J (by kernel_rfl) 4 (by kernel_rfl) [[], [], [0, 0], [1, 2, 0, 1, 2]] (by kernel_rfl) (by kernel_rfl) (fun f a' W => a' = acts [(0, 36, .agg (X.cs (.slice none 0 0) (.slice none 0 0))), (1, 37, .agg #[.int .i64 pc, .bool pb])] f a0 ∧ Sat G2 W (blk aI (cond (f 2) (X.cs (.slice none 0 0) (.slice none 0 0)) #[.int .i64 0, .int .i64 0, .slice none 0 0, .bool false, .bool false, .bool false, .int .i64 0, .int .i64 0, .int .i64 0, .int .i64 0, .int .i64 0, .int .i64 0, .bool false, .bool false, .slice none 0 0]) 28 :: blk aZ (cond (f 3) #[.int .i64 pc, .bool pb] #[.int .i64 0, .bool false]) 31 :: blk aB (X.cs (.slice none 0 0) (.slice none 0 0)) 28 :: blk a8 #[.int .i64 pc, .bool pb] 31 :: l)) ?_ ?_ ?_
          · exact ⟨rfl, T3.drew⟩
          · refine ⟨?_, ?_, ?_, ?_, trivial⟩
            · rintro f a' W h0 hd ⟨rfl, S⟩
              refine wpOp_list rfl ?_
              refine st_load rfl _ _ rfl _ ((acts_eval_tmp 4 (by kernel_rfl)).trans E4) _ _ ((S.re [2, 0, 1])) _ rfl rfl rfl ?_
              exact ⟨(acts_some 0 rfl (by kernel_rfl) (by kernel_rfl)).symm, S⟩
            · rintro f a' W h1 hd ⟨rfl, S⟩
              refine wpOp_list rfl ?_
              refine st_load rfl _ _ rfl _ ((acts_eval_tmp 8 (by kernel_rfl)).trans E8) _ _ ((S.re [3, 0, 1, 2])) _ rfl rfl rfl ?_
              exact ⟨(acts_some 1 rfl (by kernel_rfl) (by kernel_rfl)).symm, S⟩
            · rintro f a' W h2 hd ⟨rfl, S⟩
              rw [h2] at S
              refine wpOp_list rfl ?_
              refine st_store rfl _ _ _ rfl _ _ ((acts_eval_tmp 2 (by kernel_rfl)).trans E2) (acts_eval_hit 0 rfl hd.1 (by rw [HSZ]; rfl) (by kernel_rfl)) _ _ (S) rfl rfl (by simp [Value.oneCell', ItS.cs]) fun W' S' => ?_
              exact ⟨(acts_none 2 (by kernel_rfl)).symm, S'⟩
            · rintro f a' W h3 hd ⟨rfl, S⟩
              rw [h3] at S
              refine wpOp_list rfl ?_
              refine st_store rfl _ _ _ rfl _ _ ((acts_eval_tmp 3 (by kernel_rfl)).trans E3) (acts_eval_hit 1 rfl hd.1 (by rw [HSZ]; rfl) (by kernel_rfl)) _ _ (S.swap) rfl rfl (by simp [Value.oneCell']) fun W' S' => ?_
              exact ⟨(acts_none 3 (by kernel_rfl)).symm, S'.swap⟩
          · rintro a' W ⟨rfl, T4⟩
            subst ha0
            simp only [acts, if_true, Act.put, List.setIfInBounds_toArray, List.set_cons_succ, List.set_cons_zero]
            have HT := Lib.hid T4
            clear T3 T4 HSZ E2 E3 E4 E8
            go_wp2_with fail
            refine bodyPost_ret (results_cells2 rfl _ _ aI aZ _ _ _ _ _ _ rfl (HT.out).blk_at Try.underlying28 rfl (by kernel_rfl) rfl (HT.out).swap.blk_at Try.underlying31 rfl (by kernel_rfl)) rfl ?_
            exact hK.out _ _ ⟨G2, _, _, (hG1.trans hG2), rfl, SlB.nil _, RPr.nil _, HT.out.drop.drop.drop.drop⟩
        | true =>
          obtain ⟨rfl, rfl⟩ : pc = 0 ∧ pb = false := by simpa using hok
          have HP := Lib.hid hp
          have HL := Lib.hid hl2
          have HR := Lib.hid hrr
          clear hp hok hl2 hrr q1 q2
          have T1 := T.newBlk #[.int .i64 0, .bool false] 31
          have hok := pl_ok T1 0 false
          rw [show ((0 : Int) == 0 && !false) = true from rfl] at hok
          clear T T1
          go_wp2_with fail
          (with_reducible refine hok.mono ?_)
          clear hok
          rintro e w8 ⟨rfl, T⟩
          generalize w7.heap.size = a8 at *
          go_wp2_with fail
          go_roundw
          case rel => exact ⟨3, G2, v2, u2, x, by omega, by go_num, hG1.trans hG2, ⟨fun _ => HP.out, fun _ => HL.out, fun h => absurd h (by omega), fun _ => by rw [← HR.out]; exact ⟨rfl, rfl, hv2, hu2⟩⟩, (T.drop).re [2, 0, 3, 4, 5, 1]⟩
          case measure => simp [intOf]
      · obtain ⟨r1, rfl, r2, r3⟩ := q4 rfl
        have hp := q1 (by omega)
        have hl2 := q2 (by omega)
        obtain ⟨rr, hrr⟩ : ∃ rr, rr = readS k fl s bs := ⟨_, rfl⟩
        rw [← hrr] at r1 r2 r3 S
        obtain ⟨⟨pc, pb⟩, x, t, ps⟩ := rr
        obtain ⟨rfl, rfl⟩ : pc = 0 ∧ pb = false := by simpa using r1
        have hX : (⟨(0, false), x, t, ps⟩ : RdRes) = res := by rw [← HX.out]; simp only [parseS, hp, Bool.false_eq_true, if_false, hl2, ← hrr, BEq.rfl, Bool.not_false, Bool.and_self, if_true]
        subst hX
        have HV2 := Lib.hid r2
        have HU2 := Lib.hid r3
        obtain ⟨VA, vc, rfl, -, -, -⟩ := r2.form
        obtain ⟨UA, uc, rfl, -, -, -⟩ := id r3
        clear HX hp hl2 hrr q1 q2 r1 r2 r3
        simp only at S HV2 HU2
        clear q3 q4
        have T1 := S.re [4, 1, 0, 2, 3]
        clear S
        go_upto_region 12 with fail
        refine wp_region_lit ?_
        refine st_load rfl _ _ rfl aX rfl _ _ T1.swap _ Try.underlying28 rfl (by kernel_rfl) ?_
        refine st_run rfl (.agg #[.int .i64 0, .bool false]) (by go_simp) ?_
        refine st_store rfl _ _ _ rfl aI _ rfl rfl _ _ T1 (by kernel_rfl) rfl (by simp [ItS.cs, Value.oneCell']) fun w8 T2 => ?_
        refine st_store rfl _ _ _ rfl aZ _ rfl rfl _ _ (T2.re [4, 0, 1, 2, 3]) (by kernel_rfl) rfl (by simp [Value.oneCell']) fun w9 T3 => ?_
        have HT := Lib.hid (T3.swap)
        clear T1 T2 T3
        go_wp2_with fail
        refine bodyPost_ret (results_cells2 rfl _ _ aI aZ _ _ _ _ _ _ rfl (HT.out).blk_at Try.underlying28 rfl (by kernel_rfl) rfl (HT.out).swap.blk_at Try.underlying31 rfl (by kernel_rfl)) rfl ?_
        exact hK.out _ _ ⟨G1, .slice VA t.length vc, .slice UA ps.length uc, hG1, rfl, HV2.out, HU2.out, HT.out.drop.drop.drop.drop.drop.drop⟩
end
end Go.Proofs.Ytdfdcenbpanegaa

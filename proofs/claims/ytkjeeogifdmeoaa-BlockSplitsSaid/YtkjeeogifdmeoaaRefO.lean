/- The walk over the reference's On. -/
import Derived.Test.YtkjeeogifdmeoaaOn
set_option linter.unusedSimpArgs false
set_option linter.unusedVariables false
namespace Go.Proofs.Ytkjeeogifdmeoaa
open Go.RowKit

def num (b : Bool) : Int := if b then 1 else 0
def stA (b : BSt) : Value := .agg #[.int .i64 b.s, .string (bstr b.t), .int .i64 (num b.e)]
def what (r : OnR) : Int := if r.bad then 2 else if r.ok then 1 else 0
theorem results_cct {P : Program} {fn : Func} {p1 p2 p3 : Tmp} {y1 y2 : TypeId} (h : fn.results = #[.cell p1 y1, .cell p2 y2, .tmp p3]) (tmps : Array Value) (w : World) (g1 g2 : Nat) (t1 t2 : TypeId) (c1 c2 : Array Value) (d1 d2 : TypeDesc)
    (hp1 : tmps.getD p1 undef = .pointer (some ⟨g1, 0, none⟩)) (hg1 : w.heap[g1]? = some (.cells c1 t1 (0, 0))) (hu1 : P.underlying y1 = some d1) (hd1 : (match d1 with | .struct _ | .array _ _ => true | _ => false) = true) (hi1 : (P.info? y1).map (·.size) = some c1.size)
    (hp2 : tmps.getD p2 undef = .pointer (some ⟨g2, 0, none⟩)) (hg2 : w.heap[g2]? = some (.cells c2 t2 (0, 0))) (hu2 : P.underlying y2 = some d2) (hd2 : (match d2 with | .struct _ | .array _ _ => true | _ => false) = true) (hi2 : (P.info? y2).map (·.size) = some c2.size) :
    (results fn tmps).run P w = .ok (.tuple #[.agg c1, .agg c2, tmps.getD p3 undef]) w := by
  have h1 : tmps[p1]?.getD undef = .pointer (some ⟨g1, 0, none⟩) := by simpa using hp1
  have h2 : tmps[p2]?.getD undef = .pointer (some ⟨g2, 0, none⟩) := by simpa using hp2
  simp [results, h, h1, h2, asAddr, run_loadVar_row w g1 t1 y1 c1 (0, 0) d1 hg1 hu1 hd1 hi1, run_loadVar_row w g2 t2 y2 c2 (0, 0) d2 hg2 hu2 hd2 hi2]
section
variable {G : Gnd} {w : World} {l : List Asrt}
set_option maxHeartbeats 4000000 in
set_option maxRecDepth 100000 in
theorem ref_on (H : Sat G w l) (b : BSt) (lim : Int) (x : ItD) (t : List UInt8) (hi : b.w = !(b.s == 0)) (hl : b.t.length + t.length ≤ 1000000000) :
    Calls Try.prog 19 #[stA b, .int .i64 lim, .int .i64 x.k, .int .i64 x.s, .string (bstr t), .int .i64 (num x.e), .int .i64 (num x.l)] w fun e w' =>
      e = .returned (.tuple #[stA (asOn lim b x t).st, stA (asOn lim b x t).b, .int .i64 (what (asOn lim b x t))]) ∧ Sat G w' l := by
  refine calls_any fun K hK => ?_
  unfold stA
  generalize hnb : num b.e = nb at *
  have HNB := Lib.hid hnb
  generalize hne : num x.e = ne at *
  have HNE := Lib.hid hne
  have hsz := bstr_size t
  have hsb := bstr_size b.t
  have S1 := ((H.newBlk #[.int .i64 b.s, .string (bstr b.t), .int .i64 nb] 30).newBlk #[.int .i64 0, .string (bstr []), .int .i64 0] 30).newBlk #[.int .i64 0, .string (bstr []), .int .i64 0] 30
  simp only [World.size_alloc] at S1
  have hz : (ByteArray.mk #[]) = bstr [] := rfl
  clear hnb hne
  unfold asOn mayB at hK
  rw [hi] at hK
  generalize hbs : b.s = bs at *
  generalize hbt : b.t = bt at *
  have HBT := Lib.hid hbt
  have HBS := Lib.hid hbs
  clear hbt hbs hi
  generalize hk : x.k = k at *
  generalize hs : x.s = s at *
  have HKK := Lib.hid hk
  have HSS := Lib.hid hs
  clear hk hs
  cases h0 : (bs == 0) with
  | false =>
    cases h9 : (k == 9) with
    | false =>
      rw [h0, h9] at hK
      simp only [Bool.not_false, Bool.not_true, if_true, Bool.and_true, Bool.and_false, Bool.false_eq_true, if_false] at hK
      have m0 : (bs != 0) = true := by simp [bne, h0]
      have m9 : (k != 9) = true := by simp [bne, h9]
      have S2 := ((H.newBlk #[.int .i64 bs, .string (bstr bt), .int .i64 nb] 30).newBlk #[.int .i64 bs, .string (bstr bt), .int .i64 nb] 30).newBlk #[.int .i64 0, .string (bstr []), .int .i64 0] 30
      simp only [World.size_alloc] at S2
      have HS := Lib.hid S2
      clear S1 S2
      go_enter Try.func19, Try.ntmps19
      go_wp2_with fail
      refine bodyPost_ret (results_cct rfl _ _ _ _ _ _ _ _ _ _ rfl (HS.out.swap).blk_at Try.underlying30 rfl (by kernel_rfl) rfl (HS.out).blk_at Try.underlying30 rfl (by kernel_rfl)) rfl ?_
      refine hK.out _ _ ⟨?_, HS.out.drop.drop.drop⟩
      show _ = Ending.returned (.tuple #[.agg #[.int .i64 b.s, .string (bstr b.t), .int .i64 (num b.e)], .agg #[.int .i64 0, .string (bstr []), .int .i64 0], .int .i64 2])
      rw [HBS.out, HBT.out, HNB.out]
      rfl
    | true =>
      cases hs : (s == bs) with
      | false =>
        rw [h0, h9, hs] at hK
        simp only [Bool.not_false, Bool.not_true, if_true, Bool.and_true, Bool.and_false, Bool.false_eq_true, if_false] at hK
        have m0 : (bs != 0) = true := by simp [bne, h0]
        obtain rfl : k = 9 := beq_iff_eq.1 h9
        have ms : (s != bs) = true := by simp [bne, hs]
        have S2 := ((H.newBlk #[.int .i64 bs, .string (bstr bt), .int .i64 nb] 30).newBlk #[.int .i64 bs, .string (bstr bt), .int .i64 nb] 30).newBlk #[.int .i64 0, .string (bstr []), .int .i64 0] 30
        simp only [World.size_alloc] at S2
        have HS := Lib.hid S2
        clear S1 S2
        go_enter Try.func19, Try.ntmps19
        go_wp2_with fail
        refine bodyPost_ret (results_cct rfl _ _ _ _ _ _ _ _ _ _ rfl (HS.out.swap).blk_at Try.underlying30 rfl (by kernel_rfl) rfl (HS.out).blk_at Try.underlying30 rfl (by kernel_rfl)) rfl ?_
        refine hK.out _ _ ⟨?_, HS.out.drop.drop.drop⟩
        show _ = Ending.returned (.tuple #[.agg #[.int .i64 b.s, .string (bstr b.t), .int .i64 (num b.e)], .agg #[.int .i64 0, .string (bstr []), .int .i64 0], .int .i64 2])
        rw [HBS.out, HBT.out, HNB.out]
        rfl
      | true =>
        rw [h0, h9, hs] at hK
        simp only [Bool.not_false, Bool.not_true, if_true, Bool.and_true, Bool.and_false, Bool.false_eq_true, if_false] at hK
        have m0 : (bs != 0) = true := by simp [bne, h0]
        obtain rfl : k = 9 := beq_iff_eq.1 h9
        obtain rfl : bs = s := (beq_iff_eq.1 hs).symm
        rw [if_pos (.inr rfl), show nextB b x = b from if_neg (by rw [HKK.out]; decide)] at hK
        simp only [HBT.out, List.length_nil, Int.natCast_zero, Int.zero_add, List.nil_append] at hK
        have hap0 : bstr bt ++ bstr t = bstr (bt ++ t) := bstr_append bt t
        have hnil : (bstr []).size = 0 := rfl
        obtain ⟨ct, hct⟩ : ∃ ct, ct = bt ++ t := ⟨_, rfl⟩
        have hap : bstr bt ++ bstr t = bstr ct := by rw [hct]; exact hap0
        clear hap0
        have hsc : (bstr ct).size = ct.length := bstr_size _
        have hcl : (ct.length : Int) = (bt.length : Int) + t.length := by subst hct; simp
        have HCT := Lib.hid hct
        clear hct
        obtain ⟨m, hm⟩ : ∃ m, m = ct.length := ⟨_, rfl⟩
        rw [← hm] at hsc hcl
        clear hm
        have HCL := Lib.hid hcl
        by_cases hlong : lim < (bt.length : Int) + t.length
        · rw [if_pos hlong] at hK
          have hbig : (m : Int) > lim := by omega
          clear hcl hlong
          have S2 := (((H.newBlk #[.int .i64 bs, .string (bstr bt), .int .i64 nb] 30).newBlk #[.int .i64 bs, .string (bstr bt), .int .i64 nb] 30).newBlk #[.int .i64 0, .string (bstr []), .int .i64 0] 30).newBlk #[.int .i64 bs, .string (bstr ct), .int .i64 nb] 30
          simp only [World.size_alloc] at S2
          have HS := Lib.hid S2
          clear S1 S2
          go_enter Try.func19, Try.ntmps19
          go_wp2_with fail
          refine bodyPost_ret (results_cct rfl _ _ _ _ _ _ _ _ _ _ rfl (HS.out.pull2).blk_at Try.underlying30 rfl (by kernel_rfl) rfl (HS.out.swap).blk_at Try.underlying30 rfl (by kernel_rfl)) rfl ?_
          refine hK.out _ _ ⟨?_, HS.out.drop.drop.drop.drop⟩
          show _ = Ending.returned (.tuple #[.agg #[.int .i64 b.s, .string (bstr b.t), .int .i64 (num b.e)], .agg #[.int .i64 0, .string (bstr []), .int .i64 0], .int .i64 2])
          rw [HBS.out, HBT.out, HNB.out]
          rfl
        · rw [if_neg hlong] at hK
          have hbig : ¬ (m : Int) > lim := by omega
          clear hcl hlong
          cases hxl : x.l with
          | true =>
            rw [hxl] at hK
            rw [show num true = 1 from rfl]
            simp only [if_true] at hK
            have S2 := (((H.newBlk #[.int .i64 bs, .string (bstr bt), .int .i64 nb] 30).newBlk #[.int .i64 0, .string (bstr []), .int .i64 0] 30).newBlk #[.int .i64 0, .string (bstr []), .int .i64 0] 30).newBlk #[.int .i64 bs, .string (bstr ct), .int .i64 nb] 30
            simp only [World.size_alloc] at S2
            clear S1 hxl
            go_enter Try.func19, Try.ntmps19
            go_upto_region 12 with fail
            generalize w.heap.size + 1 + 1 + 1 = nn at *
            generalize w.heap.size + 1 + 1 = r2 at *
            generalize w.heap.size + 1 = r1 at *
            refine wp_world S2 fun w2 S3 => ?_
            clear S2 hap hsc hnil hsz hsb hbig
            refine wp_act fun a0 ha0 => ?_
            have HSZ : a0.tmps.size = 74 := by rw [ha0]; rfl
            have E14 : a0.eval (.tmp 14) = .pointer (some ⟨r1, 0, none⟩) := by rw [ha0]; rfl
            have E15 : a0.eval (.tmp 15) = .pointer (some ⟨r2, 0, none⟩) := by rw [ha0]; rfl
            have E17 : a0.eval (.tmp 17) = .pointer (some ⟨nn, 0, none⟩) := by rw [ha0]; rfl
            refine wp_region_J (by kernel_rfl) 5 (by kernel_rfl) [[], [], [0, 0], [1, 2, 0, 1, 2], [3, 0, 1, 2, 3]] (by kernel_rfl) (by kernel_rfl) (fun f a' W => a' = acts [(0, 70, .agg #[.int .i64 0, .string (bstr []), .int .i64 0]), (1, 71, .agg #[.int .i64 bs, .string (bstr ct), .int .i64 nb]), (4, 16, .int .i64 1)] f a0 ∧ Sat G W (blk nn #[.int .i64 bs, .string (bstr ct), .int .i64 nb] 30 :: blk r2 (cond (f 3) #[.int .i64 bs, .string (bstr ct), .int .i64 nb] #[.int .i64 0, .string (bstr []), .int .i64 0]) 30 :: blk r1 #[.int .i64 0, .string (bstr []), .int .i64 0] 30 :: blk w.heap.size #[.int .i64 bs, .string (bstr bt), .int .i64 nb] 30 :: l)) ?_ ?_ ?_
            · exact ⟨rfl, S3.drew⟩
            · refine ⟨?_, ?_, ?_, ?_, ?_, trivial⟩
              · rintro f a' W h0 hd ⟨rfl, S⟩
                refine wpOp_run (v := .agg #[.int .i64 0, .string (bstr []), .int .i64 0]) rfl rfl (fun ρ hρ => ?_) ⟨(acts_some 0 rfl (by kernel_rfl) (by kernel_rfl)).symm, S⟩
                clear hρ
                go_simp
              · rintro f a' W h1 hd ⟨rfl, S⟩
                refine wpOp_list rfl ?_
                refine st_load rfl _ _ rfl _ ((acts_eval_tmp 17 (by kernel_rfl)).trans E17) _ _ (S) _ rfl rfl rfl ?_
                exact ⟨(acts_some 1 rfl (by kernel_rfl) (by kernel_rfl)).symm, S⟩
              · rintro f a' W h2 hd ⟨rfl, S⟩
                refine wpOp_list rfl ?_
                refine st_store rfl _ _ _ rfl _ _ ((acts_eval_tmp 14 (by kernel_rfl)).trans E14) (acts_eval_hit 0 rfl hd.1 (by rw [HSZ]; rfl) (by kernel_rfl)) _ _ (S.pull2) rfl rfl (by simp [Value.oneCell']) fun W' S' => ?_
                exact ⟨(acts_none 2 (by kernel_rfl)).symm, S'.push2⟩
              · rintro f a' W h3 hd ⟨rfl, S⟩
                rw [h3] at S
                refine wpOp_list rfl ?_
                refine st_store rfl _ _ _ rfl _ _ ((acts_eval_tmp 15 (by kernel_rfl)).trans E15) (acts_eval_hit 1 rfl hd.1 (by rw [HSZ]; rfl) (by kernel_rfl)) _ _ (S.swap) rfl rfl (by simp [Value.oneCell']) fun W' S' => ?_
                exact ⟨(acts_none 3 (by kernel_rfl)).symm, S'.swap⟩
              · rintro f a' W h4 hd ⟨rfl, S⟩
                refine wpOp_run (v := .int .i64 1) rfl rfl (fun ρ hρ => ?_) ⟨(acts_some 2 rfl (by kernel_rfl) (by kernel_rfl)).symm, S⟩
                have ec : ∀ v, ρ (.const v) = v := by rw [hρ]; exact fun _ => rfl
                clear hρ
                go_simp
            · rintro a' W ⟨rfl, S4⟩
              subst ha0
              simp only [acts, if_true, Act.put, List.setIfInBounds_toArray, List.set_cons_succ, List.set_cons_zero]
              have HS := Lib.hid S4
              clear S3 S4 HSZ E14 E15 E17
              go_wp2_with fail
              refine bodyPost_ret (results_cct rfl _ _ _ _ _ _ _ _ _ _ rfl (HS.out.pull2).blk_at Try.underlying30 rfl (by kernel_rfl) rfl (HS.out.swap).blk_at Try.underlying30 rfl (by kernel_rfl)) rfl ?_
              refine hK.out _ _ ⟨?_, HS.out.drop.drop.drop.drop⟩
              show _ = Ending.returned (.tuple #[.agg #[.int .i64 0, .string (bstr []), .int .i64 0], .agg #[.int .i64 b.s, .string (bstr (bt ++ t)), .int .i64 (num b.e)], .int .i64 1])
              rw [HCT.out, HBS.out, HNB.out]
              rfl
          | false =>
            rw [hxl] at hK
            rw [show num false = 0 from rfl]
            simp only [Bool.false_eq_true, if_false] at hK
            have S2 := (((H.newBlk #[.int .i64 bs, .string (bstr bt), .int .i64 nb] 30).newBlk #[.int .i64 bs, .string (bstr ct), .int .i64 nb] 30).newBlk #[.int .i64 0, .string (bstr []), .int .i64 0] 30).newBlk #[.int .i64 bs, .string (bstr ct), .int .i64 nb] 30
            simp only [World.size_alloc] at S2
            have HS := Lib.hid S2
            clear S1 S2 hxl
            go_enter Try.func19, Try.ntmps19
            go_wp2_with fail
            refine bodyPost_ret (results_cct rfl _ _ _ _ _ _ _ _ _ _ rfl (HS.out.pull2).blk_at Try.underlying30 rfl (by kernel_rfl) rfl (HS.out.swap).blk_at Try.underlying30 rfl (by kernel_rfl)) rfl ?_
            refine hK.out _ _ ⟨?_, HS.out.drop.drop.drop.drop⟩
            show _ = Ending.returned (.tuple #[.agg #[.int .i64 b.s, .string (bstr (bt ++ t)), .int .i64 (num b.e)], .agg #[.int .i64 0, .string (bstr []), .int .i64 0], .int .i64 0])
            rw [HCT.out, HBS.out, HNB.out]
            rfl
  | true =>
    cases h9 : (k == 9) with
    | true =>
      rw [h0, h9] at hK
      simp only [Bool.not_false, Bool.not_true, if_true, Bool.and_true, Bool.and_false, Bool.false_eq_true, if_false] at hK
      obtain rfl : bs = 0 := beq_iff_eq.1 h0
      obtain rfl : k = 9 := beq_iff_eq.1 h9
      have S2 := ((H.newBlk #[.int .i64 0, .string (bstr bt), .int .i64 nb] 30).newBlk #[.int .i64 0, .string (bstr bt), .int .i64 nb] 30).newBlk #[.int .i64 0, .string (bstr []), .int .i64 0] 30
      simp only [World.size_alloc] at S2
      have HS := Lib.hid S2
      clear S1 S2
      go_enter Try.func19, Try.ntmps19
      go_wp2_with fail
      refine bodyPost_ret (results_cct rfl _ _ _ _ _ _ _ _ _ _ rfl (HS.out.swap).blk_at Try.underlying30 rfl (by kernel_rfl) rfl (HS.out).blk_at Try.underlying30 rfl (by kernel_rfl)) rfl ?_
      refine hK.out _ _ ⟨?_, HS.out.drop.drop.drop⟩
      show _ = Ending.returned (.tuple #[.agg #[.int .i64 b.s, .string (bstr b.t), .int .i64 (num b.e)], .agg #[.int .i64 0, .string (bstr []), .int .i64 0], .int .i64 2])
      rw [HBS.out, HBT.out, HNB.out]
      rfl
    | false =>
      cases h1 : (k == 1) with
      | false =>
        rw [h0, h9] at hK
        simp only [Bool.not_false, Bool.not_true, if_true, Bool.and_true, Bool.and_false, Bool.false_eq_true, if_false] at hK
        rw [if_neg (by intro h; rcases h with h | h <;> subst h <;> simp at h1 h9)] at hK
        obtain rfl : bs = 0 := beq_iff_eq.1 h0
        have m9 : (k != 9) = true := by simp [bne, h9]
        have m1 : (k != 1) = true := by simp [bne, h1]
        have S2 := ((H.newBlk #[.int .i64 0, .string (bstr bt), .int .i64 nb] 30).newBlk #[.int .i64 0, .string (bstr bt), .int .i64 nb] 30).newBlk #[.int .i64 0, .string (bstr []), .int .i64 0] 30
        simp only [World.size_alloc] at S2
        have HS := Lib.hid S2
        clear S1 S2
        go_enter Try.func19, Try.ntmps19
        go_wp2_with fail
        refine bodyPost_ret (results_cct rfl _ _ _ _ _ _ _ _ _ _ rfl (HS.out.swap).blk_at Try.underlying30 rfl (by kernel_rfl) rfl (HS.out).blk_at Try.underlying30 rfl (by kernel_rfl)) rfl ?_
        refine hK.out _ _ ⟨?_, HS.out.drop.drop.drop⟩
        show _ = Ending.returned (.tuple #[.agg #[.int .i64 b.s, .string (bstr b.t), .int .i64 (num b.e)], .agg #[.int .i64 0, .string (bstr []), .int .i64 0], .int .i64 0])
        rw [HBS.out, HBT.out, HNB.out]
        rfl
      | true =>
        rw [h0, h9] at hK
        simp only [Bool.not_false, Bool.not_true, if_true, Bool.and_true, Bool.and_false, Bool.false_eq_true, if_false] at hK
        obtain rfl : bs = 0 := beq_iff_eq.1 h0
        have m9 : (k != 9) = true := by simp [bne, h9]
        obtain rfl : k = 1 := beq_iff_eq.1 h1
        rw [if_pos (.inl rfl), show nextB b x = ⟨false, x.s, [], x.e⟩ from if_pos HKK.out] at hK
        simp only [HBT.out, List.length_nil, Int.natCast_zero, Int.zero_add, List.nil_append] at hK
        have hap0 : bstr [] ++ bstr t = bstr (t) := bstr_append [] t
        have hnil : (bstr []).size = 0 := rfl
        obtain ⟨ct, hct⟩ : ∃ ct, ct = t := ⟨_, rfl⟩
        have hap : bstr [] ++ bstr t = bstr ct := by rw [hct]; exact hap0
        clear hap0
        have hsc : (bstr ct).size = ct.length := bstr_size _
        have hcl : (ct.length : Int) = (t.length : Int) := by subst hct; simp
        have HCT := Lib.hid hct
        clear hct
        obtain ⟨m, hm⟩ : ∃ m, m = ct.length := ⟨_, rfl⟩
        rw [← hm] at hsc hcl
        clear hm
        have HCL := Lib.hid hcl
        by_cases hlong : lim < (t.length : Int)
        · rw [if_pos hlong] at hK
          have hbig : (m : Int) > lim := by omega
          clear hcl hlong
          have S2 := (((H.newBlk #[.int .i64 0, .string (bstr bt), .int .i64 nb] 30).newBlk #[.int .i64 0, .string (bstr bt), .int .i64 nb] 30).newBlk #[.int .i64 0, .string (bstr []), .int .i64 0] 30).newBlk #[.int .i64 s, .string (bstr ct), .int .i64 ne] 30
          simp only [World.size_alloc] at S2
          have HS := Lib.hid S2
          clear S1 S2
          go_enter Try.func19, Try.ntmps19
          go_wp2_with fail
          refine bodyPost_ret (results_cct rfl _ _ _ _ _ _ _ _ _ _ rfl (HS.out.pull2).blk_at Try.underlying30 rfl (by kernel_rfl) rfl (HS.out.swap).blk_at Try.underlying30 rfl (by kernel_rfl)) rfl ?_
          refine hK.out _ _ ⟨?_, HS.out.drop.drop.drop.drop⟩
          show _ = Ending.returned (.tuple #[.agg #[.int .i64 b.s, .string (bstr b.t), .int .i64 (num b.e)], .agg #[.int .i64 0, .string (bstr []), .int .i64 0], .int .i64 2])
          rw [HBS.out, HBT.out, HNB.out]
          rfl
        · rw [if_neg hlong] at hK
          have hbig : ¬ (m : Int) > lim := by omega
          clear hcl hlong
          cases hxl : x.l with
          | true =>
            rw [hxl] at hK
            rw [show num true = 1 from rfl]
            simp only [if_true] at hK
            have S2 := (((H.newBlk #[.int .i64 0, .string (bstr bt), .int .i64 nb] 30).newBlk #[.int .i64 0, .string (bstr []), .int .i64 0] 30).newBlk #[.int .i64 0, .string (bstr []), .int .i64 0] 30).newBlk #[.int .i64 s, .string (bstr ct), .int .i64 ne] 30
            simp only [World.size_alloc] at S2
            clear S1 hxl
            go_enter Try.func19, Try.ntmps19
            go_upto_region 12 with fail
            generalize w.heap.size + 1 + 1 + 1 = nn at *
            generalize w.heap.size + 1 + 1 = r2 at *
            generalize w.heap.size + 1 = r1 at *
            refine wp_world S2 fun w2 S3 => ?_
            clear S2 hap hsc hnil hsz hsb hbig
            refine wp_act fun a0 ha0 => ?_
            have HSZ : a0.tmps.size = 74 := by rw [ha0]; rfl
            have E14 : a0.eval (.tmp 14) = .pointer (some ⟨r1, 0, none⟩) := by rw [ha0]; rfl
            have E15 : a0.eval (.tmp 15) = .pointer (some ⟨r2, 0, none⟩) := by rw [ha0]; rfl
            have E17 : a0.eval (.tmp 17) = .pointer (some ⟨nn, 0, none⟩) := by rw [ha0]; rfl
            refine wp_region_J (by kernel_rfl) 5 (by kernel_rfl) [[], [], [0, 0], [1, 2, 0, 1, 2], [3, 0, 1, 2, 3]] (by kernel_rfl) (by kernel_rfl) (fun f a' W => a' = acts [(0, 70, .agg #[.int .i64 0, .string (bstr []), .int .i64 0]), (1, 71, .agg #[.int .i64 s, .string (bstr ct), .int .i64 ne]), (4, 16, .int .i64 1)] f a0 ∧ Sat G W (blk nn #[.int .i64 s, .string (bstr ct), .int .i64 ne] 30 :: blk r2 (cond (f 3) #[.int .i64 s, .string (bstr ct), .int .i64 ne] #[.int .i64 0, .string (bstr []), .int .i64 0]) 30 :: blk r1 #[.int .i64 0, .string (bstr []), .int .i64 0] 30 :: blk w.heap.size #[.int .i64 0, .string (bstr bt), .int .i64 nb] 30 :: l)) ?_ ?_ ?_
            · exact ⟨rfl, S3.drew⟩
            · refine ⟨?_, ?_, ?_, ?_, ?_, trivial⟩
              · rintro f a' W h0 hd ⟨rfl, S⟩
                refine wpOp_run (v := .agg #[.int .i64 0, .string (bstr []), .int .i64 0]) rfl rfl (fun ρ hρ => ?_) ⟨(acts_some 0 rfl (by kernel_rfl) (by kernel_rfl)).symm, S⟩
                clear hρ
                go_simp
              · rintro f a' W h1 hd ⟨rfl, S⟩
                refine wpOp_list rfl ?_
                refine st_load rfl _ _ rfl _ ((acts_eval_tmp 17 (by kernel_rfl)).trans E17) _ _ (S) _ rfl rfl rfl ?_
                exact ⟨(acts_some 1 rfl (by kernel_rfl) (by kernel_rfl)).symm, S⟩
              · rintro f a' W h2 hd ⟨rfl, S⟩
                refine wpOp_list rfl ?_
                refine st_store rfl _ _ _ rfl _ _ ((acts_eval_tmp 14 (by kernel_rfl)).trans E14) (acts_eval_hit 0 rfl hd.1 (by rw [HSZ]; rfl) (by kernel_rfl)) _ _ (S.pull2) rfl rfl (by simp [Value.oneCell']) fun W' S' => ?_
                exact ⟨(acts_none 2 (by kernel_rfl)).symm, S'.push2⟩
              · rintro f a' W h3 hd ⟨rfl, S⟩
                rw [h3] at S
                refine wpOp_list rfl ?_
                refine st_store rfl _ _ _ rfl _ _ ((acts_eval_tmp 15 (by kernel_rfl)).trans E15) (acts_eval_hit 1 rfl hd.1 (by rw [HSZ]; rfl) (by kernel_rfl)) _ _ (S.swap) rfl rfl (by simp [Value.oneCell']) fun W' S' => ?_
                exact ⟨(acts_none 3 (by kernel_rfl)).symm, S'.swap⟩
              · rintro f a' W h4 hd ⟨rfl, S⟩
                refine wpOp_run (v := .int .i64 1) rfl rfl (fun ρ hρ => ?_) ⟨(acts_some 2 rfl (by kernel_rfl) (by kernel_rfl)).symm, S⟩
                have ec : ∀ v, ρ (.const v) = v := by rw [hρ]; exact fun _ => rfl
                clear hρ
                go_simp
            · rintro a' W ⟨rfl, S4⟩
              subst ha0
              simp only [acts, if_true, Act.put, List.setIfInBounds_toArray, List.set_cons_succ, List.set_cons_zero]
              have HS := Lib.hid S4
              clear S3 S4 HSZ E14 E15 E17
              go_wp2_with fail
              refine bodyPost_ret (results_cct rfl _ _ _ _ _ _ _ _ _ _ rfl (HS.out.pull2).blk_at Try.underlying30 rfl (by kernel_rfl) rfl (HS.out.swap).blk_at Try.underlying30 rfl (by kernel_rfl)) rfl ?_
              refine hK.out _ _ ⟨?_, HS.out.drop.drop.drop.drop⟩
              show _ = Ending.returned (.tuple #[.agg #[.int .i64 0, .string (bstr []), .int .i64 0], .agg #[.int .i64 x.s, .string (bstr (t)), .int .i64 (num x.e)], .int .i64 1])
              rw [HCT.out, HSS.out, HNE.out]
              rfl
          | false =>
            rw [hxl] at hK
            rw [show num false = 0 from rfl]
            simp only [Bool.false_eq_true, if_false] at hK
            have S2 := (((H.newBlk #[.int .i64 0, .string (bstr bt), .int .i64 nb] 30).newBlk #[.int .i64 s, .string (bstr ct), .int .i64 ne] 30).newBlk #[.int .i64 0, .string (bstr []), .int .i64 0] 30).newBlk #[.int .i64 s, .string (bstr ct), .int .i64 ne] 30
            simp only [World.size_alloc] at S2
            have HS := Lib.hid S2
            clear S1 S2 hxl
            go_enter Try.func19, Try.ntmps19
            go_wp2_with fail
            refine bodyPost_ret (results_cct rfl _ _ _ _ _ _ _ _ _ _ rfl (HS.out.pull2).blk_at Try.underlying30 rfl (by kernel_rfl) rfl (HS.out.swap).blk_at Try.underlying30 rfl (by kernel_rfl)) rfl ?_
            refine hK.out _ _ ⟨?_, HS.out.drop.drop.drop.drop⟩
            show _ = Ending.returned (.tuple #[.agg #[.int .i64 x.s, .string (bstr (t)), .int .i64 (num x.e)], .agg #[.int .i64 0, .string (bstr []), .int .i64 0], .int .i64 0])
            rw [HCT.out, HSS.out, HNE.out]
            rfl
end
end Go.Proofs.Ytkjeeogifdmeoaa

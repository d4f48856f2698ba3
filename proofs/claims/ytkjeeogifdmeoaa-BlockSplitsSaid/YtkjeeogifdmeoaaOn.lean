/- The walk over On. -/
import Derived.Test.YtkjeeogifdmeoaaAs
set_option linter.unusedSimpArgs false
set_option linter.unusedVariables false
namespace Go.Proofs.Ytkjeeogifdmeoaa
open Go.RowKit

/-- What On leaves, and tells. -/
structure OnR where
  st : BSt
  ok : Bool
  b : BSt
  bad : Bool
def nextB (b : BSt) (x : ItD) : BSt := if x.k = 1 then ⟨false, x.s, [], x.e⟩ else b
def asOn (lim : Int) (b : BSt) (x : ItD) (t : List UInt8) : OnR :=
  if mayB b x.k x.s then
    if x.k = 1 ∨ x.k = 9 then
      if lim < (nextB b x).t.length + t.length then ⟨b, false, idle, true⟩
      else if x.l then ⟨idle, true, ⟨false, (nextB b x).s, (nextB b x).t ++ t, (nextB b x).e⟩, false⟩ else ⟨⟨true, (nextB b x).s, (nextB b x).t ++ t, (nextB b x).e⟩, false, idle, false⟩
    else ⟨b, false, idle, false⟩
  else ⟨b, false, idle, true⟩
theorem results_ctc {P : Program} {fn : Func} {p1 p2 p3 : Tmp} {y1 y3 : TypeId} (h : fn.results = #[.cell p1 y1, .tmp p2, .cell p3 y3]) (tmps : Array Value) (w : World) (g1 g3 : Nat) (t1 t3 : TypeId) (c1 c3 : Array Value) (d1 d3 : TypeDesc)
    (hp1 : tmps.getD p1 undef = .pointer (some ⟨g1, 0, none⟩)) (hg1 : w.heap[g1]? = some (.cells c1 t1 (0, 0))) (hu1 : P.underlying y1 = some d1) (hd1 : (match d1 with | .struct _ | .array _ _ => true | _ => false) = true) (hi1 : (P.info? y1).map (·.size) = some c1.size)
    (hp3 : tmps.getD p3 undef = .pointer (some ⟨g3, 0, none⟩)) (hg3 : w.heap[g3]? = some (.cells c3 t3 (0, 0))) (hu3 : P.underlying y3 = some d3) (hd3 : (match d3 with | .struct _ | .array _ _ => true | _ => false) = true) (hi3 : (P.info? y3).map (·.size) = some c3.size) :
    (results fn tmps).run P w = .ok (.tuple #[.agg c1, tmps.getD p2 undef, .agg c3]) w := by
  have h1 : tmps[p1]?.getD undef = .pointer (some ⟨g1, 0, none⟩) := by simpa using hp1
  have h3 : tmps[p3]?.getD undef = .pointer (some ⟨g3, 0, none⟩) := by simpa using hp3
  simp [results, h, h1, h3, asAddr, run_loadVar_row w g1 t1 y1 c1 (0, 0) d1 hg1 hu1 hd1 hi1, run_loadVar_row w g3 t3 y3 c3 (0, 0) d3 hg3 hu3 hd3 hi3]
theorem parts2 {G : Gnd} {w : World} {l : List Asrt} {u v : Value} {g : Nat} {bs b : List UInt8} (S : Sat G w (blk g #[u, v] 31 :: l)) (hu : SlB (cellR G.ro) u bs) (hv : SlB (cellR G.ro) v b) :
    ∀ i bs', [bs, b][i]? = some bs' → ∃ x, w.cell? ((⟨g, 0, none⟩ : Addr).add i) = some x ∧ SlB w.cell? x bs' := by
  have hc : ∀ i, w.cell? ((⟨g, 0, none⟩ : Addr).add i) = #[u, v][i]? := fun i => by
    have e : (⟨g, 0, none⟩ : Addr).add i = ⟨g, i, none⟩ := by unfold Addr.add; split <;> simp_all
    rw [e]; exact S.cell i
  intro i bs' hi
  rcases i with _ | _ | i
  · cases hi; exact ⟨_, by rw [hc]; rfl, hu.sat S⟩
  · cases hi; exact ⟨_, by rw [hc]; rfl, hv.sat S⟩
  · simp at hi
section
variable {G : Gnd} {w : World} {l : List Asrt} {p : Nat} {lim : Int} {b : BSt}
set_option maxHeartbeats 8000000 in
set_option maxRecDepth 100000 in
theorem as_on (H : Sat G w (asA p lim b :: l)) (x : ItD) (t : List UInt8) (hx : x.ok) (ht : SlB (cellR G.ro) x.v t) (hl : b.t.length + t.length ≤ 1000000000) :
    Calls Try.prog 12 #[.pointer (some ⟨p, 0, none⟩), .agg x.cells] w fun e w' => ∃ G' u, G.le G' ∧
      e = .returned (.tuple #[.agg #[.int .i64 (asOn lim b x t).b.s, u, .bool (asOn lim b x t).b.e], .bool (asOn lim b x t).ok, .agg #[.int .i64 (if (asOn lim b x t).bad then 101 else 0), .bool (asOn lim b x t).bad]]) ∧
      SlB (Go.Proofs.Ytkjeeogifdmeoaa.cellR G'.ro) u (asOn lim b x t).b.t ∧ Sat G' w' (asA p lim (asOn lim b x t).st :: l) := by
  refine calls_any fun K hK => ?_
  obtain ⟨-, B, m, d, hxq⟩ := id hx
  obtain ⟨A, c, hxv, -, -, -⟩ := ht.form
  have hcs : x.cells = #[.int .i64 x.k, .int .i64 x.s, .slice A t.length c, .bool x.e, .bool x.l, .bool x.a, .int .i64 x.n1, .int .i64 x.n2, .int .i64 x.n3, .int .i64 x.n4, .int .i64 x.n5, .int .i64 x.n6, .bool x.b1, .bool x.b2, .slice B m d] := by unfold ItD.cells; rw [hxv, hxq]
  have S1 := (((H.newBlk x.cells 34).newBlk #[.int .i64 0, .slice none 0 0, .bool false] 41).newBlk #[.int .i64 0, .bool false] 43).newBlk #[.int .i64 101, .bool true] 43
  simp only [World.size_alloc] at S1
  have hmay := as_may (S1.mid [_, _, _, _]) x hx
  rw [hxv] at ht
  rw [hcs] at hmay S1 ⊢
  have H0 := Lib.hid H
  clear H hx hxv hxq hcs
  simp only [List.cons_append, List.nil_append] at hmay
  unfold asOn at hK
  cases hm : mayB b x.k x.s with
  | false =>
    rw [hm] at hmay hK
    simp only [Bool.false_eq_true, if_false] at hK
    generalize x.k = k at *
    generalize x.s = s at *
    generalize x.e = e1 at *
    generalize x.l = e2 at *
    generalize x.a = e3 at *
    generalize x.n1 = n1 at *
    generalize x.n2 = n2 at *
    generalize x.n3 = n3 at *
    generalize x.n4 = n4 at *
    generalize x.n5 = n5 at *
    generalize x.n6 = n6 at *
    generalize x.b1 = e4 at *
    generalize x.b2 = e5 at *
    clear hm S1 ht
    go_enter Try.func12, Try.ntmps12
    go_wp2_with fail
    (with_reducible refine hmay.mono ?_)
    clear hmay
    rintro e w1 ⟨rfl, S2⟩
    generalize w.heap.size + 1 + 1 + 1 = dd at *
    generalize w.heap.size + 1 + 1 = cc at *
    generalize w.heap.size + 1 = bb at *
    generalize w.heap.size = aa at *
    have S3 : Sat G w1 (blk bb #[.int .i64 0, .slice none 0 0, .bool false] 41 :: blk cc #[.int .i64 0, .bool false] 43 :: blk dd #[.int .i64 101, .bool true] 43 :: asA p lim b :: blk aa #[.int .i64 k, .int .i64 s, .slice A t.length c, .bool e1, .bool e2, .bool e3, .int .i64 n1, .int .i64 n2, .int .i64 n3, .int .i64 n4, .int .i64 n5, .int .i64 n6, .bool e4, .bool e5, .slice B m d] 34 :: l) := S2.re [3, 2, 1, 0, 4]
    go_upto_region 3 with fail
    refine wp_act fun a0 ha0 => ?_
    have HSZ : a0.tmps.size = 74 := by rw [ha0]; rfl
    have E4 : a0.eval (.tmp 4) = .pointer (some ⟨bb, 0, none⟩) := by rw [ha0]; rfl
    have E6 : a0.eval (.tmp 6) = .pointer (some ⟨cc, 0, none⟩) := by rw [ha0]; rfl
    have E7 : a0.eval (.tmp 7) = .pointer (some ⟨dd, 0, none⟩) := by rw [ha0]; rfl
    refine wp_region_J (by kernel_rfl) 5 (by kernel_rfl) [[], [], [0, 0], [2, 0, 2], [1, 3, 0, 1, 2, 3]] (by kernel_rfl) (by kernel_rfl) (fun f a' W => a' = acts [(0, 14, .agg #[.int .i64 0, .slice none 0 0, .bool false]), (1, 15, .agg #[.int .i64 101, .bool true]), (3, 5, .bool false)] f a0 ∧ Sat G W (blk bb #[.int .i64 0, .slice none 0 0, .bool false] 41 :: blk cc (cond (f 4) #[.int .i64 101, .bool true] #[.int .i64 0, .bool false]) 43 :: blk dd #[.int .i64 101, .bool true] 43 :: asA p lim b :: blk aa #[.int .i64 k, .int .i64 s, .slice A t.length c, .bool e1, .bool e2, .bool e3, .int .i64 n1, .int .i64 n2, .int .i64 n3, .int .i64 n4, .int .i64 n5, .int .i64 n6, .bool e4, .bool e5, .slice B m d] 34 :: l)) ?_ ?_ ?_
    · exact ⟨rfl, S3.drew⟩
    · refine ⟨?_, ?_, ?_, ?_, ?_, trivial⟩
      · rintro f a' W h0 hd ⟨rfl, S⟩
        refine wpOp_run (v := .agg #[.int .i64 0, .slice none 0 0, .bool false]) rfl rfl (fun ρ hρ => ?_) ⟨(acts_some 0 rfl (by kernel_rfl) (by kernel_rfl)).symm, S⟩
        clear hρ
        go_simp
      · rintro f a' W h1 hd ⟨rfl, S⟩
        refine wpOp_list rfl ?_
        refine st_load rfl _ _ rfl _ ((acts_eval_tmp 7 (by kernel_rfl)).trans E7) _ _ (S.pull2) _ rfl rfl rfl ?_
        exact ⟨(acts_some 1 rfl (by kernel_rfl) (by kernel_rfl)).symm, S⟩
      · rintro f a' W h2 hd ⟨rfl, S⟩
        refine wpOp_list rfl ?_
        refine st_store rfl _ _ _ rfl _ _ ((acts_eval_tmp 4 (by kernel_rfl)).trans E4) (acts_eval_hit 0 rfl hd.1 (by rw [HSZ]; rfl) (by kernel_rfl)) _ _ (S) rfl rfl (by simp [Value.oneCell']) fun W' S' => ?_
        exact ⟨(acts_none 2 (by kernel_rfl)).symm, S'⟩
      · rintro f a' W h3 hd ⟨rfl, S⟩
        refine wpOp_run (v := .bool false) rfl rfl (fun ρ hρ => ?_) ⟨(acts_some 2 rfl (by kernel_rfl) (by kernel_rfl)).symm, S⟩
        have ec : ∀ v, ρ (.const v) = v := by rw [hρ]; exact fun _ => rfl
        clear hρ
        go_simp
      · rintro f a' W h4 hd ⟨rfl, S⟩
        rw [h4] at S
        refine wpOp_list rfl ?_
        refine st_store rfl _ _ _ rfl _ _ ((acts_eval_tmp 6 (by kernel_rfl)).trans E6) (acts_eval_hit 1 rfl hd.1 (by rw [HSZ]; rfl) (by kernel_rfl)) _ _ (S.swap) rfl rfl (by simp [Value.oneCell']) fun W' S' => ?_
        exact ⟨(acts_none 4 (by kernel_rfl)).symm, S'.swap⟩
    · rintro a' W ⟨rfl, S9⟩
      subst ha0
      simp only [acts, if_true, Act.put, List.setIfInBounds_toArray, List.set_cons_succ, List.set_cons_zero]
      have HS9 := Lib.hid S9
      clear S9 HSZ E4 E6 E7
      go_wp2_with fail
      refine bodyPost_ret (results_ctc rfl _ _ bb cc _ _ _ _ _ _ rfl (HS9.out).blk_at Try.underlying41 rfl (by kernel_rfl) rfl (HS9.out.swap).blk_at Try.underlying43 rfl (by kernel_rfl)) rfl ?_
      exact hK.out _ _ ⟨G, _, Gnd.le.rfl', rfl, SlB.nil _, HS9.out.drop.drop.drop.drop2⟩
  | true =>
    rw [hm] at hmay hK
    simp only [if_true] at hK
    clear hm S1
    clear H0
    by_cases k1 : x.k = 1
    · rw [if_pos (.inl k1), show nextB b x = ⟨false, x.s, [], x.e⟩ from if_pos k1] at hK
      simp only [List.length_nil, Int.natCast_zero, Int.zero_add, List.nil_append] at hK
      rw [k1] at hmay ⊢
      clear k1
      generalize x.s = s at *
      generalize x.e = e1 at *
      generalize x.l = e2 at *
      generalize x.a = e3 at *
      generalize x.n1 = n1 at *
      generalize x.n2 = n2 at *
      generalize x.n3 = n3 at *
      generalize x.n4 = n4 at *
      generalize x.n5 = n5 at *
      generalize x.n6 = n6 at *
      generalize x.b1 = e4 at *
      generalize x.b2 = e5 at *
      go_enter Try.func12, Try.ntmps12
      go_wp2_with fail
      (with_reducible refine hmay.mono ?_)
      clear hmay
      rintro e w1 ⟨rfl, S2⟩
      generalize w.heap.size + 1 + 1 + 1 = dd at *
      generalize w.heap.size + 1 + 1 = cc at *
      generalize w.heap.size + 1 = bb at *
      generalize w.heap.size = aa at *
      obtain ⟨v', hv, S2⟩ := as_iff.1 S2
      obtain ⟨V, cv, rfl, -, hcv, -⟩ := hv.form
      have HFIN : Hid (∀ {W : World} {l' : List Asrt}, Sat G W (blk p #[.int .i64 lim, .bool b.w, .int .i64 b.s, .slice V b.t.length cv, .bool b.e] 62 :: l') → Sat G W (asA p lim b :: l')) := Lib.hid fun S => as_iff.2 ⟨_, hv, S⟩
      have HV := Lib.hid hv
      have HT := Lib.hid ht
      clear hv ht
      generalize b.s = bs at *
      generalize b.w = bw at *
      generalize b.e = be at *
      generalize b.t = bt at *
      have c2 := S2.cell 2
      have c3 := S2.cell 3
      have c4 := S2.cell 4
      go_upto_region 5 with fail
      have S3 := (S2.newBlk #[.int .i64 bs, .slice V bt.length cv, .bool be] 41).re [4, 3, 2, 0, 1, 5]
      generalize w1.heap.size = ee at *
      have S3 : Sat G _ (blk bb #[.int .i64 0, .slice none 0 0, .bool false] 41 :: blk cc #[.int .i64 0, .bool false] 43 :: blk dd #[.int .i64 101, .bool true] 43 :: blk ee #[.int .i64 bs, .slice V bt.length cv, .bool be] 41 :: blk p #[.int .i64 lim, .bool bw, .int .i64 bs, .slice V bt.length cv, .bool be] 62 :: blk aa #[.int .i64 1, .int .i64 s, .slice A t.length c, .bool e1, .bool e2, .bool e3, .int .i64 n1, .int .i64 n2, .int .i64 n3, .int .i64 n4, .int .i64 n5, .int .i64 n6, .bool e4, .bool e5, .slice B m d] 34 :: l) := S3
      clear c2 c3 c4 S2
      refine wp_world S3 fun w2 S4 => ?_
      clear S3
      have a0 := (S4.mid [_, _, _, _, _]).cell 0
      have a1 := (S4.mid [_, _, _, _, _]).cell 1
      have a3 := (S4.mid [_, _, _, _, _]).cell 3
      have e0 := (S4.mid [_, _, _]).cell 0
      have e1' := (S4.mid [_, _, _]).cell 1
      have e2' := (S4.mid [_, _, _]).cell 2
      have g0 := (S4.mid [_, _, _]).frozen 0
      have g1 := (S4.mid [_, _, _]).frozen 1
      have g2 := (S4.mid [_, _, _]).frozen 2
      have S5 : Sat G _ (_ :: blk bb #[.int .i64 0, .slice none 0 0, .bool false] 41 :: _) := (((S4.mid [_, _, _]).setCell 0 (.int .i64 s)).setCell 1 (.slice none 0 0)).setCell 2 (.bool e1)
      have S5 := S5.re [1, 2, 3, 0, 4, 5]
      clear S4
      go_upto_region 10 with fail
      clear a0 a1 a3 e0 e1' e2' g0 g1 g2
      refine wp_world S5 fun w3 S4 => ?_
      clear S5
      have S4 : Sat G w3 (blk bb #[.int .i64 0, .slice none 0 0, .bool false] 41 :: blk cc #[.int .i64 0, .bool false] 43 :: blk dd #[.int .i64 101, .bool true] 43 :: blk ee #[.int .i64 s, .slice none 0 0, .bool e1] 41 :: blk p #[.int .i64 lim, .bool bw, .int .i64 bs, .slice V bt.length cv, .bool be] 62 :: blk aa #[.int .i64 1, .int .i64 s, .slice A t.length c, .bool e1, .bool e2, .bool e3, .int .i64 n1, .int .i64 n2, .int .i64 n3, .int .i64 n4, .int .i64 n5, .int .i64 n6, .bool e4, .bool e5, .slice B m d] 34 :: l) := S4
      have HS4 := Lib.hid S4
      have d0 := (S4.mid [_, _, _]).cell 1
      have d1 := (S4.mid [_, _, _, _, _]).cell 2
      have d2 := (S4.mid [_, _, _, _]).cell 0
      clear S4
      by_cases hlong : lim < (t.length : Int)
      · rw [if_pos hlong] at hK
        have hw10 : IntKind.i64.wrap ((t.length : Int)) = (t.length : Int) := IntWalk.i64_in _ (by omega)
        have hb10 : decide ((t.length : Int) > lim) = true := decide_eq_true hlong
        go_quiet (fail)
        go_upto_region 11 with fail
        refine wp_world (HS4.out.drewQ _) fun w3 S4 => ?_
        clear hw10 hb10 d0 d1 d2 HS4
        refine wp_act fun a0 ha0 => ?_
        have HSZ : a0.tmps.size = 74 := by rw [ha0]; rfl
        have E4 : a0.eval (.tmp 4) = .pointer (some ⟨bb, 0, none⟩) := by rw [ha0]; rfl
        have E6 : a0.eval (.tmp 6) = .pointer (some ⟨cc, 0, none⟩) := by rw [ha0]; rfl
        have E7 : a0.eval (.tmp 7) = .pointer (some ⟨dd, 0, none⟩) := by rw [ha0]; rfl
        refine wp_region_J (by kernel_rfl) 5 (by kernel_rfl) [[], [], [0, 0], [2, 0, 2], [1, 3, 0, 1, 2, 3]] (by kernel_rfl) (by kernel_rfl) (fun f a' W => a' = acts [(0, 45, .agg #[.int .i64 0, .slice none 0 0, .bool false]), (1, 46, .agg #[.int .i64 101, .bool true]), (3, 5, .bool false)] f a0 ∧ Sat G W (blk bb #[.int .i64 0, .slice none 0 0, .bool false] 41 :: blk cc (cond (f 4) #[.int .i64 101, .bool true] #[.int .i64 0, .bool false]) 43 :: blk dd #[.int .i64 101, .bool true] 43 :: blk ee #[.int .i64 s, .slice none 0 0, .bool e1] 41 :: blk p #[.int .i64 lim, .bool bw, .int .i64 bs, .slice V bt.length cv, .bool be] 62 :: blk aa #[.int .i64 1, .int .i64 s, .slice A t.length c, .bool e1, .bool e2, .bool e3, .int .i64 n1, .int .i64 n2, .int .i64 n3, .int .i64 n4, .int .i64 n5, .int .i64 n6, .bool e4, .bool e5, .slice B m d] 34 :: l)) ?_ ?_ ?_
        · exact ⟨rfl, S4.drew⟩
        · refine ⟨?_, ?_, ?_, ?_, ?_, trivial⟩
          · rintro f a' W h0 hd ⟨rfl, S⟩
            refine wpOp_run (v := .agg #[.int .i64 0, .slice none 0 0, .bool false]) rfl rfl (fun ρ hρ => ?_) ⟨(acts_some 0 rfl (by kernel_rfl) (by kernel_rfl)).symm, S⟩
            clear hρ
            go_simp
          · rintro f a' W h1 hd ⟨rfl, S⟩
            refine wpOp_list rfl ?_
            refine st_load rfl _ _ rfl _ ((acts_eval_tmp 7 (by kernel_rfl)).trans E7) _ _ (S.pull2) _ rfl rfl rfl ?_
            exact ⟨(acts_some 1 rfl (by kernel_rfl) (by kernel_rfl)).symm, S⟩
          · rintro f a' W h2 hd ⟨rfl, S⟩
            refine wpOp_list rfl ?_
            refine st_store rfl _ _ _ rfl _ _ ((acts_eval_tmp 4 (by kernel_rfl)).trans E4) (acts_eval_hit 0 rfl hd.1 (by rw [HSZ]; rfl) (by kernel_rfl)) _ _ (S) rfl rfl (by simp [Value.oneCell']) fun W' S' => ?_
            exact ⟨(acts_none 2 (by kernel_rfl)).symm, S'⟩
          · rintro f a' W h3 hd ⟨rfl, S⟩
            refine wpOp_run (v := .bool false) rfl rfl (fun ρ hρ => ?_) ⟨(acts_some 2 rfl (by kernel_rfl) (by kernel_rfl)).symm, S⟩
            have ec : ∀ v, ρ (.const v) = v := by rw [hρ]; exact fun _ => rfl
            clear hρ
            go_simp
          · rintro f a' W h4 hd ⟨rfl, S⟩
            rw [h4] at S
            refine wpOp_list rfl ?_
            refine st_store rfl _ _ _ rfl _ _ ((acts_eval_tmp 6 (by kernel_rfl)).trans E6) (acts_eval_hit 1 rfl hd.1 (by rw [HSZ]; rfl) (by kernel_rfl)) _ _ (S.swap) rfl rfl (by simp [Value.oneCell']) fun W' S' => ?_
            exact ⟨(acts_none 4 (by kernel_rfl)).symm, S'.swap⟩
        · rintro a' W ⟨rfl, S9⟩
          subst ha0
          simp only [acts, if_true, Act.put, List.setIfInBounds_toArray, List.set_cons_succ, List.set_cons_zero]
          have HS9 := Lib.hid S9
          clear S9 HSZ E4 E6 E7
          go_wp2_with fail
          refine bodyPost_ret (results_ctc rfl _ _ bb cc _ _ _ _ _ _ rfl (HS9.out).blk_at Try.underlying41 rfl (by kernel_rfl) rfl (HS9.out.swap).blk_at Try.underlying43 rfl (by kernel_rfl)) rfl ?_
          exact hK.out _ _ ⟨G, _, Gnd.le.rfl', rfl, SlB.nil _, HFIN.out (HS9.out.drop.drop.drop.drop.drop2)⟩
      · rw [if_neg hlong] at hK
        have hw10 : IntKind.i64.wrap ((t.length : Int)) = (t.length : Int) := IntWalk.i64_in _ (by omega)
        have hb10 : decide ((t.length : Int) > lim) = false := decide_eq_false hlong
        go_quiet (fail)
        go_upto_region 12 with fail
        refine wp_world (HS4.out.drewQ _) fun w3 S4 => ?_
        clear hw10 hb10 d0 d1 d2 HS4 HFIN
        have S5 := S4.newBlk #[.slice none 0 0, .slice A t.length c] 31
        have hcat := concat_bytes S5 ⟨w3.heap.size, 0, none⟩ 2 [[], t] (fun W SW => parts2 SW (SlB.nil _) HT.out) (by simp; omega) (by simp) (by decide)
        obtain ⟨ct, hct⟩ : ∃ ct, [[], t].flatten = ct := ⟨_, rfl⟩
        rw [hct] at hcat
        have HCT := Lib.hid hct
        clear hct
        have d0 := (S4.mid [_, _, _]).cell 1
        have d1 := (S4.mid [_, _, _, _, _]).cell 2
        clear S4 S5
        change Calls _ _ #[.slice _ 2 2] _ _ at hcat
        go_wp2_with fail
        (with_reducible refine hcat.mono ?_)
        clear hcat d0 d1
        rintro e w4 ⟨u, rfl, S6⟩
        obtain ⟨G2, hG2, S7, hu⟩ := S6.ownFrz
        obtain ⟨U, cu, rfl, -, -, -⟩ := hu.form
        have HU := Lib.hid hu
        clear hu S6
        have S8 := S7.drop.re [3, 0, 1, 2, 4, 5]
        have d0 := S8.cell 1
        have g0 := S8.frozen 1
        have S9 : Sat G2 _ (blk ee #[.int .i64 s, .slice U ct.length cu, .bool e1] 41 :: blk bb #[.int .i64 0, .slice none 0 0, .bool false] 41 :: blk cc #[.int .i64 0, .bool false] 43 :: blk dd #[.int .i64 101, .bool true] 43 :: blk p #[.int .i64 lim, .bool bw, .int .i64 bs, .slice V bt.length cv, .bool be] 62 :: blk aa #[.int .i64 1, .int .i64 s, .slice A t.length c, .bool e1, .bool e2, .bool e3, .int .i64 n1, .int .i64 n2, .int .i64 n3, .int .i64 n4, .int .i64 n5, .int .i64 n6, .bool e4, .bool e5, .slice B m d] 34 :: l) := S8.setCell 1 (.slice U ct.length cu)
        clear S7 S8
        go_upto_region 13 with fail
        clear d0 g0
        refine wp_world S9 fun w5 S10 => ?_
        clear S9
        have a4 := (S10.mid [_, _, _, _, _]).cell 4
        cases he2 : e2 with
        | true =>
          rw [he2] at a4 S10 hK
          simp only [if_true] at hK
          have p1 := (S10.mid [_, _, _, _]).cell 1
          have p2 := (S10.mid [_, _, _, _]).cell 2
          have p3 := (S10.mid [_, _, _, _]).cell 3
          have p4 := (S10.mid [_, _, _, _]).cell 4
          have f1 := (S10.mid [_, _, _, _]).frozen 1
          have f2 := (S10.mid [_, _, _, _]).frozen 2
          have f3 := (S10.mid [_, _, _, _]).frozen 3
          have f4 := (S10.mid [_, _, _, _]).frozen 4
          have S11 : Sat G2 _ (blk p #[.int .i64 lim, .bool false, .int .i64 0, .slice none 0 0, .bool false] 62 :: blk ee #[.int .i64 s, .slice U ct.length cu, .bool e1] 41 :: blk bb #[.int .i64 0, .slice none 0 0, .bool false] 41 :: blk cc #[.int .i64 0, .bool false] 43 :: blk dd #[.int .i64 101, .bool true] 43 :: _) := ((((S10.mid [_, _, _, _]).setCell 1 (.bool false)).setCell 2 (.int .i64 0)).setCell 3 (.slice none 0 0)).setCell 4 (.bool false)
          clear S10
          go_upto_region 15 with fail
          clear p1 p2 p3 p4 f1 f2 f3 f4 a4
          refine wp_world S11 fun w6 S12 => ?_
          clear S11
          have e0 := S12.swap.cell 0
          have e1' := S12.swap.cell 1
          have e2' := S12.swap.cell 2
          have b0 := S12.pull2.cell 0
          have b1 := S12.pull2.cell 1
          have b2 := S12.pull2.cell 2
          have g0 := S12.pull2.frozen 0
          have g1 := S12.pull2.frozen 1
          have g2 := S12.pull2.frozen 2
          have S13 := ((S12.pull2.setCell 0 (.int .i64 s)).setCell 1 (.slice U ct.length cu)).setCell 2 (.bool e1)
          have c0 := S13.pull3.cell 0
          have c1 := S13.pull3.cell 1
          have h0 := S13.pull3.frozen 0
          have h1 := S13.pull3.frozen 1
          have S14 : Sat G2 _ (blk cc #[.int .i64 0, .bool false] 43 :: blk bb #[.int .i64 s, .slice U ct.length cu, .bool e1] 41 :: blk p #[.int .i64 lim, .bool false, .int .i64 0, .slice none 0 0, .bool false] 62 :: blk ee #[.int .i64 s, .slice U ct.length cu, .bool e1] 41 :: _) := (S13.pull3.setCell 0 (.int .i64 0)).setCell 1 (.bool false)
          have HS := Lib.hid S14
          clear S12 S13 S14
          go_wp2_with fail
          clear e0 e1' e2' b0 b1 b2 g0 g1 g2 c0 c1 h0 h1
          refine bodyPost_ret (results_ctc rfl _ _ bb cc _ _ _ _ _ _ rfl (HS.out.swap).blk_at Try.underlying41 rfl (by kernel_rfl) rfl (HS.out).blk_at Try.underlying43 rfl (by kernel_rfl)) rfl ?_
          have hct : ct = t := by rw [← HCT.out]; simp
          subst hct
          exact hK.out _ _ ⟨G2, _, hG2, rfl, HU.out, as_iff.2 ⟨_, SlB.nil _, HS.out.drop.drop.drop2.drop2.drop2⟩⟩
        | false =>
          rw [he2] at a4 S10 hK
          simp only [Bool.false_eq_true, if_false] at hK
          go_upto_region 16 with fail
          obtain ⟨l', HL', S11⟩ : ∃ l', Hid (∀ {W : World} {X : Asrt}, Sat G2 W (X :: l') → Sat G2 W (X :: l)) ∧ Sat G2 w5 (blk p #[.int .i64 lim, .bool bw, .int .i64 bs, .slice V bt.length cv, .bool be] 62 :: blk ee #[.int .i64 s, .slice U ct.length cu, .bool e1] 41 :: blk bb #[.int .i64 0, .slice none 0 0, .bool false] 41 :: blk cc #[.int .i64 0, .bool false] 43 :: l') := ⟨_, Lib.hid fun S => S.drop2.drop2, S10.re [4, 0, 1, 2, 3]⟩
          clear a4 S10
          refine wp_act fun a0 ha0 => ?_
          have HSZ : a0.tmps.size = 74 := by rw [ha0]; rfl
          have E0 : a0.eval (.tmp 0) = .pointer (some ⟨p, 0, none⟩) := by rw [ha0]; rfl
          have E8 : a0.eval (.tmp 8) = .pointer (some ⟨ee, 0, none⟩) := by rw [ha0]; rfl
          refine wp_region_J (by kernel_rfl) 9 (by kernel_rfl) [[], [], [], [0, 0], [3, 0], [4, 0], [1, 0, 1, 2, 3, 4, 5], [6, 0, 1, 2, 3, 4, 5], [7, 2, 5, 0, 1, 2, 3, 4, 5]] (by kernel_rfl) (by kernel_rfl) (fun f a' W => (f 8 = true → f 5 = true) ∧ a' = acts [(0, 65, .pointer (some ⟨p, 0, none⟩)), (1, 66, .pointer (some ⟨p, 0, none⟩)), (2, 67, .agg #[.int .i64 s, .slice U ct.length cu, .bool e1]), (3, 68, .pointer (some ⟨p, 0, none⟩)), (4, 69, .pointer (some ⟨p, 1, none⟩)), (6, 70, .pointer (some ⟨p, 0, none⟩)), (7, 71, .pointer (some ⟨p, 2, none⟩))] f a0 ∧ Sat G2 W (blk p (cond (f 8) #[.int .i64 lim, .bool true, .int .i64 s, .slice U ct.length cu, .bool e1] (cond (f 5) #[.int .i64 lim, .bool true, .int .i64 bs, .slice V bt.length cv, .bool be] #[.int .i64 lim, .bool bw, .int .i64 bs, .slice V bt.length cv, .bool be])) 62 :: blk ee #[.int .i64 s, .slice U ct.length cu, .bool e1] 41 :: blk bb #[.int .i64 0, .slice none 0 0, .bool false] 41 :: blk cc #[.int .i64 0, .bool false] 43 :: l')) ?_ ?_ ?_
          · exact ⟨(fun h => absurd h (by decide)), rfl, S11.drew⟩
          · refine ⟨?_, ?_, ?_, ?_, ?_, ?_, ?_, ?_, ?_, trivial⟩
            · rintro f a' W h0 hd ⟨hh, rfl, S⟩
              refine wpOp_run (v := .pointer (some ⟨p, 0, none⟩)) rfl rfl (fun ρ hρ => ?_) ⟨hh, (acts_some 0 rfl (by kernel_rfl) (by kernel_rfl)).symm, S⟩
              have e0 : ρ (.tmp 0) = .pointer (some ⟨p, 0, none⟩) := by rw [hρ]; exact (acts_eval_tmp 0 (by kernel_rfl)).trans E0
              clear hρ
              go_simp
            · rintro f a' W h1 hd ⟨hh, rfl, S⟩
              refine wpOp_run (v := .pointer (some ⟨p, 0, none⟩)) rfl rfl (fun ρ hρ => ?_) ⟨hh, (acts_some 1 rfl (by kernel_rfl) (by kernel_rfl)).symm, S⟩
              have e0 : ρ (.tmp 0) = .pointer (some ⟨p, 0, none⟩) := by rw [hρ]; exact (acts_eval_tmp 0 (by kernel_rfl)).trans E0
              clear hρ
              go_simp
            · rintro f a' W h2 hd ⟨hh, rfl, S⟩
              refine wpOp_list rfl ?_
              refine st_load rfl _ _ rfl _ ((acts_eval_tmp 8 (by kernel_rfl)).trans E8) _ _ (S.swap) _ rfl rfl rfl ?_
              exact ⟨hh, (acts_some 2 rfl (by kernel_rfl) (by kernel_rfl)).symm, S⟩
            · rintro f a' W h3 hd ⟨hh, rfl, S⟩
              refine wpOp_run (v := .pointer (some ⟨p, 0, none⟩)) rfl rfl (fun ρ hρ => ?_) ⟨hh, (acts_some 3 rfl (by kernel_rfl) (by kernel_rfl)).symm, S⟩
              have e0 : ρ (.tmp 65) = .pointer (some ⟨p, 0, none⟩) := by rw [hρ]; exact acts_eval_hit 0 rfl hd.1 (by rw [HSZ]; rfl) (by kernel_rfl)
              clear hρ
              go_simp
            · rintro f a' W h4 hd ⟨hh, rfl, S⟩
              refine wpOp_run (v := .pointer (some ⟨p, 1, none⟩)) rfl rfl (fun ρ hρ => ?_) ⟨hh, (acts_some 4 rfl (by kernel_rfl) (by kernel_rfl)).symm, S⟩
              have e0 : ρ (.tmp 68) = .pointer (some ⟨p, 0, none⟩) := by rw [hρ]; exact acts_eval_hit 3 rfl hd.1 (by rw [HSZ]; rfl) (by kernel_rfl)
              clear hρ
              go_simp
            · rintro f a' W h5 hd ⟨hh, rfl, S⟩
              have q69 : (acts [(0, 65, .pointer (some ⟨p, 0, none⟩)), (1, 66, .pointer (some ⟨p, 0, none⟩)), (2, 67, .agg #[.int .i64 s, .slice U ct.length cu, .bool e1]), (3, 68, .pointer (some ⟨p, 0, none⟩)), (4, 69, .pointer (some ⟨p, 1, none⟩)), (6, 70, .pointer (some ⟨p, 0, none⟩)), (7, 71, .pointer (some ⟨p, 2, none⟩))] f a0).eval (.tmp 69) = .pointer (some ⟨p, 1, none⟩) := acts_eval_hit 4 rfl hd.1 (by rw [HSZ]; rfl) (by kernel_rfl)
              (have z8 := no_of hh h5; simp only [h5, z8, cond_false] at S; refine wpOp_list rfl ?_; refine st_set rfl _ _ _ rfl _ _ _ q69 rfl rfl _ _ S (by kernel_rfl) (by simp) fun W' S' => ?_; refine ⟨(fun _ => rfl), (acts_none 5 (by kernel_rfl)).symm, ?_⟩; show Sat G2 W' (blk p (cond (f 8) _ _) _ :: _); rw [z8]; exact S')
            · rintro f a' W h6 hd ⟨hh, rfl, S⟩
              refine wpOp_run (v := .pointer (some ⟨p, 0, none⟩)) rfl rfl (fun ρ hρ => ?_) ⟨hh, (acts_some 5 rfl (by kernel_rfl) (by kernel_rfl)).symm, S⟩
              have e0 : ρ (.tmp 66) = .pointer (some ⟨p, 0, none⟩) := by rw [hρ]; exact acts_eval_hit 1 rfl hd.1 (by rw [HSZ]; rfl) (by kernel_rfl)
              clear hρ
              go_simp
            · rintro f a' W h7 hd ⟨hh, rfl, S⟩
              refine wpOp_run (v := .pointer (some ⟨p, 2, none⟩)) rfl rfl (fun ρ hρ => ?_) ⟨hh, (acts_some 6 rfl (by kernel_rfl) (by kernel_rfl)).symm, S⟩
              have e0 : ρ (.tmp 70) = .pointer (some ⟨p, 0, none⟩) := by rw [hρ]; exact acts_eval_hit 5 rfl hd.1 (by rw [HSZ]; rfl) (by kernel_rfl)
              clear hρ
              go_simp
            · rintro f a' W h8 hd ⟨hh, rfl, S⟩
              have q71 : (acts [(0, 65, .pointer (some ⟨p, 0, none⟩)), (1, 66, .pointer (some ⟨p, 0, none⟩)), (2, 67, .agg #[.int .i64 s, .slice U ct.length cu, .bool e1]), (3, 68, .pointer (some ⟨p, 0, none⟩)), (4, 69, .pointer (some ⟨p, 1, none⟩)), (6, 70, .pointer (some ⟨p, 0, none⟩)), (7, 71, .pointer (some ⟨p, 2, none⟩))] f a0).eval (.tmp 71) = .pointer (some ⟨p, 2, none⟩) := acts_eval_hit 6 rfl hd.1 (by rw [HSZ]; rfl) (by kernel_rfl)
              have q67 : (acts [(0, 65, .pointer (some ⟨p, 0, none⟩)), (1, 66, .pointer (some ⟨p, 0, none⟩)), (2, 67, .agg #[.int .i64 s, .slice U ct.length cu, .bool e1]), (3, 68, .pointer (some ⟨p, 0, none⟩)), (4, 69, .pointer (some ⟨p, 1, none⟩)), (6, 70, .pointer (some ⟨p, 0, none⟩)), (7, 71, .pointer (some ⟨p, 2, none⟩))] f a0).eval (.tmp 67) = .agg #[.int .i64 s, .slice U ct.length cu, .bool e1] := acts_eval_hit 2 rfl hd.2.1 (by rw [HSZ]; rfl) (by kernel_rfl)
              (have h5t : f 5 = true := hd.2.2.1; simp only [h8, h5t, cond_false, cond_true] at S; refine wpOp_list rfl ?_; refine st_mid rfl _ _ _ rfl p 2 _ #[.int .i64 s, .slice U ct.length cu, .bool e1] q71 q67 rfl _ _ S (by kernel_rfl) (by simp) (by simp [Value.oneCell']) fun W' S' => ?_; exact ⟨(fun _ => h5t), (acts_none 8 (by kernel_rfl)).symm, S'⟩)
          · rintro a' W ⟨-, rfl, S12⟩
            subst ha0
            simp only [acts, if_true, Act.put, List.setIfInBounds_toArray, List.set_cons_succ, List.set_cons_zero]
            change Sat G2 W (blk p #[.int .i64 lim, .bool true, .int .i64 s, .slice U ct.length cu, .bool e1] _ :: _) at S12
            have b0 := S12.pull2.cell 0
            have b1 := S12.pull2.cell 1
            have b2 := S12.pull2.cell 2
            have g0 := S12.pull2.frozen 0
            have g1 := S12.pull2.frozen 1
            have g2 := S12.pull2.frozen 2
            have S13 := ((S12.pull2.setCell 0 (.int .i64 0)).setCell 1 (.slice none 0 0)).setCell 2 (.bool false)
            have c0 := S13.pull3.cell 0
            have c1 := S13.pull3.cell 1
            have h0 := S13.pull3.frozen 0
            have h1 := S13.pull3.frozen 1
            have S14 : Sat G2 _ (blk cc #[.int .i64 0, .bool false] 43 :: blk bb #[.int .i64 0, .slice none 0 0, .bool false] 41 :: blk p #[.int .i64 lim, .bool true, .int .i64 s, .slice U ct.length cu, .bool e1] 62 :: blk ee #[.int .i64 s, .slice U ct.length cu, .bool e1] 41 :: l') := (S13.pull3.setCell 0 (.int .i64 0)).setCell 1 (.bool false)
            have HS := Lib.hid S14
            clear S11 S12 S13 S14 HSZ E0 E8
            go_wp2_with fail
            clear b0 b1 b2 g0 g1 g2 c0 c1 h0 h1
            refine bodyPost_ret (results_ctc rfl _ _ bb cc _ _ _ _ _ _ rfl (HS.out.swap).blk_at Try.underlying41 rfl (by kernel_rfl) rfl (HS.out).blk_at Try.underlying43 rfl (by kernel_rfl)) rfl ?_
            have hct : ct = t := by rw [← HCT.out]; simp
            subst hct
            exact hK.out _ _ ⟨G2, _, hG2, rfl, SlB.nil _, as_iff.2 ⟨_, HU.out, HL'.out HS.out.drop.drop.drop2⟩⟩
    by_cases k9 : x.k = 9
    · rw [if_pos (.inr k9), show nextB b x = b from if_neg k1] at hK
      rw [k9] at hmay ⊢
      clear k1 k9
      generalize x.s = s at *
      generalize x.e = e1 at *
      generalize x.l = e2 at *
      generalize x.a = e3 at *
      generalize x.n1 = n1 at *
      generalize x.n2 = n2 at *
      generalize x.n3 = n3 at *
      generalize x.n4 = n4 at *
      generalize x.n5 = n5 at *
      generalize x.n6 = n6 at *
      generalize x.b1 = e4 at *
      generalize x.b2 = e5 at *
      go_enter Try.func12, Try.ntmps12
      go_wp2_with fail
      (with_reducible refine hmay.mono ?_)
      clear hmay
      rintro e w1 ⟨rfl, S2⟩
      generalize w.heap.size + 1 + 1 + 1 = dd at *
      generalize w.heap.size + 1 + 1 = cc at *
      generalize w.heap.size + 1 = bb at *
      generalize w.heap.size = aa at *
      obtain ⟨v', hv, S2⟩ := as_iff.1 S2
      obtain ⟨V, cv, rfl, -, hcv, -⟩ := hv.form
      have HFIN : Hid (∀ {W : World} {l' : List Asrt}, Sat G W (blk p #[.int .i64 lim, .bool b.w, .int .i64 b.s, .slice V b.t.length cv, .bool b.e] 62 :: l') → Sat G W (asA p lim b :: l')) := Lib.hid fun S => as_iff.2 ⟨_, hv, S⟩
      have HV := Lib.hid hv
      have HT := Lib.hid ht
      clear hv ht
      generalize b.s = bs at *
      generalize b.w = bw at *
      generalize b.e = be at *
      generalize b.t = bt at *
      have c2 := S2.cell 2
      have c3 := S2.cell 3
      have c4 := S2.cell 4
      go_upto_region 5 with fail
      have S3 := (S2.newBlk #[.int .i64 bs, .slice V bt.length cv, .bool be] 41).re [4, 3, 2, 0, 1, 5]
      generalize w1.heap.size = ee at *
      have S3 : Sat G _ (blk bb #[.int .i64 0, .slice none 0 0, .bool false] 41 :: blk cc #[.int .i64 0, .bool false] 43 :: blk dd #[.int .i64 101, .bool true] 43 :: blk ee #[.int .i64 bs, .slice V bt.length cv, .bool be] 41 :: blk p #[.int .i64 lim, .bool bw, .int .i64 bs, .slice V bt.length cv, .bool be] 62 :: blk aa #[.int .i64 9, .int .i64 s, .slice A t.length c, .bool e1, .bool e2, .bool e3, .int .i64 n1, .int .i64 n2, .int .i64 n3, .int .i64 n4, .int .i64 n5, .int .i64 n6, .bool e4, .bool e5, .slice B m d] 34 :: l) := S3
      clear c2 c3 c4 S2
      refine wp_world S3 fun w2 S4 => ?_
      clear S3
      have a0 := (S4.mid [_, _, _, _, _]).cell 0
      go_upto_region 10 with fail
      clear a0
      have HS4 := Lib.hid S4
      have d0 := (S4.mid [_, _, _]).cell 1
      have d1 := (S4.mid [_, _, _, _, _]).cell 2
      have d2 := (S4.mid [_, _, _, _]).cell 0
      clear S4
      by_cases hlong : lim < (bt.length : Int) + t.length
      · rw [if_pos hlong] at hK
        have hw10 : IntKind.i64.wrap ((bt.length : Int) + t.length) = (bt.length : Int) + t.length := IntWalk.i64_in _ (by omega)
        have hb10 : decide ((bt.length : Int) + t.length > lim) = true := decide_eq_true hlong
        go_quiet (fail)
        go_upto_region 11 with fail
        refine wp_world (HS4.out.drewQ _) fun w3 S4 => ?_
        clear hw10 hb10 d0 d1 d2 HS4
        refine wp_act fun a0 ha0 => ?_
        have HSZ : a0.tmps.size = 74 := by rw [ha0]; rfl
        have E4 : a0.eval (.tmp 4) = .pointer (some ⟨bb, 0, none⟩) := by rw [ha0]; rfl
        have E6 : a0.eval (.tmp 6) = .pointer (some ⟨cc, 0, none⟩) := by rw [ha0]; rfl
        have E7 : a0.eval (.tmp 7) = .pointer (some ⟨dd, 0, none⟩) := by rw [ha0]; rfl
        refine wp_region_J (by kernel_rfl) 5 (by kernel_rfl) [[], [], [0, 0], [2, 0, 2], [1, 3, 0, 1, 2, 3]] (by kernel_rfl) (by kernel_rfl) (fun f a' W => a' = acts [(0, 45, .agg #[.int .i64 0, .slice none 0 0, .bool false]), (1, 46, .agg #[.int .i64 101, .bool true]), (3, 5, .bool false)] f a0 ∧ Sat G W (blk bb #[.int .i64 0, .slice none 0 0, .bool false] 41 :: blk cc (cond (f 4) #[.int .i64 101, .bool true] #[.int .i64 0, .bool false]) 43 :: blk dd #[.int .i64 101, .bool true] 43 :: blk ee #[.int .i64 bs, .slice V bt.length cv, .bool be] 41 :: blk p #[.int .i64 lim, .bool bw, .int .i64 bs, .slice V bt.length cv, .bool be] 62 :: blk aa #[.int .i64 9, .int .i64 s, .slice A t.length c, .bool e1, .bool e2, .bool e3, .int .i64 n1, .int .i64 n2, .int .i64 n3, .int .i64 n4, .int .i64 n5, .int .i64 n6, .bool e4, .bool e5, .slice B m d] 34 :: l)) ?_ ?_ ?_
        · exact ⟨rfl, S4.drew⟩
        · refine ⟨?_, ?_, ?_, ?_, ?_, trivial⟩
          · rintro f a' W h0 hd ⟨rfl, S⟩
            refine wpOp_run (v := .agg #[.int .i64 0, .slice none 0 0, .bool false]) rfl rfl (fun ρ hρ => ?_) ⟨(acts_some 0 rfl (by kernel_rfl) (by kernel_rfl)).symm, S⟩
            clear hρ
            go_simp
          · rintro f a' W h1 hd ⟨rfl, S⟩
            refine wpOp_list rfl ?_
            refine st_load rfl _ _ rfl _ ((acts_eval_tmp 7 (by kernel_rfl)).trans E7) _ _ (S.pull2) _ rfl rfl rfl ?_
            exact ⟨(acts_some 1 rfl (by kernel_rfl) (by kernel_rfl)).symm, S⟩
          · rintro f a' W h2 hd ⟨rfl, S⟩
            refine wpOp_list rfl ?_
            refine st_store rfl _ _ _ rfl _ _ ((acts_eval_tmp 4 (by kernel_rfl)).trans E4) (acts_eval_hit 0 rfl hd.1 (by rw [HSZ]; rfl) (by kernel_rfl)) _ _ (S) rfl rfl (by simp [Value.oneCell']) fun W' S' => ?_
            exact ⟨(acts_none 2 (by kernel_rfl)).symm, S'⟩
          · rintro f a' W h3 hd ⟨rfl, S⟩
            refine wpOp_run (v := .bool false) rfl rfl (fun ρ hρ => ?_) ⟨(acts_some 2 rfl (by kernel_rfl) (by kernel_rfl)).symm, S⟩
            have ec : ∀ v, ρ (.const v) = v := by rw [hρ]; exact fun _ => rfl
            clear hρ
            go_simp
          · rintro f a' W h4 hd ⟨rfl, S⟩
            rw [h4] at S
            refine wpOp_list rfl ?_
            refine st_store rfl _ _ _ rfl _ _ ((acts_eval_tmp 6 (by kernel_rfl)).trans E6) (acts_eval_hit 1 rfl hd.1 (by rw [HSZ]; rfl) (by kernel_rfl)) _ _ (S.swap) rfl rfl (by simp [Value.oneCell']) fun W' S' => ?_
            exact ⟨(acts_none 4 (by kernel_rfl)).symm, S'.swap⟩
        · rintro a' W ⟨rfl, S9⟩
          subst ha0
          simp only [acts, if_true, Act.put, List.setIfInBounds_toArray, List.set_cons_succ, List.set_cons_zero]
          have HS9 := Lib.hid S9
          clear S9 HSZ E4 E6 E7
          go_wp2_with fail
          refine bodyPost_ret (results_ctc rfl _ _ bb cc _ _ _ _ _ _ rfl (HS9.out).blk_at Try.underlying41 rfl (by kernel_rfl) rfl (HS9.out.swap).blk_at Try.underlying43 rfl (by kernel_rfl)) rfl ?_
          exact hK.out _ _ ⟨G, _, Gnd.le.rfl', rfl, SlB.nil _, HFIN.out (HS9.out.drop.drop.drop.drop.drop2)⟩
      · rw [if_neg hlong] at hK
        have hw10 : IntKind.i64.wrap ((bt.length : Int) + t.length) = (bt.length : Int) + t.length := IntWalk.i64_in _ (by omega)
        have hb10 : decide ((bt.length : Int) + t.length > lim) = false := decide_eq_false hlong
        go_quiet (fail)
        go_upto_region 12 with fail
        refine wp_world (HS4.out.drewQ _) fun w3 S4 => ?_
        clear hw10 hb10 d0 d1 d2 HS4 HFIN
        have S5 := S4.newBlk #[.slice V bt.length cv, .slice A t.length c] 31
        have hcat := concat_bytes S5 ⟨w3.heap.size, 0, none⟩ 2 [bt, t] (fun W SW => parts2 SW HV.out HT.out) (by simp; omega) (by simp) (by decide)
        obtain ⟨ct, hct⟩ : ∃ ct, [bt, t].flatten = ct := ⟨_, rfl⟩
        rw [hct] at hcat
        have HCT := Lib.hid hct
        clear hct
        have d0 := (S4.mid [_, _, _]).cell 1
        have d1 := (S4.mid [_, _, _, _, _]).cell 2
        clear S4 S5
        change Calls _ _ #[.slice _ 2 2] _ _ at hcat
        go_wp2_with fail
        (with_reducible refine hcat.mono ?_)
        clear hcat d0 d1
        rintro e w4 ⟨u, rfl, S6⟩
        obtain ⟨G2, hG2, S7, hu⟩ := S6.ownFrz
        obtain ⟨U, cu, rfl, -, -, -⟩ := hu.form
        have HU := Lib.hid hu
        clear hu S6
        have S8 := S7.drop.re [3, 0, 1, 2, 4, 5]
        have d0 := S8.cell 1
        have g0 := S8.frozen 1
        have S9 : Sat G2 _ (blk ee #[.int .i64 bs, .slice U ct.length cu, .bool be] 41 :: blk bb #[.int .i64 0, .slice none 0 0, .bool false] 41 :: blk cc #[.int .i64 0, .bool false] 43 :: blk dd #[.int .i64 101, .bool true] 43 :: blk p #[.int .i64 lim, .bool bw, .int .i64 bs, .slice V bt.length cv, .bool be] 62 :: blk aa #[.int .i64 9, .int .i64 s, .slice A t.length c, .bool e1, .bool e2, .bool e3, .int .i64 n1, .int .i64 n2, .int .i64 n3, .int .i64 n4, .int .i64 n5, .int .i64 n6, .bool e4, .bool e5, .slice B m d] 34 :: l) := S8.setCell 1 (.slice U ct.length cu)
        clear S7 S8
        go_upto_region 13 with fail
        clear d0 g0
        refine wp_world S9 fun w5 S10 => ?_
        clear S9
        have a4 := (S10.mid [_, _, _, _, _]).cell 4
        cases he2 : e2 with
        | true =>
          rw [he2] at a4 S10 hK
          simp only [if_true] at hK
          have p1 := (S10.mid [_, _, _, _]).cell 1
          have p2 := (S10.mid [_, _, _, _]).cell 2
          have p3 := (S10.mid [_, _, _, _]).cell 3
          have p4 := (S10.mid [_, _, _, _]).cell 4
          have f1 := (S10.mid [_, _, _, _]).frozen 1
          have f2 := (S10.mid [_, _, _, _]).frozen 2
          have f3 := (S10.mid [_, _, _, _]).frozen 3
          have f4 := (S10.mid [_, _, _, _]).frozen 4
          have S11 : Sat G2 _ (blk p #[.int .i64 lim, .bool false, .int .i64 0, .slice none 0 0, .bool false] 62 :: blk ee #[.int .i64 bs, .slice U ct.length cu, .bool be] 41 :: blk bb #[.int .i64 0, .slice none 0 0, .bool false] 41 :: blk cc #[.int .i64 0, .bool false] 43 :: blk dd #[.int .i64 101, .bool true] 43 :: _) := ((((S10.mid [_, _, _, _]).setCell 1 (.bool false)).setCell 2 (.int .i64 0)).setCell 3 (.slice none 0 0)).setCell 4 (.bool false)
          clear S10
          go_upto_region 15 with fail
          clear p1 p2 p3 p4 f1 f2 f3 f4 a4
          refine wp_world S11 fun w6 S12 => ?_
          clear S11
          have e0 := S12.swap.cell 0
          have e1' := S12.swap.cell 1
          have e2' := S12.swap.cell 2
          have b0 := S12.pull2.cell 0
          have b1 := S12.pull2.cell 1
          have b2 := S12.pull2.cell 2
          have g0 := S12.pull2.frozen 0
          have g1 := S12.pull2.frozen 1
          have g2 := S12.pull2.frozen 2
          have S13 := ((S12.pull2.setCell 0 (.int .i64 bs)).setCell 1 (.slice U ct.length cu)).setCell 2 (.bool be)
          have c0 := S13.pull3.cell 0
          have c1 := S13.pull3.cell 1
          have h0 := S13.pull3.frozen 0
          have h1 := S13.pull3.frozen 1
          have S14 : Sat G2 _ (blk cc #[.int .i64 0, .bool false] 43 :: blk bb #[.int .i64 bs, .slice U ct.length cu, .bool be] 41 :: blk p #[.int .i64 lim, .bool false, .int .i64 0, .slice none 0 0, .bool false] 62 :: blk ee #[.int .i64 bs, .slice U ct.length cu, .bool be] 41 :: _) := (S13.pull3.setCell 0 (.int .i64 0)).setCell 1 (.bool false)
          have HS := Lib.hid S14
          clear S12 S13 S14
          go_wp2_with fail
          clear e0 e1' e2' b0 b1 b2 g0 g1 g2 c0 c1 h0 h1
          refine bodyPost_ret (results_ctc rfl _ _ bb cc _ _ _ _ _ _ rfl (HS.out.swap).blk_at Try.underlying41 rfl (by kernel_rfl) rfl (HS.out).blk_at Try.underlying43 rfl (by kernel_rfl)) rfl ?_
          have hct : ct = (bt ++ t) := by rw [← HCT.out]; simp
          subst hct
          exact hK.out _ _ ⟨G2, _, hG2, rfl, HU.out, as_iff.2 ⟨_, SlB.nil _, HS.out.drop.drop.drop2.drop2.drop2⟩⟩
        | false =>
          rw [he2] at a4 S10 hK
          simp only [Bool.false_eq_true, if_false] at hK
          go_upto_region 16 with fail
          obtain ⟨l', HL', S11⟩ : ∃ l', Hid (∀ {W : World} {X : Asrt}, Sat G2 W (X :: l') → Sat G2 W (X :: l)) ∧ Sat G2 w5 (blk p #[.int .i64 lim, .bool bw, .int .i64 bs, .slice V bt.length cv, .bool be] 62 :: blk ee #[.int .i64 bs, .slice U ct.length cu, .bool be] 41 :: blk bb #[.int .i64 0, .slice none 0 0, .bool false] 41 :: blk cc #[.int .i64 0, .bool false] 43 :: l') := ⟨_, Lib.hid fun S => S.drop2.drop2, S10.re [4, 0, 1, 2, 3]⟩
          clear a4 S10
          refine wp_act fun a0 ha0 => ?_
          have HSZ : a0.tmps.size = 74 := by rw [ha0]; rfl
          have E0 : a0.eval (.tmp 0) = .pointer (some ⟨p, 0, none⟩) := by rw [ha0]; rfl
          have E8 : a0.eval (.tmp 8) = .pointer (some ⟨ee, 0, none⟩) := by rw [ha0]; rfl
          refine wp_region_J (by kernel_rfl) 9 (by kernel_rfl) [[], [], [], [0, 0], [3, 0], [4, 0], [1, 0, 1, 2, 3, 4, 5], [6, 0, 1, 2, 3, 4, 5], [7, 2, 5, 0, 1, 2, 3, 4, 5]] (by kernel_rfl) (by kernel_rfl) (fun f a' W => (f 8 = true → f 5 = true) ∧ a' = acts [(0, 65, .pointer (some ⟨p, 0, none⟩)), (1, 66, .pointer (some ⟨p, 0, none⟩)), (2, 67, .agg #[.int .i64 bs, .slice U ct.length cu, .bool be]), (3, 68, .pointer (some ⟨p, 0, none⟩)), (4, 69, .pointer (some ⟨p, 1, none⟩)), (6, 70, .pointer (some ⟨p, 0, none⟩)), (7, 71, .pointer (some ⟨p, 2, none⟩))] f a0 ∧ Sat G2 W (blk p (cond (f 8) #[.int .i64 lim, .bool true, .int .i64 bs, .slice U ct.length cu, .bool be] (cond (f 5) #[.int .i64 lim, .bool true, .int .i64 bs, .slice V bt.length cv, .bool be] #[.int .i64 lim, .bool bw, .int .i64 bs, .slice V bt.length cv, .bool be])) 62 :: blk ee #[.int .i64 bs, .slice U ct.length cu, .bool be] 41 :: blk bb #[.int .i64 0, .slice none 0 0, .bool false] 41 :: blk cc #[.int .i64 0, .bool false] 43 :: l')) ?_ ?_ ?_
          · exact ⟨(fun h => absurd h (by decide)), rfl, S11.drew⟩
          · refine ⟨?_, ?_, ?_, ?_, ?_, ?_, ?_, ?_, ?_, trivial⟩
            · rintro f a' W h0 hd ⟨hh, rfl, S⟩
              refine wpOp_run (v := .pointer (some ⟨p, 0, none⟩)) rfl rfl (fun ρ hρ => ?_) ⟨hh, (acts_some 0 rfl (by kernel_rfl) (by kernel_rfl)).symm, S⟩
              have e0 : ρ (.tmp 0) = .pointer (some ⟨p, 0, none⟩) := by rw [hρ]; exact (acts_eval_tmp 0 (by kernel_rfl)).trans E0
              clear hρ
              go_simp
            · rintro f a' W h1 hd ⟨hh, rfl, S⟩
              refine wpOp_run (v := .pointer (some ⟨p, 0, none⟩)) rfl rfl (fun ρ hρ => ?_) ⟨hh, (acts_some 1 rfl (by kernel_rfl) (by kernel_rfl)).symm, S⟩
              have e0 : ρ (.tmp 0) = .pointer (some ⟨p, 0, none⟩) := by rw [hρ]; exact (acts_eval_tmp 0 (by kernel_rfl)).trans E0
              clear hρ
              go_simp
            · rintro f a' W h2 hd ⟨hh, rfl, S⟩
              refine wpOp_list rfl ?_
              refine st_load rfl _ _ rfl _ ((acts_eval_tmp 8 (by kernel_rfl)).trans E8) _ _ (S.swap) _ rfl rfl rfl ?_
              exact ⟨hh, (acts_some 2 rfl (by kernel_rfl) (by kernel_rfl)).symm, S⟩
            · rintro f a' W h3 hd ⟨hh, rfl, S⟩
              refine wpOp_run (v := .pointer (some ⟨p, 0, none⟩)) rfl rfl (fun ρ hρ => ?_) ⟨hh, (acts_some 3 rfl (by kernel_rfl) (by kernel_rfl)).symm, S⟩
              have e0 : ρ (.tmp 65) = .pointer (some ⟨p, 0, none⟩) := by rw [hρ]; exact acts_eval_hit 0 rfl hd.1 (by rw [HSZ]; rfl) (by kernel_rfl)
              clear hρ
              go_simp
            · rintro f a' W h4 hd ⟨hh, rfl, S⟩
              refine wpOp_run (v := .pointer (some ⟨p, 1, none⟩)) rfl rfl (fun ρ hρ => ?_) ⟨hh, (acts_some 4 rfl (by kernel_rfl) (by kernel_rfl)).symm, S⟩
              have e0 : ρ (.tmp 68) = .pointer (some ⟨p, 0, none⟩) := by rw [hρ]; exact acts_eval_hit 3 rfl hd.1 (by rw [HSZ]; rfl) (by kernel_rfl)
              clear hρ
              go_simp
            · rintro f a' W h5 hd ⟨hh, rfl, S⟩
              have q69 : (acts [(0, 65, .pointer (some ⟨p, 0, none⟩)), (1, 66, .pointer (some ⟨p, 0, none⟩)), (2, 67, .agg #[.int .i64 bs, .slice U ct.length cu, .bool be]), (3, 68, .pointer (some ⟨p, 0, none⟩)), (4, 69, .pointer (some ⟨p, 1, none⟩)), (6, 70, .pointer (some ⟨p, 0, none⟩)), (7, 71, .pointer (some ⟨p, 2, none⟩))] f a0).eval (.tmp 69) = .pointer (some ⟨p, 1, none⟩) := acts_eval_hit 4 rfl hd.1 (by rw [HSZ]; rfl) (by kernel_rfl)
              (have z8 := no_of hh h5; simp only [h5, z8, cond_false] at S; refine wpOp_list rfl ?_; refine st_set rfl _ _ _ rfl _ _ _ q69 rfl rfl _ _ S (by kernel_rfl) (by simp) fun W' S' => ?_; refine ⟨(fun _ => rfl), (acts_none 5 (by kernel_rfl)).symm, ?_⟩; show Sat G2 W' (blk p (cond (f 8) _ _) _ :: _); rw [z8]; exact S')
            · rintro f a' W h6 hd ⟨hh, rfl, S⟩
              refine wpOp_run (v := .pointer (some ⟨p, 0, none⟩)) rfl rfl (fun ρ hρ => ?_) ⟨hh, (acts_some 5 rfl (by kernel_rfl) (by kernel_rfl)).symm, S⟩
              have e0 : ρ (.tmp 66) = .pointer (some ⟨p, 0, none⟩) := by rw [hρ]; exact acts_eval_hit 1 rfl hd.1 (by rw [HSZ]; rfl) (by kernel_rfl)
              clear hρ
              go_simp
            · rintro f a' W h7 hd ⟨hh, rfl, S⟩
              refine wpOp_run (v := .pointer (some ⟨p, 2, none⟩)) rfl rfl (fun ρ hρ => ?_) ⟨hh, (acts_some 6 rfl (by kernel_rfl) (by kernel_rfl)).symm, S⟩
              have e0 : ρ (.tmp 70) = .pointer (some ⟨p, 0, none⟩) := by rw [hρ]; exact acts_eval_hit 5 rfl hd.1 (by rw [HSZ]; rfl) (by kernel_rfl)
              clear hρ
              go_simp
            · rintro f a' W h8 hd ⟨hh, rfl, S⟩
              have q71 : (acts [(0, 65, .pointer (some ⟨p, 0, none⟩)), (1, 66, .pointer (some ⟨p, 0, none⟩)), (2, 67, .agg #[.int .i64 bs, .slice U ct.length cu, .bool be]), (3, 68, .pointer (some ⟨p, 0, none⟩)), (4, 69, .pointer (some ⟨p, 1, none⟩)), (6, 70, .pointer (some ⟨p, 0, none⟩)), (7, 71, .pointer (some ⟨p, 2, none⟩))] f a0).eval (.tmp 71) = .pointer (some ⟨p, 2, none⟩) := acts_eval_hit 6 rfl hd.1 (by rw [HSZ]; rfl) (by kernel_rfl)
              have q67 : (acts [(0, 65, .pointer (some ⟨p, 0, none⟩)), (1, 66, .pointer (some ⟨p, 0, none⟩)), (2, 67, .agg #[.int .i64 bs, .slice U ct.length cu, .bool be]), (3, 68, .pointer (some ⟨p, 0, none⟩)), (4, 69, .pointer (some ⟨p, 1, none⟩)), (6, 70, .pointer (some ⟨p, 0, none⟩)), (7, 71, .pointer (some ⟨p, 2, none⟩))] f a0).eval (.tmp 67) = .agg #[.int .i64 bs, .slice U ct.length cu, .bool be] := acts_eval_hit 2 rfl hd.2.1 (by rw [HSZ]; rfl) (by kernel_rfl)
              (have h5t : f 5 = true := hd.2.2.1; simp only [h8, h5t, cond_false, cond_true] at S; refine wpOp_list rfl ?_; refine st_mid rfl _ _ _ rfl p 2 _ #[.int .i64 bs, .slice U ct.length cu, .bool be] q71 q67 rfl _ _ S (by kernel_rfl) (by simp) (by simp [Value.oneCell']) fun W' S' => ?_; exact ⟨(fun _ => h5t), (acts_none 8 (by kernel_rfl)).symm, S'⟩)
          · rintro a' W ⟨-, rfl, S12⟩
            subst ha0
            simp only [acts, if_true, Act.put, List.setIfInBounds_toArray, List.set_cons_succ, List.set_cons_zero]
            change Sat G2 W (blk p #[.int .i64 lim, .bool true, .int .i64 bs, .slice U ct.length cu, .bool be] _ :: _) at S12
            have b0 := S12.pull2.cell 0
            have b1 := S12.pull2.cell 1
            have b2 := S12.pull2.cell 2
            have g0 := S12.pull2.frozen 0
            have g1 := S12.pull2.frozen 1
            have g2 := S12.pull2.frozen 2
            have S13 := ((S12.pull2.setCell 0 (.int .i64 0)).setCell 1 (.slice none 0 0)).setCell 2 (.bool false)
            have c0 := S13.pull3.cell 0
            have c1 := S13.pull3.cell 1
            have h0 := S13.pull3.frozen 0
            have h1 := S13.pull3.frozen 1
            have S14 : Sat G2 _ (blk cc #[.int .i64 0, .bool false] 43 :: blk bb #[.int .i64 0, .slice none 0 0, .bool false] 41 :: blk p #[.int .i64 lim, .bool true, .int .i64 bs, .slice U ct.length cu, .bool be] 62 :: blk ee #[.int .i64 bs, .slice U ct.length cu, .bool be] 41 :: l') := (S13.pull3.setCell 0 (.int .i64 0)).setCell 1 (.bool false)
            have HS := Lib.hid S14
            clear S11 S12 S13 S14 HSZ E0 E8
            go_wp2_with fail
            clear b0 b1 b2 g0 g1 g2 c0 c1 h0 h1
            refine bodyPost_ret (results_ctc rfl _ _ bb cc _ _ _ _ _ _ rfl (HS.out.swap).blk_at Try.underlying41 rfl (by kernel_rfl) rfl (HS.out).blk_at Try.underlying43 rfl (by kernel_rfl)) rfl ?_
            have hct : ct = (bt ++ t) := by rw [← HCT.out]; simp
            subst hct
            exact hK.out _ _ ⟨G2, _, hG2, rfl, SlB.nil _, as_iff.2 ⟨_, HU.out, HL'.out HS.out.drop.drop.drop2⟩⟩
    · rw [if_neg (by rintro (h | h) <;> contradiction)] at hK
      have hk1 : (x.k == 1) = false := beq_eq_false_iff_ne.2 k1
      have hk9 : (x.k == 9) = false := beq_eq_false_iff_ne.2 k9
      clear k1 k9
      generalize x.k = k at *
      generalize x.s = s at *
      generalize x.e = e1 at *
      generalize x.l = e2 at *
      generalize x.a = e3 at *
      generalize x.n1 = n1 at *
      generalize x.n2 = n2 at *
      generalize x.n3 = n3 at *
      generalize x.n4 = n4 at *
      generalize x.n5 = n5 at *
      generalize x.n6 = n6 at *
      generalize x.b1 = e4 at *
      generalize x.b2 = e5 at *
      go_enter Try.func12, Try.ntmps12
      go_wp2_with fail
      (with_reducible refine hmay.mono ?_)
      clear hmay
      rintro e w1 ⟨rfl, S2⟩
      generalize w.heap.size + 1 + 1 + 1 = dd at *
      generalize w.heap.size + 1 + 1 = cc at *
      generalize w.heap.size + 1 = bb at *
      generalize w.heap.size = aa at *
      obtain ⟨v', hv, S2⟩ := as_iff.1 S2
      obtain ⟨V, cv, rfl, -, hcv, -⟩ := hv.form
      have HFIN : Hid (∀ {W : World} {l' : List Asrt}, Sat G W (blk p #[.int .i64 lim, .bool b.w, .int .i64 b.s, .slice V b.t.length cv, .bool b.e] 62 :: l') → Sat G W (asA p lim b :: l')) := Lib.hid fun S => as_iff.2 ⟨_, hv, S⟩
      clear hv ht
      generalize b.s = bs at *
      generalize b.w = bw at *
      generalize b.e = be at *
      have c2 := S2.cell 2
      have c3 := S2.cell 3
      have c4 := S2.cell 4
      go_upto_region 5 with fail
      have S3 := (S2.newBlk #[.int .i64 bs, .slice V b.t.length cv, .bool be] 41).re [4, 3, 2, 0, 1, 5]
      generalize w1.heap.size = ee at *
      clear c2 c3 c4 S2
      have S3 : Sat G _ (blk bb #[.int .i64 0, .slice none 0 0, .bool false] 41 :: blk cc #[.int .i64 0, .bool false] 43 :: _ :: _ :: blk p _ 62 :: blk aa #[.int .i64 k, .int .i64 s, .slice A t.length c, .bool e1, .bool e2, .bool e3, .int .i64 n1, .int .i64 n2, .int .i64 n3, .int .i64 n4, .int .i64 n5, .int .i64 n6, .bool e4, .bool e5, .slice B m d] 34 :: l) := S3
      refine wp_world S3 fun w2 S4 => ?_
      clear S3
      have a0 := (S4.mid [_, _, _, _, _]).cell 0
      have b0 := S4.cell 0
      have b1 := S4.cell 1
      have b2 := S4.cell 2
      have g0 := S4.frozen 0
      have g1 := S4.frozen 1
      have g2 := S4.frozen 2
      have S5 := ((S4.setCell 0 (.int .i64 0)).setCell 1 (.slice none 0 0)).setCell 2 (.bool false)
      have c0 := S5.swap.cell 0
      have c1 := S5.swap.cell 1
      have h0 := S5.swap.frozen 0
      have h1 := S5.swap.frozen 1
      have S6 : Sat G _ (blk cc #[.int .i64 0, .bool false] 43 :: blk bb #[.int .i64 0, .slice none 0 0, .bool false] 41 :: _ :: _ :: blk p _ 62 :: blk aa #[.int .i64 k, .int .i64 s, .slice A t.length c, .bool e1, .bool e2, .bool e3, .int .i64 n1, .int .i64 n2, .int .i64 n3, .int .i64 n4, .int .i64 n5, .int .i64 n6, .bool e4, .bool e5, .slice B m d] 34 :: l) := (S5.swap.setCell 0 (.int .i64 0)).setCell 1 (.bool false)
      have HS := Lib.hid S6
      clear S4 S5 S6
      go_wp2_with fail
      clear a0 b0 b1 b2 g0 g1 g2 c0 c1 h0 h1
      refine bodyPost_ret (results_ctc rfl _ _ bb cc _ _ _ _ _ _ rfl (HS.out.swap).blk_at Try.underlying41 rfl (by kernel_rfl) rfl (HS.out).blk_at Try.underlying43 rfl (by kernel_rfl)) rfl ?_
      exact hK.out _ _ ⟨G, _, Gnd.le.rfl', rfl, SlB.nil _, HFIN.out HS.out.drop.drop.drop.drop.drop2⟩
end
end Go.Proofs.Ytkjeeogifdmeoaa

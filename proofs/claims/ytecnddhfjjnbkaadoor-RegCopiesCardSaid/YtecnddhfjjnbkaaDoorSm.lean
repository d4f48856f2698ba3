/- Chapter 14: the law's same, walked. -/
import Derived.Test.YtecnddhfjjnbkaaDoorGt
import Derived.Test.YtecnddhfjjnbkaaDoorRegIn
import Derived.Test.YtecnddhfjjnbkaaDoorMiss
set_option linter.unusedSimpArgs false
set_option linter.unusedVariables false
namespace Go.Proofs.YtecnddhfjjnbkaaDoor
open Go.RowKit Go.Shelf
attribute [local go_sem] Oper.semAt_some

def cntE (pre : List (Int × Int × Int)) (t : Int) : Int := (((pre.map (·.2.1)).count t : Nat) : Int)
def cntV (T : Nat) (pre : List (Int × Int × Int)) : Array Value := ((List.range T).map fun (t : Nat) => Value.int .i64 (cntE pre t)).toArray
theorem cntV_get {T t : Nat} (pre : List (Int × Int × Int)) (h : t < T) : (cntV T pre)[t]? = some (.int .i64 (cntE pre t)) := by
  simp [cntV, h]
theorem cntV_size (T : Nat) (pre : List (Int × Int × Int)) : (cntV T pre).size = T := by simp [cntV]
theorem cntE_snoc (pre : List (Int × Int × Int)) (x : Int × Int × Int) (t : Int) : cntE (pre ++ [x]) t = cntE pre t + if x.2.1 = t then 1 else 0 := by
  unfold cntE
  rw [List.map_append, List.count_append, List.map_singleton, List.count_singleton]
  by_cases h : x.2.1 = t <;> simp [h]
theorem cntV_set {T t : Nat} (pre : List (Int × Int × Int)) (x : Int × Int × Int) (h : t < T) (hx : x.2.1 = t) : (cntV T pre).setIfInBounds t (.int .i64 (cntE pre t + 1)) = cntV T (pre ++ [x]) := by
  apply Array.ext_getElem?
  intro j
  by_cases hj : j < T
  · rw [cntV_get _ hj, cntE_snoc, hx]
    by_cases e : j = t
    · subst e
      rw [Array.getElem?_setIfInBounds_self_of_lt (by rw [cntV_size]; exact h), if_pos rfl]
    · rw [Array.getElem?_setIfInBounds_ne (fun e' => e e'.symm), cntV_get _ hj, if_neg (by omega)]; simp
  · rw [Array.getElem?_eq_none (by rw [Array.size_setIfInBounds, cntV_size]; omega), Array.getElem?_eq_none (by simp [cntV_size]; omega)]
theorem cntV_nil (T : Nat) : madeCells #[Value.int .i64 0] T = cntV T [] := by
  have h := made_encs lenc_len (by decide) (0 : Int) #[.int .i64 0] rfl T
  rw [Nat.mul_one, encs_rep] at h
  apply Array.toList_inj.1
  rw [h]
  apply List.ext_getElem?
  intro j
  simp only [cntV, cntE, List.map_nil, List.count_nil, List.getElem?_map]
  by_cases hj : j < T
  · rw [List.getElem?_replicate, if_pos hj, List.getElem?_range hj]; rfl
  · rw [List.getElem?_replicate, if_neg hj, List.getElem?_eq_none (by simpa using hj)]; rfl
theorem cntE_le (pre : List (Int × Int × Int)) (t : Int) : 0 ≤ cntE pre t ∧ cntE pre t ≤ pre.length := by
  unfold cntE
  have := List.count_le_length (a := t) (l := pre.map (·.2.1))
  rw [List.length_map] at this
  omega
theorem cntE_all (T : Int) (F : List Ent) (t : Int) : cntE (F.map (absF T)) t = (cntF T F t : Int) := by
  unfold cntE cntF
  rw [List.map_map]; rfl
theorem rOpen_quo {ten quo last : Int} {F : List Ent} {L : List Int} (hq : ∀ x ∈ L, x ≤ quo) (m : Int) : ∀ x ∈ (rOpen ten quo F L last m).L, x ≤ quo := by
  unfold rOpen
  split
  · exact hq
  split
  · exact hq
  split
  · exact hq
  · intro x hx
    rcases List.mem_or_eq_of_mem_set hx with h | rfl
    · exact hq x h
    · omega
theorem liveAt_mem {L : List Int} {t : Int} (h0 : 0 ≤ t) (h1 : t < L.length) : liveAt L t ∈ L := by
  unfold liveAt
  rw [if_pos h0, List.getD_eq_getElem?_getD, List.getElem?_eq_getElem (by omega)]
  exact List.getElem_mem _
theorem gDo_quo {k : Nat} {ten quo last : Int} {F : List Ent} {L : List Int} (h : RInv k ten quo F L last) (hq : ∀ x ∈ L, x ≤ quo) (id e : Int) : ∀ x ∈ (gDo ten F L id e).L, x ≤ quo := by
  unfold gDo
  split
  · exact hq
  split
  · exact hq
  · rename_i i x hx
    unfold gDoAt
    split
    · intro y hy
      rcases List.mem_or_eq_of_mem_set hy with h2 | rfl
      · exact hq y h2
      · have hr := ownT_rng (id := x.id) h.t0
        have := hq _ (liveAt_mem hr.1 (by rw [h.len]; exact hr.2))
        omega
    · exact hq
theorem stepM_quo {k : Nat} {T quo : Int} {s : StM} (h : SInv k T quo s) (hq : ∀ x ∈ s.L, x ≤ quo) (o : OpD) : ∀ x ∈ (stepM T quo s o).L, x ≤ quo := by
  unfold stepM
  split
  · exact rOpen_quo hq _
  split
  · exact gDo_quo h.r hq _ _
  split
  · intro x hx
    obtain ⟨-, rfl⟩ := List.mem_replicate.1 hx
    have := h.r.q0
    omega
  · exact hq
theorem eq_en (a b c : Int) (w : World) : (Op.equalIn 10000 52 (.agg #[.int .i64 a, .int .i64 b, .int .i64 c]) (.agg #[.int .i64 a, .int .i64 b, .int .i64 c])).run Tryd.prog w = .ok true w := by
  have u3 := Tryd.underlying3
  have u4 := Tryd.underlying50
  rw [show (10000 : Nat) = 9999 + 1 from rfl, Op.equalIn]
  simp only [Sem.run_bind, run_underlying Tryd.underlying52, Result.andThen_ok]
  go_simp
theorem results_c {P : Program} {fn : Func} {p1 : Tmp} {y1 : TypeId} (h : fn.results = #[.cell p1 y1]) (tmps : Array Value) (w : World) (g1 : Nat) (v1 : Value)
    (hp1 : tmps.getD p1 undef = .pointer (some ⟨g1, 0, none⟩)) (h1 : ∀ W : World, W.cell? ⟨g1, 0, none⟩ = some v1 → (loadVar y1 ⟨g1, 0, none⟩).run P W = .ok v1 W)
    (c1 : w.cell? ⟨g1, 0, none⟩ = some v1) : (results fn tmps).run P w = .ok v1 w := by
  have e1 : tmps[p1]?.getD undef = .pointer (some ⟨g1, 0, none⟩) := by simpa using hp1
  simp [results, h, e1, asAddr, h1 w c1]
/-- A store in a round. -/
theorem wpOpIn_skp {P : Program} {ops : Array Oper} {Q : Exit → Act → World → Prop} {rl i : Nat} {o : Oper} {K : Act → World → Prop} {a : Act} {w w' : World} (ho : ops[i]? = some o) (hg : o.guard = none) (hr : ∀ ρ, ρ = a.eval → (execOp ρ o).run P w = .ok .skip w') (h : K (a.put o.dst undef) w') (hnd : isDef o.op = false := by rfl) : wpOpIn (Fence.wide.inRound rl) 0 P ops Q i K a w := by
  unfold wpOpIn
  simp only [ho]
  rw [if_pos (show Region.wanted o (yielded ops a.tmps) = true by unfold Region.wanted; rw [hg])]
  refine ⟨fun _ _ => trivial, ?_⟩
  rw [Fence.inRound_round, Oper.semAt_some _ _ _ (nd_of hnd), hr _ rfl]
  exact h
def smB (r9 b T : Nat) (l : List Asrt) (pre : List (Int × Int × Int)) : List Asrt := blk r9 #[.int .i64 (pre.length : Nat)] 3 :: blk b (cntV T pre) 3 :: l
section
variable {G : Gnd} {w : World} {l : List Asrt} {g : Nat} {quo : Int}
set_option maxHeartbeats 16000000 in
set_option maxRecDepth 100000 in
theorem law_same {k T : Nat} {s : StM} {v : Value} (H : Sat G w (rgA g T quo s.F s.L s.last :: l)) (h : SInv k T quo s) (hk : k ≤ 300) (hq : ∀ x ∈ s.L, x ≤ quo) (hv : RL (cellR G.ro) v s.X) (A : Option Addr) (n c : Nat) :
    Calls Tryd.prog 16 #[.pointer (some ⟨g, 0, none⟩), v, .int .i64 s.last, .agg #[.int .i64 T, .int .i64 quo, .slice A n c]] w fun e w' => e = .returned (.bool true) ∧ ∃ G', G.le G' ∧ Sat G' w' (rgA g T quo s.F s.L s.last :: l) := by
  refine calls_any fun K hK => ?_
  have hT0 := h.r.t0
  have hT1 := h.r.t1
  have hlen := h.sim.len
  have hfew := h.r.few
  have hXf : s.X.length ≤ 300 := by omega
  have HI := Lib.hid h
  have HV := Lib.hid hv
  have HQ := Lib.hid hq
  obtain ⟨A1, c1, rfl, hn1, hc1, -, hel⟩ := hv
  have HEL := Lib.hid hel
  have hFX : s.F.map (absF T) = s.X.map absX := h.sim.1.symm
  have hseq := fun b => all_gives (g := g) (ten := T) (quo := quo) (last := s.last) (F := s.F) (L := s.L) b (by omega)
  rw [hFX] at hseq
  have HFX := Lib.hid hFX
  have HLEN := Lib.hid hlen
  clear h hq hel hlen hfew hFX
  obtain ⟨N, hN⟩ : ∃ N, N = s.X.length := ⟨_, rfl⟩
  rw [← hN] at hn1 hXf
  have HN := Lib.hid hN
  have hav : #[Value.pointer (some ⟨g, 0, none⟩), .slice A1 s.X.length c1, .int .i64 s.last, .agg #[.int .i64 T, .int .i64 quo, .slice A n c]] = #[Value.pointer (some ⟨g, 0, none⟩), .slice A1 N c1, .int .i64 s.last, .agg #[.int .i64 T, .int .i64 quo, .slice A n c]] := by rw [hN]
  rw [hav]
  clear hav hN
  have hmk := run_make_any (P := Tryd.prog) 64 3 (.int .i64 0) 1 8 Tryd.underlying64 info_int T (by omega) (by omega)
  have S1 := ((((H.newBlk #[.slice A1 N c1] 45).newBlk #[.int .i64 T, .int .i64 quo, .slice A n c] 29).newBlk #[.bool false] 4).newBlk #[.int .i64 0] 3).newBlk (madeCells #[.int .i64 0] T) 3
  have S2 := S1.newBlk #[.slice (some ⟨w.heap.size + 1 + 1 + 1 + 1, 0, none⟩) T T] 64
  simp only [World.size_alloc] at S2
  clear S1 H
  refine calls_marks Tryd.func16 rfl ?_
  simp only [Tryd.ntmps16, List.size_toArray, List.length_cons, List.length_nil, Nat.reduceAdd, Nat.reduceSub, Array.replicate_succ, Array.replicate_zero, List.push_toArray, List.append_toArray, List.nil_append, List.cons_append]
  go_upto_region 3 with fail
  generalize w.heap.size + 1 + 1 + 1 + 1 + 1 = r10 at *
  generalize w.heap.size + 1 + 1 + 1 + 1 = b at *
  generalize w.heap.size + 1 + 1 + 1 = r9 at *
  generalize w.heap.size + 1 + 1 = r8 at *
  generalize w.heap.size + 1 = r7 at *
  generalize w.heap.size = r5 at *
  refine wp_world S2 fun w2 S3 => ?_
  rw [cntV_nil] at S3
  have ha := rg_all S3 (.pointer (some ⟨g, 0, none⟩)) rfl
  clear S2 S3 hmk
  go_wp2_with fail
  (with_reducible refine ha.mono ?_)
  clear ha
  rintro e w3 ⟨b2, rfl, S4⟩
  go_wp2_with fail
  have hseq := hseq b2
  obtain ⟨L0, hL0⟩ : ∃ L0, L0 = blk r10 #[.slice (some ⟨b, 0, none⟩) T T] 64 :: blk r5 #[.slice A1 N c1] 45 :: blk r7 #[.int .i64 T, .int .i64 quo, .slice A n c] 29 :: blk r8 #[.bool false] 4 :: l := ⟨_, rfl⟩
  have S5 : Sat G w3 ([blk b2 #[.pointer (some ⟨g, 0, none⟩)] 31, rgA g T quo s.F s.L s.last] ++ smB r9 b T L0 []) := by rw [hL0]; exact S4.re [0, 7, 3, 2, 1, 6, 5, 4]
  have HL0 := Lib.hid hL0
  clear S4 hL0
  refine wp_range rfl (enters_of Tryd.func47 (by kernel_rfl) rfl) hseq (fun _ => rfl)
    (smB r9 b T L0) (fun _ _ => [pur False]) S5 ?rnd ?done ?stop
  case stop =>
    intro D c pre W6 G4 hpre hG4 S17
    exact ((Sat.pur_iff.1 (S17.re [3, 0, 1, 2])).1).elim
  case rnd =>
    intro l2 pre x W A' G3 K2 hpre hG3 S17 hK2
    have S18 := (S17.newBlk (eenc x) 52).perm List.perm_middle.symm
    unfold eencs eenc
    unfold eenc at S18
    gi_wp2
    refine hK2 _ _ _ S18 ?_
    intro A'' W2 S19
    generalize W.heap.size = qf at *
    obtain ⟨i, hi0⟩ : ∃ i, i = pre.length := ⟨_, rfl⟩
    have hlen : (pre ++ [x]).length = i + 1 := by rw [hi0]; simp
    have hiN : i < N := by
      have := hpre.length_le
      rw [hlen, List.length_map, ← HN.out] at this
      omega
    obtain ⟨y, hy⟩ : ∃ y, s.X[i]? = some y := ⟨_, List.getElem?_eq_getElem (by rw [← HN.out]; exact hiN)⟩
    have hxy : x = absX y := by
      have hx : (s.X.map absX)[i]? = some x := by
        obtain ⟨t, ht⟩ := hpre
        rw [← ht, hi0]; simp
      rw [List.getElem?_map, hy] at hx
      simpa using hx.symm
    have hyg := HI.out.sim.2 y (List.mem_of_getElem? hy)
    have hyt : 0 ≤ y.t ∧ y.t < T := by
      have hx2 : (s.F.map (absF T))[i]? = some (absX y) := by rw [HFX.out, List.getElem?_map, hy]; rfl
      rw [List.getElem?_map] at hx2
      obtain ⟨z, hz, hze⟩ := Option.map_eq_some_iff.1 hx2
      have := ownT_rng (id := z.id) hT0
      have e1 : ownT z.id T = y.t := congrArg (·.2.1) hze
      rw [e1] at this
      exact this
    obtain ⟨gx, o, rfl, hcl⟩ := HEL.out i y hy
    have HCX := Lib.hid fun (W : World) (l : List Asrt) (S : Sat G3 W l) j u (hj : (renc y)[j]? = some u) => S.cellR (cellR_mono hG3.ro (hcl j u hj))
    obtain ⟨t, ht⟩ : ∃ t : Nat, y.t = t := ⟨y.t.toNat, by omega⟩
    have htT : t < T := by omega
    have hset := cntV_set pre x htT (by rw [hxy]; exact ht)
    have hget := cntV_get pre htT
    have hcle := cntE_le pre t
    rw [← hi0] at hcle
    have S20 : Sat G3 W2 (blk qf #[.int .i64 x.1, .int .i64 x.2.1, .int .i64 x.2.2] 52 :: blk r9 #[.int .i64 i] 3 :: blk b (cntV T pre) 3 :: blk r10 #[.slice (some ⟨b, 0, none⟩) T T] 64 :: blk r5 #[.slice (some ⟨gx, o, none⟩) N c1] 45 :: (blk r7 #[.int .i64 T, .int .i64 quo, .slice A n c] 29 :: blk r8 #[.bool false] 4 :: (l ++ A''))) := by
      have T := S19.perm List.perm_append_comm
      unfold smB at T
      rw [HL0.out, ← hi0] at T
      exact T
    have HCB : Hid (∀ W, Sat G3 W (blk r9 #[.int .i64 ((i + 1 : Nat) : Int)] 3 :: blk qf #[.int .i64 x.1, .int .i64 x.2.1, .int .i64 x.2.2] 52 :: blk b (cntV T (pre ++ [x])) 3 :: blk r10 #[.slice (some ⟨b, 0, none⟩) T T] 64 :: blk r5 #[.slice (some ⟨gx, o, none⟩) N c1] 45 :: (blk r7 #[.int .i64 T, .int .i64 quo, .slice A n c] 29 :: blk r8 #[.bool false] 4 :: (l ++ A''))) → Sat G3 W (A'' ++ smB r9 b T L0 (pre ++ [x]))) := Lib.hid fun W S => by
      unfold smB
      rw [hlen, HL0.out]
      exact Sat.perm (l := (_ :: _ :: _ :: _ :: _ :: _ :: l) ++ A'') S.swap.drop List.perm_append_comm
    obtain ⟨yi, yt, yb, yw, ytt, yr⟩ := y
    obtain ⟨xi, xt, xn⟩ := x
    simp only [absX, Prod.mk.injEq] at hxy
    obtain ⟨rfl, rfl, hxn⟩ := hxy
    simp only at ht
    subst ht
    have HLE : Hid (∀ W l, Sat G3 W l → Calls Tryd.prog 19 #[.agg #[.int .i64 xi, .int .i64 (t : Int), .int .i64 yb, .int .i64 yw, .int .i64 ytt, .int .i64 yr]] W fun e w' => e = .returned (.agg #[.int .i64 xi, .int .i64 (t : Int), .int .i64 xn]) ∧ Sat G3 w' l) := Lib.hid fun W l S => by
      rw [hxn]; exact law_entry S ⟨xi, t, ⟨yb, yw, ytt, yr⟩⟩ hyg
    have HLT : Hid ((i : Int) < (N : Int) ∧ i < N) := Lib.hid (by omega)
    obtain ⟨cn, hcn⟩ : ∃ cn, cn = cntE pre t := ⟨_, rfl⟩
    rw [← hcn] at hset hget hcle
    generalize cntV T pre = V0 at *
    generalize cntV T (pre ++ [(xi, (t : Int), xn)]) = V1 at *
    have HSET := Lib.hid hset
    have HGET := Lib.hid hget
    clear S5 S17 S18 S19 hK2 hy hcl hpre hlen hi0 hiN hyg hyt hxn hset hget hcn hseq
    gi_wp2
    refine wp_actIn fun a0 ha0 => ?_
    have HSZ : a0.tmps.size = 89 := by rw [ha0]; rfl
    have E9 : a0.eval (.tmp 9) = .pointer (some ⟨r9, 0, none⟩) := by rw [ha0]; rfl
    have E5 : a0.eval (.tmp 5) = .pointer (some ⟨r5, 0, none⟩) := by rw [ha0]; rfl
    have E11 : a0.eval (.tmp 11) = .pointer (some ⟨qf, 0, none⟩) := by rw [ha0]; rfl
    refine wp_region_JIn (by kernel_rfl) 13 (by kernel_rfl) [[], [], [1], [0, 2], [3], [4], [4], [4], [6, 7, 4], [8, 4], [9, 4, 4], [5, 10, 4], [4, 11]] (by kernel_rfl) (by kernel_rfl) (fun f a' W => a' = acts [(0, 19, .int .i64 i), (1, 20, .slice (some ⟨gx, o, none⟩) N c1), (2, 21, .int .i64 N), (3, 22, .bool false), (4, 23, .bool false), (5, 24, .agg #[.int .i64 xi, .int .i64 t, .int .i64 xn]), (6, 25, .slice (some ⟨gx, o, none⟩) N c1), (7, 26, .int .i64 i), (8, 27, .pointer (some ⟨gx, o + i * 6, none⟩)), (9, 28, .agg #[.int .i64 xi, .int .i64 t, .int .i64 yb, .int .i64 yw, .int .i64 ytt, .int .i64 yr]), (10, 29, .agg #[.int .i64 xi, .int .i64 t, .int .i64 xn]), (11, 30, .bool false), (12, 31, .bool false)] f a0 ∧ Sat G3 W (blk qf #[.int .i64 xi, .int .i64 t, .int .i64 xn] 52 :: blk r9 #[.int .i64 i] 3 :: blk b V0 3 :: blk r10 #[.slice (some ⟨b, 0, none⟩) T T] 64 :: blk r5 #[.slice (some ⟨gx, o, none⟩) N c1] 45 :: (blk r7 #[.int .i64 T, .int .i64 quo, .slice A n c] 29 :: blk r8 #[.bool false] 4 :: (l ++ A'')))) ?_ ?_ ?_
    · exact ⟨rfl, S20.drew⟩
    · refine ⟨?_, ?_, ?_, ?_, ?_, ?_, ?_, ?_, ?_, ?_, ?_, ?_, ?_, trivial⟩
      · rintro f a' W h0 hd ⟨rfl, S⟩
        refine wpOpIn_run (v := .int .i64 i) rfl rfl (fun ρ hρ => ?_) ⟨(acts_some 0 rfl (by kernel_rfl) (by kernel_rfl)).symm, S⟩
        have e0 : ρ (.tmp 9) = .pointer (some ⟨r9, 0, none⟩) := by rw [hρ]; exact (acts_eval_tmp 9 (by kernel_rfl)).trans E9
        clear hρ
        (have hz := S.swap.cell 0)
        go_simp
      · rintro f a' W h1 hd ⟨rfl, S⟩
        refine wpOpIn_run (v := .slice (some ⟨gx, o, none⟩) N c1) rfl rfl (fun ρ hρ => ?_) ⟨(acts_some 1 rfl (by kernel_rfl) (by kernel_rfl)).symm, S⟩
        have e0 : ρ (.tmp 5) = .pointer (some ⟨r5, 0, none⟩) := by rw [hρ]; exact (acts_eval_tmp 5 (by kernel_rfl)).trans E5
        clear hρ
        (have hz := (S.re [4, 0, 1, 2, 3]).cell 0)
        go_simp
      · rintro f a' W h2 hd ⟨rfl, S⟩
        refine wpOpIn_run (v := .int .i64 N) rfl rfl (fun ρ hρ => ?_) ⟨(acts_some 2 rfl (by kernel_rfl) (by kernel_rfl)).symm, S⟩
        have e0 : ρ (.tmp 20) = .slice (some ⟨gx, o, none⟩) N c1 := by rw [hρ]; exact acts_eval_hit 1 rfl hd.1 (by rw [HSZ]; rfl) (by kernel_rfl)
        clear hρ
        go_simp
      · rintro f a' W h3 hd ⟨rfl, S⟩
        refine wpOpIn_run (v := .bool false) rfl rfl (fun ρ hρ => ?_) ⟨(acts_some 3 rfl (by kernel_rfl) (by kernel_rfl)).symm, S⟩
        have e0 : ρ (.tmp 19) = .int .i64 i := by rw [hρ]; exact acts_eval_hit 0 rfl hd.1 (by rw [HSZ]; rfl) (by kernel_rfl)
        have e1 : ρ (.tmp 21) = .int .i64 N := by rw [hρ]; exact acts_eval_hit 2 rfl hd.2.1 (by rw [HSZ]; rfl) (by kernel_rfl)
        clear hρ
        (have hh := HLT.out.1; have hh2 : ¬ ((N : Int) ≤ (i : Int)) := (by omega); have hh3 : ¬ (N ≤ i) := (by omega))
        go_simp
      · rintro f a' W h4 hd ⟨rfl, S⟩
        refine wpOpIn_run (v := .bool false) rfl rfl (fun ρ hρ => ?_) ⟨(acts_some 4 rfl (by kernel_rfl) (by kernel_rfl)).symm, S⟩
        have e0 : ρ (.tmp 22) = .bool false := by rw [hρ]; exact acts_eval_hit 3 rfl hd.1 (by rw [HSZ]; rfl) (by kernel_rfl)
        clear hρ
        go_simp
      · rintro f a' W h5 hd ⟨rfl, S⟩
        refine wpOpIn_runG (v := .agg #[.int .i64 xi, .int .i64 t, .int .i64 xn]) rfl ?_ (fun ρ hρ => ?_) ⟨(acts_some 5 rfl (by kernel_rfl) (by kernel_rfl)).symm, S⟩
        · exact wanted_hit (t := 23) rfl rfl (acts_eval_hit 4 rfl hd.1 (by rw [HSZ]; rfl) (by kernel_rfl))
        · skip
          have e0 : ρ (.tmp 11) = .pointer (some ⟨qf, 0, none⟩) := by rw [hρ]; exact (acts_eval_tmp 11 (by kernel_rfl)).trans E11
          clear hρ
          (have hz0 := S.cell 0; have hz1 := S.cell 1; have hz2 := S.cell 2)
          go_simp
      · rintro f a' W h6 hd ⟨rfl, S⟩
        refine wpOpIn_runG (v := .slice (some ⟨gx, o, none⟩) N c1) rfl ?_ (fun ρ hρ => ?_) ⟨(acts_some 6 rfl (by kernel_rfl) (by kernel_rfl)).symm, S⟩
        · exact wanted_hit (t := 23) rfl rfl (acts_eval_hit 4 rfl hd.1 (by rw [HSZ]; rfl) (by kernel_rfl))
        · skip
          have e0 : ρ (.tmp 5) = .pointer (some ⟨r5, 0, none⟩) := by rw [hρ]; exact (acts_eval_tmp 5 (by kernel_rfl)).trans E5
          clear hρ
          (have hz := (S.re [4, 0, 1, 2, 3]).cell 0)
          go_simp
      · rintro f a' W h7 hd ⟨rfl, S⟩
        refine wpOpIn_runG (v := .int .i64 i) rfl ?_ (fun ρ hρ => ?_) ⟨(acts_some 7 rfl (by kernel_rfl) (by kernel_rfl)).symm, S⟩
        · exact wanted_hit (t := 23) rfl rfl (acts_eval_hit 4 rfl hd.1 (by rw [HSZ]; rfl) (by kernel_rfl))
        · skip
          have e0 : ρ (.tmp 9) = .pointer (some ⟨r9, 0, none⟩) := by rw [hρ]; exact (acts_eval_tmp 9 (by kernel_rfl)).trans E9
          clear hρ
          (have hz := S.swap.cell 0)
          go_simp
      · rintro f a' W h8 hd ⟨rfl, S⟩
        refine wpOpIn_runG (v := .pointer (some ⟨gx, o + i * 6, none⟩)) rfl ?_ (fun ρ hρ => ?_) ⟨(acts_some 8 rfl (by kernel_rfl) (by kernel_rfl)).symm, S⟩
        · exact wanted_hit (t := 23) rfl rfl (acts_eval_hit 4 rfl hd.2.2.1 (by rw [HSZ]; rfl) (by kernel_rfl))
        · skip
          have e0 : ρ (.tmp 25) = .slice (some ⟨gx, o, none⟩) N c1 := by rw [hρ]; exact acts_eval_hit 6 rfl hd.1 (by rw [HSZ]; rfl) (by kernel_rfl)
          have e1 : ρ (.tmp 26) = .int .i64 i := by rw [hρ]; exact acts_eval_hit 7 rfl hd.2.1 (by rw [HSZ]; rfl) (by kernel_rfl)
          clear hρ
          (have hh1 := HLT.out.1; have hh2 := HLT.out.2)
          go_simp
      · rintro f a' W h9 hd ⟨rfl, S⟩
        refine wpOpIn_runG (v := .agg #[.int .i64 xi, .int .i64 t, .int .i64 yb, .int .i64 yw, .int .i64 ytt, .int .i64 yr]) rfl ?_ (fun ρ hρ => ?_) ⟨(acts_some 9 rfl (by kernel_rfl) (by kernel_rfl)).symm, S⟩
        · exact wanted_hit (t := 23) rfl rfl (acts_eval_hit 4 rfl hd.2.1 (by rw [HSZ]; rfl) (by kernel_rfl))
        · skip
          have e0 : ρ (.tmp 27) = .pointer (some ⟨gx, o + i * 6, none⟩) := by rw [hρ]; exact acts_eval_hit 8 rfl hd.1 (by rw [HSZ]; rfl) (by kernel_rfl)
          clear hρ
          (have hz0 := HCX.out W _ S 0 _ rfl; have hz1 := HCX.out W _ S 1 _ rfl; have hz2 := HCX.out W _ S 2 _ rfl; have hz3 := HCX.out W _ S 3 _ rfl; have hz4 := HCX.out W _ S 4 _ rfl; have hz5 := HCX.out W _ S 5 _ rfl; generalize o + i * 6 = jj at *)
          go_simp
      · rintro f a' W h10 hd ⟨rfl, S⟩
        refine wpOpIn_callG rfl (wanted_hit (t := 23) rfl rfl (acts_eval_hit 4 rfl hd.2.1 (by rw [HSZ]; rfl) (by kernel_rfl))) (fun ρ hρ => ?_) ((HLE.out W _ S)) ?_
        · skip
          have e0 : ρ (.tmp 28) = .agg #[.int .i64 xi, .int .i64 t, .int .i64 yb, .int .i64 yw, .int .i64 ytt, .int .i64 yr] := by rw [hρ]; exact acts_eval_hit 9 rfl hd.1 (by rw [HSZ]; rfl) (by kernel_rfl)
          have ef : ρ (.func 19) = .func (.func 19) #[] #[] := by rw [hρ]; rfl
          clear hρ
          go_simp
        · (rintro e W' ⟨rfl, S'⟩; exact ⟨_, rfl, (acts_some 10 rfl (by kernel_rfl) (by kernel_rfl)).symm, S'⟩)
      · rintro f a' W h11 hd ⟨rfl, S⟩
        refine wpOpIn_runG (v := .bool false) rfl ?_ (fun ρ hρ => ?_) ⟨(acts_some 11 rfl (by kernel_rfl) (by kernel_rfl)).symm, S⟩
        · exact wanted_hit (t := 23) rfl rfl (acts_eval_hit 4 rfl hd.2.2.1 (by rw [HSZ]; rfl) (by kernel_rfl))
        · skip
          have e0 : ρ (.tmp 24) = .agg #[.int .i64 xi, .int .i64 t, .int .i64 xn] := by rw [hρ]; exact acts_eval_hit 5 rfl hd.1 (by rw [HSZ]; rfl) (by kernel_rfl)
          have e1 : ρ (.tmp 29) = .agg #[.int .i64 xi, .int .i64 t, .int .i64 xn] := by rw [hρ]; exact acts_eval_hit 10 rfl hd.2.1 (by rw [HSZ]; rfl) (by kernel_rfl)
          clear hρ
          (have hz := eq_en xi t xn W)
          go_simp
      · rintro f a' W h12 hd ⟨rfl, S⟩
        refine wpOpIn_run (v := .bool false) rfl rfl (fun ρ hρ => ?_) ⟨(acts_some 12 rfl (by kernel_rfl) (by kernel_rfl)).symm, S⟩
        have e0 : ρ (.tmp 23) = .bool false := by rw [hρ]; exact acts_eval_hit 4 rfl hd.1 (by rw [HSZ]; rfl) (by kernel_rfl)
        have e1 : ρ (.tmp 30) = .bool false := by rw [hρ]; exact acts_eval_hit 11 rfl hd.2.1 (by rw [HSZ]; rfl) (by kernel_rfl)
        have ec : ∀ v, ρ (.const v) = v := by rw [hρ]; exact fun _ => rfl
        clear hρ
        go_simp
    rintro a' W ⟨rfl, S21⟩
    subst ha0
    simp only [acts, if_true, Act.put, List.setIfInBounds_toArray, List.set_cons_succ, List.set_cons_zero]
    clear HSZ E9 E5 E11 S20
    gi_wp2
    refine wp_actIn fun a0 ha0 => ?_
    have HSZ : a0.tmps.size = 89 := by rw [ha0]; rfl
    have E9 : a0.eval (.tmp 9) = .pointer (some ⟨r9, 0, none⟩) := by rw [ha0]; rfl
    have E5 : a0.eval (.tmp 5) = .pointer (some ⟨r5, 0, none⟩) := by rw [ha0]; rfl
    have E10 : a0.eval (.tmp 10) = .pointer (some ⟨r10, 0, none⟩) := by rw [ha0]; rfl
    refine wp_region_JIn (by kernel_rfl) 11 (by kernel_rfl) [[], [], [], [1, 2], [3], [4], [0, 5], [6], [7], [0, 5, 0, 1, 2, 3, 4, 5, 6, 7, 8], [9, 8, 0, 1, 2, 3, 4, 5, 6, 7, 8]] (by kernel_rfl) (by kernel_rfl) (fun f a' W => (f 10 = true → f 7 = true) ∧ a' = acts [(0, 32, .slice (some ⟨b, 0, none⟩) T T), (1, 33, .slice (some ⟨gx, o, none⟩) N c1), (2, 34, .int .i64 i), (3, 35, .pointer (some ⟨gx, o + i * 6, none⟩)), (4, 36, .pointer (some ⟨gx, o + i * 6 + 1, none⟩)), (5, 37, .int .i64 t), (6, 38, .pointer (some ⟨b, t, none⟩)), (7, 39, .int .i64 cn), (8, 40, .int .i64 (cn + 1)), (9, 41, .pointer (some ⟨b, t, none⟩))] f a0 ∧ Sat G3 W (blk qf #[.int .i64 xi, .int .i64 t, .int .i64 xn] 52 :: blk r9 #[.int .i64 i] 3 :: blk b (cond (f 10) V1 V0) 3 :: blk r10 #[.slice (some ⟨b, 0, none⟩) T T] 64 :: blk r5 #[.slice (some ⟨gx, o, none⟩) N c1] 45 :: (blk r7 #[.int .i64 T, .int .i64 quo, .slice A n c] 29 :: blk r8 #[.bool false] 4 :: (l ++ A'')))) ?_ ?_ ?_
    · exact ⟨fun h => (by cases h), rfl, S21.drew⟩
    · refine ⟨?_, ?_, ?_, ?_, ?_, ?_, ?_, ?_, ?_, ?_, ?_, trivial⟩
      · rintro f a' W h0 hd ⟨hh, rfl, S⟩
        refine wpOpIn_run (v := .slice (some ⟨b, 0, none⟩) T T) rfl rfl (fun ρ hρ => ?_) ⟨hh, (acts_some 0 rfl (by kernel_rfl) (by kernel_rfl)).symm, S⟩
        have e0 : ρ (.tmp 10) = .pointer (some ⟨r10, 0, none⟩) := by rw [hρ]; exact (acts_eval_tmp 10 (by kernel_rfl)).trans E10
        clear hρ
        (have hz := S.pull3.cell 0)
        go_simp
      · rintro f a' W h1 hd ⟨hh, rfl, S⟩
        refine wpOpIn_run (v := .slice (some ⟨gx, o, none⟩) N c1) rfl rfl (fun ρ hρ => ?_) ⟨hh, (acts_some 1 rfl (by kernel_rfl) (by kernel_rfl)).symm, S⟩
        have e0 : ρ (.tmp 5) = .pointer (some ⟨r5, 0, none⟩) := by rw [hρ]; exact (acts_eval_tmp 5 (by kernel_rfl)).trans E5
        clear hρ
        (have hz := (S.re [4, 0, 1, 2, 3]).cell 0)
        go_simp
      · rintro f a' W h2 hd ⟨hh, rfl, S⟩
        refine wpOpIn_run (v := .int .i64 i) rfl rfl (fun ρ hρ => ?_) ⟨hh, (acts_some 2 rfl (by kernel_rfl) (by kernel_rfl)).symm, S⟩
        have e0 : ρ (.tmp 9) = .pointer (some ⟨r9, 0, none⟩) := by rw [hρ]; exact (acts_eval_tmp 9 (by kernel_rfl)).trans E9
        clear hρ
        (have hz := S.swap.cell 0)
        go_simp
      · rintro f a' W h3 hd ⟨hh, rfl, S⟩
        refine wpOpIn_run (v := .pointer (some ⟨gx, o + i * 6, none⟩)) rfl rfl (fun ρ hρ => ?_) ⟨hh, (acts_some 3 rfl (by kernel_rfl) (by kernel_rfl)).symm, S⟩
        have e0 : ρ (.tmp 33) = .slice (some ⟨gx, o, none⟩) N c1 := by rw [hρ]; exact acts_eval_hit 1 rfl hd.1 (by rw [HSZ]; rfl) (by kernel_rfl)
        have e1 : ρ (.tmp 34) = .int .i64 i := by rw [hρ]; exact acts_eval_hit 2 rfl hd.2.1 (by rw [HSZ]; rfl) (by kernel_rfl)
        clear hρ
        (have hh1 := HLT.out.1; have hh2 := HLT.out.2)
        go_simp
      · rintro f a' W h4 hd ⟨hh, rfl, S⟩
        refine wpOpIn_run (v := .pointer (some ⟨gx, o + i * 6 + 1, none⟩)) rfl rfl (fun ρ hρ => ?_) ⟨hh, (acts_some 4 rfl (by kernel_rfl) (by kernel_rfl)).symm, S⟩
        have e0 : ρ (.tmp 35) = .pointer (some ⟨gx, o + i * 6, none⟩) := by rw [hρ]; exact acts_eval_hit 3 rfl hd.1 (by rw [HSZ]; rfl) (by kernel_rfl)
        clear hρ
        go_simp
      · rintro f a' W h5 hd ⟨hh, rfl, S⟩
        refine wpOpIn_run (v := .int .i64 t) rfl rfl (fun ρ hρ => ?_) ⟨hh, (acts_some 5 rfl (by kernel_rfl) (by kernel_rfl)).symm, S⟩
        have e0 : ρ (.tmp 36) = .pointer (some ⟨gx, o + i * 6 + 1, none⟩) := by rw [hρ]; exact acts_eval_hit 4 rfl hd.1 (by rw [HSZ]; rfl) (by kernel_rfl)
        clear hρ
        (have hz1 : W.cell? ⟨gx, o + i * 6 + 1, none⟩ = _ := HCX.out W _ S 1 _ rfl; generalize o + i * 6 + 1 = jj at *)
        go_simp
      · rintro f a' W h6 hd ⟨hh, rfl, S⟩
        refine wpOpIn_run (v := .pointer (some ⟨b, t, none⟩)) rfl rfl (fun ρ hρ => ?_) ⟨hh, (acts_some 6 rfl (by kernel_rfl) (by kernel_rfl)).symm, S⟩
        have e0 : ρ (.tmp 32) = .slice (some ⟨b, 0, none⟩) T T := by rw [hρ]; exact acts_eval_hit 0 rfl hd.1 (by rw [HSZ]; rfl) (by kernel_rfl)
        have e1 : ρ (.tmp 37) = .int .i64 t := by rw [hρ]; exact acts_eval_hit 5 rfl hd.2.1 (by rw [HSZ]; rfl) (by kernel_rfl)
        clear hρ
        (have hh1 : (t : Int) < (T : Int) := (by omega))
        go_simp
      · rintro f a' W h7 hd ⟨hh, rfl, S⟩
        (have z10 := no_of hh h7)
        refine wpOpIn_run (v := .int .i64 cn) rfl rfl (fun ρ hρ => ?_) ⟨fun _ => rfl, (acts_some 7 rfl (by kernel_rfl) (by kernel_rfl)).symm, S⟩
        have e0 : ρ (.tmp 38) = .pointer (some ⟨b, t, none⟩) := by rw [hρ]; exact acts_eval_hit 6 rfl hd.1 (by rw [HSZ]; rfl) (by kernel_rfl)
        clear hρ
        (have hz : W.cell? ⟨b, t, none⟩ = some (.int .i64 cn) := (by have z := S.pull2.cell t; rw [z10] at z; exact z.trans HGET.out))
        go_simp
      · rintro f a' W h8 hd ⟨hh, rfl, S⟩
        refine wpOpIn_run (v := .int .i64 (cn + 1)) rfl rfl (fun ρ hρ => ?_) ⟨hh, (acts_some 8 rfl (by kernel_rfl) (by kernel_rfl)).symm, S⟩
        have e0 : ρ (.tmp 39) = .int .i64 cn := by rw [hρ]; exact acts_eval_hit 7 rfl hd.1 (by rw [HSZ]; rfl) (by kernel_rfl)
        have ec : ∀ v, ρ (.const v) = v := by rw [hρ]; exact fun _ => rfl
        clear hρ
        (have hh1 := HLT.out.2; have hwr : IntKind.i64.wrap (cn + 1) = cn + 1 := IntWalk.i64_in _ (by omega))
        go_simp
      · rintro f a' W h9 hd ⟨hh, rfl, S⟩
        refine wpOpIn_run (v := .pointer (some ⟨b, t, none⟩)) rfl rfl (fun ρ hρ => ?_) ⟨hh, (acts_some 9 rfl (by kernel_rfl) (by kernel_rfl)).symm, S⟩
        have e0 : ρ (.tmp 32) = .slice (some ⟨b, 0, none⟩) T T := by rw [hρ]; exact acts_eval_hit 0 rfl hd.1 (by rw [HSZ]; rfl) (by kernel_rfl)
        have e1 : ρ (.tmp 37) = .int .i64 t := by rw [hρ]; exact acts_eval_hit 5 rfl hd.2.1 (by rw [HSZ]; rfl) (by kernel_rfl)
        clear hρ
        (have hh1 : (t : Int) < (T : Int) := (by omega))
        go_simp
      · rintro f a' W h10 hd ⟨hh, rfl, S⟩
        have q41 : (acts [(0, 32, .slice (some ⟨b, 0, none⟩) T T), (1, 33, .slice (some ⟨gx, o, none⟩) N c1), (2, 34, .int .i64 i), (3, 35, .pointer (some ⟨gx, o + i * 6, none⟩)), (4, 36, .pointer (some ⟨gx, o + i * 6 + 1, none⟩)), (5, 37, .int .i64 t), (6, 38, .pointer (some ⟨b, t, none⟩)), (7, 39, .int .i64 cn), (8, 40, .int .i64 (cn + 1)), (9, 41, .pointer (some ⟨b, t, none⟩))] f a0).eval (.tmp 41) = .pointer (some ⟨b, t, none⟩) := acts_eval_hit 9 rfl hd.1 (by rw [HSZ]; rfl) (by kernel_rfl)
        have q40 : (acts [(0, 32, .slice (some ⟨b, 0, none⟩) T T), (1, 33, .slice (some ⟨gx, o, none⟩) N c1), (2, 34, .int .i64 i), (3, 35, .pointer (some ⟨gx, o + i * 6, none⟩)), (4, 36, .pointer (some ⟨gx, o + i * 6 + 1, none⟩)), (5, 37, .int .i64 t), (6, 38, .pointer (some ⟨b, t, none⟩)), (7, 39, .int .i64 cn), (8, 40, .int .i64 (cn + 1)), (9, 41, .pointer (some ⟨b, t, none⟩))] f a0).eval (.tmp 40) = .int .i64 (cn + 1) := acts_eval_hit 8 rfl hd.2.1 (by rw [HSZ]; rfl) (by kernel_rfl)
        (rw [h10] at S; have hz : W.cell? ⟨b, t, none⟩ = some (.int .i64 cn) := (S.pull2.cell t).trans HGET.out; have hf := S.pull2.frozen t; have S' := S.pull2.setCell t (.int .i64 (cn + 1)); refine wpOpIn_skp (w' := W.setCell ⟨b, t, none⟩ (.int .i64 (cn + 1))) rfl rfl (fun ρ hρ => ?_) ⟨fun _ => hd.2.2.2.2.2.2.2.2.2.1, (acts_none 10 (by kernel_rfl)).symm, (by rw [← HSET.out]; exact S'.push2)⟩; have e0 : ρ (.tmp 41) = .pointer (some ⟨b, t, none⟩) := (by rw [hρ]; exact q41); have e1 : ρ (.tmp 40) = .int .i64 (cn + 1) := (by rw [hρ]; exact q40); clear hρ q41 q40; go_simp)
    rintro a' W ⟨-, rfl, S22⟩
    subst ha0
    simp only [acts, if_true, Act.put, List.setIfInBounds_toArray, List.set_cons_succ, List.set_cons_zero]
    have S23 := S22.swap
    have c9 := S23.cell 0
    have f9 := S23.frozen 0
    have hwk : IntKind.i64.wrap ((i : Int) + 1) = ((i + 1 : Nat) : Int) := by have := HLT.out.2; rw [IntWalk.i64_in _ (by omega)]; omega
    have HS := Lib.hid (HCB.out _ (S23.setCell 0 (.int .i64 ((i + 1 : Nat) : Int))))
    clear HSZ E9 E5 E10 S21 S22 S23
    gi_wp2
    exact ⟨G3, Gnd.le.rfl', HS.out⟩
  case done =>
    intro D W6 G4 hG4 S17
    obtain ⟨V, hV⟩ : ∃ V, V = cntV T (s.X.map absX) := ⟨_, rfl⟩
    have S18 : Sat G4 W6 (obj D (.deferred (some [])) :: blk b2 #[.pointer (some ⟨g, 0, none⟩)] 31 :: rgA g T quo s.F s.L s.last :: blk r9 #[.int .i64 N] 3 :: blk b V 3 :: blk r10 #[.slice (some ⟨b, 0, none⟩) T T] 64 :: blk r5 #[.slice A1 N c1] 45 :: blk r7 #[.int .i64 T, .int .i64 quo, .slice A n c] 29 :: blk r8 #[.bool false] 4 :: l) := by
      unfold smB at S17
      rw [List.length_map, HL0.out, ← HN.out, ← hV] at S17
      exact S17
    have HVG : Hid (∀ t : Nat, t < T → V[t]? = some (.int .i64 (liveAt s.L t)) ∧ liveAt s.L t ≤ quo) := Lib.hid fun t ht => by
      rw [hV, cntV_get _ ht, ← HFX.out, cntE_all, ← HI.out.live t (by omega) (by omega)]
      exact ⟨rfl, HQ.out _ (liveAt_mem (by omega) (by rw [HI.out.r.len]; omega))⟩
    have HLL : Hid ((s.L.length : Int) = T) := Lib.hid HI.out.r.len
    have HLV : Hid (liveAt s.L (-1) = 0 ∧ liveAt s.L T = 0) := Lib.hid ⟨if_neg (by omega), by
      unfold liveAt
      rw [if_pos (by omega), List.getD_eq_getElem?_getD, List.getElem?_eq_none (by have := HI.out.r.len; omega)]; rfl⟩
    have HBK : Hid (∀ W, Sat G4 W (obj D (.deferred (some [])) :: blk b2 #[.pointer (some ⟨g, 0, none⟩)] 31 :: rgA g T quo s.F s.L s.last :: blk r9 #[.int .i64 N] 3 :: blk b V 3 :: blk r10 #[.slice (some ⟨b, 0, none⟩) T T] 64 :: blk r5 #[.slice A1 N c1] 45 :: blk r7 #[.int .i64 T, .int .i64 quo, .slice A n c] 29 :: blk r8 #[.bool true] 4 :: l) → Sat G4 W (obj D (.deferred (some [])) :: blk r8 #[.bool true] 4 :: rgA g T quo s.F s.L s.last :: l)) := Lib.hid fun W S => (S.re [1, 3, 4, 5, 6, 7, 0, 8, 2]).drop.drop.drop.drop.drop.drop
    have c10 : W6.cell? ⟨r10, 0, none⟩ = some (.slice (some ⟨b, 0, none⟩) T T) := (S18.re [5, 0, 1, 2, 3, 4]).cell 0
    clear S17 S5 hseq hV
    go_wp2_with fail
    go_loopw [46] (fun i wr => ∃ k : Nat, k ≤ T ∧ i = .int .i64 k ∧ Sat G4 wr (obj D (.deferred (some [])) :: blk b2 #[.pointer (some ⟨g, 0, none⟩)] 31 :: rgA g T quo s.F s.L s.last :: blk r9 #[.int .i64 N] 3 :: blk b V 3 :: blk r10 #[.slice (some ⟨b, 0, none⟩) T T] 64 :: blk r5 #[.slice A1 N c1] 45 :: blk r7 #[.int .i64 T, .int .i64 quo, .slice A n c] 29 :: blk r8 #[.bool false] 4 :: l)) (fun i _ => T - (intOf i).toNat)
    case atStart => exact ⟨0, Nat.zero_le _, rfl, S18⟩
    case round =>
      obtain ⟨j, hj, rfl, S19⟩ := hrel
      clear S18 c10
      by_cases hlt : j < T
      · have hlt2 : (j : Int) < (T : Int) := by omega
        obtain ⟨hVj, hqj⟩ := HVG.out j hlt
        have HVJ := Lib.hid hVj
        obtain ⟨lv, hlv⟩ : ∃ lv, lv = liveAt s.L j := ⟨_, rfl⟩
        rw [← hlv] at hqj HVJ
        have HLVJ := Lib.hid hlv
        clear hVj hlv
        go_wp2_with fail
        refine wp_act fun a0 ha0 => ?_
        have HSZ : a0.tmps.size = 89 := by rw [ha0]; rfl
        have E0 : a0.eval (.tmp 0) = .pointer (some ⟨g, 0, none⟩) := by rw [ha0]; rfl
        have E12 : a0.eval (.tmp 12) = .int .i64 j := by rw [ha0]; rfl
        have E10 : a0.eval (.tmp 10) = .pointer (some ⟨r10, 0, none⟩) := by rw [ha0]; rfl
        have E7 : a0.eval (.tmp 7) = .pointer (some ⟨r7, 0, none⟩) := by rw [ha0]; rfl
        refine wp_region_J (by kernel_rfl) 17 (by kernel_rfl) [[], [], [0, 1], [], [], [3, 4], [5], [2, 6], [7, 2], [8], [8], [9, 10, 8], [11, 8], [8], [13, 8], [12, 14, 8], [8, 15]] (by kernel_rfl) (by kernel_rfl) (fun f a' W => a' = acts [(0, 49, .pointer (some ⟨g, 0, none⟩)), (1, 50, .int .i64 j), (2, 51, .int .i64 lv), (3, 52, .slice (some ⟨b, 0, none⟩) T T), (4, 53, .int .i64 j), (5, 54, .pointer (some ⟨b, j, none⟩)), (6, 55, .int .i64 lv), (7, 56, .bool false), (8, 57, .bool false), (9, 58, .slice (some ⟨b, 0, none⟩) T T), (10, 59, .int .i64 j), (11, 60, .pointer (some ⟨b, j, none⟩)), (12, 61, .int .i64 lv), (13, 62, .pointer (some ⟨r7, 1, none⟩)), (14, 63, .int .i64 quo), (15, 64, .bool false), (16, 65, .bool false)] f a0 ∧ Sat G4 W (obj D (.deferred (some [])) :: blk b2 #[.pointer (some ⟨g, 0, none⟩)] 31 :: rgA g T quo s.F s.L s.last :: blk r9 #[.int .i64 N] 3 :: blk b V 3 :: blk r10 #[.slice (some ⟨b, 0, none⟩) T T] 64 :: blk r5 #[.slice A1 N c1] 45 :: blk r7 #[.int .i64 T, .int .i64 quo, .slice A n c] 29 :: blk r8 #[.bool false] 4 :: l)) ?_ ?_ ?_
        · exact ⟨rfl, S19.drew⟩
        · refine ⟨?_, ?_, ?_, ?_, ?_, ?_, ?_, ?_, ?_, ?_, ?_, ?_, ?_, ?_, ?_, ?_, ?_, trivial⟩
          · rintro f a' W h0 hd ⟨rfl, S⟩
            refine wpOp_run (v := .pointer (some ⟨g, 0, none⟩)) rfl rfl (fun ρ hρ => ?_) ⟨(acts_some 0 rfl (by kernel_rfl) (by kernel_rfl)).symm, S⟩
            have e0 : ρ (.tmp 0) = .pointer (some ⟨g, 0, none⟩) := by rw [hρ]; exact (acts_eval_tmp 0 (by kernel_rfl)).trans E0
            clear hρ
            go_simp
          · rintro f a' W h1 hd ⟨rfl, S⟩
            refine wpOp_run (v := .int .i64 j) rfl rfl (fun ρ hρ => ?_) ⟨(acts_some 1 rfl (by kernel_rfl) (by kernel_rfl)).symm, S⟩
            have e0 : ρ (.tmp 12) = .int .i64 j := by rw [hρ]; exact (acts_eval_tmp 12 (by kernel_rfl)).trans E12
            clear hρ
            go_simp
          · rintro f a' W h2 hd ⟨rfl, S⟩
            refine wpOp_call rfl rfl (fun ρ hρ => ?_) ((rg_live S.pull2 HLL.out j)) ?_
            · skip
              have e0 : ρ (.tmp 49) = .pointer (some ⟨g, 0, none⟩) := by rw [hρ]; exact acts_eval_hit 0 rfl hd.1 (by rw [HSZ]; rfl) (by kernel_rfl)
              have e1 : ρ (.tmp 50) = .int .i64 j := by rw [hρ]; exact acts_eval_hit 1 rfl hd.2.1 (by rw [HSZ]; rfl) (by kernel_rfl)
              have ef : ρ (.func 14) = .func (.func 14) #[] #[] := by rw [hρ]; rfl
              clear hρ
              go_simp
            · (rintro e W' ⟨rfl, rfl⟩; rw [← HLVJ.out]; exact ⟨_, rfl, acts_swap rfl (k := 2) rfl (by kernel_rfl) (by kernel_rfl), S⟩)
          · rintro f a' W h3 hd ⟨rfl, S⟩
            refine wpOp_run (v := .slice (some ⟨b, 0, none⟩) T T) rfl rfl (fun ρ hρ => ?_) ⟨(acts_some 3 rfl (by kernel_rfl) (by kernel_rfl)).symm, S⟩
            have e0 : ρ (.tmp 10) = .pointer (some ⟨r10, 0, none⟩) := by rw [hρ]; exact (acts_eval_tmp 10 (by kernel_rfl)).trans E10
            clear hρ
            (have hz : W.cell? ⟨r10, 0, none⟩ = _ := (S.re [5, 0, 1, 2, 3, 4]).cell 0)
            go_simp
          · rintro f a' W h4 hd ⟨rfl, S⟩
            refine wpOp_run (v := .int .i64 j) rfl rfl (fun ρ hρ => ?_) ⟨(acts_some 4 rfl (by kernel_rfl) (by kernel_rfl)).symm, S⟩
            have e0 : ρ (.tmp 12) = .int .i64 j := by rw [hρ]; exact (acts_eval_tmp 12 (by kernel_rfl)).trans E12
            clear hρ
            go_simp
          · rintro f a' W h5 hd ⟨rfl, S⟩
            refine wpOp_run (v := .pointer (some ⟨b, j, none⟩)) rfl rfl (fun ρ hρ => ?_) ⟨(acts_some 5 rfl (by kernel_rfl) (by kernel_rfl)).symm, S⟩
            have e0 : ρ (.tmp 52) = .slice (some ⟨b, 0, none⟩) T T := by rw [hρ]; exact acts_eval_hit 3 rfl hd.1 (by rw [HSZ]; rfl) (by kernel_rfl)
            have e1 : ρ (.tmp 53) = .int .i64 j := by rw [hρ]; exact acts_eval_hit 4 rfl hd.2.1 (by rw [HSZ]; rfl) (by kernel_rfl)
            clear hρ
            go_simp
          · rintro f a' W h6 hd ⟨rfl, S⟩
            refine wpOp_run (v := .int .i64 lv) rfl rfl (fun ρ hρ => ?_) ⟨(acts_some 6 rfl (by kernel_rfl) (by kernel_rfl)).symm, S⟩
            have e0 : ρ (.tmp 54) = .pointer (some ⟨b, j, none⟩) := by rw [hρ]; exact acts_eval_hit 5 rfl hd.1 (by rw [HSZ]; rfl) (by kernel_rfl)
            clear hρ
            (have hz : W.cell? ⟨b, j, none⟩ = some (.int .i64 lv) := ((S.re [4, 0, 1, 2, 3]).cell j).trans HVJ.out)
            go_simp
          · rintro f a' W h7 hd ⟨rfl, S⟩
            refine wpOp_run (v := .bool false) rfl rfl (fun ρ hρ => ?_) ⟨(acts_some 7 rfl (by kernel_rfl) (by kernel_rfl)).symm, S⟩
            have e0 : ρ (.tmp 51) = .int .i64 lv := by rw [hρ]; exact acts_eval_hit 2 rfl hd.1 (by rw [HSZ]; rfl) (by kernel_rfl)
            have e1 : ρ (.tmp 55) = .int .i64 lv := by rw [hρ]; exact acts_eval_hit 6 rfl hd.2.1 (by rw [HSZ]; rfl) (by kernel_rfl)
            clear hρ
            go_simp
          · rintro f a' W h8 hd ⟨rfl, S⟩
            refine wpOp_run (v := .bool false) rfl rfl (fun ρ hρ => ?_) ⟨(acts_some 8 rfl (by kernel_rfl) (by kernel_rfl)).symm, S⟩
            have e0 : ρ (.tmp 56) = .bool false := by rw [hρ]; exact acts_eval_hit 7 rfl hd.1 (by rw [HSZ]; rfl) (by kernel_rfl)
            clear hρ
            go_simp
          · rintro f a' W h9 hd ⟨rfl, S⟩
            refine wpOp_runG (v := .slice (some ⟨b, 0, none⟩) T T) rfl ?_ (fun ρ hρ => ?_) ⟨(acts_some 9 rfl (by kernel_rfl) (by kernel_rfl)).symm, S⟩
            · exact wanted_hit (t := 57) rfl rfl (acts_eval_hit 8 rfl hd.1 (by rw [HSZ]; rfl) (by kernel_rfl))
            · skip
              have e0 : ρ (.tmp 10) = .pointer (some ⟨r10, 0, none⟩) := by rw [hρ]; exact (acts_eval_tmp 10 (by kernel_rfl)).trans E10
              clear hρ
              (have hz : W.cell? ⟨r10, 0, none⟩ = _ := (S.re [5, 0, 1, 2, 3, 4]).cell 0)
              go_simp
          · rintro f a' W h10 hd ⟨rfl, S⟩
            refine wpOp_runG (v := .int .i64 j) rfl ?_ (fun ρ hρ => ?_) ⟨(acts_some 10 rfl (by kernel_rfl) (by kernel_rfl)).symm, S⟩
            · exact wanted_hit (t := 57) rfl rfl (acts_eval_hit 8 rfl hd.1 (by rw [HSZ]; rfl) (by kernel_rfl))
            · skip
              have e0 : ρ (.tmp 12) = .int .i64 j := by rw [hρ]; exact (acts_eval_tmp 12 (by kernel_rfl)).trans E12
              clear hρ
              go_simp
          · rintro f a' W h11 hd ⟨rfl, S⟩
            refine wpOp_runG (v := .pointer (some ⟨b, j, none⟩)) rfl ?_ (fun ρ hρ => ?_) ⟨(acts_some 11 rfl (by kernel_rfl) (by kernel_rfl)).symm, S⟩
            · exact wanted_hit (t := 57) rfl rfl (acts_eval_hit 8 rfl hd.2.2.1 (by rw [HSZ]; rfl) (by kernel_rfl))
            · skip
              have e0 : ρ (.tmp 58) = .slice (some ⟨b, 0, none⟩) T T := by rw [hρ]; exact acts_eval_hit 9 rfl hd.1 (by rw [HSZ]; rfl) (by kernel_rfl)
              have e1 : ρ (.tmp 59) = .int .i64 j := by rw [hρ]; exact acts_eval_hit 10 rfl hd.2.1 (by rw [HSZ]; rfl) (by kernel_rfl)
              clear hρ
              go_simp
          · rintro f a' W h12 hd ⟨rfl, S⟩
            refine wpOp_runG (v := .int .i64 lv) rfl ?_ (fun ρ hρ => ?_) ⟨(acts_some 12 rfl (by kernel_rfl) (by kernel_rfl)).symm, S⟩
            · exact wanted_hit (t := 57) rfl rfl (acts_eval_hit 8 rfl hd.2.1 (by rw [HSZ]; rfl) (by kernel_rfl))
            · skip
              have e0 : ρ (.tmp 60) = .pointer (some ⟨b, j, none⟩) := by rw [hρ]; exact acts_eval_hit 11 rfl hd.1 (by rw [HSZ]; rfl) (by kernel_rfl)
              clear hρ
              (have hz : W.cell? ⟨b, j, none⟩ = some (.int .i64 lv) := ((S.re [4, 0, 1, 2, 3]).cell j).trans HVJ.out)
              go_simp
          · rintro f a' W h13 hd ⟨rfl, S⟩
            refine wpOp_runG (v := .pointer (some ⟨r7, 1, none⟩)) rfl ?_ (fun ρ hρ => ?_) ⟨(acts_some 13 rfl (by kernel_rfl) (by kernel_rfl)).symm, S⟩
            · exact wanted_hit (t := 57) rfl rfl (acts_eval_hit 8 rfl hd.1 (by rw [HSZ]; rfl) (by kernel_rfl))
            · skip
              have e0 : ρ (.tmp 7) = .pointer (some ⟨r7, 0, none⟩) := by rw [hρ]; exact (acts_eval_tmp 7 (by kernel_rfl)).trans E7
              clear hρ
              go_simp
          · rintro f a' W h14 hd ⟨rfl, S⟩
            refine wpOp_runG (v := .int .i64 quo) rfl ?_ (fun ρ hρ => ?_) ⟨(acts_some 14 rfl (by kernel_rfl) (by kernel_rfl)).symm, S⟩
            · exact wanted_hit (t := 57) rfl rfl (acts_eval_hit 8 rfl hd.2.1 (by rw [HSZ]; rfl) (by kernel_rfl))
            · skip
              have e0 : ρ (.tmp 62) = .pointer (some ⟨r7, 1, none⟩) := by rw [hρ]; exact acts_eval_hit 13 rfl hd.1 (by rw [HSZ]; rfl) (by kernel_rfl)
              clear hρ
              (have hz : W.cell? ⟨r7, 1, none⟩ = _ := (S.re [7, 0, 1, 2, 3, 4, 5, 6]).cell 1)
              go_simp
          · rintro f a' W h15 hd ⟨rfl, S⟩
            refine wpOp_runG (v := .bool false) rfl ?_ (fun ρ hρ => ?_) ⟨(acts_some 15 rfl (by kernel_rfl) (by kernel_rfl)).symm, S⟩
            · exact wanted_hit (t := 57) rfl rfl (acts_eval_hit 8 rfl hd.2.2.1 (by rw [HSZ]; rfl) (by kernel_rfl))
            · skip
              have e0 : ρ (.tmp 61) = .int .i64 lv := by rw [hρ]; exact acts_eval_hit 12 rfl hd.1 (by rw [HSZ]; rfl) (by kernel_rfl)
              have e1 : ρ (.tmp 63) = .int .i64 quo := by rw [hρ]; exact acts_eval_hit 14 rfl hd.2.1 (by rw [HSZ]; rfl) (by kernel_rfl)
              clear hρ
              (have hqn : ¬ (quo < lv) := (by omega))
              go_simp
          · rintro f a' W h16 hd ⟨rfl, S⟩
            refine wpOp_run (v := .bool false) rfl rfl (fun ρ hρ => ?_) ⟨(acts_some 16 rfl (by kernel_rfl) (by kernel_rfl)).symm, S⟩
            have e0 : ρ (.tmp 57) = .bool false := by rw [hρ]; exact acts_eval_hit 8 rfl hd.1 (by rw [HSZ]; rfl) (by kernel_rfl)
            have e1 : ρ (.tmp 64) = .bool false := by rw [hρ]; exact acts_eval_hit 15 rfl hd.2.1 (by rw [HSZ]; rfl) (by kernel_rfl)
            have ec : ∀ v, ρ (.const v) = v := by rw [hρ]; exact fun _ => rfl
            clear hρ
            go_simp
        rintro a' W ⟨rfl, S20⟩
        subst ha0
        simp only [acts, if_true, Act.put, List.setIfInBounds_toArray, List.set_cons_succ, List.set_cons_zero]
        have hwj : IntKind.i64.wrap ((j : Int) + 1) = ((j + 1 : Nat) : Int) := by rw [IntWalk.i64_in _ (by omega)]; omega
        have HS := Lib.hid S20
        clear HSZ E0 E12 E10 E7 S19 S20
        go_wp2_with fail
        go_roundw
        case rel => exact ⟨j + 1, by omega, rfl, HS.out⟩
        case measure => simp [intOf]; omega
      · obtain rfl : j = T := by omega
        have c9 : wr.cell? ⟨r9, 0, none⟩ = some (.int .i64 N) := S19.pull3.cell 0
        have c5 : wr.cell? ⟨r5, 0, none⟩ = some (.slice A1 N c1) := (S19.re [6, 0, 1, 2, 3, 4, 5]).cell 0
        have c7 : wr.cell? ⟨r7, 0, none⟩ = some (.int .i64 j) := (S19.re [7, 0, 1, 2, 3, 4, 5, 6]).cell 0
        have hla := rg_last S19.pull2
        have hl1 := rg_live S19.pull2 HLL.out (-1)
        have hl2 := rg_live S19.pull2 HLL.out j
        rw [HLV.out.1] at hl1
        rw [HLV.out.2] at hl2
        have T1 := S19.re [8, 0, 1, 2, 3, 4, 5, 6, 7]
        have c8 := T1.cell 0
        have f8 := T1.frozen 0
        have HS := Lib.hid (HBK.out _ ((T1.setCell 0 (.bool true)).re [1, 2, 3, 4, 5, 6, 7, 8, 0]))
        clear S19 T1 HBK
        go_wp2_with fail
        (with_reducible refine hla.mono ?_)
        rintro e w8 ⟨rfl, rfl⟩
        go_wp2_with fail
        (with_reducible refine hl1.mono ?_)
        rintro e w8 ⟨rfl, rfl⟩
        go_wp2_with fail
        (with_reducible refine hl2.mono ?_)
        rintro e w8 ⟨rfl, rfl⟩
        clear hla hl1 hl2
        go_wp2_with fail
        refine marks_end HS.out rfl fun W7 S8 => ?_
        exact ⟨_, results_c rfl _ _ r8 (.bool true) rfl (fun W h => by go_simp) (S8.cell 0), hK.out _ _ ⟨rfl, G4, hG4, S8.drop⟩⟩
end
end Go.Proofs.YtecnddhfjjnbkaaDoor

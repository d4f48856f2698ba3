/- reg: an event of a stream, walked. -/
import Derived.Test.YtecnddhfjjnbkaaDoorGone
set_option linter.unusedSimpArgs false
set_option linter.unusedVariables false
namespace Go.Proofs.YtecnddhfjjnbkaaDoor
open Go.RowKit

theorem bump_len (C : List Int) (e : Int) (b : Bool) : (bump C e b).length = C.length := by unfold bump; split <;> simp
def entDo (x : Ent) (e : Int) : Ent := ⟨x.id, (pDo x.n e).n, bump x.C e (pDo x.n e).cnt, (bump_len _ _ _).trans x.hC⟩
structure DoRes where
  F : List Ent
  L : List Int
  err : Int
  code : Int
  conn : Bool
def gDoAt (ten : Int) (F : List Ent) (L : List Int) (i : Nat) (x : Ent) (e : Int) : DoRes :=
  if (pDo x.n e).n = 4 then ⟨F.take i ++ F.drop (i + 1), L.set (ownT x.id ten).toNat (liveAt L (ownT x.id ten) - 1), (pDo x.n e).err, (pDo x.n e).code, (pDo x.n e).conn⟩
  else ⟨F.set i (entDo x e), L, (pDo x.n e).err, (pDo x.n e).code, (pDo x.n e).conn⟩
/-- Where a stream is. -/
def atE (F : List Ent) (id : Int) : Option Nat := F.findIdx? fun x => x.id == id
def gDo (ten : Int) (F : List Ent) (L : List Int) (id e : Int) : DoRes :=
  match atE F id with
  | none => ⟨F, L, 14, 0, false⟩
  | some i => (match F[i]? with | none => ⟨F, L, 14, 0, false⟩ | some x => gDoAt ten F L i x e)
theorem atE_none {F : List Ent} {id : Int} (h : ∀ x ∈ F, x.id ≠ id) : atE F id = none := by
  unfold atE
  rw [List.findIdx?_eq_none_iff]
  intro x hx
  exact beq_eq_false_iff_ne.2 (h x hx)
theorem atE_some {F : List Ent} (hF : Rising F) {i : Nat} {x : Ent} (hx : F[i]? = some x) : atE F x.id = some i := by
  unfold atE
  obtain ⟨hi, he⟩ := List.getElem?_eq_some_iff.1 hx
  rw [List.findIdx?_eq_some_iff_getElem]
  refine ⟨hi, by rw [he]; exact beq_self_eq_true _, fun j hj => ?_⟩
  have := hF.lt (List.getElem?_eq_getElem (show j < F.length by omega)) hx hj
  simp only [beq_iff_eq]
  omega
/-- The run of one of the streams. -/
theorem lay_run {cap : Nat} {cur : Array Value} {F : List Ent} {i : Nat} {x : Ent} (La : Lay Ent.enc 11 cap cur F) (hx : F[i]? = some x) :
    ∃ pre post, pre.length = i * 11 + 1 ∧ cur = runD pre x.n x.C post ∧ ∀ y : Ent, y.id = x.id → Lay Ent.enc 11 cap (runD pre y.n y.C post) (F.set i y) := by
  have hi := (List.getElem?_eq_some_iff.1 hx).1
  have hr := La.room hi
  refine ⟨cur.toList.take (i * 11) ++ [.int .i64 x.id], cur.toList.drop (i * 11 + 11), ?_, ?_, ?_⟩
  · rw [List.length_append, List.length_take, Array.length_toList]
    simp
    omega
  · apply Array.toList_inj.1
    simp only [runD, List.append_assoc, List.cons_append, List.nil_append]
    apply List.ext_getElem?
    intro k
    have hl : (cur.toList.take (i * 11)).length = i * 11 := by rw [List.length_take, Array.length_toList]; omega
    by_cases h1 : k < i * 11
    · rw [List.getElem?_append_left (by omega), List.getElem?_take, if_pos h1]
    · rw [List.getElem?_append_right (by omega), hl]
      have e : (Value.int .i64 x.id :: Value.int .i64 x.n :: (ints x.C ++ cur.toList.drop (i * 11 + 11))) = x.enc ++ cur.toList.drop (i * 11 + 11) := rfl
      rw [e]
      by_cases h2 : k < i * 11 + 11
      · rw [List.getElem?_append_left (by rw [ent_len]; omega)]
        have := La.get hx (j := k - i * 11) (by omega)
        rw [show i * 11 + (k - i * 11) = k by omega] at this
        simpa using this
      · rw [List.getElem?_append_right (by rw [ent_len]; omega), ent_len, List.getElem?_drop]
        congr 1
        omega
  · intro y hy
    have h := La.set hi y
    have e : setMid cur (i * 11) y.enc = runD (cur.toList.take (i * 11) ++ [.int .i64 x.id]) y.n y.C (cur.toList.drop (i * 11 + 11)) := by
      apply Array.toList_inj.1
      rw [setMid_list _ _ _ (by rw [ent_len]; omega), ent_len]
      simp only [runD, List.append_assoc, List.cons_append, List.nil_append, Ent.enc, hy]
    rwa [e] at h
theorem rn_at2 {w : World} {r off : Nat} {n : Int} (c0 : w.cell? ⟨r, off, none⟩ = some (.int .i64 n)) : Calls Tryd.prog 26 #[.pointer (some ⟨r, off, none⟩)] w fun x w' => x = .returned (.int .i64 n) ∧ w = w' := by
  refine calls_any fun K hK => ?_
  go_enter Tryd.func26, Tryd.ntmps26
  go_wp2_with fail
  exact hK.out _ _ ⟨rfl, rfl⟩
theorem take_set_self {α : Type} (F : List α) (i : Nat) (y : α) : (F.set i y).take i ++ (F.set i y).drop (i + 1) = F.take i ++ F.drop (i + 1) := by
  rw [List.take_set_of_le (by omega), List.drop_set_of_lt (by omega)]
section
variable {G : Gnd} {w w' : World} {l : List Asrt} {g : Nat} {ten quo last : Int} {F : List Ent} {L : List Int}
set_option maxHeartbeats 4000000 in
set_option maxRecDepth 100000 in
theorem rg_do_none (H : Sat G w (rgA g ten quo F L last :: l)) (hF : Rising F) (hn : F.length ≤ 10000) (id e : Int) (hno : ∀ x ∈ F, x.id ≠ id) :
    Calls Tryd.prog 13 #[.pointer (some ⟨g, 0, none⟩), .int .i64 id, .int .i64 e] w fun e w' => e = .returned (.tuple #[.int .i64 14, .agg #[.int .i64 0, .bool false]]) ∧ Sat G w' (rgA g ten quo F L last :: l) := by
  refine calls_any fun K hK => ?_
  have S1 := H.newBlk #[.int .i64 0, .bool false] 41
  have hf := rg_find S1.swap hF (by omega) id
  clear H S1
  go_enter Tryd.func13, Tryd.ntmps13
  go_wp2_with fail
  (with_reducible refine hf.mono ?_)
  clear hf
  rintro e w1 ⟨i, ok, rfl, hi, hfo, S2⟩
  cases ok with
  | true =>
    obtain ⟨x, hx, he⟩ := hfo
    exact absurd he (hno x (List.mem_of_getElem? hx))
  | false =>
    generalize w.heap.size = a at *
    have S3 := S2.swap
    clear S2 hfo hno
    have d0 := S3.cell 0
    have d1 := S3.cell 1
    have f0 := S3.frozen 0
    have f1 := S3.frozen 1
    have HS := Lib.hid ((S3.setCell 0 (.int .i64 0)).setCell 1 (.bool false))
    clear S3
    go_wp2_with fail
    refine bodyPost_ret (results_t_cell rfl _ _ _ _ _ _ rfl (HS.out).blk_at Tryd.underlying41 rfl (by kernel_rfl)) rfl ?_
    exact hK.out _ _ ⟨rfl, HS.out.drop⟩
set_option maxHeartbeats 8000000 in
set_option maxRecDepth 100000 in
theorem rg_do_stay (H : Sat G w (rgA g ten quo F L last :: l)) (hw : RWf ten quo F L last) (hF : Rising F) (ht : TabG G) (i : Nat) (x : Ent) (hx : F[i]? = some x) (hb : ∀ y ∈ x.C, 0 ≤ y ∧ y ≤ 1000) (e : Int) (h4 : ¬ (pDo x.n e).n = 4) :
    Calls Tryd.prog 13 #[.pointer (some ⟨g, 0, none⟩), .int .i64 x.id, .int .i64 e] w fun y w' => y = .returned (.tuple #[.int .i64 (pDo x.n e).err, .agg #[.int .i64 (pDo x.n e).code, .bool (pDo x.n e).conn]]) ∧ Sat G w' (rgA g ten quo (gDoAt ten F L i x e).F (gDoAt ten F L i x e).L last :: l) := by
  refine calls_any fun K hK => ?_
  unfold gDoAt at hK
  rw [if_neg h4] at hK
  have S1 := H.newBlk #[.int .i64 0, .bool false] 41
  have hfew := hw.few
  have hf := rg_find S1.swap hF (by omega) x.id
  have HF := Lib.hid hF
  have HX := Lib.hid hx
  have HB := Lib.hid hb
  have HTAB := Lib.hid ht
  have HW := Lib.hid hw
  have H4 := Lib.hid h4
  have hiF := (List.getElem?_eq_some_iff.1 hx).1
  clear H S1 hx hb ht hw hF h4
  go_enter Tryd.func13, Tryd.ntmps13
  go_wp2_with fail
  (with_reducible refine hf.mono ?_)
  clear hf
  rintro e1 w1 ⟨i', ok, rfl, hi, hfo, S2⟩
  cases ok with
  | false => exact absurd rfl (hfo x (List.mem_of_getElem? HX.out))
  | true =>
  obtain ⟨x', hx', he⟩ := hfo
  obtain rfl : i' = i := by
    rcases Nat.lt_trichotomy i' i with h | h | h
    · have := HF.out.lt hx' HX.out h; omega
    · exact h
    · have := HF.out.lt HX.out hx' h; omega
  clear hx' he x'
  generalize w.heap.size = a at *
  obtain ⟨v, u, S3⟩ := rg_iff.1 S2
  clear S2
  obtain ⟨b, cap, cur, rfl, hcap, La, S4⟩ := S3.swap.layOpen ent_len (by omega)
  have hcc : cap ≤ 9223372036854775807 := hcap
  have hlc := La.len
  obtain ⟨pre, post, hpre, rfl, hset⟩ := lay_run La HX.out
  have HCP := Lib.hid hcap
  have HSET := Lib.hid (hset (entDo x e) rfl)
  have HPRE := Lib.hid hpre
  clear S3 La hcap hset hpre
  obtain ⟨N, hN⟩ : ∃ N, N = F.length := ⟨_, rfl⟩
  rw [← hN] at S4 hiF hlc hi hfew
  have HN := Lib.hid hN
  clear hN
  have hiN : (i' : Int) < (N : Int) := by omega
  have c2 := S4.swap.cell 2
  have S5 : Sat G w1 (runO b 72 pre x.n x.C post :: blk g #[.int .i64 ten, .int .i64 quo, .slice (some ⟨b, 0, none⟩) N cap, u, .int .i64 last] 67 :: ownS 3 1 u L.length (encs lenc L) :: blk a #[.int .i64 0, .bool false] 41 :: l) := S4
  clear S4
  have hd := rn_do S5 HPRE.out HTAB.out x.hC HB.out e
  clear S5
  go_wp2_with fail
  (with_reducible refine hd.mono ?_)
  clear hd c2
  rintro e1 w2 ⟨rfl, S6⟩
  obtain ⟨er, her⟩ : ∃ er, er = (pDo x.n e).err := ⟨_, rfl⟩
  obtain ⟨cd, hcd⟩ : ∃ cd, cd = (pDo x.n e).code := ⟨_, rfl⟩
  obtain ⟨cn, hcn⟩ : ∃ cn, cn = (pDo x.n e).conn := ⟨_, rfl⟩
  obtain ⟨n', hn'⟩ : ∃ n', n' = (pDo x.n e).n := ⟨_, rfl⟩
  rw [← her, ← hcd, ← hcn] at hK ⊢
  have H4' : Hid (¬ n' = 4) := Lib.hid (by rw [hn']; exact H4.out)
  have S7 : Sat G w2 (blk b (runD pre n' (entDo x e).C post) 72 :: blk g #[.int .i64 ten, .int .i64 quo, .slice (some ⟨b, 0, none⟩) N cap, u, .int .i64 last] 67 :: ownS 3 1 u L.length (encs lenc L) :: blk a #[.int .i64 0, .bool false] 41 :: l) := by rw [hn']; exact S6
  have HN' : Hid (n' = (entDo x e).n) := Lib.hid hn'
  have S8 := S7.newBlk #[.int .i64 cd, .bool cn] 41
  clear S6 S7 her hcd hcn hn'
  go_upto_region 6 with fail
  generalize w2.heap.size = z at *
  refine wp_world S8 fun w3 S9 => ?_
  clear S8
  have c1 : w3.cell? ⟨b, i' * 11 + 1, none⟩ = some (.int .i64 n') := (S9.swap.cell (i' * 11 + 1)).trans (runD_at0 _ _ _ _ HPRE.out)
  have ha := rn_at2 c1
  have hdn := st_done n' w3
  have S10 := S9.re [2, 1, 3, 4, 0]
  clear S9 c1
  rw [show (n' == 4) = false from beq_eq_false_iff_ne.2 H4'.out] at hdn
  go_wp2_with fail
  (with_reducible refine ha.mono ?_)
  rintro e1 w4 ⟨rfl, rfl⟩
  go_wp2_with fail
  (with_reducible refine hdn.mono ?_)
  rintro e1 w4 ⟨rfl, rfl⟩
  clear ha hdn
  go_upto_region 9 with fail
  have T1 := S10.re [3, 4, 0, 1, 2]
  clear S10
  refine wp_act fun a0 ha0 => ?_
  have HSZ : a0.tmps.size = 65 := by rw [ha0]; rfl
  have E11 : a0.eval (.tmp 11) = .int .i64 er := by rw [ha0]; rfl
  have E12 : a0.eval (.tmp 12) = .pointer (some ⟨z, 0, none⟩) := by rw [ha0]; rfl
  have E7 : a0.eval (.tmp 7) = .pointer (some ⟨a, 0, none⟩) := by rw [ha0]; rfl
  refine wp_region_sat (by kernel_rfl) 4 (by kernel_rfl) [[], [], [0, 0], [1, 2, 0, 1, 2]] (by kernel_rfl) (by kernel_rfl) [(0, 63, .int .i64 er), (1, 64, .agg #[.int .i64 cd, .bool cn]), (2, 6, .int .i64 er)] (fun f => blk a (cond (f 3) #[.int .i64 cd, .bool cn] #[.int .i64 0, .bool false]) 41 :: blk z #[.int .i64 cd, .bool cn] 41 :: blk g #[.int .i64 ten, .int .i64 quo, .slice (some ⟨b, 0, none⟩) N cap, u, .int .i64 last] 67 :: blk b (runD pre n' (entDo x e).C post) 72 :: ownS 3 1 u L.length (encs lenc L) :: l) (by kernel_rfl) T1 ?_ ?_
  · refine ⟨?_, ?_, ?_, ?_, trivial⟩
    · intro f W h0 hd S
      refine wpOp_run (v := .int .i64 er) rfl rfl (fun ρ hρ => ?_) ⟨(acts_some 0 rfl (by kernel_rfl) (by kernel_rfl)).symm, S⟩
      have e0 : ρ (.tmp 11) = .int .i64 er := by rw [hρ]; exact (acts_eval_tmp 11 (by kernel_rfl)).trans E11
      clear hρ
      go_simp
    · intro f W h1 hd S
      refine wpOp_list rfl ?_
      refine st_load rfl _ _ rfl _ ((acts_eval_tmp 12 (by kernel_rfl)).trans E12) _ _ (S.swap) _ rfl rfl rfl ?_
      exact ⟨(acts_some 1 rfl (by kernel_rfl) (by kernel_rfl)).symm, S⟩
    · intro f W h2 hd S
      refine wpOp_run (v := .int .i64 er) rfl rfl (fun ρ hρ => ?_) ⟨(acts_some 2 rfl (by kernel_rfl) (by kernel_rfl)).symm, S⟩
      have e0 : ρ (.tmp 63) = .int .i64 er := by rw [hρ]; exact acts_eval_hit 0 rfl hd.1 (by rw [HSZ]; rfl) (by kernel_rfl)
      clear hρ
      go_simp
    · intro f W h3 hd S
      rw [h3] at S
      refine wpOp_list rfl ?_
      refine st_store rfl _ _ _ rfl _ _ ((acts_eval_tmp 7 (by kernel_rfl)).trans E7) (acts_eval_hit 1 rfl hd.1 (by rw [HSZ]; rfl) (by kernel_rfl)) _ _ (S) rfl rfl (by simp [Value.oneCell']) fun W' S' => ?_
      exact ⟨(acts_none 3 (by kernel_rfl)).symm, S'⟩
  intro W9 T2
  subst ha0
  simp only [acts, if_true, Act.put, List.setIfInBounds_toArray, List.set_cons_succ, List.set_cons_zero]
  change Sat _ _ (blk a #[.int .i64 cd, .bool cn] _ :: _) at T2
  have HT2 := Lib.hid T2
  clear T2 T1 HSZ E7 E11 E12
  go_wp2_with fail
  refine bodyPost_ret (results_t_cell rfl _ _ _ _ _ _ rfl (HT2.out).blk_at Tryd.underlying41 rfl (by kernel_rfl)) rfl ?_
  refine hK.out _ _ ⟨rfl, ?_⟩
  have T3 := HT2.out.drop.drop
  have hl := HSET.out
  rw [← HN'.out] at hl
  have T4 := T3.swap.layClose hl HCP.out N (by rw [List.length_set]; exact HN.out)
  exact rg_iff.2 ⟨_, u, T4.swap⟩
set_option maxHeartbeats 8000000 in
set_option maxRecDepth 100000 in
theorem rg_do_gone (H : Sat G w (rgA g ten quo F L last :: l)) (hw : RWf ten quo F L last) (hF : Rising F) (ht : TabG G) (i : Nat) (x : Ent) (hx : F[i]? = some x) (hb : ∀ y ∈ x.C, 0 ≤ y ∧ y ≤ 1000) (e : Int) (h4 : (pDo x.n e).n = 4) :
    Calls Tryd.prog 13 #[.pointer (some ⟨g, 0, none⟩), .int .i64 x.id, .int .i64 e] w fun y w' => y = .returned (.tuple #[.int .i64 (pDo x.n e).err, .agg #[.int .i64 (pDo x.n e).code, .bool (pDo x.n e).conn]]) ∧ Sat G w' (rgA g ten quo (gDoAt ten F L i x e).F (gDoAt ten F L i x e).L last :: l) := by
  refine calls_any fun K hK => ?_
  unfold gDoAt at hK
  rw [if_pos h4] at hK
  have S1 := H.newBlk #[.int .i64 0, .bool false] 41
  have hfew := hw.few
  have hf := rg_find S1.swap hF (by omega) x.id
  have HF := Lib.hid hF
  have HX := Lib.hid hx
  have HB := Lib.hid hb
  have HTAB := Lib.hid ht
  have HW := Lib.hid hw
  have H4 := Lib.hid h4
  have hiF := (List.getElem?_eq_some_iff.1 hx).1
  clear H S1 hx hb ht hw hF h4
  go_enter Tryd.func13, Tryd.ntmps13
  go_wp2_with fail
  (with_reducible refine hf.mono ?_)
  clear hf
  rintro e1 w1 ⟨i', ok, rfl, hi, hfo, S2⟩
  cases ok with
  | false => exact absurd rfl (hfo x (List.mem_of_getElem? HX.out))
  | true =>
  obtain ⟨x', hx', he⟩ := hfo
  obtain rfl : i' = i := by
    rcases Nat.lt_trichotomy i' i with h | h | h
    · have := HF.out.lt hx' HX.out h; omega
    · exact h
    · have := HF.out.lt HX.out hx' h; omega
  clear hx' he x'
  generalize w.heap.size = a at *
  obtain ⟨v, u, S3⟩ := rg_iff.1 S2
  clear S2
  obtain ⟨b, cap, cur, rfl, hcap, La, S4⟩ := S3.swap.layOpen ent_len (by omega)
  have hcc : cap ≤ 9223372036854775807 := hcap
  have hlc := La.len
  obtain ⟨pre, post, hpre, rfl, hset⟩ := lay_run La HX.out
  have HCP := Lib.hid hcap
  have HSET := Lib.hid (hset (entDo x e) rfl)
  have HPRE := Lib.hid hpre
  clear S3 La hcap hset hpre
  obtain ⟨N, hN⟩ : ∃ N, N = F.length := ⟨_, rfl⟩
  rw [← hN] at S4 hiF hlc hi hfew
  have HN := Lib.hid hN
  clear hN
  have hiN : (i' : Int) < (N : Int) := by omega
  have c2 := S4.swap.cell 2
  have S5 : Sat G w1 (runO b 72 pre x.n x.C post :: blk g #[.int .i64 ten, .int .i64 quo, .slice (some ⟨b, 0, none⟩) N cap, u, .int .i64 last] 67 :: ownS 3 1 u L.length (encs lenc L) :: blk a #[.int .i64 0, .bool false] 41 :: l) := S4
  clear S4
  have hd := rn_do S5 HPRE.out HTAB.out x.hC HB.out e
  clear S5
  go_wp2_with fail
  (with_reducible refine hd.mono ?_)
  clear hd c2
  rintro e1 w2 ⟨rfl, S6⟩
  obtain ⟨er, her⟩ : ∃ er, er = (pDo x.n e).err := ⟨_, rfl⟩
  obtain ⟨cd, hcd⟩ : ∃ cd, cd = (pDo x.n e).code := ⟨_, rfl⟩
  obtain ⟨cn, hcn⟩ : ∃ cn, cn = (pDo x.n e).conn := ⟨_, rfl⟩
  obtain ⟨n', hn'⟩ : ∃ n', n' = (pDo x.n e).n := ⟨_, rfl⟩
  rw [← her, ← hcd, ← hcn] at hK ⊢
  have H4' : Hid (n' = 4) := Lib.hid (by rw [hn']; exact H4.out)
  have S7 : Sat G w2 (blk b (runD pre n' (entDo x e).C post) 72 :: blk g #[.int .i64 ten, .int .i64 quo, .slice (some ⟨b, 0, none⟩) N cap, u, .int .i64 last] 67 :: ownS 3 1 u L.length (encs lenc L) :: blk a #[.int .i64 0, .bool false] 41 :: l) := by rw [hn']; exact S6
  have HN' : Hid (n' = (entDo x e).n) := Lib.hid hn'
  have S8 := S7.newBlk #[.int .i64 cd, .bool cn] 41
  clear S6 S7 her hcd hcn hn'
  go_upto_region 6 with fail
  generalize w2.heap.size = z at *
  refine wp_world S8 fun w3 S9 => ?_
  clear S8
  have c1 : w3.cell? ⟨b, i' * 11 + 1, none⟩ = some (.int .i64 n') := (S9.swap.cell (i' * 11 + 1)).trans (runD_at0 _ _ _ _ HPRE.out)
  have ha := rn_at2 c1
  have hdn := st_done n' w3
  have S10 := S9.re [2, 1, 3, 4, 0]
  clear S9 c1
  rw [show (n' == 4) = true from beq_iff_eq.2 H4'.out] at hdn
  go_wp2_with fail
  (with_reducible refine ha.mono ?_)
  rintro e1 w4 ⟨rfl, rfl⟩
  go_wp2_with fail
  (with_reducible refine hdn.mono ?_)
  rintro e1 w4 ⟨rfl, rfl⟩
  clear ha hdn
  have hl := HSET.out
  rw [← HN'.out] at hl
  have T3 := S10.swap.layClose hl HCP.out N (by rw [List.length_set]; exact HN.out)
  have HNV : Hid (∃ A c, (Value.slice (some ⟨b, 0, none⟩) N cap) = .slice A N c) := Lib.hid ⟨_, _, rfl⟩
  clear hl S10 HN' H4' HSET HPRE HCP
  obtain ⟨v, hv⟩ : ∃ v, v = Value.slice (some ⟨b, 0, none⟩) N cap := ⟨_, rfl⟩
  rw [← hv] at T3
  have HV := Lib.hid hv
  clear hv
  have htn := HW.out.t0
  have hlen := HW.out.len
  obtain ⟨T, hT⟩ : ∃ T : Nat, ownT x.id ten = T := ⟨(ownT x.id ten).toNat, by
    have : 0 ≤ ownT x.id ten := by
      unfold ownT
      split
      · exact Int.emod_nonneg _ (by omega)
      · omega
    omega⟩
  have hTl : T < L.length := by
    have : ownT x.id ten < ten := by
      unfold ownT
      split
      · exact Int.emod_lt_of_pos _ (by omega)
      · omega
    omega
  obtain ⟨y, hy⟩ : ∃ y, L[T]? = some y := ⟨_, List.getElem?_eq_getElem hTl⟩
  have hla : liveAt L (ownT x.id ten) = y := by
    unfold liveAt
    rw [hT, if_pos (by omega), List.getD_eq_getElem?_getD, show (T : Int).toNat = T by omega, hy]; rfl
  rw [hla, hT, show (T : Int).toNat = T by omega] at hK
  have hxb := HW.out.lo y (List.mem_of_getElem? hy)
  obtain ⟨b2, cap2, cur2, rfl, hcap2, La2, S2⟩ := (T3.re [2, 1, 0]).layOpen lenc_len (by omega)
  have HCX := Lib.hid (La2.get hy (j := 0) (by decide))
  simp only [Nat.mul_one, Nat.add_zero, lenc, List.getElem?_cons_zero] at HCX
  have hTc := La2.room hTl
  have HLA := Lib.hid La2
  have HCP := Lib.hid hcap2
  have HTC : Hid (T < cur2.size) := Lib.hid (by omega)
  obtain ⟨M, hM⟩ : ∃ M, M = L.length := ⟨_, rfl⟩
  rw [← hM] at S2
  have a4 : (T : Int) < (M : Int) := by omega
  have a5 : T < M := by omega
  have HM := Lib.hid hM
  have HOT := Lib.hid hT
  have HY := Lib.hid hy
  have HTL := Lib.hid hTl
  clear T3 La2 hcap2 hTc hM hT hy hlen hla hTl
  obtain ⟨hx0, hx1⟩ := hxb
  go_upto_region 7 with fail
  refine wp_act fun a0 ha0 => ?_
  have HSZ : a0.tmps.size = 65 := by rw [ha0]; rfl
  have E0 : a0.eval (.tmp 0) = .pointer (some ⟨g, 0, none⟩) := by rw [ha0]; rfl
  have E1 : a0.eval (.tmp 1) = .int .i64 x.id := by rw [ha0]; rfl
  refine wp_region_J (by kernel_rfl) 12 (by kernel_rfl) [[], [0], [1], [2], [], [], [4, 5], [3, 6], [7], [8], [3, 6, 0, 1, 2, 3, 4, 5, 6, 7, 8, 9], [10, 9, 6, 0, 1, 2, 3, 4, 5, 6, 7, 8, 9]] (by kernel_rfl) (by kernel_rfl) (fun f a' W => (f 11 = true → f 8 = true) ∧ a' = acts [(0, 41, .pointer (some ⟨g, 0, none⟩)), (1, 42, .pointer (some ⟨g, 0, none⟩)), (2, 43, .pointer (some ⟨g, 3, none⟩)), (3, 44, .slice (some ⟨b2, 0, none⟩) M cap2), (4, 45, .pointer (some ⟨g, 0, none⟩)), (5, 46, .int .i64 x.id), (6, 47, .int .i64 T), (7, 48, .pointer (some ⟨b2, T, none⟩)), (8, 49, .int .i64 y), (9, 50, .int .i64 (y - 1)), (10, 51, .pointer (some ⟨b2, T, none⟩))] f a0 ∧ Sat G W (blk b2 (cond (f 11) (cur2.setIfInBounds T (.int .i64 (y - 1))) cur2) 3 :: blk g #[.int .i64 ten, .int .i64 quo, v, .slice (some ⟨b2, 0, none⟩) M cap2, .int .i64 last] 67 :: ownS 72 11 v (F.set i' (entDo x e)).length (encs Ent.enc (F.set i' (entDo x e))) :: blk a #[.int .i64 0, .bool false] 41 :: blk z #[.int .i64 cd, .bool cn] 41 :: l)) ?_ ?_ ?_
  · exact ⟨fun h => (by cases h), rfl, S2.drew⟩
  · refine ⟨?_, ?_, ?_, ?_, ?_, ?_, ?_, ?_, ?_, ?_, ?_, ?_, trivial⟩
    · rintro f a' W h0 hd ⟨hh, rfl, S⟩
      refine wpOp_run (v := .pointer (some ⟨g, 0, none⟩)) rfl rfl (fun ρ hρ => ?_) ⟨hh, (acts_some 0 rfl (by kernel_rfl) (by kernel_rfl)).symm, S⟩
      have e0 : ρ (.tmp 0) = .pointer (some ⟨g, 0, none⟩) := by rw [hρ]; exact (acts_eval_tmp 0 (by kernel_rfl)).trans E0
      clear hρ
      go_simp
    · rintro f a' W h1 hd ⟨hh, rfl, S⟩
      refine wpOp_run (v := .pointer (some ⟨g, 0, none⟩)) rfl rfl (fun ρ hρ => ?_) ⟨hh, (acts_some 1 rfl (by kernel_rfl) (by kernel_rfl)).symm, S⟩
      have e0 : ρ (.tmp 41) = .pointer (some ⟨g, 0, none⟩) := by rw [hρ]; exact acts_eval_hit 0 rfl hd.1 (by rw [HSZ]; rfl) (by kernel_rfl)
      clear hρ
      go_simp
    · rintro f a' W h2 hd ⟨hh, rfl, S⟩
      refine wpOp_run (v := .pointer (some ⟨g, 3, none⟩)) rfl rfl (fun ρ hρ => ?_) ⟨hh, (acts_some 2 rfl (by kernel_rfl) (by kernel_rfl)).symm, S⟩
      have e0 : ρ (.tmp 42) = .pointer (some ⟨g, 0, none⟩) := by rw [hρ]; exact acts_eval_hit 1 rfl hd.1 (by rw [HSZ]; rfl) (by kernel_rfl)
      clear hρ
      go_simp
    · rintro f a' W h3 hd ⟨hh, rfl, S⟩
      refine wpOp_run (v := .slice (some ⟨b2, 0, none⟩) M cap2) rfl rfl (fun ρ hρ => ?_) ⟨hh, (acts_some 3 rfl (by kernel_rfl) (by kernel_rfl)).symm, S⟩
      have e0 : ρ (.tmp 43) = .pointer (some ⟨g, 3, none⟩) := by rw [hρ]; exact acts_eval_hit 2 rfl hd.1 (by rw [HSZ]; rfl) (by kernel_rfl)
      clear hρ
      (have z : W.cell? ⟨g, 3, none⟩ = some (.slice (some ⟨b2, 0, none⟩) M cap2) := S.swap.cell 3)
      go_simp
    · rintro f a' W h4 hd ⟨hh, rfl, S⟩
      refine wpOp_run (v := .pointer (some ⟨g, 0, none⟩)) rfl rfl (fun ρ hρ => ?_) ⟨hh, (acts_some 4 rfl (by kernel_rfl) (by kernel_rfl)).symm, S⟩
      have e0 : ρ (.tmp 0) = .pointer (some ⟨g, 0, none⟩) := by rw [hρ]; exact (acts_eval_tmp 0 (by kernel_rfl)).trans E0
      clear hρ
      go_simp
    · rintro f a' W h5 hd ⟨hh, rfl, S⟩
      refine wpOp_run (v := .int .i64 x.id) rfl rfl (fun ρ hρ => ?_) ⟨hh, (acts_some 5 rfl (by kernel_rfl) (by kernel_rfl)).symm, S⟩
      have e0 : ρ (.tmp 1) = .int .i64 x.id := by rw [hρ]; exact (acts_eval_tmp 1 (by kernel_rfl)).trans E1
      clear hρ
      go_simp
    · rintro f a' W h6 hd ⟨hh, rfl, S⟩
      refine wpOp_call rfl rfl (fun ρ hρ => ?_) ((rg_owner (S.swap.cell 0) x.id)) ?_
      · skip
        have e0 : ρ (.tmp 45) = .pointer (some ⟨g, 0, none⟩) := by rw [hρ]; exact acts_eval_hit 4 rfl hd.1 (by rw [HSZ]; rfl) (by kernel_rfl)
        have e1 : ρ (.tmp 46) = .int .i64 x.id := by rw [hρ]; exact acts_eval_hit 5 rfl hd.2.1 (by rw [HSZ]; rfl) (by kernel_rfl)
        have ef : ρ (.func 23) = .func (.func 23) #[] #[] := by rw [hρ]; rfl
        clear hρ
        go_simp
      · (rintro e W' ⟨rfl, rfl⟩; rw [HOT.out]; exact ⟨_, rfl, hh, acts_swap rfl (k := 6) rfl (by kernel_rfl) (by kernel_rfl), S⟩)
    · rintro f a' W h7 hd ⟨hh, rfl, S⟩
      refine wpOp_run (v := .pointer (some ⟨b2, T, none⟩)) rfl rfl (fun ρ hρ => ?_) ⟨hh, (acts_some 7 rfl (by kernel_rfl) (by kernel_rfl)).symm, S⟩
      have e0 : ρ (.tmp 44) = .slice (some ⟨b2, 0, none⟩) M cap2 := by rw [hρ]; exact acts_eval_hit 3 rfl hd.1 (by rw [HSZ]; rfl) (by kernel_rfl)
      have e1 : ρ (.tmp 47) = .int .i64 T := by rw [hρ]; exact acts_eval_hit 6 rfl hd.2.1 (by rw [HSZ]; rfl) (by kernel_rfl)
      clear hρ
      go_simp
    · rintro f a' W h8 hd ⟨hh, rfl, S⟩
      (have z11 := no_of hh h8)
      refine wpOp_run (v := .int .i64 y) rfl rfl (fun ρ hρ => ?_) ⟨fun _ => rfl, (acts_some 8 rfl (by kernel_rfl) (by kernel_rfl)).symm, S⟩
      have e0 : ρ (.tmp 48) = .pointer (some ⟨b2, T, none⟩) := by rw [hρ]; exact acts_eval_hit 7 rfl hd.1 (by rw [HSZ]; rfl) (by kernel_rfl)
      clear hρ
      (have z : W.cell? ⟨b2, T, none⟩ = some (.int .i64 y) := (by have z := S.cell T; rw [z11] at z; exact z.trans HCX.out))
      go_simp
    · rintro f a' W h9 hd ⟨hh, rfl, S⟩
      refine wpOp_run (v := .int .i64 (y - 1)) rfl rfl (fun ρ hρ => ?_) ⟨hh, (acts_some 9 rfl (by kernel_rfl) (by kernel_rfl)).symm, S⟩
      have e0 : ρ (.tmp 49) = .int .i64 y := by rw [hρ]; exact acts_eval_hit 8 rfl hd.1 (by rw [HSZ]; rfl) (by kernel_rfl)
      have ec : ∀ v, ρ (.const v) = v := by rw [hρ]; exact fun _ => rfl
      clear hρ
      (have hwr : IntKind.i64.wrap (y - 1) = y - 1 := IntWalk.i64_in _ (by omega))
      go_simp
    · rintro f a' W h10 hd ⟨hh, rfl, S⟩
      refine wpOp_run (v := .pointer (some ⟨b2, T, none⟩)) rfl rfl (fun ρ hρ => ?_) ⟨hh, (acts_some 10 rfl (by kernel_rfl) (by kernel_rfl)).symm, S⟩
      have e0 : ρ (.tmp 44) = .slice (some ⟨b2, 0, none⟩) M cap2 := by rw [hρ]; exact acts_eval_hit 3 rfl hd.1 (by rw [HSZ]; rfl) (by kernel_rfl)
      have e1 : ρ (.tmp 47) = .int .i64 T := by rw [hρ]; exact acts_eval_hit 6 rfl hd.2.1 (by rw [HSZ]; rfl) (by kernel_rfl)
      clear hρ
      go_simp
    · rintro f a' W h11 hd ⟨hh, rfl, S⟩
      have q51 : (acts [(0, 41, .pointer (some ⟨g, 0, none⟩)), (1, 42, .pointer (some ⟨g, 0, none⟩)), (2, 43, .pointer (some ⟨g, 3, none⟩)), (3, 44, .slice (some ⟨b2, 0, none⟩) M cap2), (4, 45, .pointer (some ⟨g, 0, none⟩)), (5, 46, .int .i64 x.id), (6, 47, .int .i64 T), (7, 48, .pointer (some ⟨b2, T, none⟩)), (8, 49, .int .i64 y), (9, 50, .int .i64 (y - 1)), (10, 51, .pointer (some ⟨b2, T, none⟩))] f a0).eval (.tmp 51) = .pointer (some ⟨b2, T, none⟩) := acts_eval_hit 10 rfl hd.1 (by rw [HSZ]; rfl) (by kernel_rfl)
      have q50 : (acts [(0, 41, .pointer (some ⟨g, 0, none⟩)), (1, 42, .pointer (some ⟨g, 0, none⟩)), (2, 43, .pointer (some ⟨g, 3, none⟩)), (3, 44, .slice (some ⟨b2, 0, none⟩) M cap2), (4, 45, .pointer (some ⟨g, 0, none⟩)), (5, 46, .int .i64 x.id), (6, 47, .int .i64 T), (7, 48, .pointer (some ⟨b2, T, none⟩)), (8, 49, .int .i64 y), (9, 50, .int .i64 (y - 1)), (10, 51, .pointer (some ⟨b2, T, none⟩))] f a0).eval (.tmp 50) = .int .i64 (y - 1) := acts_eval_hit 9 rfl hd.2.1 (by rw [HSZ]; rfl) (by kernel_rfl)
      (simp only [h11, cond_false] at S; refine wpOp_list rfl ?_; refine st_set rfl _ _ _ rfl _ _ _ q51 q50 rfl _ _ S (by kernel_rfl) HTC.out fun W' S' => ?_; exact ⟨fun _ => hd.2.2.2.2.2.2.2.2.2.2.2.1, (acts_none 11 (by kernel_rfl)).symm, S'⟩)
  rintro a' W ⟨-, rfl, S3⟩
  subst ha0
  simp only [acts, if_true, Act.put, List.setIfInBounds_toArray, List.set_cons_succ, List.set_cons_zero]
  clear S2 HSZ E0 E1
  have c2 := S3.swap.cell 2
  have S4 := S3.re [2, 0, 1]
  clear S3
  have hdl := del_one (F := F.set i' (entDo x e)) (i := i') S4 (by rw [List.length_set, ← HN.out]; exact hiF) (by rw [List.length_set, ← HN.out]; exact hfew)
  rw [take_set_self, show ((i' + 1 : Nat) : Int) = (i' : Int) + 1 by omega] at hdl
  obtain ⟨F2, hF2⟩ : ∃ F2, F2 = F.take i' ++ F.drop (i' + 1) := ⟨_, rfl⟩
  rw [← hF2] at hdl hK
  clear hF2
  clear S4
  rw [HV.out] at c2 hdl
  go_wp2_with fail
  (with_reducible refine hdl.mono ?_)
  clear hdl c2
  rintro e1 w5 ⟨v', rfl, S5⟩
  obtain ⟨A', c', rfl, -⟩ := S5.ownSlice
  have S6 := S5.pull2
  have c2 := S6.cell 2
  have f2 := S6.frozen 2
  have S7 := S6.setCell 2 (.slice A' F2.length c')
  clear S5 S6
  go_upto_region 9 with fail
  refine wp_world S7 fun w6 S8 => ?_
  clear S7 c2 f2
  have T1 := S8.re [3, 4, 0, 1, 2]
  clear S8
  refine wp_act fun a0 ha0 => ?_
  have HSZ : a0.tmps.size = 65 := by rw [ha0]; rfl
  have E11 : a0.eval (.tmp 11) = .int .i64 er := by rw [ha0]; rfl
  have E12 : a0.eval (.tmp 12) = .pointer (some ⟨z, 0, none⟩) := by rw [ha0]; rfl
  have E7 : a0.eval (.tmp 7) = .pointer (some ⟨a, 0, none⟩) := by rw [ha0]; rfl
  refine wp_region_sat (by kernel_rfl) 4 (by kernel_rfl) [[], [], [0, 0], [1, 2, 0, 1, 2]] (by kernel_rfl) (by kernel_rfl) [(0, 63, .int .i64 er), (1, 64, .agg #[.int .i64 cd, .bool cn]), (2, 6, .int .i64 er)] (fun f => blk a (cond (f 3) #[.int .i64 cd, .bool cn] #[.int .i64 0, .bool false]) 41 :: blk z #[.int .i64 cd, .bool cn] 41 :: blk g #[.int .i64 ten, .int .i64 quo, .slice A' F2.length c', .slice (some ⟨b2, 0, none⟩) M cap2, .int .i64 last] 67 :: ownS 72 11 (.slice A' F2.length c') F2.length (encs Ent.enc F2) :: blk b2 (cur2.setIfInBounds T (.int .i64 (y - 1))) 3 :: l) (by kernel_rfl) T1 ?_ ?_
  · refine ⟨?_, ?_, ?_, ?_, trivial⟩
    · intro f W h0 hd S
      refine wpOp_run (v := .int .i64 er) rfl rfl (fun ρ hρ => ?_) ⟨(acts_some 0 rfl (by kernel_rfl) (by kernel_rfl)).symm, S⟩
      have e0 : ρ (.tmp 11) = .int .i64 er := by rw [hρ]; exact (acts_eval_tmp 11 (by kernel_rfl)).trans E11
      clear hρ
      go_simp
    · intro f W h1 hd S
      refine wpOp_list rfl ?_
      refine st_load rfl _ _ rfl _ ((acts_eval_tmp 12 (by kernel_rfl)).trans E12) _ _ (S.swap) _ rfl rfl rfl ?_
      exact ⟨(acts_some 1 rfl (by kernel_rfl) (by kernel_rfl)).symm, S⟩
    · intro f W h2 hd S
      refine wpOp_run (v := .int .i64 er) rfl rfl (fun ρ hρ => ?_) ⟨(acts_some 2 rfl (by kernel_rfl) (by kernel_rfl)).symm, S⟩
      have e0 : ρ (.tmp 63) = .int .i64 er := by rw [hρ]; exact acts_eval_hit 0 rfl hd.1 (by rw [HSZ]; rfl) (by kernel_rfl)
      clear hρ
      go_simp
    · intro f W h3 hd S
      rw [h3] at S
      refine wpOp_list rfl ?_
      refine st_store rfl _ _ _ rfl _ _ ((acts_eval_tmp 7 (by kernel_rfl)).trans E7) (acts_eval_hit 1 rfl hd.1 (by rw [HSZ]; rfl) (by kernel_rfl)) _ _ (S) rfl rfl (by simp [Value.oneCell']) fun W' S' => ?_
      exact ⟨(acts_none 3 (by kernel_rfl)).symm, S'⟩
  intro W9 T2
  subst ha0
  simp only [acts, if_true, Act.put, List.setIfInBounds_toArray, List.set_cons_succ, List.set_cons_zero]
  change Sat _ _ (blk a #[.int .i64 cd, .bool cn] _ :: _) at T2
  have HT2 := Lib.hid T2
  clear T2 T1 HSZ E7 E11 E12
  go_wp2_with fail
  refine bodyPost_ret (results_t_cell rfl _ _ _ _ _ _ rfl (HT2.out).blk_at Tryd.underlying41 rfl (by kernel_rfl)) rfl ?_
  refine hK.out _ _ ⟨rfl, ?_⟩
  have T3 := HT2.out.drop.drop
  have hset := HLA.out.set (i := T) HTL.out (y - 1)
  have T4 := (T3.re [2, 0, 1]).layClose (cur := cur2.setIfInBounds T (.int .i64 (y - 1))) (F := L.set T (y - 1)) (by simpa [lenc, setMid] using hset) HCP.out M (by rw [List.length_set]; exact HM.out)
  exact rg_iff.2 ⟨_, _, T4.re [1, 2, 0]⟩
theorem rg_do (H : Sat G w (rgA g ten quo F L last :: l)) (hw : RWf ten quo F L last) (hF : Rising F) (ht : TabG G) (hb : ∀ x ∈ F, ∀ y ∈ x.C, 0 ≤ y ∧ y ≤ 1000) (id e : Int) :
    Calls Tryd.prog 13 #[.pointer (some ⟨g, 0, none⟩), .int .i64 id, .int .i64 e] w fun y w' => y = .returned (.tuple #[.int .i64 (gDo ten F L id e).err, .agg #[.int .i64 (gDo ten F L id e).code, .bool (gDo ten F L id e).conn]]) ∧ Sat G w' (rgA g ten quo (gDo ten F L id e).F (gDo ten F L id e).L last :: l) := by
  by_cases h : ∃ x ∈ F, x.id = id
  · obtain ⟨x, hx, rfl⟩ := h
    obtain ⟨i, hi⟩ := List.mem_iff_getElem?.1 hx
    have e1 : gDo ten F L x.id e = gDoAt ten F L i x e := by
      unfold gDo
      rw [atE_some hF hi]
      simp only [hi]
    rw [e1]
    have e2 : (gDoAt ten F L i x e).err = (pDo x.n e).err ∧ (gDoAt ten F L i x e).code = (pDo x.n e).code ∧ (gDoAt ten F L i x e).conn = (pDo x.n e).conn := by
      unfold gDoAt; split <;> exact ⟨rfl, rfl, rfl⟩
    rw [e2.1, e2.2.1, e2.2.2]
    by_cases h4 : (pDo x.n e).n = 4
    · exact rg_do_gone H hw hF ht i x hi (hb x hx) e h4
    · exact rg_do_stay H hw hF ht i x hi (hb x hx) e h4
  · have hno : ∀ x ∈ F, x.id ≠ id := fun x hx e => h ⟨x, hx, e⟩
    have e1 : gDo ten F L id e = ⟨F, L, 14, 0, false⟩ := by
      unfold gDo
      rw [atE_none hno]
    rw [e1]
    exact rg_do_none H hF hw.few id e hno
end
end Go.Proofs.YtecnddhfjjnbkaaDoor

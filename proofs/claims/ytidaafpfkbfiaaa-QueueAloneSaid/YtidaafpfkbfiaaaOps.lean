/- What came in: calls, cases; the walk over right. -/
import Derived.Test.YtidaafpfkbfiaaaAwq
set_option linter.unusedSimpArgs false
set_option linter.unusedVariables false
namespace Go.Proofs.Ytidaafpfkbfiaaa
open Go.RowKit

theorem rd_int1 {R : Hp} {k : IntKind} {d : D} {c : List Value} (h : Rd R (.int k) d c) : ∃ n, c = [.int k n] ∧ (Lit.int k n).wf = true := by
  cases d <;> simp only [Rd] at h
  exact ⟨_, h.1, h.2⟩
theorem rd_bytes1 {R : Hp} {d : D} {c : List Value} (hl : c.length = 1) (h : Rd R (.sl 1 (.int .u8)) d c) : ∃ v t, c = [v] ∧ SlB (cellR R) v t ∧ t.length ≤ 140737488351232 := by
  obtain ⟨l, rfl⟩ : ∃ l, d = .sl l := by cases d <;> (try simp only [Rd] at h) <;> exact ⟨_, rfl⟩
  obtain ⟨v, rfl⟩ : ∃ v, c = [v] := by
    match c, hl with
    | [v], _ => exact ⟨v, rfl⟩
  have h3' : RdSl R 1 (.int .u8) v l := by simpa only [RdSl, Rd] using h
  obtain ⟨bs, e1, e2, e3⟩ := slb_of h3'
  exact ⟨v, bs, rfl, e3, e2⟩
theorem rdAll_cons {R : Hp} {t : Ty} {ts : List Ty} {ds : List D} {cs : List Value} (h : RdAll R (t :: ts) ds cs) : ∃ d ds' c cs', ds = d :: ds' ∧ cs = c ++ cs' ∧ c.length = t.size ∧ Rd R t d c ∧ RdAll R ts ds' cs' := by
  cases ds with
  | nil => simp [RdAll] at h
  | cons d ds =>
    simp only [RdAll] at h
    obtain ⟨c1, c2, rfl, h1, h2, h3⟩ := h
    exact ⟨d, ds, c1, c2, rfl, rfl, h1, h2, h3⟩
theorem rdAll_nil {R : Hp} {ds : List D} {cs : List Value} (h : RdAll R [] ds cs) : cs = [] := by
  cases ds with
  | nil => simpa [RdAll] using h
  | cons d ds => simp [RdAll] at h
theorem rd_item {R : Hp} {d : D} {es : List Value} (h : Rd R (Ty.agg [.int .i64, .sl 1 (.int .u8), .sl 1 (.int .u8)]) d es) : ∃ x : Qe, es = x.enc ∧ x.ok R ∧ x.h.length ≤ 140737488351232 ∧ x.b.length ≤ 140737488351232 := by
  obtain ⟨ds, rfl⟩ : ∃ ds, d = .agg ds := by cases d <;> (try simp only [Rd] at h) <;> exact ⟨_, rfl⟩
  simp only [Rd] at h
  obtain ⟨_, _, c0, _, rfl, rfl, _, r0, h⟩ := rdAll_cons h
  obtain ⟨_, _, c1, _, rfl, rfl, l1, r1, h⟩ := rdAll_cons h
  obtain ⟨_, _, c2, _, rfl, rfl, l2, r2, h⟩ := rdAll_cons h
  obtain rfl := rdAll_nil h
  obtain ⟨m, rfl, -⟩ := rd_int1 r0
  obtain ⟨v1, b1, rfl, s1, z1⟩ := rd_bytes1 l1 r1
  obtain ⟨v2, b2, rfl, s2, z2⟩ := rd_bytes1 l2 r2
  exact ⟨⟨m, v1, v2, b1, b2⟩, rfl, ⟨s1, s2⟩, z1, z2⟩
theorem arg_item {w : World} {v : Value} {d : D} (h : ArgV w (Ty.agg [.int .i64, .sl 1 (.int .u8), .sl 1 (.int .u8)]) v d) : ∃ x : Qe, v = .agg x.enc.toArray ∧ x.ok (Gnd.of w).ro ∧ x.h.length ≤ 140737488351232 ∧ x.b.length ≤ 140737488351232 := by
  obtain ⟨cs, rfl, h⟩ := h
  obtain ⟨x, e, r⟩ := rd_item h
  exact ⟨x, by rw [show cs = x.enc.toArray from Array.toList_inj.1 (by rw [e])], r⟩
structure OpD where
  k : Int
  t : Int
  n : Int
  x : Qe
def OpD.cells (o : OpD) : List Value := .int .i64 o.k :: .int .i64 o.t :: .int .i64 o.n :: o.x.enc
def in64 (x : Int) : Prop := -9223372036854775808 ≤ x ∧ x ≤ 9223372036854775807
structure OpD.ok (o : OpD) (R : Hp) : Prop where
  x : o.x.ok R
  h : o.x.h.length ≤ 140737488351232
  b : o.x.b.length ≤ 140737488351232
  t : in64 o.t
  n : in64 o.n
theorem rd_op {R : Hp} {d : D} {es : List Value} (h : Rd R (Ty.agg [.int .i64, .int .i64, .int .i64, (Ty.agg [.int .i64, .sl 1 (.int .u8), .sl 1 (.int .u8)])]) d es) : ∃ o : OpD, es = o.cells ∧ o.ok R := by
  have bd : ∀ {x : Int}, (Lit.int .i64 x).wf = true → in64 x := fun h => by simp [Lit.wf] at h; exact h
  obtain ⟨ds, rfl⟩ : ∃ ds, d = .agg ds := by cases d <;> (try simp only [Rd] at h) <;> exact ⟨_, rfl⟩
  simp only [Rd] at h
  obtain ⟨_, _, c0, _, rfl, rfl, _, r0, h⟩ := rdAll_cons h
  obtain ⟨_, _, c1, _, rfl, rfl, _, r1, h⟩ := rdAll_cons h
  obtain ⟨_, _, c2, _, rfl, rfl, _, r2, h⟩ := rdAll_cons h
  obtain ⟨_, _, c3, _, rfl, rfl, _, r3, h⟩ := rdAll_cons h
  obtain rfl := rdAll_nil h
  obtain ⟨m0, rfl, -⟩ := rd_int1 r0
  obtain ⟨m1, rfl, w1⟩ := rd_int1 r1
  obtain ⟨m2, rfl, w2⟩ := rd_int1 r2
  obtain ⟨x, rfl, hx, z1, z2⟩ := rd_item r3
  exact ⟨⟨m0, m1, m2, x⟩, by simp [OpD.cells], hx, z1, z2, bd w1, bd w2⟩
/-- A slice of calls that nobody turns. -/
def ROps (R : Hp) (v : Value) (ops : List OpD) : Prop :=
  ∃ A c, v = .slice A ops.length c ∧ ops.length ≤ c ∧ c ≤ 9223372036854775807 ∧ ∀ i o, ops[i]? = some o → ∃ a b off, A = some a ∧ a.add (i * 6) = ⟨b, off, none⟩ ∧ (∀ j u, o.cells[j]? = some u → cellR R ⟨b, off + j, none⟩ = some u) ∧ o.ok R
theorem ROps.nil (R : Hp) : ROps R (.slice none 0 0) [] := ⟨none, 0, rfl, Nat.le_refl _, by omega, fun i o h => by simp at h⟩
theorem ops_of {R : Hp} {v : Value} {l : List D} (h : RdSl R 80 (Ty.agg [.int .i64, .int .i64, .int .i64, (Ty.agg [.int .i64, .sl 1 (.int .u8), .sl 1 (.int .u8)])]) v l) : ∃ ops, ROps R v ops := by
  obtain ⟨A, c, hv, hlc, hc, hb, _, hel⟩ := h.form
  have key : ∀ i, i < l.length → ∃ o : OpD, ∃ a b off, A = some a ∧ a.add (i * 6) = ⟨b, off, none⟩ ∧ (∀ j u, o.cells[j]? = some u → cellR R ⟨b, off + j, none⟩ = some u) ∧ o.ok R := fun i hi => by
    obtain ⟨a, hA, es, he, hcl, hr⟩ := hel i l[i] (List.getElem?_eq_getElem hi)
    obtain ⟨o, rfl, hx⟩ := rd_op hr
    have hz : ∀ j, j < 6 → cellR R (a.add (i * 6 + j)) = o.cells[j]? := fun j hj => hcl j hj
    obtain ⟨b, off, hab⟩ : ∃ b off, a.add (i * 6) = ⟨b, off, none⟩ := by
      have h0 := hz 0 (by omega)
      rcases hx : a.add (i * 6) with ⟨b, off, sp⟩
      cases sp with
      | none => exact ⟨b, off, rfl⟩
      | some s =>
        rw [Nat.add_zero, hx] at h0
        simp only [cellR] at h0
        split at h0 <;> simp [OpD.cells] at h0
    have hj : ∀ j, a.add (i * 6 + j) = ⟨b, off + j, none⟩ := fun j => by
      rw [← add_add_all, hab]; unfold Addr.add; split <;> simp_all
    refine ⟨o, a, b, off, hA, hab, fun j u hu => ?_, hx⟩
    have hlt : j < 6 := (List.getElem?_eq_some_iff.1 hu).1
    rw [← hj j, hz j hlt, hu]
  obtain ⟨fl, hl, hfl⟩ := list_of_each (Q := fun i (o : OpD) => ∃ a b off, A = some a ∧ a.add (i * 6) = ⟨b, off, none⟩ ∧ (∀ j u, o.cells[j]? = some u → cellR R ⟨b, off + j, none⟩ = some u) ∧ o.ok R) l.length key
  exact ⟨fl, A, c, by rw [hl]; exact hv, by rw [hl]; exact hlc, hc, hfl⟩
def wgt (o : OpD) : Nat := 2 + (o.x.h.length + o.x.b.length) / 20
def osum (L : List OpD) : Nat := (L.map wgt).sum
theorem osum_take {L : List OpD} {k : Nat} {o : OpD} (h : L[k]? = some o) : osum (L.take (k + 1)) = osum (L.take k) + wgt o := by
  unfold osum
  rw [take_snoc h, List.map_append, List.sum_append]; simp
theorem osum_le {L : List OpD} (k : Nat) : osum (L.take k) ≤ osum L := by
  unfold osum
  conv => rhs; rw [← List.take_append_drop k L, List.map_append, List.sum_append]
  omega
theorem osum_len (L : List OpD) : 2 * L.length ≤ osum L := by
  induction L with
  | nil => simp
  | cons o L ih => simp only [osum, List.map_cons, List.sum_cons, List.length_cons] at ih ⊢; unfold wgt at ih ⊢; omega
section
variable {G : Gnd} {w w' : World} {l : List Asrt}
set_option maxHeartbeats 4000000 in
theorem law_right (H : Sat G w l) (t b i : Int) (v : Value) (ops : List OpD) (hv : ROps G.ro v ops) : Calls Try.prog 14 #[.agg #[.int .i64 t, .int .i64 b, .int .i64 i, v]] w fun e w' => e = .returned (.bool (decide (osum ops ≤ 200) && qRight t b i)) ∧ Sat G w' l := by
  refine calls_any fun K hK => ?_
  obtain ⟨A, c, rfl, hlc, hc, hel⟩ := hv
  have HEL := Lib.hid hel
  clear hel
  have S1 := H.newBlk #[.int .i64 t, .int .i64 b, .int .i64 i, .slice A ops.length c] 41
  have HOT := Lib.hid fun k o (h : ops[k]? = some o) => osum_take h
  have HOL := Lib.hid fun k => osum_le (L := ops) k
  clear H
  go_enter Try.func14, Try.ntmps14
  go_wp2_with fail
  generalize w.heap.size = p at *
  go_loopw [3, 9] (fun s j wr => ∃ k : Nat, k ≤ ops.length ∧ j = .int .i64 k ∧ s = .int .i64 (osum (ops.take k)) ∧ osum (ops.take k) ≤ 200 ∧ Sat G wr (blk p #[.int .i64 t, .int .i64 b, .int .i64 i, .slice A ops.length c] 41 :: l)) (fun _ j _ => ops.length - (intOf j).toNat)
  case atStart => exact ⟨0, Nat.zero_le _, rfl, by simp [osum], by simp [osum], S1⟩
  case round =>
    obtain ⟨k, hk, rfl, rfl, hs, S⟩ := hrel
    clear S1
    by_cases hlt : k < ops.length
    · have hok := List.getElem?_eq_getElem hlt
      obtain ⟨ad, bo, off, rfl, had, hcl, ho⟩ := HEL.out k _ hok
      have hot := HOT.out k _ hok
      have hol := HOL.out (k + 1)
      generalize ops[k] = o at *
      obtain ⟨ok, ot, on, ⟨xn, hv, bv, h, bb⟩⟩ := o
      obtain ⟨hx, hh, hb, -, -⟩ := ho
      obtain ⟨A1, c1, B1, d1, e1, e2⟩ := qe_slices hx
      simp only at e1 e2 hh hb
      subst e1
      subst e2
      simp only [OpD.cells, Qe.enc] at hcl
      have d0 := S.cellR (hcl 0 _ rfl)
      have d1' := S.cellR (hcl 1 _ rfl)
      have d2 := S.cellR (hcl 2 _ rfl)
      have d3 := S.cellR (hcl 3 _ rfl)
      have d4 := S.cellR (hcl 4 _ rfl)
      have d5 := S.cellR (hcl 5 _ rfl)
      rw [Nat.add_zero] at d0
      have hwg : wgt ⟨ok, ot, on, ⟨xn, .slice A1 h.length c1, .slice B1 bb.length d1, h, bb⟩⟩ = 2 + (h.length + bb.length) / 20 := rfl
      rw [hwg] at hot
      have S2 := S.newBlk #[.int .i64 ok, .int .i64 ot, .int .i64 on, .int .i64 xn, .slice A1 h.length c1, .slice B1 bb.length d1] 46
      have HS2 := Lib.hid S2
      have hw1 : IntKind.i64.wrap ((h.length : Int) + bb.length) = ((h.length + bb.length : Nat) : Int) := by rw [IntWalk.i64_in _ (by omega)]; simp
      have htd : ((h.length + bb.length : Nat) : Int).tdiv 20 = (((h.length + bb.length) / 20 : Nat) : Int) := by rw [Int.tdiv_eq_ediv_of_nonneg (by omega)]; norm_cast
      have HOTT := Lib.hid hot
      have hdl : (h.length + bb.length) / 20 ≤ 281474976710656 := by omega
      obtain ⟨s2, hs2⟩ : ∃ s2, s2 = osum (ops.take (k + 1)) := ⟨_, rfl⟩
      rw [← hs2] at hot hol
      have HSS := Lib.hid hs2
      have HOL2 := Lib.hid hol
      clear hcl hx S S2 hok hwg hs2 hol HOTT
      obtain ⟨q, hq⟩ : ∃ q, q = (h.length + bb.length) / 20 := ⟨_, rfl⟩
      rw [← hq] at hot htd hdl
      clear hq
      obtain ⟨hb2, hhb⟩ : ∃ hb2, hb2 = h.length + bb.length := ⟨_, rfl⟩
      rw [← hhb] at hw1 htd
      clear hhb
      generalize osum (ops.take k) = s at *
      have hw2 : IntKind.i64.wrap (2 + (q : Int)) = ((2 + q : Nat) : Int) := by rw [IntWalk.i64_in _ (by omega)]; simp
      have hw3 : IntKind.i64.wrap ((s : Int) + ((2 + q : Nat) : Int)) = (s2 : Int) := by rw [IntWalk.i64_in _ (by omega)]; omega
      have hw4 : IntKind.i64.wrap ((s : Int) + (2 + (q : Int))) = (s2 : Int) := by rw [IntWalk.i64_in _ (by omega)]; omega
      have HOT3 := Lib.hid hot
      clear hot
      by_cases hgt : 200 < s2
      · have hgt2 : (200 : Int) < (s2 : Int) := by omega
        go_wp2_with fail
        have hf : decide (osum ops ≤ 200) = false := decide_eq_false (by have := HOL2.out; omega)
        rw [hf, Bool.false_and] at hK
        exact hK.out _ _ ⟨rfl, HS2.out.drop.drop⟩
      · have hgt2 : ¬ ((200 : Int) < (s2 : Int)) := by omega
        go_wp2_with fail
        go_roundw
        case rel => exact ⟨k + 1, by omega, by go_num, by rw [← HSS.out], by rw [← HSS.out]; omega, HS2.out.drop⟩
        case measure => simp [intOf]; omega
    · obtain rfl : k = ops.length := by omega
      rw [List.take_length] at hs
      have c0 := S.cell 0
      have c1 := S.cell 1
      have c2 := S.cell 2
      rw [decide_eq_true hs, Bool.true_and] at hK
      have HS := Lib.hid S
      clear S HEL
      unfold qRight at hK
      by_cases a1 : t < 1
      · rw [decide_eq_false (by omega)] at hK
        go_wp2_with fail
        exact hK.out _ _ ⟨rfl, HS.out.drop⟩
      by_cases a2 : 64 < t
      · rw [decide_eq_false (by omega)] at hK
        go_wp2_with fail
        exact hK.out _ _ ⟨rfl, HS.out.drop⟩
      by_cases a3 : b < 0
      · rw [decide_eq_false (by omega)] at hK
        go_wp2_with fail
        exact hK.out _ _ ⟨rfl, HS.out.drop⟩
      by_cases a4 : 1048576 < b
      · rw [decide_eq_false (by omega)] at hK
        go_wp2_with fail
        exact hK.out _ _ ⟨rfl, HS.out.drop⟩
      by_cases a5 : i < 1
      · rw [decide_eq_false (by omega)] at hK
        go_wp2_with fail
        exact hK.out _ _ ⟨rfl, HS.out.drop⟩
      by_cases a6 : 4096 < i
      · rw [decide_eq_false (by omega)] at hK
        go_wp2_with fail
        exact hK.out _ _ ⟨by first | rfl | rw [decide_eq_false (by omega)], HS.out.drop⟩
      · rw [decide_eq_true (by omega)] at hK
        go_wp2_with fail
        exact hK.out _ _ ⟨rfl, HS.out.drop⟩
end
end Go.Proofs.Ytidaafpfkbfiaaa

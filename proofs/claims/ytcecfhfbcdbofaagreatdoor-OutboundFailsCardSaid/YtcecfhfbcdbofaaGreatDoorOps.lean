/- outbound's laws: a case and its calls; right; item. outbound's laws: item. outbound: Empty. A slice of one's own that begins in the midst of its block: it grows by append, and is cut at its head. The law's lists of numbers that wait, one for each tenant. OutboundEmpties, in plain Lean: what a submission and a slot do to what waits. OutboundEmpties: sums, what is emptied, the elements of lists of one's own. -/
import Derived.Test.YtcecfhfbcdbofaaGreatDoorLawNew
import Derived.Deep.Cut
set_option linter.unusedSimpArgs false
set_option linter.unusedVariables false
namespace Go.Proofs.YtcecfhfbcdbofaaGreatDoor
open Go.RowKit
attribute [local go_sem] Oper.semAt_some

theorem rd_int2 {R : Hp} {k : IntKind} {d : D} {c : List Value} (h : Rd R (.int k) d c) : ∃ n, c = [.int k n] ∧ (Lit.int k n).wf = true := by
  cases d <;> simp only [Rd] at h
  exact ⟨_, h.1, h.2⟩
theorem rd_cfg_o {R : Hp} {d : D} {c : List Value} (h : Rd R (Ty.agg [.int .i64, .int .i64, .int .i64, .int .i64, .int .i64]) d c) : ∃ t z b i q : Int, c = [.int .i64 t, .int .i64 z, .int .i64 b, .int .i64 i, .int .i64 q] := by
  obtain ⟨ds, rfl⟩ : ∃ ds, d = .agg ds := by cases d <;> (try simp only [Rd] at h) <;> exact ⟨_, rfl⟩
  simp only [Rd] at h
  obtain ⟨_, _, c0, _, rfl, rfl, _, r0, h⟩ := rdAll_cons h
  obtain ⟨_, _, c1, _, rfl, rfl, _, r1, h⟩ := rdAll_cons h
  obtain ⟨_, _, c2, _, rfl, rfl, _, r2, h⟩ := rdAll_cons h
  obtain ⟨_, _, c3, _, rfl, rfl, _, r3, h⟩ := rdAll_cons h
  obtain ⟨_, _, c4, _, rfl, rfl, _, r4, h⟩ := rdAll_cons h
  obtain rfl := rdAll_nil h
  obtain ⟨m0, rfl⟩ := rd_int1 r0
  obtain ⟨m1, rfl⟩ := rd_int1 r1
  obtain ⟨m2, rfl⟩ := rd_int1 r2
  obtain ⟨m3, rfl⟩ := rd_int1 r3
  obtain ⟨m4, rfl⟩ := rd_int1 r4
  exact ⟨m0, m1, m2, m3, m4, rfl⟩
/-- A call: kind, tenant, number of a stream, size, body, event. -/
structure OpD where
  k : Int
  t : Int
  d : Int
  a : Int
  v : Value
  bs : List UInt8
  ev : Int
def OpD.cells (o : OpD) : List Value := [.int .i64 o.k, .int .i64 o.t, .int .i64 o.d, .int .i64 o.a, o.v, .int .i64 o.ev]
structure OpD.ok (o : OpD) (R : Hp) : Prop where
  x : SlB (Go.Proofs.YtcecfhfbcdbofaaGreatDoor.cellR R) o.v o.bs
  b : o.bs.length ≤ 140737488351232
  dw : (Lit.int .i64 o.d).wf = true
theorem rd_op {R : Hp} {d : D} {es : List Value} (h : Rd R (Ty.agg [.int .i64, .int .i64, .int .i64, .int .i64, .sl 1 (.int .u8), .int .i64]) d es) : ∃ o : OpD, es = o.cells ∧ o.ok R := by
  obtain ⟨ds, rfl⟩ : ∃ ds, d = .agg ds := by cases d <;> (try simp only [Rd] at h) <;> exact ⟨_, rfl⟩
  simp only [Rd] at h
  obtain ⟨_, _, c0, _, rfl, rfl, _, r0, h⟩ := rdAll_cons h
  obtain ⟨_, _, c1, _, rfl, rfl, _, r1, h⟩ := rdAll_cons h
  obtain ⟨_, _, c2, _, rfl, rfl, _, r2, h⟩ := rdAll_cons h
  obtain ⟨_, _, c3, _, rfl, rfl, _, r3, h⟩ := rdAll_cons h
  obtain ⟨_, _, c4, _, rfl, rfl, l4, r4, h⟩ := rdAll_cons h
  obtain ⟨_, _, c5, _, rfl, rfl, _, r5, h⟩ := rdAll_cons h
  obtain rfl := rdAll_nil h
  obtain ⟨m0, rfl⟩ := rd_int1 r0
  obtain ⟨m1, rfl⟩ := rd_int1 r1
  obtain ⟨m2, rfl, w2⟩ := rd_int2 r2
  obtain ⟨m3, rfl⟩ := rd_int1 r3
  obtain ⟨v, bs, rfl, s4, z4⟩ := rd_bytes1 l4 r4
  obtain ⟨m5, rfl⟩ := rd_int1 r5
  exact ⟨⟨m0, m1, m2, m3, v, bs, m5⟩, rfl, s4, z4, w2⟩
/-- A slice of calls that nobody turns. -/
def ROps (R : Hp) (v : Value) (ops : List OpD) : Prop :=
  ∃ A c, v = .slice A ops.length c ∧ ops.length ≤ c ∧ c ≤ 9223372036854775807 ∧ ∀ i o, ops[i]? = some o → ∃ a b off, A = some a ∧ a.add (i * 6) = ⟨b, off, none⟩ ∧ (∀ j u, o.cells[j]? = some u → Go.Proofs.YtcecfhfbcdbofaaGreatDoor.cellR R ⟨b, off + j, none⟩ = some u) ∧ o.ok R
theorem ROps.nil (R : Hp) : ROps R (.slice none 0 0) [] := ⟨none, 0, rfl, Nat.le_refl _, by omega, fun i o h => by simp at h⟩
theorem ops_of {R : Hp} {v : Value} {l : List D} (h : RdSl R 64 (Ty.agg [.int .i64, .int .i64, .int .i64, .int .i64, .sl 1 (.int .u8), .int .i64]) v l) : ∃ ops, ROps R v ops := by
  obtain ⟨A, c, hv, hlc, hc, hb, _, hel⟩ := h.form
  have key : ∀ i, i < l.length → ∃ o : OpD, ∃ a b off, A = some a ∧ a.add (i * 6) = ⟨b, off, none⟩ ∧ (∀ j u, o.cells[j]? = some u → Go.Proofs.YtcecfhfbcdbofaaGreatDoor.cellR R ⟨b, off + j, none⟩ = some u) ∧ o.ok R := fun i hi => by
    obtain ⟨a, hA, es, he, hcl, hr⟩ := hel i l[i] (List.getElem?_eq_getElem hi)
    obtain ⟨o, rfl, hx⟩ := rd_op hr
    have hz : ∀ j, j < 6 → Go.Proofs.YtcecfhfbcdbofaaGreatDoor.cellR R (a.add (i * 6 + j)) = o.cells[j]? := fun j hj => hcl j hj
    obtain ⟨b, off, hab⟩ : ∃ b off, a.add (i * 6) = ⟨b, off, none⟩ := by
      have h0 := hz 0 (by omega)
      rcases hx : a.add (i * 6) with ⟨b, off, sp⟩
      cases sp with
      | none => exact ⟨b, off, rfl⟩
      | some s =>
        rw [Nat.add_zero, hx] at h0
        simp only [Go.Proofs.YtcecfhfbcdbofaaGreatDoor.cellR] at h0
        split at h0 <;> simp [OpD.cells] at h0
    have hj : ∀ j, a.add (i * 6 + j) = ⟨b, off + j, none⟩ := fun j => by
      rw [← add_add_all, hab]; unfold Addr.add; split <;> simp_all
    refine ⟨o, a, b, off, hA, hab, fun j u hu => ?_, hx⟩
    have hlt : j < 6 := (List.getElem?_eq_some_iff.1 hu).1
    rw [← hj j, hz j hlt, hu]
  obtain ⟨fl, hl, hfl⟩ := list_of_each (Q := fun i (o : OpD) => ∃ a b off, A = some a ∧ a.add (i * 6) = ⟨b, off, none⟩ ∧ (∀ j u, o.cells[j]? = some u → Go.Proofs.YtcecfhfbcdbofaaGreatDoor.cellR R ⟨b, off + j, none⟩ = some u) ∧ o.ok R) l.length key
  exact ⟨fl, A, c, by rw [hl]; exact hv, by rw [hl]; exact hlc, hc, hfl⟩
theorem arg_case {w : World} {v : Value} {d : D} (h : ArgV w (Ty.agg [(Ty.agg [.int .i64, .int .i64, .int .i64, .int .i64, .int .i64]), (Ty.sl 64 (Ty.agg [.int .i64, .int .i64, .int .i64, .int .i64, .sl 1 (.int .u8), .int .i64]))]) v d) : ∃ (t z b i q : Int) (x : Value) (ops : List OpD), v = .agg #[.int .i64 t, .int .i64 z, .int .i64 b, .int .i64 i, .int .i64 q, x] ∧ ROps (Gnd.of w).ro x ops := by
  obtain ⟨cs, rfl, h⟩ := h
  obtain ⟨ds, rfl⟩ : ∃ ds, d = .agg ds := by cases d <;> (try simp only [Rd] at h) <;> exact ⟨_, rfl⟩
  simp only [Rd] at h
  obtain ⟨_, _, c0, _, rfl, e0, _, r0, h⟩ := rdAll_cons h
  obtain ⟨d3, _, c3, _, rfl, rfl, l3, r3, h⟩ := rdAll_cons h
  obtain rfl := rdAll_nil h
  obtain ⟨t, z, b, i, q, rfl⟩ := rd_cfg_o r0
  obtain ⟨l, rfl⟩ : ∃ l, d3 = D.sl l := by cases d3 <;> (try simp only [Rd] at r3) <;> exact ⟨_, rfl⟩
  obtain ⟨x, rfl⟩ : ∃ x, c3 = [x] := by
    match c3, l3 with
    | [v], _ => exact ⟨v, rfl⟩
  have r3' : RdSl (Gnd.of w).ro 64 (Ty.agg [.int .i64, .int .i64, .int .i64, .int .i64, .sl 1 (.int .u8), .int .i64]) x l := r3
  obtain ⟨ops, hx⟩ := ops_of r3'
  exact ⟨t, z, b, i, q, x, ops, by rw [show cs = #[.int .i64 t, .int .i64 z, .int .i64 b, .int .i64 i, .int .i64 q, x] from Array.toList_inj.1 (by rw [e0]; rfl)], hx⟩
def wgt (o : OpD) : Nat := 2 + o.bs.length / 40
def osum (L : List OpD) : Nat := (L.map wgt).sum
theorem osum_take {L : List OpD} {k : Nat} {o : OpD} (h : L[k]? = some o) : osum (L.take (k + 1)) = osum (L.take k) + wgt o := by
  unfold osum
  rw [take_snoc h, List.map_append, List.sum_append]; simp
theorem osum_le {L : List OpD} (k : Nat) : osum (L.take k) ≤ osum L := by
  unfold osum
  conv => rhs; rw [← List.take_append_drop k L, List.map_append, List.sum_append]
  omega
def opA (o : OpD) : Prop := o.k = 1 → 0 ≤ o.a ∧ o.a ≤ 300
section
variable {G : Gnd} {w w' : World} {l : List Asrt}
set_option maxHeartbeats 8000000 in
set_option maxRecDepth 100000 in
theorem law_right (H : Sat G w l) (t z b i q : Int) (v : Value) (ops : List OpD) (hv : ROps G.ro v ops) : Calls Tryz.prog 7 #[.agg #[.int .i64 t, .int .i64 z, .int .i64 b, .int .i64 i, .int .i64 q, v]] w fun e w' => ∃ r : Bool, e = .returned (.bool r) ∧ (r = true → osum ops ≤ 300 ∧ (∀ o ∈ ops, opA o) ∧ mayB t z b i q = true) ∧ Sat G w' l := by
  refine calls_any fun K hK => ?_
  obtain ⟨A, c, rfl, hlc, hc, hel⟩ := hv
  have HEL := Lib.hid hel
  clear hel
  have S1 := H.newBlk #[.int .i64 t, .int .i64 z, .int .i64 b, .int .i64 i, .int .i64 q, .slice A ops.length c] 26
  have HOT := Lib.hid fun k o (h : ops[k]? = some o) => osum_take h
  have HTS := Lib.hid fun k o (h : ops[k]? = some o) => take_snoc h
  clear H
  go_enter Tryz.func7, Tryz.ntmps7
  go_wp2_with fail
  generalize w.heap.size = p at S1 ⊢
  go_loopw [3, 9] (fun s j wr => ∃ k : Nat, k ≤ ops.length ∧ j = .int .i64 k ∧ s = .int .i64 (osum (ops.take k)) ∧ osum (ops.take k) ≤ 300 ∧ (∀ o ∈ ops.take k, opA o) ∧ Sat G wr (blk p #[.int .i64 t, .int .i64 z, .int .i64 b, .int .i64 i, .int .i64 q, .slice A ops.length c] 26 :: l)) (fun _ j _ => ops.length - (intOf j).toNat)
  case atStart => exact ⟨0, Nat.zero_le _, rfl, by simp [osum], by simp [osum], (fun o ho => by simp at ho), S1⟩
  case round =>
    obtain ⟨k, hk, rfl, rfl, hs, hall, S⟩ := hrel
    clear S1
    by_cases hlt : k < ops.length
    · obtain ⟨o, hok⟩ : ∃ o, ops[k]? = some o := ⟨_, List.getElem?_eq_getElem hlt⟩
      obtain ⟨ad, bo, off, rfl, had, hcl, ho⟩ := HEL.out k _ hok
      have hot := HOT.out k _ hok
      have hts := HTS.out k _ hok
      obtain ⟨ok, ot, od, oa, ov, obs, oe⟩ := o
      obtain ⟨hx, hb, -⟩ := ho
      simp only at hx hb
      obtain ⟨X, cx, rfl, -⟩ := hx.form
      simp only [OpD.cells] at hcl
      have d0 := S.cellR (hcl 0 _ rfl)
      have d1 := S.cellR (hcl 1 _ rfl)
      have d2 := S.cellR (hcl 2 _ rfl)
      have d3 := S.cellR (hcl 3 _ rfl)
      have d4 := S.cellR (hcl 4 _ rfl)
      have d5 := S.cellR (hcl 5 _ rfl)
      rw [Nat.add_zero] at d0
      have hwg : wgt ⟨ok, ot, od, oa, .slice X obs.length cx, obs, oe⟩ = 2 + obs.length / 40 := rfl
      rw [hwg] at hot
      have S2 := S.newBlk #[.int .i64 ok, .int .i64 ot, .int .i64 od, .int .i64 oa, .slice X obs.length cx, .int .i64 oe] 38
      have HS2 := Lib.hid S2
      obtain ⟨n, hn⟩ : ∃ n, n = obs.length := ⟨_, rfl⟩
      rw [← hn] at hot hb d4
      have htd : (n : Int).tdiv 40 = ((n / 40 : Nat) : Int) := by rw [Int.tdiv_eq_ediv_of_nonneg (by omega)]; norm_cast
      obtain ⟨m, hmm⟩ : ∃ m, m = n / 40 := ⟨_, rfl⟩
      rw [← hmm] at hot htd
      have hmb : m ≤ 140737488351232 := by omega
      obtain ⟨s2, hs2⟩ : ∃ s2, s2 = osum (ops.take (k + 1)) := ⟨_, rfl⟩
      rw [← hs2] at hot
      generalize osum (ops.take k) = s at *
      have hw2 : IntKind.i64.wrap (2 + (m : Int)) = 2 + (m : Int) := IntWalk.i64_in _ (by omega)
      have hw3 : IntKind.i64.wrap ((s : Int) + (2 + (m : Int))) = (s2 : Int) := by rw [IntWalk.i64_in _ (by omega)]; omega
      have HSS := Lib.hid (And.intro hs2 (And.intro hts hall))
      rw [← hn] at HS2
      have hext : ∀ (h : opA ⟨ok, ot, od, oa, .slice X obs.length cx, obs, oe⟩), ∀ o ∈ ops.take (k + 1), opA o := fun h o ho => by
        rw [HSS.out.2.1] at ho
        rcases List.mem_append.1 ho with ho | ho
        · exact HSS.out.2.2 o ho
        · rw [List.mem_singleton.1 ho]; exact h
      have HEX := Lib.hid hext
      clear hcl hx S S2 hok hwg hs2 hmm hn hot hts hall hext
      by_cases hgt : 300 < s2
      · have hgt2 : (300 : Int) < (s2 : Int) := by omega
        go_wp2_with fail
        exact hK.out _ _ ⟨false, rfl, (fun h => Bool.noConfusion h), HS2.out.drop.drop⟩
      have hgt2 : ¬ ((300 : Int) < (s2 : Int)) := by omega
      by_cases hk1 : ok = 1
      · subst hk1
        by_cases ha0 : oa < 0
        · go_wp2_with fail
          exact hK.out _ _ ⟨false, rfl, (fun h => Bool.noConfusion h), HS2.out.drop.drop⟩
        by_cases ha1 : 300 < oa
        · go_wp2_with fail
          exact hK.out _ _ ⟨false, rfl, (fun h => Bool.noConfusion h), HS2.out.drop.drop⟩
        go_wp2_with fail
        go_roundw
        case rel => exact ⟨k + 1, by omega, by go_num, by rw [← HSS.out.1], by rw [← HSS.out.1]; omega, HEX.out (fun _ => ⟨by show 0 ≤ oa; omega, by show oa ≤ 300; omega⟩), HS2.out.drop⟩
        case measure => simp [intOf]; omega
      · have hkb : (ok == 1) = false := by simpa using hk1
        go_wp2_with fail
        go_roundw
        case rel => exact ⟨k + 1, by omega, by go_num, by rw [← HSS.out.1], by rw [← HSS.out.1]; omega, HEX.out (fun h => absurd h (by show ¬ ok = 1; simpa using hkb)), HS2.out.drop⟩
        case measure => simp [intOf]; omega
    · obtain rfl : k = ops.length := by omega
      rw [List.take_length] at hs hall
      have c0 := S.cell 0
      have c1 := S.cell 1
      have c2 := S.cell 2
      have c3 := S.cell 3
      have c4 := S.cell 4
      have hmy := law_may S t z b i q
      have HS := Lib.hid (And.intro hs hall)
      clear S HEL hs hall
      obtain ⟨mb, hmb⟩ : ∃ x, x = mayB t z b i q := ⟨_, rfl⟩
      rw [← hmb] at hmy
      have HMB := Lib.hid hmb
      clear hmb
      go_wp2_with fail
      (with_reducible refine hmy.mono ?_)
      rintro e w5 ⟨rfl, S5⟩
      go_wp2_with fail
      exact hK.out _ _ ⟨mb, rfl, (fun h => ⟨HS.out.1, HS.out.2, HMB.out.symm.trans h⟩), S5.drop⟩
end
end Go.Proofs.YtcecfhfbcdbofaaGreatDoor
set_option linter.unusedSimpArgs false
set_option linter.unusedVariables false
namespace Go.Proofs.YtcecfhfbcdbofaaGreatDoor
open Go.RowKit
attribute [local go_sem] Oper.semAt_some

theorem byte_of (x : Int) : ∃ b : UInt8, Value.int .u8 (x % 256) = byteV b := by
  refine ⟨UInt8.ofNat (x % 256).toNat, ?_⟩
  unfold byteV
  rw [UInt8.toNat_ofNat']
  congr 1
  omega
theorem blk_cast {G : Gnd} {w : World} {l : List Asrt} {p : Nat} {c c' : Array Value} {t : TypeId} (h : c = c') (H : Sat G w (blk p c t :: l)) : Sat G w (blk p c' t :: l) := h ▸ H
theorem zero_encs (n : Nat) : encs (fun b => [byteV b]) (List.replicate n (0 : UInt8)) = (List.replicate n (0 : UInt8)).map byteV := by
  unfold encs
  induction n with
  | zero => rfl
  | succ n ih => rw [List.replicate_succ, List.flatMap_cons, ih]; rfl
section
variable {G : Gnd} {w w' : World} {l : List Asrt}
set_option maxHeartbeats 8000000 in
set_option maxRecDepth 100000 in
theorem law_item (H : Sat G w l) (k t d : Int) (n : Nat) (X : Option Addr) (bl cx : Nat) (ev : Int) (num : Nat) (h1 : n ≤ 300) (hn : num ≤ 1000) :
    Calls Tryz.prog 12 #[.agg #[.int .i64 k, .int .i64 t, .int .i64 d, .int .i64 n, .slice X bl cx, .int .i64 ev], .int .i64 num] w fun e w' => ∃ (G' : Gnd) (g : Nat) (hd : List UInt8), G.le G' ∧ hd.length = n ∧ SlB (Go.Proofs.YtcecfhfbcdbofaaGreatDoor.cellR G'.ro) (.slice (some ⟨g, 0, none⟩) n n) hd ∧
      e = .returned (.agg #[.int .i64 num, .slice (some ⟨g, 0, none⟩) n n, .slice X bl cx]) ∧ Sat G' w' l := by
  refine calls_any fun K hK => ?_
  have S0 := (H.newBlk #[.int .i64 k, .int .i64 t, .int .i64 d, .int .i64 n, .slice X bl cx, .int .i64 ev] 38).newBlk #[.int .i64 0, .slice none 0 0, .slice none 0 0] 41
  simp only [World.size_alloc] at S0
  have c3 := S0.swap.cell 3
  have hmk := run_make_any (P := Tryz.prog) 35 5 (.int .u8 0) 1 1 Tryz.underlying35 (by kernel_rfl) n (by omega) (by omega)
  obtain ⟨MC, hMC⟩ : ∃ MC, MC = madeCells (Value.int .u8 0).cells (n * 1) := ⟨_, rfl⟩
  rw [← hMC] at hmk
  have hM : MC = ((List.replicate n (0 : UInt8)).map byteV).toArray := by
    rw [hMC]
    apply Array.ext'
    rw [made_encs (enc := fun b => [byteV b]) (size := 1) (fun _ => rfl) (by decide) (0 : UInt8) (Value.int .u8 0).cells rfl n]
    exact zero_encs n
  have S1 := S0.newBlk MC 5
  simp only [World.size_alloc] at S1
  have HMM := Lib.hid hM
  clear hMC H S0 hM
  have hS2 : Sat G (((w.alloc (.cells #[.int .i64 k, .int .i64 t, .int .i64 d, .int .i64 n, .slice X bl cx, .int .i64 ev] 38)).alloc (.cells #[.int .i64 0, .slice none 0 0, .slice none 0 0] 41)).alloc (.cells MC 5)) _ := S1
  clear S1
  go_enter Tryz.func12, Tryz.ntmps12
  go_wp2_with fail
  generalize w.heap.size + 1 + 1 = pg at hS2 ⊢
  generalize w.heap.size + 1 = pi at hS2 ⊢
  generalize w.heap.size = po at hS2 ⊢
  go_loopw [12] (fun i wr => ∃ (j : Nat) (hb : List UInt8), j ≤ n ∧ i = .int .i64 j ∧ hb.length = n ∧ Sat G wr (blk pg (hb.map byteV).toArray 5 :: blk pi #[.int .i64 0, .slice none 0 0, .slice none 0 0] 41 :: blk po #[.int .i64 k, .int .i64 t, .int .i64 d, .int .i64 n, .slice X bl cx, .int .i64 ev] 38 :: l)) (fun i _ => n - (intOf i).toNat)
  case atStart => exact ⟨0, List.replicate n 0, Nat.zero_le _, rfl, List.length_replicate, blk_cast HMM.out hS2⟩
  case round =>
    obtain ⟨j, hb, hj, rfl, hbl, S⟩ := hrel
    clear hS2
    by_cases hlt : j < n
    · have hlt2 : (j : Int) < (n : Int) := by omega
      obtain ⟨bx, hbx⟩ := byte_of ((num : Int) + (j : Int))
      have w1_ : IntKind.i64.wrap ((num : Int) + (j : Int)) = (num : Int) + (j : Int) := IntWalk.i64_in _ (by omega)
      have fj := S.frozen j
      have hjl : j < hb.length := by omega
      have cj : wr.cell? ⟨pg, j, none⟩ = some (byteV hb[j]) := by rw [S.cell]; simp [hjl]
      have HS := Lib.hid (S.setCell j (.int .u8 (((num : Int) + (j : Int)) % 256)))
      have HB := Lib.hid (And.intro hbl hbx)
      clear S hbl hbx
      go_wp2_with fail
      go_roundw
      case rel => exact ⟨j + 1, hb.set j bx, by omega, by go_num, by rw [List.length_set]; exact HB.out.1, blk_cast (by rw [HB.out.2, List.map_set]; simp) HS.out⟩
      case measure => simp [intOf]; omega
    · obtain rfl : n = j := by omega
      obtain ⟨G1, hG1, S2, hv⟩ := slb_of_row S hbl (Nat.le_trans h1 (by decide))
      have HG := Lib.hid (And.intro hG1 (And.intro hv hbl))
      have i4 := S2.swap.cell 4
      clear S hG1 hv hbl
      have HS2 := Lib.hid (((S2.setCell 0 (.int .i64 num)).setCell 1 (.slice (some ⟨pg, 0, none⟩) n n)).setCell 2 (.slice X bl cx))
      have e0 := S2.cell 0
      have e1 := S2.cell 1
      have e2 := S2.cell 2
      have f0 := S2.frozen 0
      have f1 := S2.frozen 1
      have f2 := S2.frozen 2
      clear S2
      go_wp2_with fail
      exact ret_cell HS2.out _ _ rfl _ rfl Tryz.underlying41 rfl (by kernel_rfl) rfl (hK.out _ _ ⟨G1, pg, hb, HG.out.1, HG.out.2.2, HG.out.2.1, rfl, HS2.out.drop.drop⟩)
end
end Go.Proofs.YtcecfhfbcdbofaaGreatDoor
set_option linter.unusedSimpArgs false
set_option linter.unusedVariables false
namespace Go.Proofs.YtcecfhfbcdbofaaGreatDoor
open Go.RowKit
attribute [local go_sem] Oper.semAt_some

/-- What is told of an item that is gone. -/
def denc (x : Nat × Int) : List Value := [.int .i64 0, .int .i64 x.1, .int .i64 0, .int .i64 x.2, .int .i64 0]
theorem denc_len (x : Nat × Int) : (denc x).length = 5 := rfl
theorem info_di : (Tryz.prog.info? 45).map (fun i => (i.zero, i.size, i.bytes)) = some (some (.agg #[.int .i64 0, .int .i64 0, .int .i64 0, .int .i64 0, .int .i64 0]), 5, 40) := by kernel_rfl
def empT (t : Nat) (X : List It) : List (Nat × Int) := X.map fun x => (t, x.1)
def emp (Q : List (List It)) (t : Nat) : List (Nat × Int) := (List.range t).flatMap fun j => empT j (Q.getD j [])
theorem emp_succ (Q : List (List It)) (t : Nat) : emp Q (t + 1) = emp Q t ++ empT t (Q.getD t []) := by
  unfold emp
  rw [List.range_succ, List.flatMap_append]
  simp
theorem empT_len (t : Nat) (X : List It) : (empT t X).length = X.length := List.length_map _
theorem emp_len {Q : List (List It)} {B I : Int} (h : QWf Q B I) : ∀ t, (emp Q t).length ≤ t * 4096 := by
  intro t
  induction t with
  | zero => exact Nat.le_refl _
  | succ t ih =>
    rw [emp_succ, List.length_append, empT_len]
    have h1 := (h.at_ t).2
    have := h.i1
    omega
section
variable {G : Gnd} {w w' : World} {l : List Asrt} {o : Nat} {c : Oc} {s : Os}
theorem qu_pop2 {q : Nat} {Q : List (List It)} {B I : Int} (H : Sat G w (quA q Q B I :: l)) (hw : QWf Q B I) (t : Nat) : Calls Tryz.prog 34 #[.pointer (some ⟨q, 0, none⟩), .int .i64 t] w fun e w' => ∃ (n : Int) (A1 A2 : Option Addr) (n1 n2 c1 c2 : Nat) (er : Int) (Q' : List (List It)), e = .returned (.tuple #[.agg #[.int .i64 n, .slice A1 n1 c1, .slice A2 n2 c2], .int .i64 er]) ∧
      ((Q.getD t [] = [] ∧ er = 14 ∧ Q' = Q) ∨ ∃ x L, Q.getD t [] = x :: L ∧ n = x.1 ∧ er = 0 ∧ Q' = Q.set t L) ∧ Sat G w' (quA q Q' B I :: l) := by
  cases h : Q.getD t [] with
  | nil =>
    refine (qu_pop_not H hw t (by unfold qAt; rw [if_pos (by omega), Int.toNat_natCast]; exact h)).mono ?_
    rintro e w' ⟨rfl, S⟩
    exact ⟨0, none, none, 0, 0, 0, 0, 14, Q, rfl, .inl ⟨rfl, rfl, rfl⟩, S⟩
  | cons x L =>
    refine (qu_pop H hw t x L h).mono ?_
    rintro e w' ⟨u1, u2, rfl, S⟩
    obtain ⟨A1, c1, rfl, -⟩ := S.ownSlice
    obtain ⟨A2, c2, rfl, -⟩ := S.swap.ownSlice
    exact ⟨x.1, A1, A2, _, _, c1, c2, 0, Q.set t L, rfl, .inr ⟨x, L, rfl, rfl, rfl, rfl⟩, S.drop.drop⟩
def lenV (v : Value) : Nat := match v with | .slice _ n _ => n | _ => 0
set_option maxHeartbeats 8000000 in
set_option maxRecDepth 100000 in
theorem ob_empty (H : Sat G w (outA o c s :: l)) (hw : OInv c s) :
    Calls Tryz.prog 15 #[.pointer (some ⟨o, 0, none⟩)] w fun e w' => ∃ v, e = .returned v ∧ Sat G w' (ownS 45 5 v (emp s.Q c.ten).length (encs denc (emp s.Q c.ten)) :: outA o c { s with Q := List.replicate c.ten [] } :: l) := by
  refine calls_any fun K hK => ?_
  obtain ⟨a, SA⟩ := out_iff.1 H
  have k0 : w.cell? ⟨o, 0, none⟩ = some (.int .i64 c.ten) := SA.cell 0
  have HCL : Hid (∀ W v N Q, Sat G W (ownS 45 5 v N (encs denc (emp s.Q c.ten)) :: quA a.q Q c.byt c.itm :: blk o (obC c a s.last) 72 :: rgA a.g c.ten c.str s.F s.L s.rl :: crA a.p s.C 0 :: mpA a.mb (s.M.map Sm.kp) :: strA s.M :: ctA a.cv s.D :: ownS 98 1 a.gv c.ten (noG c.ten) :: l) → Sat G W (ownS 45 5 v N (encs denc (emp s.Q c.ten)) :: outA o c { s with Q := Q } :: l)) := Lib.hid fun W v N Q S =>
    Sat.swap (out_iff.2 ⟨a, Sat.re S [2, 1, 3, 4, 5, 6, 7, 8, 0]⟩)
  obtain ⟨RST, hR⟩ : ∃ R : List Asrt, R = rgA a.g c.ten c.str s.F s.L s.rl :: crA a.p s.C 0 :: mpA a.mb (s.M.map Sm.kp) :: strA s.M :: ctA a.cv s.D :: ownS 98 1 a.gv c.ten (noG c.ten) :: l := ⟨_, rfl⟩
  have S1 : Sat G w (quA a.q s.Q c.byt c.itm :: blk o (obC c a s.last) 72 :: RST) := by rw [hR]; exact SA.swap
  rw [← hR] at HCL
  have HQ := Lib.hid (And.intro hw.q (And.intro hw.ql (And.intro hw.t0 hw.t1)))
  have S2 := S1.ownNil 45 5
  clear H SA hR S1 hw
  go_enter Tryz.func15, Tryz.ntmps15
  go_wp2_with fail
  clear k0
  go_loopw [3, 12] (fun v i wr => ∃ (t : Nat) (Q : List (List It)), t ≤ c.ten ∧ i = .int .i64 t ∧ QWf Q c.byt c.itm ∧ Q.length = c.ten ∧ (∀ j, j < t → Q.getD j [] = []) ∧ (∀ j, t ≤ j → Q.getD j [] = s.Q.getD j []) ∧ Sat G wr (ownS 45 5 v (emp s.Q t).length (encs denc (emp s.Q t)) :: quA a.q Q c.byt c.itm :: blk o (obC c a s.last) 72 :: RST)) (fun _ i _ => c.ten - (intOf i).toNat)
  case atStart => exact ⟨0, s.Q, Nat.zero_le _, rfl, HQ.out.1, HQ.out.2.1, (fun j hj => absurd hj (Nat.not_lt_zero _)), (fun j _ => rfl), S2⟩
  case round =>
    clear S2
    obtain ⟨t, Q, ht, rfl, hQw, hQl, hlo, hhi, S3⟩ := hrel
    have hten := HQ.out.2.2.2
    by_cases hlt : t < c.ten
    · have hlt2 : (t : Int) < (c.ten : Int) := by omega
      have k5 : wr.cell? ⟨o, 5, none⟩ = some (.pointer (some ⟨a.q, 0, none⟩)) := (Sat.re S3 [2, 0, 1]).cell 5
      have hpop := qu_pop2 S3.swap hQw t
      have HP := Lib.hid (And.intro hQw (And.intro hQl (And.intro hlo hhi)))
      clear S3 hQw hQl hlo hhi
      go_wp2_with fail
      (with_reducible refine hpop.mono ?_)
      rintro e w1 ⟨n, A1, A2, n1, n2, c1, c2, er, Q1, rfl, hor, S4⟩
      clear hpop k5
      have S5 := S4.newBlk #[.int .i64 n, .slice A1 n1 c1, .slice A2 n2 c2] 41
      have HO := Lib.hid hor
      clear S4 hor
      go_wp2_with fail
      have hN4 : (emp s.Q t).length + (s.Q.getD t []).length ≤ 300000 := by
        have h1 := emp_len HQ.out.1 t
        have h2 := (HQ.out.1.at_ t).2
        have h3 := HQ.out.1.i1
        have h4 := HQ.out.2.2.2
        omega
      go_loopw [3, 5, 6] (fun v p e wr => ∃ (b : Nat) (n : Int) (A1 A2 : Option Addr) (n1 n2 c1 c2 : Nat) (er : Int) (D R : List It) (Q : List (List It)), p = .pointer (some ⟨b, 0, none⟩) ∧ e = .int .i64 er ∧ s.Q.getD t [] = D ++ R ∧ (R = [] → er = 14 ∧ Q.getD t [] = []) ∧ (∀ x L, R = x :: L → er = 0 ∧ n = x.1 ∧ Q.getD t [] = L) ∧ QWf Q c.byt c.itm ∧ Q.length = c.ten ∧ (∀ j, j < t → Q.getD j [] = []) ∧ (∀ j, t < j → Q.getD j [] = s.Q.getD j []) ∧ Sat G wr (blk b #[.int .i64 n, .slice A1 n1 c1, .slice A2 n2 c2] 41 :: ownS 45 5 v (emp s.Q t ++ empT t D).length (encs denc (emp s.Q t ++ empT t D)) :: quA a.q Q c.byt c.itm :: blk o (obC c a s.last) 72 :: RST)) (fun v _ _ _ => (emp s.Q t).length + (s.Q.getD t []).length - lenV v)
      case atStart =>
        obtain ⟨hQw, hQl, hlo, hhi⟩ := HP.out
        have hor := HO.out
        rw [hhi t (Nat.le_refl _)] at hor
        rcases hor with ⟨h0, h1, h2⟩ | ⟨x, L, h0, h1, h2, h3⟩
        · rw [h2] at S5
          exact ⟨_, n, A1, A2, n1, n2, c1, c2, er, [], [], Q, rfl, rfl, h0, (fun _ => ⟨h1, (hhi t (Nat.le_refl _)).trans h0⟩), (fun x L h => by cases h), hQw, hQl, hlo, (fun j hj => hhi j (Nat.le_of_lt hj)), by simpa [empT] using Sat.re S5 [0, 2, 1]⟩
        · rw [h3] at S5
          have hTQ : t < Q.length := by rw [hQl]; exact hlt
          have hx := hQw.at_ t
          rw [hhi t (Nat.le_refl _), h0] at hx
          refine ⟨_, n, A1, A2, n1, n2, c1, c2, er, [], x :: L, Q.set t L, rfl, rfl, h0, (fun h => by cases h), (fun y M h => by cases h; exact ⟨h2, h1, by rw [List.getD_eq_getElem?_getD, List.getElem?_set_self hTQ]; rfl⟩), ?_, by rw [List.length_set]; exact hQl, ?_, ?_, by simpa [empT] using Sat.re S5 [0, 2, 1]⟩
          · exact hQw.set t L (Int.le_trans (by have := @qsz_tail x L; omega) hx.1) (by have := hx.2; simp only [List.length_cons] at this; omega)
          · intro j hj
            rw [List.getD_eq_getElem?_getD, List.getElem?_set_ne (by omega), ← List.getD_eq_getElem?_getD]; exact hlo j hj
          · intro j hj
            rw [List.getD_eq_getElem?_getD, List.getElem?_set_ne (by omega), ← List.getD_eq_getElem?_getD]; exact hhi j (Nat.le_of_lt hj)
      case round =>
        clear S5
        obtain ⟨b, n, A1, A2, n1, n2, c1, c2, er, D, R, Q2, rfl, rfl, hDR, hR0, hR1, hQw, hQl, hlo, hhi, S6⟩ := hrel
        cases R with
        | nil =>
          obtain ⟨rfl, hQ0⟩ := hR0 rfl
          have HX := Lib.hid (show QWf Q2 c.byt c.itm ∧ Q2.length = c.ten ∧ (∀ j, j < t + 1 → Q2.getD j [] = []) ∧ (∀ j, t + 1 ≤ j → Q2.getD j [] = s.Q.getD j []) ∧ emp s.Q (t + 1) = emp s.Q t ++ empT t D from ⟨hQw, hQl, (fun j hj => by
            rcases Nat.lt_or_ge j t with h | h
            · exact hlo j h
            · obtain rfl : j = t := by omega
              exact hQ0), (fun j hj => hhi j (by omega)), by rw [emp_succ, hDR, List.append_nil]⟩)
          clear hDR hR0 hR1 hQ0 hQw hQl hlo hhi hN4
          go_wp2_with fail
          go_roundw
          case rel => exact ⟨t + 1, Q2, by omega, by go_num, HX.out.1, HX.out.2.1, HX.out.2.2.1, HX.out.2.2.2.1, by rw [HX.out.2.2.2.2]; exact S6.drop⟩
          case measure => simp [intOf]; omega
        | cons x L =>
          obtain ⟨rfl, hn, hQ0⟩ := hR1 x L rfl
          have hDl : D.length + 1 ≤ (s.Q.getD t []).length := by rw [hDR, List.length_append, List.length_cons]; omega
          have hTQ : t < Q2.length := by rw [hQl]; exact hlt
          obtain ⟨N, hN⟩ : ∃ N, N = (emp s.Q t ++ empT t D).length := ⟨_, rfl⟩
          have hN2 : N + 1 ≤ (emp s.Q t).length + (s.Q.getD t []).length := by rw [hN, List.length_append, empT_len]; omega
          rw [← hN] at S6
          obtain ⟨V, vc, rfl, -⟩ := S6.swap.ownSlice
          have HX := Lib.hid (And.intro hDR (And.intro hn (And.intro hQ0 (And.intro hQw (And.intro hQl (And.intro hlo (And.intro hhi hN)))))))
          have HXB := Lib.hid (And.intro hN2 hTQ)
          have hNb : N ≤ 300000 := by omega
          have i0 := S6.cell 0
          have i1 := S6.cell 1
          have i2 := S6.cell 2
          have SB := Sat.re (S6.newBlk #[.int .i64 0, .int .i64 t, .int .i64 0, .int .i64 n, .int .i64 0] 45) [2, 0, 1, 3, 4]
          clear hDR hR0 hR1 hn hQ0 hQw hQl hlo hhi hDl hTQ hN hN2 S6
          go_wp2_with (at_builtin; refine st_append rfl _ _ 49 rfl 45 (.agg #[.int .i64 0, .int .i64 0, .int .i64 0, .int .i64 0, .int .i64 0]) 5 40 Tryz.underlying49 info_di rfl (by omega) _ N _ rfl SB ⟨wr.heap.size, 0, none⟩ 1 1 [.int .i64 0, .int .i64 t, .int .i64 0, .int .i64 n, .int .i64 0] rfl rfl (alloc_cells _ _ #[.int .i64 0, .int .i64 t, .int .i64 0, .int .i64 n, .int .i64 0] _ (by simp)) rfl (Nat.le_trans (show N + 1 ≤ 300001 by omega) (by decide)) (by omega) ?_; intro v' w' S'; have j0 := (Sat.re S' [2, 0, 1, 3, 4]).cell 0; have j1 := (Sat.re S' [2, 0, 1, 3, 4]).cell 1; have j2 := (Sat.re S' [2, 0, 1, 3, 4]).cell 2; have S9 := S'.newBlk #[.int .i64 n, .slice A1 n1 c1, .slice A2 n2 c2] 41; have k5 : _ = some (Value.pointer (some ⟨a.q, 0, none⟩)) := (Sat.re S9 [5, 0, 1, 2, 3, 4]).cell 5)
          have hpop := qu_pop2 (Sat.re S9 [4, 0, 1, 2, 3, 5]) HX.out.2.2.2.1 t
          clear SB S' i0 i1 i2 j0 j1 j2 S9 k5
          (with_reducible refine hpop.mono ?_)
          rintro e w1 ⟨m, B1, B2, m1, m2, e1, e2, er, Q3, rfl, hor, S10⟩
          clear hpop
          have T := Sat.re S10 [1, 0, 2, 3, 4, 5]
          have d0 := T.cell 0
          have d1 := T.cell 1
          have d2 := T.cell 2
          have f0 := T.frozen 0
          have f1 := T.frozen 1
          have f2 := T.frozen 2
          have HS := Lib.hid (((T.setCell 0 (.int .i64 m)).setCell 1 (.slice B1 m1 e1)).setCell 2 (.slice B2 m2 e2))
          have HO := Lib.hid hor
          clear S10 T hor
          go_wp2_with fail
          go_roundw
          case rel =>
            obtain ⟨hDR, hn, hQ0, hQw, hQl, hlo, hhi, hN⟩ := HX.out
            have he : emp s.Q t ++ empT t (D ++ [x]) = (emp s.Q t ++ empT t D) ++ [(t, x.1)] := by unfold empT; rw [List.map_append, ← List.append_assoc]; rfl
            refine ⟨_, m, B1, B2, m1, m2, e1, e2, er, D ++ [x], L, Q3, rfl, rfl, by rw [hDR]; simp, ?_, ?_, ?_, ?_, ?_, ?_, ?_⟩
            · rintro rfl
              rcases HO.out with ⟨h0, h1, h2⟩ | ⟨y, L, h0, -⟩
              · exact ⟨h1, by rw [h2]; exact h0⟩
              · rw [hQ0] at h0; cases h0
            · rintro y M rfl
              rcases HO.out with ⟨h0, -⟩ | ⟨y', L', h0, h1, h2, h3⟩
              · rw [hQ0] at h0; cases h0
              · rw [hQ0] at h0
                cases h0
                exact ⟨h2, h1, by rw [h3, List.getD_eq_getElem?_getD, List.getElem?_set_self HXB.out.2]; rfl⟩
            · rcases HO.out with ⟨-, -, h2⟩ | ⟨y', L', h0, -, -, h3⟩
              · rw [h2]; exact hQw
              · rw [h3]
                have hx := hQw.at_ t
                rw [h0] at hx
                exact hQw.set t L' (Int.le_trans (by have := @qsz_tail y' L'; omega) hx.1) (by have := hx.2; simp only [List.length_cons] at this; omega)
            · rcases HO.out with ⟨-, -, h2⟩ | ⟨y', L', h0, -, -, h3⟩
              · rw [h2]; exact hQl
              · rw [h3, List.length_set]; exact hQl
            · intro j hj
              rcases HO.out with ⟨-, -, h2⟩ | ⟨y', L', h0, -, -, h3⟩
              · rw [h2]; exact hlo j hj
              · rw [h3, List.getD_eq_getElem?_getD, List.getElem?_set_ne (by omega), ← List.getD_eq_getElem?_getD]; exact hlo j hj
            · intro j hj
              rcases HO.out with ⟨-, -, h2⟩ | ⟨y', L', h0, -, -, h3⟩
              · rw [h2]; exact hhi j hj
              · rw [h3, List.getD_eq_getElem?_getD, List.getElem?_set_ne (by omega), ← List.getD_eq_getElem?_getD]; exact hhi j hj
            · rw [he, List.length_append, ← hN, encs_append]
              have h := HS.out
              rw [hn] at h
              exact (Sat.re h [3, 4, 0, 2, 1, 5]).drop.drop
          case measure =>
            obtain ⟨V', vc', rfl, -⟩ := (Sat.re HS.out [2, 0, 1, 3, 4, 5]).ownSlice
            have := HXB.out.1
            show (emp s.Q t).length + (s.Q.getD t []).length - (N + 1) < (emp s.Q t).length + (s.Q.getD t []).length - N
            omega
    · obtain rfl : t = c.ten := by omega
      have HX := Lib.hid (show Q = List.replicate c.ten [] from List.ext_getElem? fun j => by
        rcases Nat.lt_or_ge j c.ten with h | h
        · have h1 := hlo j h
          rw [List.getD_eq_getElem?_getD, List.getElem?_eq_getElem (by omega)] at h1
          rw [List.getElem?_eq_getElem (by omega), List.getElem?_replicate, if_pos h]
          exact congrArg some h1
        · rw [List.getElem?_eq_none (by omega), List.getElem?_eq_none (by rw [List.length_replicate]; omega)])
      have HS3 := Lib.hid S3
      clear hQw hQl hlo hhi S3
      go_wp2_with fail
      exact hK.out _ _ ⟨_, rfl, by have := HCL.out _ _ _ _ HS3.out; rw [HX.out] at this; exact this⟩
end
end Go.Proofs.YtcecfhfbcdbofaaGreatDoor
set_option linter.unusedSimpArgs false
set_option linter.unusedVariables false
namespace Go.Proofs.YtcecfhfbcdbofaaGreatDoor
open Go.RowKit

def ownO (e : TypeId) (v : Value) (xs : List Value) : Asrt := ex fun r : Option (Nat × Nat × Nat × Array Value) => match r with
  | none => pur (v = .slice none 0 0 ∧ xs = [])
  | some (g, off, cap, cur) => star [pur (v = .slice (some ⟨g, off, none⟩) xs.length cap ∧ xs.length ≤ cap ∧ cap ≤ maxLen ∧ off + cap ≤ cur.size ∧ (cur.toList.drop off).take xs.length = xs), blk g cur e]
section
variable {G : Gnd} {w w' : World} {l : List Asrt} {e : TypeId} {v : Value} {xs : List Value}
theorem ownO_iff : Sat G w (ownO e v xs :: l) ↔ (v = .slice none 0 0 ∧ xs = [] ∧ Sat G w l) ∨ ∃ g off cap cur, v = .slice (some ⟨g, off, none⟩) xs.length cap ∧ xs.length ≤ cap ∧ cap ≤ maxLen ∧ off + cap ≤ cur.size ∧ (cur.toList.drop off).take xs.length = xs ∧ Sat G w (blk g cur e :: l) := by
  unfold ownO
  rw [Sat.ex_iff]
  constructor
  · rintro ⟨r, S⟩
    match r, S with
    | none, S =>
      obtain ⟨⟨h1, h2⟩, S⟩ := Sat.pur_iff.1 S
      exact .inl ⟨h1, h2, S⟩
    | some (g, off, cap, cur), S =>
      have S := Sat.star_iff.1 S
      obtain ⟨⟨h1, h2, h3, h4, h5⟩, S⟩ := Sat.pur_iff.1 S
      exact .inr ⟨g, off, cap, cur, h1, h2, h3, h4, h5, S⟩
  · rintro (⟨h1, h2, S⟩ | ⟨g, off, cap, cur, h1, h2, h3, h4, h5, S⟩)
    · exact ⟨none, Sat.pur_iff.2 ⟨⟨h1, h2⟩, S⟩⟩
    · exact ⟨some (g, off, cap, cur), Sat.star_iff.2 (Sat.pur_iff.2 ⟨⟨h1, h2, h3, h4, h5⟩, S⟩)⟩
theorem Sat.ownONil (H : Sat G w l) (e : TypeId) : Sat G w (ownO e (.slice none 0 0) [] :: l) := ownO_iff.2 (.inl ⟨rfl, rfl, H⟩)
theorem Sat.ownOForm (H : Sat G w (ownO e v xs :: l)) : ∃ A c, v = .slice A xs.length c ∧ xs.length ≤ c ∧ c ≤ maxLen := by
  rcases ownO_iff.1 H with ⟨rfl, rfl, -⟩ | ⟨g, off, cap, cur, rfl, h2, h3, -⟩
  · exact ⟨none, 0, rfl, Nat.le_refl _, Nat.zero_le _⟩
  · exact ⟨_, cap, rfl, h2, h3⟩
theorem own_toO {n : Nat} (H : Sat G w (ownS e 1 v n xs :: l)) : Sat G w (ownO e v xs :: l) := by
  obtain ⟨hl, ⟨rfl, rfl, S⟩ | ⟨g, cap, cur, rfl, hc, hm, hs, ht, S⟩⟩ := own_iff.1 H
  · exact ownO_iff.2 (.inl ⟨rfl, List.eq_nil_of_length_eq_zero (by simpa using hl), S⟩)
  · rw [Nat.mul_one] at hl hs ht
    subst hl
    exact ownO_iff.2 (.inr ⟨g, 0, cap, cur, rfl, hc, hm, by omega, by simpa using ht, S⟩)
/-- The first element, and the slice behind it. -/
theorem Sat.ownOHead {x : Value} {ys : List Value} (H : Sat G w (ownO e v (x :: ys) :: l)) : ∃ g off cap, v = .slice (some ⟨g, off, none⟩) (ys.length + 1) cap ∧ ys.length + 1 ≤ cap ∧ cap ≤ maxLen ∧ w.cell? ⟨g, off, none⟩ = some x ∧
    ∀ A, A = (if cap = 1 then some (⟨g, off, none⟩ : Addr) else some ⟨g, off + 1, none⟩) → Sat G w (ownO e (.slice A ys.length (cap - 1)) ys :: l) := by
  rcases ownO_iff.1 H with ⟨-, h, -⟩ | ⟨g, off, cap, cur, rfl, h2, h3, h4, h5, S⟩
  · cases h
  · simp only [List.length_cons] at h2 h5 ⊢
    have hd : cur.toList.drop off = x :: cur.toList.drop (off + 1) := by
      have hlt : off < cur.toList.length := by rw [Array.length_toList]; omega
      rw [List.drop_eq_getElem_cons hlt] at h5 ⊢
      rw [List.take_succ_cons] at h5
      rw [(List.cons.inj h5).1]
    have h6 : (cur.toList.drop (off + 1)).take ys.length = ys := by
      rw [hd, List.take_succ_cons] at h5
      exact (List.cons.inj h5).2
    refine ⟨g, off, cap, rfl, h2, h3, ?_, ?_⟩
    · rw [S.cell, ← Array.getElem?_toList]
      have := congrArg (fun L => L[0]?) hd
      simpa using this
    · intro A hA
      subst hA
      by_cases hc : cap = 1
      · rw [if_pos hc]
        have hy : ys = [] := List.eq_nil_of_length_eq_zero (by omega)
        subst hy
        exact ownO_iff.2 (.inr ⟨g, off, cap - 1, cur, rfl, Nat.zero_le _, by omega, by omega, by simp, S⟩)
      · rw [if_neg hc]
        exact ownO_iff.2 (.inr ⟨g, off + 1, cap - 1, cur, rfl, by omega, by omega, by omega, h6, S⟩)
end
section
variable {P : Program} {G : Gnd} {w : World} {l : List Asrt} {ops : Array Oper} {rest : List Oper} {o : Oper} {a : Act} {Q : Exit → Act → World → Prop}
theorem run_append_roomO (w : World) (t ty e : TypeId) (i : TypeInfo) (ht : P.underlying t = some (.slice e)) (hi : P.info? e = some i) (hs1 : i.size = 1)
    (g off n cap : Nat) (cur : Array Value) (hg : w.heap[g]? = some (.cells cur e (0, 0))) (ad : Addr) (c : Nat) (u : Value) (hu : w.cell? (ad.add 0) = some u) (h1 : u.oneCell' = true) (hroom : n + 1 ≤ cap) (hfit : off + n + 1 ≤ cur.size) :
    (Builtin.append_ #[t, t] ty #[.slice (some ⟨g, off, none⟩) n cap, .slice (some ad) 1 c]).run P w =
      .ok (.slice (some ⟨g, off, none⟩) (n + 1) cap) (w.setRow g (cur.toList.take (off + n) ++ [u] ++ cur.toList.drop (off + n + 1)).toArray) := by
  have hf := run_firstCells_some (P := P) w i.size 1 ad 1 c [u] (by rw [hs1]; rfl) (fun j v hj => by
    cases j with
    | zero => cases hj; exact hu
    | succ j => simp at hj)
  have hst := run_storeCells_at P g (off + n * i.size) e [u] 0 cur w hg (by rw [hs1]; simpa using hfit) (fun v hv => by rw [List.mem_singleton.1 hv]; exact h1)
  rw [hs1] at hf hst
  simp only [Nat.add_zero, Nat.mul_one, List.length_singleton] at hst hf
  simp [Builtin.append_, run_underlying ht, sizeOf, typeInfo, hi, hs1, Builtin.lenOf, hroom, hf, Addr.add_lit, hst]
/-- append of one element. -/
theorem st_appO (hgd : o.guard = none) (s x : Operand) (t : TypeId)
    (ho : o.op = .call { callee := .builtin .append, args := #[s, x], argTypes := #[t, t] })
    (e : TypeId) (z : Value) (bytes : Nat) (ht : P.underlying t = some (.slice e)) (hi : (P.info? e).map (fun i => (i.zero, i.size, i.bytes)) = some (some z, 1, bytes)) (hzs : z.cells.size = 1)
    (v : Value) (xs : List Value) (hs : a.eval s = v) (S : Sat G w (ownO e v xs :: l))
    (ad : Addr) (c : Nat) (u : Value) (hx : a.eval x = .slice (some ad) 1 c) (hc : w.cell? (ad.add 0) = some u) (h1 : u.oneCell' = true)
    (h63 : xs.length + 1 ≤ maxLen) (hbytes : (xs.length + 1) * bytes ≤ 140737488355328)
    (h : ∀ v' w', Sat G w' (ownO e v' (xs ++ [u]) :: l) → wpList P ops Q rest (a.put o.dst v') w') : wpList P ops Q (o :: rest) a w := by
  have hnews : ∀ j y, [u][j]? = some y → w.cell? (ad.add j) = some y := fun j y hj => by
    cases j with
    | zero => cases hj; exact hc
    | succ j => simp at hj
  rcases ownO_iff.1 S with ⟨rfl, rfl, S0⟩ | ⟨g, off, cap, cur, rfl, h2, h3, h4, h5, S0⟩
  · exact st_append hgd s x t ho e z 1 bytes ht hi hzs (by decide) _ 0 [] hs (S0.ownNil e 1) ad 1 c [u] hx rfl hnews (by simp [h1]) h63 hbytes fun v' w' S' => h v' w' (own_toO S')
  obtain ⟨i, hi0, hz, hsize, hby⟩ : ∃ i, P.info? e = some i ∧ i.zero = some z ∧ i.size = 1 ∧ i.bytes = bytes := by
    cases hi' : P.info? e with
    | none => rw [hi'] at hi; simp at hi
    | some i => rw [hi'] at hi; simp at hi; exact ⟨i, rfl, hi.1, hi.2.1, hi.2.2⟩
  refine wpList_plain hgd fun K hK => ?_
  unfold Oper.wp execOp
  by_cases hroom : xs.length + 1 ≤ cap
  · have hr := run_append_roomO (P := P) w t o.type e i ht hi0 hsize g off xs.length cap cur S0.blk_at ad c u hc h1 hroom (by omega)
    simp only [ho, resolve, invoke, builtin, Sem.run_bind, Sem.run_pure, Result.andThen_ok, List.map_toArray, List.map_cons, List.map_nil, hs, hx, hr]
    refine hK _ _ (h _ _ (ownO_iff.2 (.inr ⟨g, off, cap, _, by rw [List.length_append]; rfl, by rw [List.length_append]; exact hroom, h3, ?_, ?_, S0.setRow _⟩)))
    · simp only [List.size_toArray, List.length_append, List.length_take, List.length_drop, Array.length_toList, List.length_singleton]
      omega
    · have hl1 : (cur.toList.take (off + xs.length)).length = off + xs.length := by have e0 : cur.toList.length = cur.size := Array.length_toList; rw [List.length_take]; omega
      show ((cur.toList.take (off + xs.length) ++ [u] ++ cur.toList.drop (off + xs.length + 1)).drop off).take (xs ++ [u]).length = xs ++ [u]
      have e1 : (cur.toList.take (off + xs.length)).drop off = xs := by rw [List.drop_take, show off + xs.length - off = xs.length by omega]; exact h5
      rw [List.append_assoc, List.drop_append_of_le_length (by omega), e1, List.length_append, ← List.append_assoc, List.take_append_of_le_length (by simp)]
      exact List.take_of_length_le (by simp)
  · have holds : ∀ j y, xs[j]? = some y → w.cell? ((⟨g, off, none⟩ : Addr).add j) = some y := fun j y hj => by
      rw [Addr.add_lit, S0.cell, ← Array.getElem?_toList, ← hj]
      conv => rhs; rw [← h5]
      have hjl := (List.getElem?_eq_some_iff.1 hj).1
      rw [List.getElem?_take, if_pos hjl, List.getElem?_drop]
    have hr := run_append_grow (P := P) w t o.type e i z ht hi0 hz ⟨g, off, none⟩ xs.length cap xs (by rw [hsize, Nat.mul_one]) holds ad 1 c [u] (by rw [hsize]; rfl) hnews (by omega) (by simp only [maxLen] at h63; omega) (growslice_fits (by omega) (by rw [hby]; exact hbytes))
    simp only [ho, resolve, invoke, builtin, Sem.run_bind, Sem.run_pure, Result.andThen_ok, List.map_toArray, List.map_cons, List.map_nil, hs, hx, hr]
    have hge := grownCap_ge w (xs.length + 1) cap e
    have hcm : grownCap w (xs.length + 1) cap e ≤ maxLen := grownCap_le_maxLen w (xs.length + 1) cap e h63
    refine hK _ _ (h _ _ (ownO_iff.2 (.inr ⟨_, 0, _, _, by rw [List.length_append]; rfl, by rw [List.length_append]; exact hge, hcm, ?_, ?_, S0.drop.drew.newBlk _ _⟩)))
    · simp only [Array.size_append, List.size_toArray, size_zeroCells, hzs, List.length_singleton]
      omega
    · simp only [List.drop_zero, Array.toList_append, List.toList_toArray]
      rw [List.take_append_of_le_length (by simp)]
      exact List.take_of_length_le (by simp)
end
end Go.Proofs.YtcecfhfbcdbofaaGreatDoor
set_option linter.unusedSimpArgs false
set_option linter.unusedVariables false
namespace Go.Proofs.YtcecfhfbcdbofaaGreatDoor
open Go.RowKit

abbrev ints_w (L : List Int) : List Value := L.map (Value.int .i64)
structure Wn where
  v : Value
  L : List Int
def wnA (x : Wn) : Asrt := ownO 3 x.v (ints_w x.L)
def waA (wb : Nat) (W : List (List Int)) : Asrt := ex fun N : List Wn => star (pur (N.map Wn.L = W) :: blk wb (N.map Wn.v).toArray 43 :: N.map wnA)
section
variable {G : Gnd} {w w' : World} {l : List Asrt} {wb : Nat} {W : List (List Int)}
theorem wa_iff : Sat G w (waA wb W :: l) ↔ ∃ N : List Wn, N.map Wn.L = W ∧ Sat G w (blk wb (N.map Wn.v).toArray 43 :: (N.map wnA ++ l)) := by
  unfold waA
  simp only [Sat.ex_iff, Sat.star_iff, List.cons_append, Sat.pur_iff]
theorem wns_nil (m : Nat) (H : Sat G w l) : Sat G w ((List.replicate m (⟨.slice none 0 0, []⟩ : Wn)).map wnA ++ l) := by
  induction m with
  | zero => exact H
  | succ m ih =>
    rw [List.replicate_succ, List.map_cons, List.cons_append]
    exact ih.ownONil 3
theorem wa_made {MC : Array Value} {t : Nat} (hMC : MC.toList = List.replicate t (.slice none 0 0)) (H : Sat G w (blk wb MC 43 :: l)) : Sat G w (waA wb (List.replicate t []) :: l) := by
  refine wa_iff.2 ⟨List.replicate t ⟨.slice none 0 0, []⟩, by simp, ?_⟩
  have e : ((List.replicate t (⟨.slice none 0 0, []⟩ : Wn)).map Wn.v).toArray = MC := Array.toList_inj.1 (by rw [hMC]; simp)
  rw [e]
  exact Sat.perm (wns_nil t H) List.perm_middle
theorem wa_open (H : Sat G w (waA wb W :: l)) {t : Nat} (ht : t < W.length) : ∃ (v : Value) (C : Array Value) (E : Asrt), C.size = W.length ∧ C[t]? = some v ∧ Sat G w (ownO 3 v (ints_w (W.getD t [])) :: blk wb C 43 :: E :: l) ∧
    ∀ G' w' l' v' L', Sat G' w' (ownO 3 v' (ints_w L') :: blk wb (C.setIfInBounds t v') 43 :: E :: l') → Sat G' w' (waA wb (W.set t L') :: l') := by
  obtain ⟨N, rfl, S⟩ := wa_iff.1 H
  rw [List.length_map] at ht
  obtain ⟨x, hx⟩ : ∃ x, N[t]? = some x := ⟨_, List.getElem?_eq_getElem ht⟩
  have hN : N = N.take t ++ x :: N.drop (t + 1) := by
    obtain ⟨h1, rfl⟩ := List.getElem?_eq_some_iff.1 hx
    rw [List.getElem_cons_drop, List.take_append_drop]
  have hg : (N.map Wn.L).getD t [] = x.L := by rw [List.getD_eq_getElem?_getD, List.getElem?_map, hx]; rfl
  obtain ⟨E, hE⟩ : ∃ E, E = star ((N.take t).map wnA ++ (N.drop (t + 1)).map wnA) := ⟨_, rfl⟩
  refine ⟨x.v, (N.map Wn.v).toArray, E, by simp, by simp [hx], ?_, ?_⟩
  · rw [hg, hE]
    have S1 : Sat G w (N.map wnA ++ (blk wb (N.map Wn.v).toArray 43 :: l)) := Sat.perm S List.perm_middle.symm
    have hm : N.map wnA = (N.take t).map wnA ++ wnA x :: (N.drop (t + 1)).map wnA := by
      conv => lhs; rw [hN]
      rw [List.map_append, List.map_cons]
    rw [hm, List.append_assoc] at S1
    have S2 : Sat G w (wnA x :: ((N.take t).map wnA ++ ((N.drop (t + 1)).map wnA ++ (blk wb (N.map Wn.v).toArray 43 :: l)))) := Sat.perm S1 List.perm_middle
    have S3 : Sat G w (((N.take t).map wnA ++ (N.drop (t + 1)).map wnA) ++ (wnA x :: blk wb (N.map Wn.v).toArray 43 :: l)) := by
      refine Sat.perm S2 ?_
      rw [← List.append_assoc]
      exact List.perm_middle.symm
    exact Sat.re (Sat.star_iff.2 S3) [1, 2, 0]
  · intro G' w' l' v' L' S4
    have hset : N.set t ⟨v', L'⟩ = N.take t ++ ⟨v', L'⟩ :: N.drop (t + 1) := List.set_eq_take_append_cons_drop ▸ by rw [if_pos ht]
    refine wa_iff.2 ⟨N.set t ⟨v', L'⟩, by rw [List.map_set], ?_⟩
    have e1 : ((N.set t ⟨v', L'⟩).map Wn.v).toArray = (N.map Wn.v).toArray.setIfInBounds t v' := by rw [List.map_set]; simp
    have e2 : (N.set t ⟨v', L'⟩).map wnA = (N.take t).map wnA ++ wnA ⟨v', L'⟩ :: (N.drop (t + 1)).map wnA := by rw [hset, List.map_append, List.map_cons]
    rw [e1, e2]
    rw [hE] at S4
    have S5 := Sat.star_iff.1 (Sat.re S4 [2, 0, 1])
    refine Sat.perm S5 ?_
    show (((N.take t).map wnA ++ (N.drop (t + 1)).map wnA) ++ (wnA ⟨v', L'⟩ :: blk wb _ 43 :: l')).Perm (blk wb _ 43 :: (((N.take t).map wnA ++ wnA ⟨v', L'⟩ :: (N.drop (t + 1)).map wnA) ++ l'))
    refine List.perm_middle.trans ?_
    refine (List.Perm.cons _ List.perm_middle).trans ?_
    refine (List.Perm.swap _ _ _).trans (List.Perm.cons _ ?_)
    rw [List.append_assoc, List.append_assoc]
    exact List.perm_middle.symm
theorem wa_len (H : Sat G w (waA wb W :: l)) : True := trivial
end
/-- The numbers that wait. -/
def qn (s : Os) : List (List Int) := s.Q.map fun X => X.map Prod.fst
theorem qn_getD (s : Os) (t : Nat) : (qn s).getD t [] = (s.Q.getD t []).map Prod.fst := by
  unfold qn
  rw [List.getD_eq_getElem?_getD, List.getElem?_map, List.getD_eq_getElem?_getD]
  cases s.Q[t]? <;> rfl
theorem qn_new (t : Nat) : qn (newO t) = List.replicate t [] := by show (List.replicate t []).map _ = _; rw [List.map_replicate]; rfl
end Go.Proofs.YtcecfhfbcdbofaaGreatDoor
set_option linter.unusedSimpArgs false
set_option linter.unusedVariables false
namespace Go.Proofs.YtcecfhfbcdbofaaGreatDoor
open Go.RowKit

theorem osum_len (L : List OpD) : 2 * L.length ≤ osum L := by
  induction L with
  | nil => simp
  | cons o L ih => simp only [osum, List.map_cons, List.sum_cons, List.length_cons] at ih ⊢; unfold wgt at ih ⊢; omega
theorem repD {α : Type} {n T : Nat} : (List.replicate n ([] : List α)).getD T [] = [] := by
  rw [List.getD_eq_getElem?_getD, List.getElem?_replicate]
  split <;> rfl
theorem sub_case {c : Oc} {s : Os} (hw : OInv c s) (t : Int) (x : It) : ((subS c s t x).2 ≠ 0 ∧ (subS c s t x).1 = s) ∨ ((subS c s t x).2 = 0 ∧ ∃ T : Nat, t = T ∧ T < c.ten ∧ (subS c s t x).1 = { s with Q := s.Q.set T (s.Q.getD T [] ++ [x]) }) := by
  unfold subS
  by_cases h1 : x.2.1.length < 1 ∨ c.cell < (x.2.1.length : Int)
  · rw [if_pos h1]; exact .inl ⟨show (22 : Int) ≠ 0 by decide, rfl⟩
  rw [if_neg h1]
  unfold putQ
  by_cases h2 : t < 0 ∨ (s.Q.length : Int) ≤ t
  · rw [if_pos h2]; exact .inl ⟨show (11 : Int) ≠ 0 by decide, rfl⟩
  rw [if_neg h2]
  by_cases h3 : c.itm ≤ (qAt s.Q t).length ∨ c.byt < (qsz (qAt s.Q t) : Int) + isz x
  · rw [if_pos h3]; exact .inl ⟨show (33 : Int) ≠ 0 by decide, rfl⟩
  rw [if_neg h3]
  refine .inr ⟨rfl, t.toNat, by omega, by have := hw.ql; omega, ?_⟩
  have hq : qAt s.Q t = s.Q.getD t.toNat [] := by unfold qAt; rw [if_pos (by omega)]
  rw [hq]
theorem qn_set (s : Os) (T : Nat) (X : List It) : qn { s with Q := s.Q.set T X } = (qn s).set T (X.map Prod.fst) := by
  unfold qn
  rw [List.map_set]
/-- A slot, where nothing is cut. -/
theorem slot_case {c : Oc} {s s' : Os} {t : Nat} {k : Int} {d : Dv} (hw : OInv c s) (hk : s.last + 1 = k) (hD : ∀ j, s.D.getD j [] = []) (h : StepR c { s with last := k } t k d s') :
    (∃ x L, s.Q.getD t [] = x :: L ∧ (d.1 = 1 ∨ d.1 = 3) ∧ d.2.2.1 = 2 * k + 1 ∧ d.2.2.2.1 = x.1 ∧ qn s' = (qn s).set t (L.map Prod.fst) ∧ s'.rl = 2 * k + 1 ∧ s'.D = s.D) ∨
    (d.1 ≠ 1 ∧ (d.1 ≠ 3 ∨ d.2.2.1 ≠ 2 * k + 1) ∧ qn s' = qn s ∧ s'.rl = s.rl ∧ s'.D = s.D) := by
  rcases h with ⟨x, X, hx, -⟩ | ⟨-, y, hy, -, -, rfl, -, -, hQ, -, hrl, hD', -⟩ | ⟨-, -, x, L, p, F', hx, -, rfl, rfl⟩ | ⟨-, -, -, rfl, rfl⟩
  · exact absurd hx (by show ¬ s.D.getD t [] = _; rw [hD t]; intro h; cases h)
  · refine .inr ⟨?_, .inr ?_, by unfold qn; rw [hQ], hrl, hD'⟩
    · show (if (sentS c y).op then (2 : Int) else 3) ≠ 1
      split <;> decide
    · show y.id ≠ 2 * k + 1
      have h1 := hw.mr y hy
      have h2 := hw.rll
      omega
  · refine .inl ⟨x, L, hx, ?_, rfl, rfl, qn_set s t L, rfl, rfl⟩
    show (if x.2.2.isEmpty then (3 : Int) else 1) = 1 ∨ (if x.2.2.isEmpty then (3 : Int) else 1) = 3
    split
    · exact .inr rfl
    · exact .inl rfl
  · exact .inr ⟨show (0 : Int) ≠ 1 by decide, .inl (show (0 : Int) ≠ 3 by decide), rfl, rfl, rfl⟩
end Go.Proofs.YtcecfhfbcdbofaaGreatDoor
set_option linter.unusedSimpArgs false
set_option linter.unusedVariables false
namespace Go.Proofs.YtcecfhfbcdbofaaGreatDoor
open Go.RowKit
attribute [local go_sem] Oper.semAt_some

def lsum (L : List Int) : Nat → Int
  | 0 => 0
  | t + 1 => lsum L t + liveAt L t
theorem live_le' {c : Oc} {s : Os} (hw : OInv c s) {T : Nat} (hT : T < c.ten) : 0 ≤ liveAt s.L T ∧ liveAt s.L T ≤ s.F.length := by
  refine ⟨live_nonneg hw.ln T, ?_⟩
  have h := le_isum hw.ln (liveAt s.L T) (by
    unfold liveAt; rw [if_pos (by omega)]
    exact getD_mem (by rw [Int.toNat_natCast, hw.len]; exact hT))
  rw [hw.ls] at h
  exact h
theorem lsum_le {c : Oc} {s : Os} (hw : OInv c s) : ∀ t : Nat, t ≤ c.ten → 0 ≤ lsum s.L t ∧ lsum s.L t ≤ s.F.length * t := by
  intro t
  induction t with
  | zero => intro _; exact ⟨Int.le_refl _, by show (0 : Int) ≤ _; simp⟩
  | succ t ih =>
    intro ht
    have h1 := ih (by omega)
    have h2 := live_le' hw (T := t) (by omega)
    have e : (s.F.length : Int) * ((t + 1 : Nat) : Int) = s.F.length * t + s.F.length := by rw [Int.natCast_add, Int.mul_add]; simp
    rw [e]
    show 0 ≤ lsum s.L t + liveAt s.L t ∧ lsum s.L t + liveAt s.L t ≤ _
    omega
theorem empty_inv {c : Oc} {s : Os} (hw : OInv c s) : OInv c { s with Q := List.replicate c.ten [] } :=
  { hw with
    q := ⟨by show 1 ≤ (List.replicate c.ten []).length; rw [List.length_replicate]; exact hw.t0, by show (List.replicate c.ten []).length ≤ 64; rw [List.length_replicate]; exact hw.t1, hw.q.b0, hw.q.b1, hw.q.i0, hw.q.i1, fun L hL => by
      obtain rfl := (List.mem_replicate.1 hL).2
      have h1 := hw.q.b0
      have h2 := hw.q.i0
      exact ⟨by show (0 : Int) ≤ _; omega, by show (0 : Int) ≤ _; omega⟩⟩
    ql := List.length_replicate
    qh := fun X hX => by
      obtain rfl := (List.mem_replicate.1 hX).2
      intro x hx; cases hx }
theorem emp_get {Q : List (List It)} {t n j : Nat} {x : It} (ht : t < n) (hx : (Q.getD t [])[j]? = some x) : (emp Q n)[(emp Q t).length + j]? = some (t, x.1) := by
  have key : ∀ d, (emp Q (t + 1 + d))[(emp Q t).length + j]? = some (t, x.1) := by
    intro d
    induction d with
    | zero =>
      rw [Nat.add_zero, emp_succ, List.getElem?_append_right (by omega)]
      rw [show (emp Q t).length + j - (emp Q t).length = j by omega]
      unfold empT
      rw [List.getElem?_map, hx]; rfl
    | succ d ih =>
      rw [show t + 1 + (d + 1) = (t + 1 + d) + 1 by omega, emp_succ, List.getElem?_append_left]
      · exact ih
      · exact (List.getElem?_eq_some_iff.1 ih).1
  have := key (n - t - 1)
  rwa [show t + 1 + (n - t - 1) = n by omega] at this
theorem emp_mono {Q : List (List It)} {t n : Nat} (h : t ≤ n) : (emp Q t).length ≤ (emp Q n).length := by
  have key : ∀ d, (emp Q t).length ≤ (emp Q (t + d)).length := by
    intro d
    induction d with
    | zero => exact Nat.le_refl _
    | succ d ih => rw [show t + (d + 1) = (t + d) + 1 by omega, emp_succ, List.length_append]; omega
  have := key (n - t)
  rwa [show t + (n - t) = n by omega] at this
section
variable {G : Gnd} {w : World} {l : List Asrt} {e : TypeId} {v : Value} {xs : List Value}
theorem Sat.ownOGet (H : Sat G w (ownO e v xs :: l)) : ∃ A c, v = .slice A xs.length c ∧ xs.length ≤ c ∧ c ≤ maxLen ∧ ∀ j x, xs[j]? = some x → ∃ g off, A = some (⟨g, off, none⟩ : Addr) ∧ w.cell? ⟨g, off + j, none⟩ = some x := by
  rcases ownO_iff.1 H with ⟨rfl, rfl, -⟩ | ⟨g, off, cap, cur, rfl, h2, h3, h4, h5, S⟩
  · exact ⟨none, 0, rfl, Nat.le_refl _, Nat.zero_le _, fun j x hx => by simp at hx⟩
  · refine ⟨_, cap, rfl, h2, h3, fun j x hx => ⟨g, off, rfl, ?_⟩⟩
    have hjl := (List.getElem?_eq_some_iff.1 hx).1
    rw [S.cell, ← Array.getElem?_toList, ← hx]
    conv => rhs; rw [← h5]
    rw [List.getElem?_take, if_pos hjl, List.getElem?_drop]
theorem Sat.ownGet {n : Nat} {size : Nat} (H : Sat G w (ownS e size v n xs :: l)) : ∃ A c, v = .slice A n c ∧ n ≤ c ∧ c ≤ maxLen ∧ ∀ j x, xs[j]? = some x → ∃ g, A = some (⟨g, 0, none⟩ : Addr) ∧ w.cell? ⟨g, j, none⟩ = some x := by
  obtain ⟨hl, ⟨rfl, rfl, S⟩ | ⟨g, cap, cur, rfl, hc, hm, hs, ht, S⟩⟩ := own_iff.1 H
  · exact ⟨none, 0, rfl, Nat.le_refl _, Nat.zero_le _, fun j x hx => by
      have : xs = [] := List.eq_nil_of_length_eq_zero (by simpa using hl)
      subst this; simp at hx⟩
  · refine ⟨_, cap, rfl, hc, hm, fun j x hx => ⟨g, rfl, ?_⟩⟩
    have hjl := (List.getElem?_eq_some_iff.1 hx).1
    rw [S.cell, ← Array.getElem?_toList, ← hx]
    conv => rhs; rw [← ht]
    rw [List.getElem?_take, if_pos (by omega)]
theorem eq_did (t x : Int) (w : World) : (Op.equalIn 10000 45 (.agg #[.int .i64 0, .int .i64 t, .int .i64 0, .int .i64 x, .int .i64 0]) (.agg #[.int .i64 0, .int .i64 t, .int .i64 0, .int .i64 x, .int .i64 0])).run Tryz.prog w = .ok true w := by
  have u3 := Tryz.underlying3
  have a3 := Tryz.isAgg3
  have z3 := Tryz.sizeOf3
  rw [show (10000 : Nat) = 9999 + 1 from rfl, Op.equalIn]
  simp only [Sem.run_bind, run_underlying Tryz.underlying45, Result.andThen_ok]
  go_simp
end
end Go.Proofs.YtcecfhfbcdbofaaGreatDoor

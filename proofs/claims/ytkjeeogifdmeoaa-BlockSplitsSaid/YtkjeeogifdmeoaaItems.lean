/- Items as arguments; the walks over Copy and small. -/
import Derived.Test.YtkjeeogifdmeoaaRefO
set_option linter.unusedSimpArgs false
set_option linter.unusedVariables false
namespace Go.Proofs.Ytkjeeogifdmeoaa
open Go.RowKit

theorem rd_int1 {R : Hp} {k : IntKind} {d : D} {c : List Value} (h : Rd R (.int k) d c) : ∃ n, c = [.int k n] := by
  cases d <;> simp only [Rd] at h
  exact ⟨_, h.1⟩
theorem rd_bool1 {R : Hp} {d : D} {c : List Value} (h : Rd R .bool d c) : ∃ n, c = [.bool n] := by
  cases d <;> simp only [Rd] at h
  exact ⟨_, h⟩
theorem rd_bytes1 {R : Hp} {d : D} {c : List Value} (hl : c.length = 1) (h : Rd R (.sl 1 (.int .u8)) d c) : ∃ v t, c = [v] ∧ SlB (cellR R) v t ∧ t.length ≤ 140737488351232 := by
  obtain ⟨l, rfl⟩ : ∃ l, d = .sl l := by cases d <;> (try simp only [Rd] at h) <;> exact ⟨_, rfl⟩
  obtain ⟨v, rfl⟩ : ∃ v, c = [v] := by
    match c, hl with
    | [v], _ => exact ⟨v, rfl⟩
  have h3' : RdSl R 1 (.int .u8) v l := by simpa only [RdSl, Rd] using h
  obtain ⟨bs, e1, e2, e3⟩ := slb_of h3'
  exact ⟨v, bs, rfl, e3, e2⟩
theorem rd_slice1 {R : Hp} {b : Nat} {t : Ty} {d : D} {c : List Value} (hl : c.length = 1) (h : Rd R (.sl b t) d c) : ∃ A n cp, c = [.slice A n cp] := by
  obtain ⟨l, rfl⟩ : ∃ l, d = .sl l := by cases d <;> (try simp only [Rd] at h) <;> exact ⟨_, rfl⟩
  obtain ⟨v, rfl⟩ : ∃ v, c = [v] := by
    match c, hl with
    | [v], _ => exact ⟨v, rfl⟩
  have h3' : RdSl R b t v l := by simpa only [RdSl, Rd] using h
  obtain ⟨A, cp, rfl, -⟩ := h3'.form
  exact ⟨A, _, cp, rfl⟩
theorem rdAll_cons {R : Hp} {t : Ty} {ts : List Ty} {ds : List D} {cs : List Value} (h : RdAll R (t :: ts) ds cs) : ∃ d ds' c cs', ds = d :: ds' ∧ cs = c ++ cs' ∧ c.length = t.size ∧ Rd R t d c ∧ RdAll R ts ds' cs' := by
  cases ds with
  | nil => simp [RdAll] at h
  | cons d ds =>
    simp only [RdAll] at h
    obtain ⟨c1, c2, rfl, h1, h2, h3⟩ := h
    exact ⟨d, ds, c1, c2, rfl, rfl, h1, h2, h3⟩
theorem rdAll_nil {R : Hp} {ds : List D} {cs : List Value} (h : RdAll R [] ds cs) : cs = [] := by
  cases ds with
  | nil => simpa [RdAll] using h
  | cons d ds => simp [RdAll] at h
theorem rd_item {R : Hp} {d : D} {es : List Value} (h : Rd R (Ty.agg [.int .i64, .int .i64, .sl 1 (.int .u8), .bool, .bool, .bool, .int .i64, .int .i64, .int .i64, .int .i64, .int .i64, .int .i64, .bool, .bool, .sl 16 (.agg [.int .i64, .int .i64])]) d es) : ∃ (x : ItD) (t : List UInt8), es = x.cells.toList ∧ x.ok ∧ SlB (cellR R) x.v t ∧ t.length ≤ 140737488351232 := by
  obtain ⟨ds, rfl⟩ : ∃ ds, d = .agg ds := by cases d <;> (try simp only [Rd] at h) <;> exact ⟨_, rfl⟩
  simp only [Rd] at h
  obtain ⟨_, _, c0, _, rfl, rfl, _, r0, h⟩ := rdAll_cons h
  obtain ⟨_, _, c1, _, rfl, rfl, _, r1, h⟩ := rdAll_cons h
  obtain ⟨_, _, c2, _, rfl, rfl, l2, r2, h⟩ := rdAll_cons h
  obtain ⟨_, _, c3, _, rfl, rfl, _, r3, h⟩ := rdAll_cons h
  obtain ⟨_, _, c4, _, rfl, rfl, _, r4, h⟩ := rdAll_cons h
  obtain ⟨_, _, c5, _, rfl, rfl, _, r5, h⟩ := rdAll_cons h
  obtain ⟨_, _, c6, _, rfl, rfl, _, r6, h⟩ := rdAll_cons h
  obtain ⟨_, _, c7, _, rfl, rfl, _, r7, h⟩ := rdAll_cons h
  obtain ⟨_, _, c8, _, rfl, rfl, _, r8, h⟩ := rdAll_cons h
  obtain ⟨_, _, c9, _, rfl, rfl, _, r9, h⟩ := rdAll_cons h
  obtain ⟨_, _, c10, _, rfl, rfl, _, r10, h⟩ := rdAll_cons h
  obtain ⟨_, _, c11, _, rfl, rfl, _, r11, h⟩ := rdAll_cons h
  obtain ⟨_, _, c12, _, rfl, rfl, _, r12, h⟩ := rdAll_cons h
  obtain ⟨_, _, c13, _, rfl, rfl, _, r13, h⟩ := rdAll_cons h
  obtain ⟨_, _, c14, _, rfl, rfl, l14, r14, h⟩ := rdAll_cons h
  obtain rfl := rdAll_nil h
  obtain ⟨m0, rfl⟩ := rd_int1 r0
  obtain ⟨m1, rfl⟩ := rd_int1 r1
  obtain ⟨v, t, rfl, hs, ht⟩ := rd_bytes1 l2 r2
  obtain ⟨m3, rfl⟩ := rd_bool1 r3
  obtain ⟨m4, rfl⟩ := rd_bool1 r4
  obtain ⟨m5, rfl⟩ := rd_bool1 r5
  obtain ⟨m6, rfl⟩ := rd_int1 r6
  obtain ⟨m7, rfl⟩ := rd_int1 r7
  obtain ⟨m8, rfl⟩ := rd_int1 r8
  obtain ⟨m9, rfl⟩ := rd_int1 r9
  obtain ⟨m10, rfl⟩ := rd_int1 r10
  obtain ⟨m11, rfl⟩ := rd_int1 r11
  obtain ⟨m12, rfl⟩ := rd_bool1 r12
  obtain ⟨m13, rfl⟩ := rd_bool1 r13
  obtain ⟨B, n, c, rfl⟩ := rd_slice1 l14 r14
  obtain ⟨A, cp, rfl, -, -, -⟩ := id hs.form
  exact ⟨⟨m0, m1, _, m3, m4, m5, m6, m7, m8, m9, m10, m11, m12, m13, _⟩, t, rfl, ⟨⟨A, _, cp, rfl⟩, B, n, c, rfl⟩, hs, ht⟩
theorem arg_item {w : World} {v : Value} {d : D} (h : ArgV w (Ty.agg [.int .i64, .int .i64, .sl 1 (.int .u8), .bool, .bool, .bool, .int .i64, .int .i64, .int .i64, .int .i64, .int .i64, .int .i64, .bool, .bool, .sl 16 (.agg [.int .i64, .int .i64])]) v d) : ∃ (x : ItD) (t : List UInt8), v = .agg x.cells ∧ x.ok ∧ SlB (cellR (Gnd.of w).ro) x.v t ∧ t.length ≤ 140737488351232 := by
  obtain ⟨cs, rfl, h⟩ := h
  obtain ⟨x, t, e, r⟩ := rd_item h
  exact ⟨x, t, by rw [show cs = x.cells from Array.toList_inj.1 e], r⟩
/-- A slice of items that nobody turns. -/
def RIts (R : Hp) (v : Value) (xs : List (ItD × List UInt8)) : Prop :=
  ∃ A c, v = .slice A xs.length c ∧ xs.length ≤ 140737488351232 ∧ ∀ i x, xs[i]? = some x → ∃ a b off, A = some a ∧ a.add (i * 15) = ⟨b, off, none⟩ ∧ (∀ j u, x.1.cells[j]? = some u → cellR R ⟨b, off + j, none⟩ = some u) ∧ x.1.ok ∧ SlB (cellR R) x.1.v x.2 ∧ x.2.length ≤ 140737488351232
theorem items_of {R : Hp} {v : Value} {l : List D} (h : RdSl R 128 (Ty.agg [.int .i64, .int .i64, .sl 1 (.int .u8), .bool, .bool, .bool, .int .i64, .int .i64, .int .i64, .int .i64, .int .i64, .int .i64, .bool, .bool, .sl 16 (.agg [.int .i64, .int .i64])]) v l) : ∃ xs, RIts R v xs := by
  obtain ⟨A, c, hv, hlc, hc, hb, _, hel⟩ := h.form
  have key : ∀ i, i < l.length → ∃ x : ItD × List UInt8, ∃ a b off, A = some a ∧ a.add (i * 15) = ⟨b, off, none⟩ ∧ (∀ j u, x.1.cells[j]? = some u → cellR R ⟨b, off + j, none⟩ = some u) ∧ x.1.ok ∧ SlB (cellR R) x.1.v x.2 ∧ x.2.length ≤ 140737488351232 := fun i hi => by
    obtain ⟨a, hA, es, he, hcl, hr⟩ := hel i l[i] (List.getElem?_eq_getElem hi)
    obtain ⟨x, t, rfl, hx, hs, ht⟩ := rd_item hr
    have hz : ∀ j, j < 15 → cellR R (a.add (i * 15 + j)) = x.cells[j]? := fun j hj => (hcl j hj).trans (by simp)
    obtain ⟨b, off, hab⟩ : ∃ b off, a.add (i * 15) = ⟨b, off, none⟩ := by
      have h0 := hz 0 (by omega)
      rcases hx : a.add (i * 15) with ⟨b, off, sp⟩
      cases sp with
      | none => exact ⟨b, off, rfl⟩
      | some s =>
        rw [Nat.add_zero, hx] at h0
        simp only [cellR] at h0
        split at h0 <;> simp [ItD.cells] at h0
    have hj : ∀ j, a.add (i * 15 + j) = ⟨b, off + j, none⟩ := fun j => by
      rw [← add_add_all, hab]; unfold Addr.add; split <;> simp_all
    refine ⟨(x, t), a, b, off, hA, hab, fun j u hu => ?_, hx, hs, ht⟩
    have hlt : j < 15 := (Array.getElem?_eq_some_iff.1 hu).1
    rw [← hj j, hz j hlt, hu]
  obtain ⟨fl, hl, hfl⟩ := list_of_each (Q := fun i (x : ItD × List UInt8) => ∃ a b off, A = some a ∧ a.add (i * 15) = ⟨b, off, none⟩ ∧ (∀ j u, x.1.cells[j]? = some u → cellR R ⟨b, off + j, none⟩ = some u) ∧ x.1.ok ∧ SlB (cellR R) x.1.v x.2 ∧ x.2.length ≤ 140737488351232) l.length key
  exact ⟨fl, A, c, by rw [hl]; exact hv, by rw [hl]; omega, hfl⟩
section
variable {G : Gnd} {w : World} {l : List Asrt} {p : Nat} {lim : Int} {b : BSt}
set_option maxHeartbeats 1000000 in
theorem as_copy (H : Sat G w (asA p lim b :: l)) (hl : b.t.length ≤ 1000000000) : Calls Try.prog 16 #[.pointer (some ⟨p, 0, none⟩)] w fun e w' => ∃ q G', G.le G' ∧ e = .returned (.pointer (some ⟨q, 0, none⟩)) ∧ Sat G' w' (asA q lim b :: asA p lim b :: l) := by
  refine calls_any fun K hK => ?_
  obtain ⟨v, hv, S⟩ := as_iff.1 H
  obtain ⟨A, c, rfl, -, -, -⟩ := hv.form
  clear H
  have HV := Lib.hid hv
  generalize hbs : b.s = bs at *
  generalize hbw : b.w = bw at *
  generalize hbe : b.e = be at *
  have HB := Lib.hid (And.intro hbs (And.intro hbw hbe))
  clear hbs hbw hbe
  have c0 := S.cell 0
  have c1 := S.cell 1
  have c2 := S.cell 2
  have c3 := S.cell 3
  have c4 := S.cell 4
  have S2 := S.newBlk #[.int .i64 lim, .bool bw, .int .i64 bs, .slice A b.t.length c, .bool be] 62
  go_enter Try.func16, Try.ntmps16
  go_upto_region 2 with fail
  generalize w.heap.size = q at *
  refine wp_world S2 fun w2 S3 => ?_
  clear c0 c1 c2 c3 c4 S S2
  have c3 := S3.swap.cell 3
  have hcl := bytes_clone S3 (.slice A b.t.length c) b.t (hv.sat S3).1 (by omega)
  clear hv
  go_wp2_with fail
  (with_reducible refine hcl.mono ?_)
  clear hcl c3 S3
  rintro e w3 ⟨u, rfl, S4⟩
  obtain ⟨G2, hG2, S5, hu⟩ := S4.ownFrz
  obtain ⟨U, cu, rfl, -, -, -⟩ := hu.form
  have HU := Lib.hid hu
  clear hu S4
  have d3 := S5.cell 3
  have f3 := S5.frozen 3
  have S6 := S5.setCell 3 (.slice U b.t.length cu)
  have HS := Lib.hid S6
  clear S5 S6
  go_wp2_with fail
  obtain ⟨e1, e2, e3⟩ := HB.out
  subst e1 e2 e3
  exact hK.out _ _ ⟨q, G2, hG2, rfl, as_iff.2 ⟨_, HU.out, (as_iff.2 ⟨_, HV.out.mono hG2, HS.out.swap⟩).swap⟩⟩
end
def lenIts : List (ItD × List UInt8) → Nat
  | [] => 0
  | x :: l => 3 + x.2.length + lenIts l
theorem lenIts_append (l l' : List (ItD × List UInt8)) : lenIts (l ++ l') = lenIts l + lenIts l' := by
  induction l with
  | nil => simp [lenIts]
  | cons b l ih => simp [lenIts, ih]; omega
theorem lenIts_take (l : List (ItD × List UInt8)) (k : Nat) : lenIts (l.take k) ≤ lenIts l := by
  have : lenIts l = lenIts (l.take k) + lenIts (l.drop k) := by rw [← lenIts_append, List.take_append_drop]
  omega
theorem lenIts_snoc {l : List (ItD × List UInt8)} {k : Nat} {x : ItD × List UInt8} (h : l[k]? = some x) : lenIts (l.take (k + 1)) = lenIts (l.take k) + (3 + x.2.length) := by
  have hi := (List.getElem?_eq_some_iff.1 h).1
  have he := (List.getElem?_eq_some_iff.1 h).2
  rw [List.take_succ_eq_append_getElem hi, he, lenIts_append]
  simp [lenIts]
set_option maxHeartbeats 1000000 in
theorem law_small {G : Gnd} {w : World} {l : List Asrt} (H : Sat G w l) (v : Value) (xs : List (ItD × List UInt8)) (hx : RIts G.ro v xs) :
    Calls Try.prog 7 #[v] w fun e w' => e = .returned (.bool (decide (lenIts xs ≤ 500))) ∧ Sat G w' l := by
  refine calls_any fun K hK => ?_
  obtain ⟨A, c, rfl, hbl, hel⟩ := hx
  have HEL := Lib.hid hel
  clear hel
  go_enter Try.func7, Try.ntmps7
  go_wp2_with fail
  go_loopw [3, 8] (fun n i wr => ∃ k : Nat, k ≤ xs.length ∧ i = .int .i64 k ∧ n = .int .i64 (lenIts (xs.take k)) ∧ lenIts (xs.take k) ≤ 500 ∧ Sat G wr l) (fun _ i _ => xs.length - (intOf i).toNat)
  case atStart => exact ⟨0, Nat.zero_le _, rfl, by simp [lenIts], by simp [lenIts], H⟩
  case round =>
    obtain ⟨k, hk, rfl, rfl, hle, S⟩ := hrel
    clear H
    by_cases hlt : k < xs.length
    · have hxk := List.getElem?_eq_getElem hlt
      obtain ⟨a, b, off, rfl, ha, hcl, hok, hs, htl⟩ := HEL.out k xs[k] hxk
      have hst := lenIts_snoc hxk
      have htk := lenIts_take xs (k + 1)
      rw [hst] at htk
      have HST := Lib.hid hst
      have HTK := Lib.hid htk
      clear hst htk hxk
      generalize xs[k] = x at *
      obtain ⟨x, t⟩ := x
      simp only at hcl hok hs htl HST HTK
      obtain ⟨⟨V, n, cv, hv⟩, B, m, d, hq⟩ := hok
      obtain ⟨V', cv', hv', -, -, -⟩ := hs.form
      rw [hv] at hv'
      cases hv'
      have e0 := S.cellR (hcl 0 (.int .i64 x.k) rfl)
      have e1 := S.cellR (hcl 1 (.int .i64 x.s) rfl)
      have e2 := S.cellR (hcl 2 (x.v) rfl)
      have e3 := S.cellR (hcl 3 (.bool x.e) rfl)
      have e4 := S.cellR (hcl 4 (.bool x.l) rfl)
      have e5 := S.cellR (hcl 5 (.bool x.a) rfl)
      have e6 := S.cellR (hcl 6 (.int .i64 x.n1) rfl)
      have e7 := S.cellR (hcl 7 (.int .i64 x.n2) rfl)
      have e8 := S.cellR (hcl 8 (.int .i64 x.n3) rfl)
      have e9 := S.cellR (hcl 9 (.int .i64 x.n4) rfl)
      have e10 := S.cellR (hcl 10 (.int .i64 x.n5) rfl)
      have e11 := S.cellR (hcl 11 (.int .i64 x.n6) rfl)
      have e12 := S.cellR (hcl 12 (.bool x.b1) rfl)
      have e13 := S.cellR (hcl 13 (.bool x.b2) rfl)
      have e14 := S.cellR (hcl 14 (x.q) rfl)
      rw [Nat.add_zero] at e0
      rw [hv] at e2
      rw [hq] at e14
      clear hcl hs hv hq
      have BB : ∀ o, Sat G (wr.alloc o) l := fun o => S.alloc o
      clear S
      generalize lenIts (xs.take k) = s at *
      by_cases h500 : 500 < (s : Int) + (3 + t.length)
      · have hf : decide (lenIts xs ≤ 500) = false := decide_eq_false (by have := HTK.out; omega)
        rw [hf] at hK
        go_wp2_with fail
        exact hK.out _ _ ⟨rfl, BB _⟩
      · go_wp2_with fail
        go_roundw
        case rel => exact ⟨k + 1, by omega, by go_num, by rw [HST.out]; first | rfl | (congr 1; omega), by rw [HST.out]; omega, BB _⟩
        case measure => simp [intOf]; omega
    · obtain rfl : k = xs.length := by omega
      rw [List.take_length] at hle
      have hf : decide (lenIts xs ≤ 500) = true := decide_eq_true hle
      rw [hf] at hK
      go_wp2_with fail
      exact hK.out _ _ ⟨rfl, S⟩
end Go.Proofs.Ytkjeeogifdmeoaa

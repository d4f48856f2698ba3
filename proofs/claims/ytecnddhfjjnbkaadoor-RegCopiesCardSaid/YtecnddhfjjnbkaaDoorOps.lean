/- Chapter 14: what comes in (calls), and the law's right. -/
import Derived.Test.YtecnddhfjjnbkaaDoorDoR
import Derived.Test.YtecnddhfjjnbkaaDoorAwr
import Derived.Test.YtecnddhfjjnbkaaDoorLaid
set_option linter.unusedSimpArgs false
set_option linter.unusedVariables false
namespace Go.Proofs.YtecnddhfjjnbkaaDoor
open Go.RowKit

theorem rd_int1 {R : Hp} {k : IntKind} {d : D} {c : List Value} (h : Rd R (.int k) d c) : ∃ n, c = [.int k n] ∧ (Lit.int k n).wf = true := by
  cases d <;> simp only [Rd] at h
  exact ⟨_, h.1, h.2⟩
theorem rdAll_cons {R : Hp} {t : Ty} {ts : List Ty} {ds : List D} {cs : List Value} (h : RdAll R (t :: ts) ds cs) : ∃ d ds' c cs', ds = d :: ds' ∧ cs = c ++ cs' ∧ c.length = t.size ∧ Rd R t d c ∧ RdAll R ts ds' cs' := by
  cases ds with
  | nil => simp [RdAll] at h
  | cons d ds =>
    simp only [RdAll] at h
    obtain ⟨c1, c2, rfl, h1, h2, h3⟩ := h
    exact ⟨d, ds, c1, c2, rfl, rfl, h1, h2, h3⟩
theorem rdAll_nil {R : Hp} {ds : List D} {cs : List Value} (h : RdAll R [] ds cs) : cs = [] := by
  cases ds with
  | nil => simpa [RdAll] using h
  | cons d ds => simp [RdAll] at h
theorem add_add_all (a : Addr) (k j : Nat) : (a.add k).add j = a.add (k + j) := by
  unfold Addr.add
  by_cases hk : k = 0
  · simp [hk]
  · by_cases hj : j = 0
    · simp [hk, hj]
    · simp [hk, hj, Nat.add_assoc]
/-- A call. -/
structure OpD where
  k : Int
  n : Int
  e : Int
def OpD.cells (o : OpD) : List Value := [.int .i64 o.k, .int .i64 o.n, .int .i64 o.e]
theorem rd_op {R : Hp} {d : D} {es : List Value} (h : Rd R (Ty.agg [.int .i64, .int .i64, .int .i64]) d es) : ∃ o : OpD, es = o.cells := by
  obtain ⟨ds, rfl⟩ : ∃ ds, d = .agg ds := by cases d <;> (try simp only [Rd] at h) <;> exact ⟨_, rfl⟩
  simp only [Rd] at h
  obtain ⟨_, _, c0, _, rfl, rfl, _, r0, h⟩ := rdAll_cons h
  obtain ⟨_, _, c1, _, rfl, rfl, _, r1, h⟩ := rdAll_cons h
  obtain ⟨_, _, c2, _, rfl, rfl, _, r2, h⟩ := rdAll_cons h
  obtain rfl := rdAll_nil h
  obtain ⟨m0, rfl, -⟩ := rd_int1 r0
  obtain ⟨m1, rfl, -⟩ := rd_int1 r1
  obtain ⟨m2, rfl, -⟩ := rd_int1 r2
  exact ⟨⟨m0, m1, m2⟩, by simp [OpD.cells]⟩
/-- A slice of calls that nobody turns. -/
def ROps (R : Hp) (v : Value) (ops : List OpD) : Prop :=
  ∃ A c, v = .slice A ops.length c ∧ ops.length ≤ c ∧ c ≤ 9223372036854775807 ∧ ∀ i o, ops[i]? = some o → ∃ a b off, A = some a ∧ a.add (i * 3) = ⟨b, off, none⟩ ∧ cellR R ⟨b, off, none⟩ = some (.int .i64 o.k) ∧ cellR R ⟨b, off + 1, none⟩ = some (.int .i64 o.n) ∧ cellR R ⟨b, off + 2, none⟩ = some (.int .i64 o.e)
theorem ops_of {R : Hp} {v : Value} {l : List D} (h : RdSl R 24 (Ty.agg [.int .i64, .int .i64, .int .i64]) v l) : ∃ ops, ROps R v ops := by
  obtain ⟨A, c, hv, hlc, hc, hb, _, hel⟩ := h.form
  have key : ∀ i, i < l.length → ∃ o : OpD, ∃ a b off, A = some a ∧ a.add (i * 3) = ⟨b, off, none⟩ ∧ cellR R ⟨b, off, none⟩ = some (.int .i64 o.k) ∧ cellR R ⟨b, off + 1, none⟩ = some (.int .i64 o.n) ∧ cellR R ⟨b, off + 2, none⟩ = some (.int .i64 o.e) := fun i hi => by
    obtain ⟨a, hA, es, he, hcl, hr⟩ := hel i l[i] (List.getElem?_eq_getElem hi)
    obtain ⟨o, rfl⟩ := rd_op hr
    have hz : ∀ j, j < 3 → cellR R (a.add (i * 3 + j)) = o.cells[j]? := fun j hj => hcl j hj
    obtain ⟨b, off, hab⟩ : ∃ b off, a.add (i * 3) = ⟨b, off, none⟩ := by
      have h0 := hz 0 (by omega)
      rcases hx : a.add (i * 3) with ⟨b, off, sp⟩
      cases sp with
      | none => exact ⟨b, off, rfl⟩
      | some s =>
        rw [Nat.add_zero, hx] at h0
        simp only [cellR] at h0
        split at h0 <;> simp [OpD.cells] at h0
    have hj : ∀ j, a.add (i * 3 + j) = ⟨b, off + j, none⟩ := fun j => by
      rw [← add_add_all, hab]; unfold Addr.add; split <;> simp_all
    have h0 := hz 0 (by omega)
    have h1 := hz 1 (by omega)
    have h2 := hz 2 (by omega)
    rw [hj] at h0 h1 h2
    exact ⟨o, a, b, off, hA, hab, h0, h1, h2⟩
  obtain ⟨fl, hl, hfl⟩ := list_of_each (Q := fun i (o : OpD) => ∃ a b off, A = some a ∧ a.add (i * 3) = ⟨b, off, none⟩ ∧ cellR R ⟨b, off, none⟩ = some (.int .i64 o.k) ∧ cellR R ⟨b, off + 1, none⟩ = some (.int .i64 o.n) ∧ cellR R ⟨b, off + 2, none⟩ = some (.int .i64 o.e)) l.length key
  exact ⟨fl, A, c, by rw [hl]; exact hv, by rw [hl]; exact hlc, hc, hfl⟩
theorem arg_case {w : World} {v : Value} {d : D} (h : ArgV w (Ty.agg [.int .i64, .int .i64, .sl 24 (Ty.agg [.int .i64, .int .i64, .int .i64])]) v d) : ∃ t b x ops, v = .agg #[.int .i64 t, .int .i64 b, x] ∧ ROps (Gnd.of w).ro x ops := by
  obtain ⟨cs, rfl, h⟩ := h
  obtain ⟨ds, rfl⟩ : ∃ ds, d = .agg ds := by cases d <;> (try simp only [Rd] at h) <;> exact ⟨_, rfl⟩
  simp only [Rd] at h
  obtain ⟨_, _, c0, _, rfl, e0, _, r0, h⟩ := rdAll_cons h
  obtain ⟨_, _, c1, _, rfl, rfl, _, r1, h⟩ := rdAll_cons h
  obtain ⟨d3, _, c3, _, rfl, rfl, l3, r3, h⟩ := rdAll_cons h
  obtain rfl := rdAll_nil h
  obtain ⟨m0, rfl, -⟩ := rd_int1 r0
  obtain ⟨m1, rfl, w1⟩ := rd_int1 r1
  obtain ⟨l, rfl⟩ : ∃ l, d3 = D.sl l := by cases d3 <;> (try simp only [Rd] at r3) <;> exact ⟨_, rfl⟩
  obtain ⟨x, rfl⟩ : ∃ x, c3 = [x] := by
    match c3, l3 with
    | [v], _ => exact ⟨v, rfl⟩
  have r3' : RdSl (Gnd.of w).ro 24 (Ty.agg [.int .i64, .int .i64, .int .i64]) x l := r3
  obtain ⟨ops, hx⟩ := ops_of r3'
  exact ⟨m0, m1, x, ops, by rw [show cs = #[.int .i64 m0, .int .i64 m1, x] from Array.toList_inj.1 (by rw [e0]; rfl)], hx⟩
section
variable {G : Gnd} {w w' : World} {l : List Asrt}
def lawRight (t b : Int) (n : Nat) : Bool := decide (1 ≤ t ∧ t ≤ 64 ∧ 1 ≤ b ∧ b ≤ 65536 ∧ n ≤ 100)
set_option maxHeartbeats 1000000 in
theorem law_right (H : Sat G w l) (t b : Int) (A : Option Addr) (n c : Nat) : Calls Tryd.prog 10 #[.agg #[.int .i64 t, .int .i64 b, .slice A n c]] w fun e w' => e = .returned (.bool (lawRight t b n)) ∧ Sat G w' l := by
  refine calls_any fun K hK => ?_
  have S := H.newBlk #[.int .i64 t, .int .i64 b, .slice A n c] 29
  have c0 := S.cell 0
  have c1 := S.cell 1
  have c2 := S.cell 2
  have HS := Lib.hid S
  clear H S
  by_cases a1 : 1 ≤ t
  · by_cases a2 : t ≤ 64
    · by_cases a3 : 1 ≤ b
      · by_cases a4 : b ≤ 65536
        · by_cases a5 : n ≤ 100
          · rw [show lawRight t b n = true from decide_eq_true ⟨a1, a2, a3, a4, a5⟩] at hK
            have z1 : decide (t ≥ 1) = true := decide_eq_true (by omega)
            have z2 : decide (t ≤ 64) = true := decide_eq_true (by omega)
            have z3 : decide (b ≥ 1) = true := decide_eq_true (by omega)
            have z4 : decide (b ≤ 65536) = true := decide_eq_true (by omega)
            have z5 : decide ((n : Int) ≤ 100) = true := decide_eq_true (by omega)
            go_enter Tryd.func10, Tryd.ntmps10; go_wp2_with fail; exact hK.out _ _ ⟨rfl, HS.out.drop⟩
          · rw [show lawRight t b n = false from decide_eq_false (by omega)] at hK
            have z1 : decide (t ≥ 1) = true := decide_eq_true (by omega)
            have z2 : decide (t ≤ 64) = true := decide_eq_true (by omega)
            have z3 : decide (b ≥ 1) = true := decide_eq_true (by omega)
            have z4 : decide (b ≤ 65536) = true := decide_eq_true (by omega)
            have z5 : decide ((n : Int) ≤ 100) = false := decide_eq_false (by omega)
            go_enter Tryd.func10, Tryd.ntmps10; go_wp2_with fail; exact hK.out _ _ ⟨rfl, HS.out.drop⟩
        · rw [show lawRight t b n = false from decide_eq_false (by omega)] at hK
          have z1 : decide (t ≥ 1) = true := decide_eq_true (by omega)
          have z2 : decide (t ≤ 64) = true := decide_eq_true (by omega)
          have z3 : decide (b ≥ 1) = true := decide_eq_true (by omega)
          have z4 : decide (b ≤ 65536) = false := decide_eq_false (by omega)
          go_enter Tryd.func10, Tryd.ntmps10; go_wp2_with fail; exact hK.out _ _ ⟨rfl, HS.out.drop⟩
      · rw [show lawRight t b n = false from decide_eq_false (by omega)] at hK
        have z1 : decide (t ≥ 1) = true := decide_eq_true (by omega)
        have z2 : decide (t ≤ 64) = true := decide_eq_true (by omega)
        have z3 : decide (b ≥ 1) = false := decide_eq_false (by omega)
        go_enter Tryd.func10, Tryd.ntmps10; go_wp2_with fail; exact hK.out _ _ ⟨rfl, HS.out.drop⟩
    · rw [show lawRight t b n = false from decide_eq_false (by omega)] at hK
      have z1 : decide (t ≥ 1) = true := decide_eq_true (by omega)
      have z2 : decide (t ≤ 64) = false := decide_eq_false (by omega)
      go_enter Tryd.func10, Tryd.ntmps10; go_wp2_with fail; exact hK.out _ _ ⟨rfl, HS.out.drop⟩
  · rw [show lawRight t b n = false from decide_eq_false (by omega)] at hK
    have z1 : decide (t ≥ 1) = false := decide_eq_false (by omega)
    go_enter Tryd.func10, Tryd.ntmps10; go_wp2_with fail; exact hK.out _ _ ⟨rfl, HS.out.drop⟩
end
end Go.Proofs.YtecnddhfjjnbkaaDoor

/- Calls that came in; pair, step: the walks. -/
import Derived.Test.YtkjkekhhhbopcaaRfa
set_option linter.unusedSimpArgs false
set_option linter.unusedVariables false
namespace Go.Proofs.Ytkjkekhhhbopcaa
open Go.RowKit

structure OpD where
  k : Int
  n : Int
  x : Fd
def OpD.cells (o : OpD) : List Value := .int .i64 o.k :: .int .i64 o.n :: fenc o.x
structure OpD.ok (o : OpD) : Prop where
  h : o.x.1.length ≤ 140737488351232
  b : o.x.2.length ≤ 140737488351232
theorem rd_op {R : Hp} {d : D} {es : List Value} (h : Rd R (Ty.agg [.int .i64, .int .i64, (Ty.agg [.str, .str])]) d es) : ∃ o : OpD, es = o.cells ∧ o.ok := by
  obtain ⟨ds, rfl⟩ : ∃ ds, d = .agg ds := by cases d <;> (try simp only [Rd] at h) <;> exact ⟨_, rfl⟩
  simp only [Rd] at h
  obtain ⟨_, _, c0, _, rfl, rfl, _, r0, h⟩ := rdAll_cons h
  obtain ⟨_, _, c1, _, rfl, rfl, _, r1, h⟩ := rdAll_cons h
  obtain ⟨_, _, c2, _, rfl, rfl, _, r2, h⟩ := rdAll_cons h
  obtain rfl := rdAll_nil h
  obtain ⟨m0, rfl, -⟩ := rd_int1 r0
  obtain ⟨m1, rfl, -⟩ := rd_int1 r1
  obtain ⟨x, rfl, z1, z2⟩ := rd_field r2
  exact ⟨⟨m0, m1, x⟩, by simp [OpD.cells], z1, z2⟩
/-- A slice of calls that nobody turns. -/
def ROps (R : Hp) (v : Value) (ops : List OpD) : Prop :=
  ∃ A c, v = .slice A ops.length c ∧ ops.length ≤ c ∧ c ≤ 9223372036854775807 ∧ ∀ i o, ops[i]? = some o → ∃ a b off, A = some a ∧ a.add (i * 4) = ⟨b, off, none⟩ ∧ (∀ j u, o.cells[j]? = some u → cellR R ⟨b, off + j, none⟩ = some u) ∧ o.ok
theorem ops_of {R : Hp} {v : Value} {l : List D} (h : RdSl R 48 (Ty.agg [.int .i64, .int .i64, (Ty.agg [.str, .str])]) v l) : ∃ ops, ROps R v ops := by
  obtain ⟨A, c, hv, hlc, hc, hb, _, hel⟩ := h.form
  have key : ∀ i, i < l.length → ∃ o : OpD, ∃ a b off, A = some a ∧ a.add (i * 4) = ⟨b, off, none⟩ ∧ (∀ j u, o.cells[j]? = some u → cellR R ⟨b, off + j, none⟩ = some u) ∧ o.ok := fun i hi => by
    obtain ⟨a, hA, es, he, hcl, hr⟩ := hel i l[i] (List.getElem?_eq_getElem hi)
    obtain ⟨o, rfl, hx⟩ := rd_op hr
    have hz : ∀ j, j < 4 → cellR R (a.add (i * 4 + j)) = o.cells[j]? := fun j hj => hcl j hj
    obtain ⟨b, off, hab⟩ : ∃ b off, a.add (i * 4) = ⟨b, off, none⟩ := by
      have h0 := hz 0 (by omega)
      rcases hx : a.add (i * 4) with ⟨b, off, sp⟩
      cases sp with
      | none => exact ⟨b, off, rfl⟩
      | some s =>
        rw [Nat.add_zero, hx] at h0
        simp only [cellR] at h0
        split at h0 <;> simp [OpD.cells] at h0
    have hj : ∀ j, a.add (i * 4 + j) = ⟨b, off + j, none⟩ := fun j => by
      rw [← add_add_all, hab]; unfold Addr.add; split <;> simp_all
    refine ⟨o, a, b, off, hA, hab, fun j u hu => ?_, hx⟩
    have hlt : j < 4 := (List.getElem?_eq_some_iff.1 hu).1
    rw [← hj j, hz j hlt, hu]
  obtain ⟨fl, hl, hfl⟩ := list_of_each (Q := fun i (o : OpD) => ∃ a b off, A = some a ∧ a.add (i * 4) = ⟨b, off, none⟩ ∧ (∀ j u, o.cells[j]? = some u → cellR R ⟨b, off + j, none⟩ = some u) ∧ o.ok) l.length key
  exact ⟨fl, A, c, by rw [hl]; exact hv, by rw [hl]; exact hlc, hc, hfl⟩
def stepF (lim : Int) (F : List Fd) (o : OpD) : List Fd × Int :=
  if o.k = 1 then (addF lim F o.x, lim) else if o.k = 2 then (if lRight o.n then ((shrF o.n F).1, o.n) else (F, lim)) else (F, lim)
section
variable {G : Gnd} {w w' : World} {l : List Asrt} {p : Nat} {Z F : List Fd} {lim : Int}
set_option maxHeartbeats 1000000 in
theorem law_pair (H : Sat G w l) (x : Fd) : Calls Try.prog 20 #[.agg #[.string (bstr x.1), .string (bstr x.2)]] w fun e w' => e = .returned (.agg #[.string (bstr x.1), .string (bstr x.2)]) ∧ Sat G w' l := by
  refine calls_any fun K hK => ?_
  have S1 := (H.newBlk #[.string (bstr x.1), .string (bstr x.2)] 23).newBlk #[.string (bstr x.1), .string (bstr x.2)] 47
  simp only [World.size_alloc] at S1
  have HS := Lib.hid S1
  clear S1 H
  go_enter Try.func20, Try.ntmps20
  go_wp2_with fail
  refine ret_cell HS.out 2 47 rfl _ rfl Try.underlying47 rfl (by kernel_rfl) rfl ?_
  exact hK.out _ _ ⟨rfl, HS.out.drop.drop⟩
end
end Go.Proofs.Ytkjkekhhhbopcaa

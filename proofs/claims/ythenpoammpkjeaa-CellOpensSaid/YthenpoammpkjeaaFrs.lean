/- Frames as arguments; their bytes one behind the other. -/
import Derived.Test.YthenpoammpkjeaaAll
set_option linter.unusedSimpArgs false
set_option linter.unusedVariables false
namespace Go.Proofs.Ythenpoammpkjeaa
open Go.RowKit

theorem rd_frame {R : Hp} {d : D} {es : List Value} (h : Rd R (Ty.agg [.int .i64, .int .i64, .int .i64, .sl 1 (.int .u8)]) d es) : ∃ (t f s : Int) (A : Option Addr) (bs : List UInt8) (c : Nat), es = [.int .i64 t, .int .i64 f, .int .i64 s, .slice A bs.length c] ∧ (-9223372036854775808 ≤ t ∧ t ≤ 9223372036854775807) ∧ (-9223372036854775808 ≤ f ∧ f ≤ 9223372036854775807) ∧ (-9223372036854775808 ≤ s ∧ s ≤ 9223372036854775807) ∧ bs.length ≤ 140737488351232 ∧ SlB (cellR R) (.slice A bs.length c) bs := by
  cases d <;> simp only [Rd] at h
  rename_i ds
  match ds, h with
  | [d0, d1, d2, d3], h =>
    simp only [RdAll] at h
    obtain ⟨c0, _, rfl, _, h0, c1, _, rfl, _, h1, c2, _, rfl, _, h2, c3, _, rfl, l3, h3, rfl⟩ := h
    cases d0 <;> simp only [Rd] at h0
    cases d1 <;> simp only [Rd] at h1
    cases d2 <;> simp only [Rd] at h2
    obtain ⟨l, rfl⟩ : ∃ l, d3 = .sl l := by cases d3 <;> (try simp only [Rd] at h3) <;> exact ⟨_, rfl⟩
    obtain ⟨rfl, w0⟩ := h0
    obtain ⟨rfl, w1⟩ := h1
    obtain ⟨rfl, w2⟩ := h2
    obtain ⟨v, rfl⟩ : ∃ v, c3 = [v] := by
      match c3, l3 with
      | [v], _ => exact ⟨v, rfl⟩
    have h3' : RdSl R 1 (.int .u8) v l := by simpa only [RdSl, Rd] using h3
    obtain ⟨bs, e1, e2, e3⟩ := slb_of h3'
    obtain ⟨A, c, rfl, -, -, -⟩ := e3.form
    simp [Lit.wf] at w0 w1 w2
    exact ⟨_, _, _, A, bs, c, rfl, w0, w1, w2, e2, e3⟩
  | [], h => simp [RdAll] at h
  | [_], h => simp [RdAll] at h
  | [_, _], h => simp [RdAll] at h
  | [_, _, _], h => simp [RdAll] at h
  | _ :: _ :: _ :: _ :: _ :: _, h => simp [RdAll] at h
theorem arg_frame {w : World} {v : Value} {d : D} (h : ArgV w (Ty.agg [.int .i64, .int .i64, .int .i64, .sl 1 (.int .u8)]) v d) : ∃ (t f s : Int) (A : Option Addr) (bs : List UInt8) (c : Nat), v = .agg #[.int .i64 t, .int .i64 f, .int .i64 s, .slice A bs.length c] ∧ (-9223372036854775808 ≤ t ∧ t ≤ 9223372036854775807) ∧ (-9223372036854775808 ≤ f ∧ f ≤ 9223372036854775807) ∧ (-9223372036854775808 ≤ s ∧ s ≤ 9223372036854775807) ∧ bs.length ≤ 140737488351232 ∧ SlB (cellR (Gnd.of w).ro) (.slice A bs.length c) bs := by
  obtain ⟨cs, rfl, h⟩ := h
  obtain ⟨t, f, s, A, bs, c, e, r⟩ := rd_frame h
  exact ⟨t, f, s, A, bs, c, by rw [← e], r⟩
structure FrD where
  t : Int
  f : Int
  s : Int
  v : Value
  bs : List UInt8
def FrD.bytes (d : FrD) : List UInt8 := frBytes d.t.toNat d.f.toNat d.s.toNat d.bs
/-- A slice of frames that nobody turns. -/
def RFrs (R : Hp) (v : Value) (fl : List FrD) : Prop :=
  ∃ A c, v = .slice A fl.length c ∧ fl.length ≤ 140737488351232 ∧ ∀ i d, fl[i]? = some d → ∃ a b off, A = some a ∧ a.add (i * 4) = ⟨b, off, none⟩ ∧ cellR R ⟨b, off, none⟩ = some (.int .i64 d.t) ∧ cellR R ⟨b, off + 1, none⟩ = some (.int .i64 d.f) ∧ cellR R ⟨b, off + 2, none⟩ = some (.int .i64 d.s) ∧ cellR R ⟨b, off + 3, none⟩ = some d.v ∧ SlB (cellR R) d.v d.bs ∧ d.bs.length ≤ 140737488351232
theorem frames_of {R : Hp} {v : Value} {l : List D} (h : RdSl R 48 (Ty.agg [.int .i64, .int .i64, .int .i64, .sl 1 (.int .u8)]) v l) : ∃ fl, RFrs R v fl := by
  obtain ⟨A, c, hv, hlc, hc, hb, _, hel⟩ := h.form
  have key : ∀ i, i < l.length → ∃ d : FrD, ∃ a b off, A = some a ∧ a.add (i * 4) = ⟨b, off, none⟩ ∧ cellR R ⟨b, off, none⟩ = some (.int .i64 d.t) ∧ cellR R ⟨b, off + 1, none⟩ = some (.int .i64 d.f) ∧ cellR R ⟨b, off + 2, none⟩ = some (.int .i64 d.s) ∧ cellR R ⟨b, off + 3, none⟩ = some d.v ∧ SlB (cellR R) d.v d.bs ∧ d.bs.length ≤ 140737488351232 := fun i hi => by
    obtain ⟨a, hA, es, he, hcl, hr⟩ := hel i l[i] (List.getElem?_eq_getElem hi)
    obtain ⟨t, f, s, X, bs, cx, rfl, -, -, -, hl, hs⟩ := rd_frame hr
    have hz : ∀ j, j < 4 → cellR R (a.add (i * 4 + j)) = [Value.int .i64 t, .int .i64 f, .int .i64 s, .slice X bs.length cx][j]? := fun j hj => hcl j hj
    obtain ⟨b, off, hab⟩ : ∃ b off, a.add (i * 4) = ⟨b, off, none⟩ := by
      have h0 := hz 0 (by omega)
      rcases hx : a.add (i * 4) with ⟨b, off, sp⟩
      cases sp with
      | none => exact ⟨b, off, rfl⟩
      | some s =>
        rw [Nat.add_zero, hx] at h0
        simp only [cellR] at h0
        split at h0 <;> simp at h0
    have hj : ∀ j, a.add (i * 4 + j) = ⟨b, off + j, none⟩ := fun j => by
      rw [← add_add_all, hab]; unfold Addr.add; split <;> simp_all
    exact ⟨⟨t, f, s, _, bs⟩, a, b, off, hA, hab, by have h0 := hz 0 (by omega); rw [Nat.add_zero, hab] at h0; exact h0, by rw [← hj 1]; exact hz 1 (by omega), by rw [← hj 2]; exact hz 2 (by omega), by rw [← hj 3]; exact hz 3 (by omega), hs, hl⟩
  obtain ⟨fl, hl, hfl⟩ := list_of_each (Q := fun i (d : FrD) => ∃ a b off, A = some a ∧ a.add (i * 4) = ⟨b, off, none⟩ ∧ cellR R ⟨b, off, none⟩ = some (.int .i64 d.t) ∧ cellR R ⟨b, off + 1, none⟩ = some (.int .i64 d.f) ∧ cellR R ⟨b, off + 2, none⟩ = some (.int .i64 d.s) ∧ cellR R ⟨b, off + 3, none⟩ = some d.v ∧ SlB (cellR R) d.v d.bs ∧ d.bs.length ≤ 140737488351232) l.length key
  exact ⟨fl, A, c, by rw [hl]; exact hv, by omega, hfl⟩
/-- May all of them be? -/
def RightM (M : Int) (fl : List FrD) : Prop := ∀ d ∈ fl, frRight d.t d.f d.s d.bs.length = true ∧ (d.bs.length : Int) ≤ M
def flat (fl : List FrD) : List UInt8 := (fl.map FrD.bytes).flatten
theorem head_of {d : FrD} {r : List UInt8} {M : Int} (h : frRight d.t d.f d.s d.bs.length = true ∧ (d.bs.length : Int) ≤ M) :
    headE (d.bytes ++ r) M = 0 ∧ hdN (d.bytes ++ r) = d.bs.length ∧ (hdT (d.bytes ++ r) : Int) = d.t ∧ (hdF (d.bytes ++ r) : Int) = d.f ∧ (hdS (d.bytes ++ r) : Int) = d.s ∧ ((d.bytes ++ r).drop 9).take d.bs.length = d.bs ∧ (d.bytes ++ r).drop (9 + d.bs.length) = r := by
  obtain ⟨h1, h2⟩ := h
  replace h1 := of_decide_eq_true h1
  obtain ⟨e1, e2, e3, e4, e5, e6⟩ := fr_head d.t.toNat d.f.toNat d.s.toNat d.bs (by omega) (by omega) (by omega) (by omega) r
  have hl := frBytes_length d.t.toNat d.f.toNat d.s.toNat d.bs
  unfold FrD.bytes
  refine ⟨?_, e1, by rw [e2]; omega, by rw [e3]; omega, by rw [e4]; omega, e5, e6⟩
  unfold headE
  rw [e1, List.length_append, hl, if_neg (by omega), if_neg (by omega), if_neg (by omega)]
theorem flat_cons (d : FrD) (fl : List FrD) (z : List UInt8) : flat (d :: fl) ++ z = d.bytes ++ (flat fl ++ z) := by simp [flat]
theorem eat_flat (fl : List FrD) (z : List UInt8) {M : Int} (h : RightM M fl) : ∀ k, k ≤ fl.length → eat (flat fl ++ z) k = flat (fl.drop k) ++ z
  | 0, _ => by simp [eat]
  | k + 1, hk => by
    have ih := eat_flat fl z h k (by omega)
    have hd : fl.drop k = fl[k] :: fl.drop (k + 1) := List.drop_eq_getElem_cons (by omega)
    rw [hd] at ih
    rw [flat_cons] at ih
    obtain ⟨_, h1, _, _, _, _, h6⟩ := head_of (M := M) (r := flat (fl.drop (k + 1)) ++ z) (h _ (List.getElem_mem (by omega : k < fl.length)))
    simp only [eat]
    rw [ih, h1, h6]
theorem eats_flat (fl : List FrD) (z : List UInt8) {M : Int} (h : RightM M fl) : Eats (flat fl ++ z) M fl.length := fun i hi => by
  rw [eat_flat fl z h i (by omega), List.drop_eq_getElem_cons hi]
  rw [flat_cons]
  exact (head_of (h _ (List.getElem_mem hi))).1
theorem eat_end (fl : List FrD) (z : List UInt8) {M : Int} (h : RightM M fl) (hz : z.length ≤ 8) : eat (flat fl ++ z) fl.length = z ∧ headE (eat (flat fl ++ z) fl.length) M = 16 := by
  have e : eat (flat fl ++ z) fl.length = z := by rw [eat_flat fl z h _ (Nat.le_refl _), List.drop_length]; simp [flat]
  exact ⟨e, by rw [e]; unfold headE; rw [if_pos (by omega)]⟩
theorem flat_snoc (fl : List FrD) (d : FrD) : flat (fl ++ [d]) = flat fl ++ d.bytes := by simp [flat]
theorem bytes_len (d : FrD) : d.bytes.length = 9 + d.bs.length := frBytes_length _ _ _ _
theorem flat_take {fl : List FrD} {k : Nat} {d : FrD} (h : fl[k]? = some d) : flat (fl.take (k + 1)) = flat (fl.take k) ++ d.bytes := by
  have hi := (List.getElem?_eq_some_iff.1 h).1
  have he := (List.getElem?_eq_some_iff.1 h).2
  rw [List.take_succ_eq_append_getElem hi, he, flat_snoc]
theorem flat_mem {fl : List FrD} {d : FrD} (h : d ∈ fl) : 9 + d.bs.length ≤ (flat fl).length := by
  induction fl with
  | nil => cases h
  | cons x fl ih =>
    have e : flat (x :: fl) = x.bytes ++ flat fl := by simp [flat]
    rw [e, List.length_append, bytes_len]
    rcases List.mem_cons.1 h with rfl | h
    · omega
    · have := ih h; omega
theorem flat_count (fl : List FrD) : 9 * fl.length ≤ (flat fl).length := by
  induction fl with
  | nil => simp [flat]
  | cons x fl ih =>
    have e : flat (x :: fl) = x.bytes ++ flat fl := by simp [flat]
    rw [e, List.length_append, bytes_len, List.length_cons]; omega
theorem flat_take_le (fl : List FrD) (k : Nat) : (flat (fl.take k)).length ≤ (flat fl).length := by
  have e : flat fl = flat (fl.take k) ++ flat (fl.drop k) := by
    unfold flat; rw [← List.flatten_append, ← List.map_append, List.take_append_drop]
  rw [e, List.length_append]; omega
end Go.Proofs.Ythenpoammpkjeaa

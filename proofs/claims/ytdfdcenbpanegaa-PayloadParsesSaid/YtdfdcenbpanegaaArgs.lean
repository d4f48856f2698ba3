/- What came in: kinds of values (whole numbers, bools, strings, slices, structs and arrays of them), what is read of them out of a part of memory, and that whatever a row's reading reads is so read. -/
import Derived.Test.YtdfdcenbpanegaaSat
import Derived.ProofKit
import Derived.SizedLaws
import Derived.OpenShut
import Derived.ChangeOld
set_option linter.unusedSimpArgs false
set_option linter.unusedVariables false
namespace Go.Proofs.Ytdfdcenbpanegaa
open Go.RowKit

/-- A datum. -/
inductive D where
  | int (n : Int)
  | bool (b : Bool)
  | str (s : ByteArray)
  | sl (l : List D)
  | agg (l : List D)
/-- A kind of values. by: how many bytes an element of a slice takes. -/
inductive Ty where
  | int (k : IntKind)
  | bool
  | str
  | sl (bytes : Nat) (t : Ty)
  | agg (l : List Ty)

mutual
def Ty.size : Ty → Nat
  | .int _ | .bool | .str | .sl _ _ => 1
  | .agg l => sizeAll l
def sizeAll : List Ty → Nat
  | [] => 0
  | t :: l => t.size + sizeAll l
end
/-- A cell of a part of memory. -/
def cellR (R : Hp) (a : Addr) : Option Value :=
  match R a.block with
  | some (.cells c _ _) => if a.spot.isSome then none else c[a.off]?
  | _ => none
theorem cellR_heap (w : World) (a : Addr) : cellR (fun k => w.heap[k]?) a = w.cell? a := rfl
theorem cellR_mono {R R' : Hp} (h : ∀ k o, R k = some o → R' k = some o) {a : Addr} {v : Value} (hc : cellR R a = some v) : cellR R' a = some v := by
  unfold cellR at hc ⊢
  cases hb : R a.block with
  | none => rw [hb] at hc; cases hc
  | some o => rw [hb] at hc; rw [h _ _ hb]; exact hc
theorem Sat.cellR {G : Gnd} {w : World} {l : List Asrt} (H : Sat G w l) {a : Addr} {v : Value} (hc : cellR G.ro a = some v) : w.cell? a = some v := by
  rw [← cellR_heap]; exact cellR_mono H.ro hc

/-- The elements of a slice: each is read at its place. -/
def RdElems (R : Hp) (sz : Nat) (p : D → List Value → Prop) (a : Addr) (l : List D) : Prop :=
  ∀ i d, l[i]? = some d → ∃ es : List Value, es.length = sz ∧ (∀ j, j < sz → Go.Proofs.Ytdfdcenbpanegaa.cellR R (a.add (i * sz + j)) = es[j]?) ∧ p d es
mutual
/-- The datum d of kind t is read in these cells. -/
def Rd (R : Hp) : Ty → D → List Value → Prop
  | .int k, .int n, cs => cs = [.int k n] ∧ (Lit.int k n).wf = true
  | .bool, .bool b, cs => cs = [.bool b]
  | .str, .str s, cs => cs = [.string s] ∧ s.size ≤ 140737488351232
  | .sl by_ t, .sl l, cs => l.length * by_ ≤ 140737488351232 ∧ ((cs = [.slice none 0 0] ∧ l = []) ∨
      ∃ a cap, cs = [.slice (some a) l.length cap] ∧ l.length ≤ cap ∧ cap * by_ ≤ 140737488351232 ∧ cap ≤ 9223372036854775807 ∧ RdElems R t.size (fun d es => Rd R t d es) a l)
  | .agg ts, .agg ds, cs => RdAll R ts ds cs
  | _, _, _ => False
def RdAll (R : Hp) : List Ty → List D → List Value → Prop
  | [], [], cs => cs = []
  | t :: ts, d :: ds, cs => ∃ c1 c2, cs = c1 ++ c2 ∧ c1.length = t.size ∧ Rd R t d c1 ∧ RdAll R ts ds c2
  | _, _, _ => False
end

/-! ### the row's own reading -/
mutual
/-- The type t of the program is of this kind. -/
def Ty.fits (P : Program) : Ty → TypeId → Bool
  | .int k, t => match P.underlying t with | some (.int k') => k == k' | _ => false
  | .bool, t => match P.underlying t with | some .bool => true | _ => false
  | .str, t => match P.underlying t with | some .string => true | _ => false
  | .sl b ty, t => match P.underlying t with | some (.slice e) => P.cellsOf e == ty.size && P.bytesOf e == b && decide (0 < ty.size) && ty.fits P e | _ => false
  | .agg ts, t => match P.underlying t with
    | some (.struct fs) => P.cellsOf t == sizeAll ts && fitsFields P ts fs.toList 0
    | some (.array n e) => P.cellsOf t == sizeAll ts && ts.length == n && fitsElems P ts e
    | _ => false
def fitsFields (P : Program) : List Ty → List Field → Nat → Bool
  | [], [], _ => true
  | ty :: ts, f :: fs, off => f.offset == off && P.cellsOf f.type == ty.size && ty.fits P f.type && fitsFields P ts fs (off + ty.size)
  | _, _, _ => false
def fitsElems (P : Program) : List Ty → TypeId → Bool
  | [], _ => true
  | ty :: ts, e => P.cellsOf e == ty.size && ty.fits P e && fitsElems P ts e
end

theorem list_of_each {α : Type} {Q : Nat → α → Prop} : ∀ n : Nat, (∀ i, i < n → ∃ d, Q i d) → ∃ l : List α, l.length = n ∧ ∀ i d, l[i]? = some d → Q i d := by
  intro n
  induction n with
  | zero => exact fun _ => ⟨[], rfl, fun i d h => by simp at h⟩
  | succ n ih =>
    intro h
    obtain ⟨l, hl, hq⟩ := ih (fun i hi => h i (by omega))
    obtain ⟨d, hd⟩ := h n (by omega)
    refine ⟨l ++ [d], by simp [hl], fun i x hx => ?_⟩
    by_cases hi : i < n
    · rw [List.getElem?_append_left (by omega)] at hx; exact hq i x hx
    · have : i = n := by
        have := (List.getElem?_eq_some_iff.1 hx).1
        simp at this; omega
      subst this
      rw [List.getElem?_append_right (by omega), hl] at hx
      simp at hx; subst hx; exact hd
theorem weights_elem {H : Type} {P : Program} {e : TypeId} : ∀ {l : List (DataW H)} {i : Nat} {d : DataW H}, (DataW.weightsAll P e l).all (· ≤ reachBytes) = true → l[i]? = some d → (d.weights P e).all (· ≤ reachBytes) = true := by
  intro l
  induction l with
  | nil => intro i d _ h; simp at h
  | cons x l ih =>
    intro i d h hi
    simp only [DataW.weightsAll, List.all_append, Bool.and_eq_true] at h
    cases i with
    | zero => simp at hi; subst hi; exact h.1
    | succ i => exact ih h.2 (by simpa using hi)
theorem weights_each {H : Type} {P : Program} : ∀ {ts : List TypeId} {l : List (DataW H)} {i : Nat} {d : DataW H} {t : TypeId}, (DataW.weightsEach P ts l).all (· ≤ reachBytes) = true → ts[i]? = some t → l[i]? = some d → (d.weights P t).all (· ≤ reachBytes) = true := by
  intro ts
  induction ts with
  | nil => intro l i d t _ h; simp at h
  | cons x ts ih =>
    intro l i d t h ht hd
    cases l with
    | nil => simp at hd
    | cons y l =>
      simp only [DataW.weightsEach, List.all_append, Bool.and_eq_true] at h
      cases i with
      | zero => simp at hd ht; subst hd; subst ht; exact h.1
      | succ i => exact ih h.2 (by simpa using ht) (by simpa using hd)
theorem cells?_get {w : World} {a : Addr} {n : Nat} {cs : List Value} (h : w.cells? 0 a n = some cs) : cs.length = n ∧ ∀ j, j < n → w.cell? (a.add j) = cs[j]? := by
  unfold World.cells? at h
  rw [if_pos (Nat.zero_le _)] at h
  refine ⟨by simpa using mapM_some_length h, fun j hj => ?_⟩
  have := mapM_some_get h j j (by simp [hj])
  exact this
theorem add_add (a : Addr) (i j : Nat) (h : a.spot = none) : (a.add i).add j = a.add (i + j) := by
  obtain ⟨b, o, s⟩ := a
  simp only at h
  subst h
  unfold Addr.add
  by_cases h1 : i = 0 <;> by_cases h2 : j = 0 <;> simp [h1, h2, Nat.add_assoc]
theorem add_add' {w : World} (a : Addr) (i j : Nat) {v : Value} (hv : w.cell? ((a.add i).add j) = some v) : w.cell? (a.add (i + j)) = some v := by
  obtain ⟨b, o, s⟩ := a
  cases s with
  | none => rw [← add_add _ _ _ rfl]; exact hv
  | some s =>
    by_cases h1 : i = 0
    · subst h1
      have : (⟨b, o, some s⟩ : Addr).add 0 = ⟨b, o, some s⟩ := by simp [Addr.add]
      rw [this] at hv; simpa using hv
    · have e : (⟨b, o, some s⟩ : Addr).add i = ⟨b, o + i, none⟩ := by simp [Addr.add, h1]
      rw [e] at hv
      have e2 : (⟨b, o, some s⟩ : Addr).add (i + j) = ⟨b, o + (i + j), none⟩ := by simp [Addr.add, h1]
      rw [e2]
      have e3 : (⟨b, o + i, none⟩ : Addr).add j = ⟨b, o + (i + j), none⟩ := by
        unfold Addr.add; by_cases h2 : j = 0 <;> simp [h2, Nat.add_assoc]
      rw [e3] at hv; exact hv

section
variable {H : Type} {enc : TypeId × Value → H} {P : Program} {w : World}
mutual
theorem rd_of_trod : ∀ (ty : Ty) {n : Nat} {t : TypeId} {cs : List Value} {x : DataW H × List MemPlace}, ty.fits P t = true → DataW.trod enc P w 0 (fun _ => true) true n t cs = some x →
    (x.1.weights P t).all (· ≤ reachBytes) = true → ∃ d, Rd (fun k => w.heap[k]?) ty d cs
  | .int k, n, t, cs, x, hf, h, _ => by
    simp only [Ty.fits] at hf
    split at hf <;> simp_all
    rename_i ht
    obtain ⟨m, rfl, _, hw⟩ := DataW.trod_int ht h
    exact ⟨.int m, by simp [Rd, hw]⟩
  | .bool, n, t, cs, x, hf, h, _ => by
    simp only [Ty.fits] at hf
    split at hf <;> simp_all
    rename_i ht
    obtain ⟨m, rfl, _⟩ := DataW.trod_bool ht h
    exact ⟨.bool m, by simp [Rd]⟩
  | .str, n, t, cs, x, hf, h, hz => by
    simp only [Ty.fits] at hf
    split at hf
    · rename_i ht
      obtain ⟨m, rfl, rfl, _⟩ := DataW.trod_string ht h
      refine ⟨.str m, ?_⟩
      simp only [DataW.weights, List.all_cons, List.all_nil, Bool.and_true, decide_eq_true_eq, Array.length_toList, reachBytes] at hz
      simp only [Rd, true_and]
      exact of_decide_eq_true hz
    · cases hf
  | .sl b ty, n, t, cs, x, hf, h, hz => by
    simp only [Ty.fits] at hf
    split at hf
    · rename_i e ht
      simp only [Bool.and_eq_true, beq_iff_eq, decide_eq_true_eq] at hf
      obtain ⟨⟨⟨hcs, hby⟩, hpos⟩, hfe⟩ := hf
      rcases DataW.trod_slice ht h with ⟨rfl, _⟩ | ⟨a, len, cap, elems, rest, m, _, rfl, rfl, _, hl, hm, hlen, hel, hsp, _⟩
      · exact ⟨.sl [], by simp [Rd]⟩
      · obtain ⟨hrl, _⟩ := hsp rfl
        simp only [DataW.weights, ht, List.all_cons, List.all_append, Bool.and_eq_true, decide_eq_true_eq, List.length_map, hby] at hz
        obtain ⟨hz0, hz1, _⟩ := hz
        have hcap : elems.length + rest.length = cap := by omega
        rw [hcap] at hz0
        simp only [reachBytes] at hz0
        have each : ∀ i, i < len → ∃ d, ∃ es : List Value, es.length = ty.size ∧ (∀ j, j < ty.size → w.cell? (a.add (i * ty.size + j)) = es[j]?) ∧ Rd (fun k => w.heap[k]?) ty d es := by
          intro i hi
          have h1 := hel i hi
          have hie : i < elems.length := by omega
          rw [List.getElem?_eq_getElem hie] at h1
          obtain ⟨es, he1, he2⟩ := Option.bind_eq_some_iff.1 h1
          obtain ⟨hel1, hel2⟩ := cells?_get he1
          rw [hcs] at hel1 hel2
          have hwt := weights_elem hz1 (i := i) (d := (elems[i]).1) (by simp [List.getElem?_eq_getElem hie])
          obtain ⟨d, hd⟩ := rd_of_trod ty hfe he2 hwt
          refine ⟨d, es, hel1, fun j hj => ?_, hd⟩
          obtain ⟨v, hv⟩ : ∃ v, es[j]? = some v := ⟨_, List.getElem?_eq_getElem (by omega)⟩
          rw [hv]
          exact add_add' a _ _ ((hel2 j hj).trans hv)
        obtain ⟨l, hll, hq⟩ := list_of_each len each
        refine ⟨.sl l, ?_⟩
        simp only [Rd]
        have hle : l.length * b ≤ cap * b := Nat.mul_le_mul_right _ (by omega)
        exact ⟨by omega, .inr ⟨a, cap, by rw [hll], by omega, hz0, by simp only [maxLen] at hm; omega, fun i d hd => hq i d hd⟩⟩
    · cases hf
  | .agg ts, n, t, cs, x, hf, h, hz => by
    simp only [Ty.fits] at hf
    split at hf
    · rename_i fs ht
      simp only [Bool.and_eq_true, beq_iff_eq] at hf
      obtain ⟨hsz, hff⟩ := hf
      obtain ⟨xs, m, _, rfl, hlen, hxl, hx⟩ := DataW.trod_struct ht h
      simp only [DataW.weights, ht] at hz
      have hx' : ∀ (i : Nat) (f : Field), fs.toList[i]? = some f → ∃ y, xs[i]? = some y ∧ DataW.trod enc P w 0 (fun _ => true) true m f.type ((cs.drop f.offset).take (P.cellsOf f.type)) = some y ∧ (y.1.weights P f.type).all (· ≤ reachBytes) = true := by
        intro i f hi
        have hi' : fs[i]? = some f := by simpa using hi
        have hlt : i < xs.length := by have := (Array.getElem?_eq_some_iff.1 hi').1; omega
        have h1 := hx i f hi'
        rw [List.getElem?_eq_getElem hlt] at h1
        exact ⟨_, List.getElem?_eq_getElem hlt, h1, weights_each hz (i := i) (by simp [hi']) (by simp [List.getElem?_eq_getElem hlt])⟩
      obtain ⟨ds, hds⟩ := rd_fields ts hff (cs := cs) (by omega) (m := m) (fun i f hi => by obtain ⟨y, _, h1, h2⟩ := hx' i f hi; exact ⟨y, h1, h2⟩)
      exact ⟨.agg ds, by simpa [Rd] using hds⟩
    · rename_i k e ht
      simp only [Bool.and_eq_true, beq_iff_eq] at hf
      obtain ⟨⟨hsz, hk⟩, hfe⟩ := hf
      cases n with
      | zero => simp [DataW.trod] at h
      | succ n =>
        simp only [DataW.trod, ht] at h
        split at h
        case isFalse => cases h
        rename_i hcl
        obtain ⟨xs, hxs, rfl⟩ := Option.map_eq_some_iff.1 h
        simp only [DataW.weights, ht] at hz
        have hlen := mapM_some_length hxs
        simp at hlen
        have hx' : ∀ i, i < k → ∃ y, DataW.trod enc P w 0 (fun _ => true) true n e ((cs.drop (i * P.cellsOf e)).take (P.cellsOf e)) = some y ∧ (y.1.weights P e).all (· ≤ reachBytes) = true := by
          intro i hi
          have h1 := mapM_some_get hxs i i (by simp [hi])
          have hlt : i < xs.length := by omega
          rw [List.getElem?_eq_getElem hlt] at h1
          exact ⟨_, h1, weights_elem hz (i := i) (by simp [List.getElem?_eq_getElem hlt])⟩
        obtain ⟨ds, hds⟩ := rd_elems ts (cs := cs) (m := n) 0 hfe (by simp; omega) (fun i hi => by simpa using hx' i (by omega))
        exact ⟨.agg ds, by simpa [Rd] using hds⟩
    · cases hf
theorem rd_fields : ∀ (ts : List Ty) {fs : List Field} {off : Nat} {cs : List Value} {m : Nat}, fitsFields P ts fs off = true → cs.length = off + sizeAll ts →
    (∀ (i : Nat) (f : Field), fs[i]? = some f → ∃ y, DataW.trod enc P w 0 (fun _ => true) true m f.type ((cs.drop f.offset).take (P.cellsOf f.type)) = some y ∧ (y.1.weights P f.type).all (· ≤ reachBytes) = true) →
    ∃ ds, RdAll (fun k => w.heap[k]?) ts ds (cs.drop off)
  | [], [], off, cs, m, _, hl, _ => ⟨[], by simp only [RdAll]; simp only [sizeAll] at hl; exact List.drop_of_length_le (by omega)⟩
  | [], _ :: _, _, _, _, hf, _, _ => by simp [fitsFields] at hf
  | _ :: _, [], _, _, _, hf, _, _ => by simp [fitsFields] at hf
  | ty :: ts, f :: fs, off, cs, m, hf, hl, hx => by
    simp only [fitsFields, Bool.and_eq_true, beq_iff_eq] at hf
    obtain ⟨⟨⟨ho, hc⟩, hft⟩, hr⟩ := hf
    obtain ⟨y, h1, h2⟩ := hx 0 f rfl
    simp only [sizeAll] at hl
    rw [ho, hc] at h1
    obtain ⟨d, hd⟩ := rd_of_trod ty hft h1 h2
    obtain ⟨ds, hds⟩ := rd_fields ts hr (cs := cs) (by omega) (m := m) (fun i f hi => hx (i + 1) f (by simpa using hi))
    refine ⟨d :: ds, ?_⟩
    simp only [RdAll]
    exact ⟨(cs.drop off).take ty.size, cs.drop (off + ty.size), by rw [← List.drop_drop, List.take_append_drop], by simp; omega, hd, hds⟩
theorem rd_elems : ∀ (ts : List Ty) {e : TypeId} {cs : List Value} {m : Nat} (i0 : Nat), fitsElems P ts e = true → cs.length = i0 * P.cellsOf e + sizeAll ts →
    (∀ i, i < ts.length → ∃ y, DataW.trod enc P w 0 (fun _ => true) true m e ((cs.drop ((i0 + i) * P.cellsOf e)).take (P.cellsOf e)) = some y ∧ (y.1.weights P e).all (· ≤ reachBytes) = true) →
    ∃ ds, RdAll (fun k => w.heap[k]?) ts ds (cs.drop (i0 * P.cellsOf e))
  | [], e, cs, m, i0, _, hl, _ => ⟨[], by simp only [RdAll]; simp only [sizeAll] at hl; exact List.drop_of_length_le (by omega)⟩
  | ty :: ts, e, cs, m, i0, hf, hl, hx => by
    simp only [fitsElems, Bool.and_eq_true, beq_iff_eq] at hf
    obtain ⟨⟨hc, hft⟩, hr⟩ := hf
    obtain ⟨y, h1, h2⟩ := hx 0 (by simp)
    simp only [sizeAll] at hl
    rw [Nat.add_zero] at h1
    obtain ⟨d, hd⟩ := rd_of_trod ty hft h1 h2
    have hmul : (i0 + 1) * P.cellsOf e = i0 * P.cellsOf e + ty.size := by rw [Nat.add_mul, Nat.one_mul, hc]
    obtain ⟨ds, hds⟩ := rd_elems ts (cs := cs) (m := m) (i0 + 1) hr (by omega) (fun i hi => by
      have := hx (i + 1) (by simp; omega)
      rw [show i0 + 1 + i = i0 + (i + 1) by omega]; exact this)
    refine ⟨d :: ds, ?_⟩
    simp only [RdAll]
    refine ⟨(cs.drop (i0 * P.cellsOf e)).take ty.size, cs.drop ((i0 + 1) * P.cellsOf e), ?_, by simp; omega, ?_, hds⟩
    · rw [hmul, ← List.drop_drop, List.take_append_drop]
    · rw [← hc]; exact hd
end
end

/-- An argument of kind ty: its value's shape, and what it reads as. -/
def ArgV (w : World) (ty : Ty) (v : Value) (d : D) : Prop :=
  match ty with
  | .agg _ => ∃ cs : Array Value, v = .agg cs ∧ Rd (fun k => w.heap[k]?) ty d cs.toList
  | _ => Rd (fun k => w.heap[k]?) ty d [v]
theorem arg_of {H : Type} {enc : TypeId × Value → H} {P : Program} {w : World} {r : Reach} {base : Nat} {ty : Ty} {t : TypeId} {v : Value} {d : DataW H} {p : List MemPlace} (hf : ty.fits P t = true)
    (hok : Value.okWide P w r base t v) (h : DataW.Trod enc P w 0 (fun _ => true) true t v d p) (hz : (d.weights P t).all (· ≤ reachBytes) = true) : ∃ d, ArgV w ty v d := by
  obtain ⟨n, hn⟩ := h
  obtain ⟨x, hx⟩ := rd_of_trod ty hf hn hz
  refine ⟨x, ?_⟩
  cases ty with
  | int k =>
    simp only [Ty.fits] at hf
    split at hf
    · rename_i k' ht
      obtain ⟨m, rfl⟩ := Go.WideShapes.okWide_int ht hok
      exact hx
    · cases hf
  | bool =>
    simp only [Ty.fits] at hf
    split at hf
    · rename_i ht
      obtain ⟨m, rfl⟩ := Go.WideShapes.okWide_bool ht hok
      exact hx
    · cases hf
  | str =>
    simp only [Ty.fits] at hf
    split at hf
    · rename_i ht
      obtain ⟨m, rfl⟩ := Go.WideShapes.okWide_string ht hok
      exact hx
    · cases hf
  | sl b ty =>
    simp only [Ty.fits] at hf
    split at hf
    · rename_i e ht
      obtain ⟨a, l, c, rfl⟩ := Go.WideShapes.okWide_slice ht hok
      exact hx
    · cases hf
  | agg ts =>
    simp only [Ty.fits] at hf
    split at hf
    · rename_i fs ht
      simp only [Value.okWide, ht] at hok
      obtain ⟨cs, rfl, _⟩ := hok
      exact ⟨cs, rfl, hx⟩
    · rename_i k e ht
      simp only [Value.okWide, ht] at hok
      obtain ⟨cs, rfl, _⟩ := hok
      exact ⟨cs, rfl, hx⟩
    · cases hf
theorem arg_int {w : World} {k : IntKind} {v : Value} {d : D} (h : ArgV w (.int k) v d) : ∃ n, v = .int k n ∧ (Lit.int k n).wf = true := by
  cases d <;> simp [ArgV, Rd] at h
  rename_i n
  exact ⟨n, h.1, h.2⟩
theorem arg_bool {w : World} {v : Value} {d : D} (h : ArgV w .bool v d) : ∃ b, v = .bool b := by
  cases d <;> simp [ArgV, Rd] at h
  rename_i n
  exact ⟨n, h⟩
theorem arg_str {w : World} {v : Value} {d : D} (h : ArgV w .str v d) : ∃ s : ByteArray, v = .string s ∧ s.size ≤ 140737488351232 := by
  cases d <;> simp [ArgV, Rd] at h
  rename_i n
  exact ⟨n, h.1, h.2⟩
/-- A slice that is read in a part of memory: nil, or its elements stand at their places. -/
def RdSl (R : Hp) (by_ : Nat) (t : Ty) (v : Value) (l : List D) : Prop := Rd R (.sl by_ t) (.sl l) [v]
theorem arg_sl {w : World} {b : Nat} {t : Ty} {v : Value} {d : D} (h : ArgV w (.sl b t) v d) : ∃ l, RdSl (fun k => w.heap[k]?) b t v l := by
  cases d <;> simp only [ArgV, Rd] at h
  rename_i l
  exact ⟨l, by simpa only [RdSl, Rd] using h⟩
/-- Its length, and that it takes no more than its room. -/
theorem RdSl.form {R : Hp} {b : Nat} {t : Ty} {v : Value} {l : List D} (h : RdSl R b t v l) :
    ∃ A c, v = .slice A l.length c ∧ l.length ≤ c ∧ c ≤ 9223372036854775807 ∧ l.length * b ≤ 140737488351232 ∧ c * b ≤ 140737488351232 ∧ (∀ i d, l[i]? = some d → ∃ a, A = some a ∧ ∃ es : List Value, es.length = t.size ∧ (∀ j, j < t.size → Go.Proofs.Ytdfdcenbpanegaa.cellR R (a.add (i * t.size + j)) = es[j]?) ∧ Rd R t d es) := by
  simp only [RdSl, Rd] at h
  obtain ⟨h0, ⟨h1, rfl⟩ | ⟨a, c, h1, h2, h3, h4, h5⟩⟩ := h
  · simp at h1
    exact ⟨none, 0, by simpa using h1, by simp, by omega, by simp, by simp, fun i d hd => by simp at hd⟩
  · simp at h1
    exact ⟨some a, c, h1, h2, h4, h0, h3, fun i d hd => ⟨a, rfl, h5 i d hd⟩⟩
end Go.Proofs.Ytdfdcenbpanegaa

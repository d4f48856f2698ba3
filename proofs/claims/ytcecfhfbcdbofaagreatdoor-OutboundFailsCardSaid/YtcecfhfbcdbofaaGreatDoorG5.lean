/- A map of one's own: from numbers to pointers. A region that draws its order, in an iterator (a fence without a round). A range over a function that gives in an order nobody knows. slices.Sort at []int: the library's contract laid at this program (the layings are the kit's tool's print, in plain words). slices.Sorted of what an iterator gives, in whatever order. slices.Collect, slices.Sorted of what an iterator gives, in whatever order. outbound: a tenant's streams, the keys of the map, the least first. outbound: a tenant's streams, the least first; all keys of the map, the least first. -/
import Derived.Test.YtcecfhfbcdbofaaGreatDoorG4
import Derived.Maps.OwnSet
import Derived.Maps.RangeWalk
import Derived.OrdersIn
import Derived.Shelf.Sort.Plain
import Derived.Shelf.Slices.In.SortNone
import Derived.Lib.OwnBridge
import Derived.Deep.Cut
import Derived.OwnWalkIn
import Derived.Shelf.Abstract
import Derived.WalkKit
import Derived.TacticsInMore
import Derived.IntWalk
set_option linter.unusedSimpArgs false
set_option linter.unusedVariables false
namespace Go.Proofs.YtcecfhfbcdbofaaGreatDoor
open Go.RowKit Go.WideShapes
open Go.WideElems (Fit rd rg pl rd_key rd_val rg_of)

def ptrR : Value → Option (DataW Unit × List MemPlace)
  | .pointer (some ⟨p, 0, none⟩) => some (.lit (.int .i64 p), [])
  | _ => none
theorem ptrR_inv {v : Value} {y : DataW Unit × List MemPlace} {p : Nat} (h : ptrR v = some y) (hy : y.1 = .lit (.int .i64 p)) : v = .pointer (some ⟨p, 0, none⟩) := by
  unfold ptrR at h
  split at h
  · rename_i q
    obtain rfl := Option.some.inj h
    simp only [DataW.lit.injEq, Lit.int.injEq, true_and] at hy
    have : q = p := by omega
    rw [this]
  · cases h
def mEnc (x : Int × Nat) : Lit × DataW Unit := (.int .i64 x.1, .lit (.int .i64 x.2))
theorem mEnc_inj {x y : Int × Nat} (h : mEnc x = mEnc y) : x = y := by
  obtain ⟨a, b⟩ := x
  obtain ⟨c, d⟩ := y
  simp only [mEnc, Prod.mk.injEq, Lit.int.injEq, true_and, DataW.lit.injEq] at h
  simp only [Prod.mk.injEq]
  omega
/-- The entries read as the pairs M. -/
def MpFit (es : Array MapEntry) (clock : Nat) (M : List (Int × Nat)) : Prop :=
  Fit Tryz.prog 3 ptrR es clock ∧ (es.toList.map (rg Tryz.prog 3 ptrR)).Perm (M.map mEnc) ∧ ∀ x ∈ M, (Lit.int .i64 x.1).wf = true
theorem kI : Go.Maps.Keyed Tryz.prog 3 := Go.Maps.int_keyed Tryz.underlying3
theorem ent_key {es : Array MapEntry} {clock : Nat} {M : List (Int × Nat)} (h : MpFit es clock M) {x : MapEntry} (hx : x ∈ es.toList) : ∃ m ∈ M, rg Tryz.prog 3 ptrR x = mEnc m ∧ x.key = .int .i64 m.1 ∧ x.val = .pointer (some ⟨m.2, 0, none⟩) := by
  obtain ⟨F, hp, -⟩ := h
  have hm : rg Tryz.prog 3 ptrR x ∈ M.map mEnc := hp.mem_iff.1 (List.mem_map.2 ⟨x, hx, rfl⟩)
  obtain ⟨m, hm, he⟩ := List.mem_map.1 hm
  obtain ⟨y, hy⟩ := F.reads x hx
  have hrg := rg_of hy
  have hk := rd_key hy
  obtain ⟨z, hz, hd⟩ := rd_val hy
  rw [hrg] at he
  refine ⟨m, hm, by rw [hrg, ← he], ?_, ?_⟩
  · rw [← he] at hk
    obtain ⟨a, ha, hb, -⟩ := Go.Maps.keyOf_int_inv Tryz.underlying3 hk
    simp only [mEnc, Lit.int.injEq, true_and] at hb
    rw [ha, hb]
  · refine ptrR_inv hz (p := m.2) ?_
    rw [← hd, ← he]; rfl
theorem ent_mem {es : Array MapEntry} {clock : Nat} {M : List (Int × Nat)} (h : MpFit es clock M) {m : Int × Nat} (hm : m ∈ M) : ∃ x ∈ es.toList, rg Tryz.prog 3 ptrR x = mEnc m ∧ x.key = .int .i64 m.1 ∧ x.val = .pointer (some ⟨m.2, 0, none⟩) := by
  obtain ⟨F, hp, hw⟩ := id h
  obtain ⟨x, hx, he⟩ := List.mem_map.1 (hp.mem_iff.2 (List.mem_map.2 ⟨m, hm, rfl⟩))
  obtain ⟨m', hm', h1, h2, h3⟩ := ent_key h hx
  obtain rfl := mEnc_inj (h1.symm.trans he)
  exact ⟨x, hx, he, h2, h3⟩
/-- No key stands twice. -/
theorem fit_nodup {es : Array MapEntry} {clock : Nat} {M : List (Int × Nat)} (h : MpFit es clock M) : (M.map (·.1)).Nodup := by
  have h1 := Go.Maps.fit_apart kI h.1
  have h2 : (M.map mEnc).Pairwise (fun p q => p.1 ≠ q.1) := (h.2.1.pairwise_iff (fun {_ _} hne => Ne.symm hne)).1 h1
  rw [List.pairwise_map] at h2
  rw [List.Nodup, List.pairwise_map]
  exact h2.imp fun {a b} hab e => hab (by simp only [mEnc]; rw [e])
theorem keyI {k : Int} (hk : (Lit.int .i64 k).wf = true) : keyOf Tryz.prog 3 (.int .i64 k) = some (.int .i64 k) := Go.Maps.keyOf_int_mk Tryz.underlying3 hk
def mpA (b : Nat) (M : List (Int × Nat)) : Asrt := ex fun es : Array MapEntry => ex fun clock : Nat => star [pur (MpFit es clock M), obj b (.map es clock)]
/-- What a look-up tells. -/
def mpAt (M : List (Int × Nat)) (k : Int) : Value := match M.find? (fun x => x.1 == k) with | some x => .pointer (some ⟨x.2, 0, none⟩) | none => .pointer none
section
variable {G : Gnd} {w : World} {l : List Asrt} {b : Nat} {M : List (Int × Nat)}
theorem mp_iff : Sat G w (mpA b M :: l) ↔ ∃ es clock, MpFit es clock M ∧ Sat G w (obj b (.map es clock) :: l) := by
  unfold mpA
  simp only [Sat.ex_iff, Sat.star_iff, List.cons_append, List.nil_append, Sat.pur_iff]
theorem mp_made (H : Sat G w l) : Sat G (w.alloc (.map #[] 0)) (mpA w.heap.size [] :: l) :=
  mp_iff.2 ⟨#[], 0, ⟨(by obtain ⟨es, c, h1, F, -⟩ := World.ownsMap_made w Tryz.prog 3 ptrR; rw [heap_alloc_new] at h1; cases h1; exact F), by simp, fun x hx => by cases hx⟩, H.new _⟩
theorem zeroP (w : World) : (zeroValue 93).run Tryz.prog w = .ok (.pointer none) w := by kernel_rfl
theorem mp_look (H : Sat G w (mpA b M :: l)) (k : Int) (hk : (Lit.int .i64 k).wf = true) : (Instr.lookup 66 (.map (some b)) (.int .i64 k) false).run Tryz.prog w = .ok (mpAt M k) w := by
  obtain ⟨es, clock, hf, S⟩ := mp_iff.1 H
  have hnd := fit_nodup hf
  rcases Go.Maps.fit_look false kI Tryz.underlying66 (zeroP w) S.obj_at hf.1 (keyI hk) with ⟨hr, hno, -⟩ | ⟨e0, y, he, hke, hr, -⟩
  · rw [hr]
    have : M.find? (fun x => x.1 == k) = none := by
      rw [List.find?_eq_none]
      intro m hm he
      obtain ⟨x, hx, -, h2, -⟩ := ent_mem hf hm
      refine hno x hx ?_
      rw [h2, beq_iff_eq.1 he]
    unfold mpAt
    rw [this]; rfl
  · rw [hr]
    obtain ⟨m, hm, -, h2, h3⟩ := ent_key hf he
    have hmk : m.1 = k := by
      rw [h2] at hke
      simpa using hke
    have : M.find? (fun x => x.1 == k) = some m := by
      rw [← hmk]
      clear hf S H hr h2 h3 he hke hmk
      induction M with
      | nil => cases hm
      | cons a M ih =>
        rw [List.map_cons, List.nodup_cons] at hnd
        rw [List.find?_cons]
        rcases List.mem_cons.1 hm with rfl | hm'
        · simp
        · have hne : ¬ a.1 = m.1 := fun e => hnd.1 (List.mem_map.2 ⟨m, hm', e.symm⟩)
          rw [beq_eq_false_iff_ne.2 hne]
          exact ih hnd.2 hm'
    unfold mpAt
    rw [this, h3]; rfl
theorem filter_keys {k : Int} (M : List (Int × Nat)) : (M.map mEnc).filter (Go.ChangeMaps.notKey (.int .i64 k)) = (M.filter fun x => !(x.1 == k)).map mEnc := by
  rw [List.filter_map]
  congr 1
  apply List.filter_congr
  intro x hx
  simp only [Function.comp, Go.ChangeMaps.notKey, mEnc, Lit.sameKey, decide_eq_true_eq, true_and]
  by_cases h : x.1 = k <;> simp [h]
theorem mp_store (H : Sat G w (mpA b M :: l)) (k : Int) (p : Nat) (hk : (Lit.int .i64 k).wf = true) (hn : ∀ x ∈ M, x.1 ≠ k) (hm : M.length < 100000) : ∃ w', (Instr.mapUpdate 66 (.map (some b)) (.int .i64 k) (.pointer (some ⟨p, 0, none⟩))).run Tryz.prog w = .ok () w' ∧ Sat G w' (mpA b (M ++ [(k, p)]) :: l) := by
  obtain ⟨es, clock, hf, S⟩ := mp_iff.1 H
  have hsz : es.size < maxLen := by
    have := hf.2.1.length_eq
    simp only [List.length_map, Array.length_toList] at this
    unfold maxLen
    omega
  obtain ⟨es', clock', hr, F', hd, -, -, -⟩ := Go.Maps.fit_store (R' := ptrR) kI Tryz.underlying66 S.obj_at hf.1 hsz (key := .int .i64 k) (val := .pointer (some ⟨p, 0, none⟩)) (fun x _ _ z hz => hz) (keyI hk) (show ptrR (.pointer (some ⟨p, 0, none⟩)) = some (.lit (.int .i64 p), []) from rfl)
  refine ⟨_, hr, mp_iff.2 ⟨es', clock', ⟨F', ?_, ?_⟩, S.putObj _⟩⟩
  · have h1 := sorted_perm (es'.toList.map (rg Tryz.prog 3 ptrR))
    rw [hd] at h1
    refine h1.symm.trans ?_
    unfold Go.ChangeMaps.putKey
    refine (insert_perm _ _).trans ?_
    have h2 : ((es.toList.map (rg Tryz.prog 3 ptrR)).foldr DataW.insert []).Perm (M.map mEnc) := (sorted_perm _).trans hf.2.1
    have h3 := h2.filter (Go.ChangeMaps.notKey (.int .i64 k))
    have h4 : M.filter (fun x => !(x.1 == k)) = M := List.filter_eq_self.2 (fun x hx => by simpa using hn x hx)
    rw [filter_keys, h4] at h3
    refine (h3.cons _).trans ?_
    rw [List.map_append]
    exact (List.perm_append_singleton (mEnc (k, p)) (M.map mEnc)).symm
  · intro x hx
    rcases List.mem_append.1 hx with hx | hx
    · exact hf.2.2 x hx
    · rw [List.mem_singleton] at hx; subst hx; exact hk
theorem mp_drop (H : Sat G w (mpA b M :: l)) (k : Int) (ty : TypeId) (hk : (Lit.int .i64 k).wf = true) : ∃ w', (Builtin.delete_ #[66, 3] ty #[.map (some b), .int .i64 k]).run Tryz.prog w = .ok (.tuple #[]) w' ∧ Sat G w' (mpA b (M.filter fun x => !(x.1 == k)) :: l) := by
  obtain ⟨es, clock, hf, S⟩ := mp_iff.1 H
  obtain ⟨es', hr, F', -, hd, -⟩ := Go.Maps.fit_drop (ty := ty) kI Tryz.underlying66 S.obj_at hf.1 (keyI hk)
  refine ⟨_, hr, mp_iff.2 ⟨es', clock, ⟨F', ?_, fun x hx => hf.2.2 x (List.mem_filter.1 hx).1⟩, S.putObj _⟩⟩
  have h1 := sorted_perm (es'.toList.map (rg Tryz.prog 3 ptrR))
  rw [hd] at h1
  refine h1.symm.trans ?_
  unfold Go.ChangeMaps.delKey
  have h2 : ((es.toList.map (rg Tryz.prog 3 ptrR)).foldr DataW.insert []).Perm (M.map mEnc) := (sorted_perm _).trans hf.2.1
  have h3 := h2.filter (Go.ChangeMaps.notKey (.int .i64 k))
  rwa [filter_keys] at h3
/-- A range under way: what is still to come. -/
def ItFit (b r : Nat) (es : Array MapEntry) (clock since : Nat) (seen : Array Nat) (c0 : Nat) (M rem : List (Int × Nat)) : Prop :=
  MpFit es clock M ∧ (∀ x ∈ es.toList, x.born < since) ∧ since ≤ c0 ∧ since ≤ clock ∧ ((leftOf es seen).toList.map (rg Tryz.prog 3 ptrR)).Perm (rem.map mEnc)
def itA (b r : Nat) (M rem : List (Int × Nat)) : Asrt := ex fun es : Array MapEntry => ex fun clock : Nat => ex fun since : Nat => ex fun seen : Array Nat => ex fun c0 : Nat => star [pur (ItFit b r es clock since seen c0 M rem), obj b (.map es clock), obj r (.mapIter (some b) since seen c0)]
theorem it_iff {r : Nat} {rem : List (Int × Nat)} : Sat G w (itA b r M rem :: l) ↔ ∃ es clock since seen c0, ItFit b r es clock since seen c0 M rem ∧ Sat G w (obj b (.map es clock) :: obj r (.mapIter (some b) since seen c0) :: l) := by
  unfold itA
  simp only [Sat.ex_iff, Sat.star_iff, List.cons_append, List.nil_append, Sat.pur_iff]
theorem it_end {r : Nat} {rem : List (Int × Nat)} (H : Sat G w (itA b r M rem :: l)) : Sat G w (mpA b M :: l) := by
  obtain ⟨es, clock, since, seen, c0, hf, S⟩ := it_iff.1 H
  exact mp_iff.2 ⟨es, clock, hf.1, S.swap.drop⟩
theorem mp_range (H : Sat G w (mpA b M :: l)) : ∃ w', (Instr.range 66 (.map (some b))).run Tryz.prog w = .ok (.pointer (some ⟨w.heap.size, 0, none⟩)) w' ∧ Sat G w' (itA b w.heap.size M M :: l) := by
  obtain ⟨es, clock, hf, S⟩ := mp_iff.1 H
  refine ⟨_, run_range_map w 66 3 93 b es clock Tryz.underlying66 S.obj_at, it_iff.2 ⟨es, clock, clock, #[], clock, ⟨hf, hf.1.stamped.1, Nat.le_refl _, Nat.le_refl _, ?_⟩, (S.new _).swap⟩⟩
  have : leftOf es #[] = es := by
    unfold leftOf
    exact Array.filter_eq_self.2 (fun x hx => by simp)
  rw [this]
  exact hf.2.1
theorem perm_born : ∀ (L : List MapEntry) (e : MapEntry), (L.map (·.born)).Nodup → e ∈ L → L.Perm (e :: L.filter fun x => !(x.born == e.born))
  | [], e, _, h => by cases h
  | a :: L, e, hn, h => by
    rw [List.map_cons, List.nodup_cons] at hn
    by_cases hae : a.born = e.born
    · have hall : ∀ x ∈ L, (!(x.born == e.born)) = true := fun x hx => by
        have : ¬ x.born = e.born := fun h1 => hn.1 (List.mem_map.2 ⟨x, hx, h1.trans hae.symm⟩)
        simp [this]
      have hea : e = a := by
        rcases List.mem_cons.1 h with h | h
        · exact h
        · exact absurd (List.mem_map.2 ⟨e, h, hae.symm⟩) hn.1
      rw [List.filter_cons, if_neg (by simp [hae]), List.filter_eq_self.2 hall, hea]
    · rcases List.mem_cons.1 h with h | h
      · exact absurd (by rw [h]) hae
      · rw [List.filter_cons, if_pos (by simp [hae])]
        exact ((perm_born L e hn.2 h).cons a).trans (List.Perm.swap _ _ _)
theorem left_push (es : Array MapEntry) (seen : Array Nat) (c : Nat) : (leftOf es (seen.push c)).toList = (leftOf es seen).toList.filter fun x => !(x.born == c) := by
  unfold leftOf
  rw [Array.toList_filter, Array.toList_filter, List.filter_filter]
  apply List.filter_congr
  intro x _
  rw [contains_push]
  cases seen.contains x.born <;> cases (x.born == c) <;> rfl
theorem left_nodup {es : Array MapEntry} {seen : Array Nat} (h : (es.toList.map (·.born)).Nodup) : ((leftOf es seen).toList.map (·.born)).Nodup := by
  unfold leftOf
  rw [Array.toList_filter]
  exact h.sublist (List.filter_sublist.map _)
theorem mp_next {r : Nat} {rem : List (Int × Nat)} (H : Sat G w (itA b r M rem :: l)) (ty : TypeId) :
    (rem = [] ∧ (Instr.next (.pointer (some ⟨r, 0, none⟩)) false ty).run Tryz.prog w = .ok (.tuple #[.bool false]) w) ∨
    ∃ x w', x ∈ rem ∧ (Instr.next (.pointer (some ⟨r, 0, none⟩)) false ty).run Tryz.prog w = .ok (.tuple #[.bool true, .int .i64 x.1, .pointer (some ⟨x.2, 0, none⟩)]) w' ∧ (Instr.entry (.pointer (some ⟨r, 0, none⟩))).run Tryz.prog w' = .ok (.tuple #[.int .i64 x.1, .pointer (some ⟨x.2, 0, none⟩)]) w' ∧ Sat G w' (itA b r M (rem.erase x) :: l) := by
  obtain ⟨es, clock, since, seen, c0, ⟨hf, hold, hsc, hsk, hp⟩, S⟩ := it_iff.1 H
  have hst := hf.1.stamped
  rcases run_next_at (P := Tryz.prog) w ty r b since c0 seen es clock S.swap.obj_at S.obj_at hold hsc with ⟨h0, hr⟩ | ⟨e, he, w1, hw, hr⟩
  · left
    refine ⟨?_, hr⟩
    have h1 := hp.length_eq
    simp only [List.length_map, Array.length_toList] at h1
    exact List.eq_nil_of_length_eq_zero (by omega)
  · right
    obtain ⟨hem, hes⟩ := mem_left he
    obtain ⟨m, hm, hrg, hk, hv⟩ := ent_key hf hem
    have hmr : m ∈ rem := by
      have := hp.mem_iff.1 (List.mem_map.2 ⟨e, he, rfl⟩)
      obtain ⟨m', hm', e1⟩ := List.mem_map.1 this
      rw [mEnc_inj (e1.trans hrg)] at hm'
      exact hm'
    have S1 : Sat G w1 (obj b (.map es clock) :: obj r (.mapIter (some b) since seen c0) :: l) := by
      rcases hw with rfl | rfl
      · exact S
      · exact S.drew
    have S2 := (S1.swap.putObj (.mapIter (some b) since (seen.push e.born) clock)).swap
    rw [hk, hv] at hr
    refine ⟨m, _, hmr, hr, ?_, it_iff.2 ⟨es, clock, since, seen.push e.born, clock, ⟨hf, hold, hsk, hsk, ?_⟩, S2⟩⟩
    · have := run_entry_at (P := Tryz.prog) _ r b since seen es clock e S2.swap.obj_at S2.obj_at hem hst.2.1
      rw [hk, hv] at this
      exact this
    · rw [left_push]
      have h1 := (perm_born _ e (left_nodup (seen := seen) hst.2.1) he).map (rg Tryz.prog 3 ptrR)
      have h2 := h1.symm.trans hp
      rw [List.map_cons, hrg] at h2
      have h3 : (rem.map mEnc).Perm (mEnc m :: (rem.erase m).map mEnc) := by
        have := (List.perm_cons_erase hmr).map mEnc
        rwa [List.map_cons] at this
      exact List.Perm.cons_inv (h2.trans h3)
end
end Go.Proofs.YtcecfhfbcdbofaaGreatDoor
set_option linter.unusedSimpArgs false
set_option linter.unusedVariables false
namespace Go.Proofs.YtcecfhfbcdbofaaGreatDoor
open Go.RowKit

section
variable {P : Program} {ops : Array Oper} {Q : Exit → Act → World → Prop} 
theorem wpAnyW_inv {n : Nat} (hn : ops.size = n) {J : (Nat → Bool) → Act → World → Prop}
    (hs : ∀ i f a w, i < n → f i = false → (∀ o, ops[i]? = some o → ∀ e ∈ o.after, Region.binds .any e = true → f e.on = true) → J f a w → wpOpIn Fence.wide 0 P ops Q i (J (upd f i)) a w)
    (hpre : ∀ i o, ops[i]? = some o → ∀ e ∈ o.after, Region.binds .any e = true → e.on < i)
    (he : ∀ a w, J (fun _ => true) a w → Q .normal a w) :
    ∀ (fuel : Nat) (l : Array Bool) (a : Act) (w : World), l.size = n → (l.toList.filter (!·)).length ≤ fuel → J (fun j => l.getD j true) a w → wpAnyIn Fence.wide 0 P .any ops Q fuel l a w := by
  have hdone : ∀ (l : Array Bool) a w, l.size = n → Region.ready .any ops l = [] → J (fun j => l.getD j true) a w → Q .normal a w := by
    intro l a w hl hr hJ
    have hall : ∀ k, ∀ j, j < k → l.getD j true = true := by
      intro k
      induction k with
      | zero => intro j hj; omega
      | succ k ih =>
        intro j hj
        by_cases hlt : j < k
        · exact ih j hlt
        have hjk : j = k := by omega
        subst hjk
        cases hf : l.getD j true with
        | true => rfl
        | false =>
          exfalso
          have hjn : j < n := by
            rcases Nat.lt_or_ge j n with h | h
            · exact h
            · rw [← hl] at h; simp [Array.getElem?_eq_none h] at hf
          have ho : ops[j]? = some (ops[j]'(by omega)) := Array.getElem?_eq_getElem _
          have : j ∈ Region.ready .any ops l := mem_ready.2 ⟨hf, _, ho, fun e he hb => by
            have h1 := ih e.on (hpre j _ ho e he hb)
            have h2 : e.on < l.size := by have := hpre j _ ho e he hb; omega
            simp [h2] at h1 ⊢; exact h1⟩
          rw [hr] at this
          cases this
    refine he a w ?_
    have : (fun j => l.getD j true) = fun _ => true := funext fun j => hall (j + 1) j (by omega)
    rw [← this]; exact hJ
  intro fuel
  induction fuel with
  | zero =>
    intro l a w hl hc hJ
    have hr : Region.ready .any ops l = [] := by
      rcases hr : Region.ready .any ops l with _ | ⟨i, is⟩
      · rfl
      · exfalso
        have hi : i ∈ Region.ready .any ops l := by rw [hr]; simp
        obtain ⟨h0, o, ho, _⟩ := mem_ready.1 hi
        have hin : i < l.size := by rw [hl, ← hn]; exact (Array.getElem?_eq_some_iff.1 ho).1
        have hm : false ∈ l.toList.filter (!·) := by
          rw [List.mem_filter]
          simp [hin] at h0
          exact ⟨by rw [← h0]; simp, rfl⟩
        have := List.length_pos_of_mem hm
        omega
    exact ⟨hr, hdone l a w hl hr hJ⟩
  | succ fuel ih =>
    intro l a w hl hc hJ
    refine ⟨fun hr => hdone l a w hl hr hJ, fun i hi => ?_⟩
    obtain ⟨h0, o, ho, hall⟩ := mem_ready.1 hi
    have hin : i < l.size := by rw [hl, ← hn]; exact (Array.getElem?_eq_some_iff.1 ho).1
    refine wpOpIn_mono (fun a' w' h' => ih (l.setIfInBounds i true) a' w' (by simpa using hl) ?_ ?_) (hs i _ a w (by omega) h0 (fun o' ho' e he hb => ?_) hJ)
    · have h1 : l[i] = false := by simpa [hin] using h0
      have h2 : (l.setIfInBounds i true).toList = l.toList.take i ++ true :: l.toList.drop (i + 1) := by
        simp [List.set_eq_take_append_cons_drop, hin]
      have h3 : l.toList = l.toList.take i ++ l[i] :: l.toList.drop (i + 1) := by
        conv => lhs; rw [← List.take_append_drop i l.toList, List.drop_eq_getElem_cons (by simpa using hin)]
        simp
      rw [h2]
      rw [h3] at hc
      simp only [List.filter_append, List.filter_cons, h1, Bool.not_false, if_true, List.length_append, List.length_cons, Bool.not_true, if_false, Bool.false_eq_true] at hc ⊢
      omega
    · have : (fun j => (l.setIfInBounds i true).getD j true) = upd (fun j => l.getD j true) i := funext fun j => getD_setIn hin
      rw [this]; exact h'
    · rw [ho] at ho'; cases ho'
      have h1 := hall e he hb
      have h2 : e.on < l.size := by
        rcases Nat.lt_or_ge e.on l.size with h | h
        · exact h
        · simp [Array.getElem?_eq_none h] at h1
      simp [h2] at h1 ⊢; exact h1
theorem wpOpW_val {i : Nat} {o : Oper} {K : Act → World → Prop} {a : Act} {w w' : World} {v : Value} (ho : ops[i]? = some o) (hw : Region.wanted o (yielded ops a.tmps) = true) (hr : ∀ ρ, ρ = a.eval → (execOp ρ o).run P w = .ok (.value v) w') (h : K (a.put o.dst v) w') (hnd : isDef o.op = false) : wpOpIn Fence.wide 0 P ops Q i K a w := by
  unfold wpOpIn
  simp only [ho]
  rw [if_pos hw]
  refine ⟨fun _ _ => trivial, ?_⟩
  rw [show Fence.wide.round = none from rfl, Oper.semAt_none, hr _ rfl]
  exact h
theorem wpOpW_run {i : Nat} {o : Oper} {K : Act → World → Prop} {a : Act} {w : World} {v : Value} (ho : ops[i]? = some o) (hg : o.guard = none) (hr : ∀ ρ, ρ = a.eval → (execOp ρ o).run P w = .ok (.value v) w) (h : K (a.put o.dst v) w) (hnd : isDef o.op = false := by rfl) : wpOpIn Fence.wide 0 P ops Q i K a w :=
  wpOpW_val ho (by unfold Region.wanted; rw [hg]) hr h hnd
theorem wpOpW_mem {i : Nat} {o : Oper} {K : Act → World → Prop} {a : Act} {w w' : World} {v : Value} (ho : ops[i]? = some o) (hg : o.guard = none) (hr : ∀ ρ, ρ = a.eval → (execOp ρ o).run P w = .ok (.value v) w') (h : K (a.put o.dst v) w') (hnd : isDef o.op = false := by rfl) : wpOpIn Fence.wide 0 P ops Q i K a w :=
  wpOpW_val ho (by unfold Region.wanted; rw [hg]) hr h hnd
theorem wpOpW_runG {i : Nat} {o : Oper} {K : Act → World → Prop} {a : Act} {w : World} {v : Value} (ho : ops[i]? = some o) (hw : Region.wanted o (yielded ops a.tmps) = true) (hr : ∀ ρ, ρ = a.eval → (execOp ρ o).run P w = .ok (.value v) w) (h : K (a.put o.dst v) w) (hnd : isDef o.op = false := by rfl) : wpOpIn Fence.wide 0 P ops Q i K a w :=
  wpOpW_val ho hw hr h hnd
theorem wpOpW_skip {i : Nat} {o : Oper} {K : Act → World → Prop} {a : Act} {w : World} (ho : ops[i]? = some o) (hw : Region.wanted o (yielded ops a.tmps) = false) (h : K (a.put o.dst undef) w) : wpOpIn Fence.wide 0 P ops Q i K a w := by
  unfold wpOpIn
  simp only [ho]
  rw [if_neg (by rw [hw]; exact Bool.false_ne_true)]
  exact ⟨fun _ _ => trivial, h⟩
theorem wpOpW_callG {i : Nat} {o : Oper} {K : Act → World → Prop} {a : Act} {w : World} {f : FuncId} {args : Array Value} {R : Ending → World → Prop} (ho : ops[i]? = some o) (hw : Region.wanted o (yielded ops a.tmps) = true) (hr : ∀ ρ, ρ = a.eval → (execOp ρ o).run P w = .ok (.enter f args) w)
    (hc : Calls P f args w R) (h : ∀ e w', R e w' → ∃ v, e = .returned v ∧ K (a.put o.dst v) w') (hnd : isDef o.op = false := by rfl) : wpOpIn Fence.wide 0 P ops Q i K a w := by
  unfold wpOpIn
  simp only [ho]
  rw [if_pos hw]
  refine ⟨fun _ _ => trivial, ?_⟩
  rw [show Fence.wide.round = none from rfl, Oper.semAt_none, hr _ rfl, Oper.uponIn_enter]
  refine ⟨fun h => by simp [Fence.wide] at h, callsIn_wide.2 (Calls.mono hc fun e w' he => ?_)⟩
  obtain ⟨v, rfl, hv⟩ := h e w' he
  exact hv
theorem wpOpW_call {i : Nat} {o : Oper} {K : Act → World → Prop} {a : Act} {w : World} {f : FuncId} {args : Array Value} {R : Ending → World → Prop} (ho : ops[i]? = some o) (hg : o.guard = none) (hr : ∀ ρ, ρ = a.eval → (execOp ρ o).run P w = .ok (.enter f args) w)
    (hc : Calls P f args w R) (h : ∀ e w', R e w' → ∃ v, e = .returned v ∧ K (a.put o.dst v) w') (hnd : isDef o.op = false := by rfl) : wpOpIn Fence.wide 0 P ops Q i K a w :=
  wpOpW_callG ho (by unfold Region.wanted; rw [hg]) hr hc h hnd
/-- A call of yield, guarded. -/
theorem wpOpW_yield {i : Nat} {o : Oper} {K : Act → World → Prop} {a : Act} {w : World} {ly : Nat} {fn : FuncId} {tmps : Array Value} {assign body : Code} {R : Ending → World → Prop} (ho : ops[i]? = some o) (hw : Region.wanted o (yielded ops a.tmps) = true) (hr : ∀ ρ, ρ = a.eval → (execOp ρ o).run P w = .ok (.round ly fn tmps assign body) w)
    (hc : RoundIn Fence.wide 0 P ly fn tmps assign body w R) (h : ∀ e w', R e w' → ∃ v, e = .returned v ∧ K (a.put o.dst v) w') (hnd : isDef o.op = false := by rfl) : wpOpIn Fence.wide 0 P ops Q i K a w := by
  unfold wpOpIn
  simp only [ho]
  rw [if_pos hw]
  refine ⟨fun _ _ => trivial, ?_⟩
  rw [show Fence.wide.round = none from rfl, Oper.semAt_none, hr _ rfl, Oper.uponIn_round]
  refine ⟨fun h => by simp [Fence.wide] at h, hc.mono fun e w' he => ?_⟩
  obtain ⟨v, rfl, hv⟩ := h e w' he
  exact hv
/-- A region that draws its order, over any invariant of what is done. -/
theorem wp_region_JW {id : Nat} {a : Act} {w : World} (hm : P.follows .mixedOrders = true) (n : Nat) (hn : ops.size = n) (preds : List (List Nat)) (hp : predsOf ops = preds)
    (hpre : ((List.range n).all fun i => (preds.getD i []).all (Nat.blt · i)) = true)
    (J : (Nat → Bool) → Act → World → Prop) (h0 : J (fun j => !Nat.blt j n) a w.drew)
    (hs : forAll (fun i => ∀ f a W, f i = false → allDone f (preds.getD i []) → J f a W → wpOpIn Fence.wide 0 P ops Q i (J (upd f i)) a W) (List.range n))
    (he : ∀ a W, J (fun _ => true) a W → Q .normal a W) : (Code.region id ops true).wpIn Fence.wide 0 P Q a w := by
  refine wpIn_region_any hm ?_
  have hpo : ∀ i o, ops[i]? = some o → ∀ e ∈ o.after, Region.binds .any e = true → e.on ∈ preds.getD i [] := by
    intro i o ho e he hb
    subst hp
    have : (predsOf ops).getD i [] = (o.after.toList.filter (Region.binds .any)).map (·.on) := by
      unfold predsOf
      have ho' : ops.toList[i]? = some o := by simpa using ho
      rw [List.getD_eq_getElem?_getD, List.getElem?_map, ho']
      rfl
    rw [this]
    exact List.mem_map_of_mem (List.mem_filter.2 ⟨by simpa using he, hb⟩)
  have hstart : ∀ j, (Array.replicate ops.size false).getD j true = !Nat.blt j n := by
    intro j
    by_cases h : j < n
    · have hb : Nat.blt j n = true := by simpa using h
      simp [hn, h, hb]
    · have hb : Nat.blt j n = false := by
        cases hb : Nat.blt j n with
        | false => rfl
        | true => exact absurd (by simpa using hb) h
      simp [hn, h, hb]
  refine wpAnyW_inv hn (J := J) ?_ ?_ ?_ ops.size _ a _ (by simp [hn]) ?_ ?_
  · intro i f a' w' hi hf hpr S'
    refine forAll_mem hs i (List.mem_range.2 hi) f a' w' hf (allDone_of fun p hp' => ?_) S'
    have ho : ops[i]? = some (ops[i]'(by omega)) := Array.getElem?_eq_getElem _
    subst hp
    have : (predsOf ops).getD i [] = ((ops[i]'(by omega)).after.toList.filter (Region.binds .any)).map (·.on) := by
      unfold predsOf
      have ho' : ops.toList[i]? = some (ops[i]'(by omega)) := by simp
      rw [List.getD_eq_getElem?_getD, List.getElem?_map, ho']
      rfl
    rw [this] at hp'
    obtain ⟨e, hme, rfl⟩ := List.mem_map.1 hp'
    obtain ⟨hm1, hm2⟩ := List.mem_filter.1 hme
    exact hpr _ ho e (by simpa using hm1) hm2
  · intro i o ho e he hb
    have hi : i < n := by rw [← hn]; exact (Array.getElem?_eq_some_iff.1 ho).1
    rw [List.all_eq_true] at hpre
    have := hpre i (List.mem_range.2 hi)
    rw [List.all_eq_true] at this
    exact by simpa using this _ (hpo i o ho e he hb)
  · intro a' w' S'; exact he a' w' S'
  · refine Nat.le_trans (List.length_filter_le _ _) ?_
    simp
  · have hf : (fun j => (Array.replicate ops.size false).getD j true) = fun j => !Nat.blt j n := funext hstart
    rw [hf]; exact h0
end
end Go.Proofs.YtcecfhfbcdbofaaGreatDoor
set_option linter.unusedSimpArgs false
set_option linter.unusedVariables false
namespace Go.Proofs.YtcecfhfbcdbofaaGreatDoor
open Go.RowKit

section
variable {P : Program} {G : Gnd} {w : World} {l : List Asrt}
/-- As Yld, in whatever order: adm says which lists may have come. -/
def YldP {α : Type} (P : Program) (l : Nat) (encs : α → Array Value) (G : Gnd) (adm : List α → Prop) (B Bx : List α → List Asrt) : Prop :=
  ∀ (pre : List α) (x : α) (W : World) (A : List Asrt) (G1 : Gnd) (m : Nat), adm (pre ++ [x]) → G.le G1 → Sat G1 W (A ++ B pre) →
    YieldAt Fence.wide m P l (encs x) W fun e W' => ∃ G2, G1.le G2 ∧ ((e = .returned (.bool true) ∧ Sat G2 W' (A ++ B (pre ++ [x]))) ∨ (e = .returned (.bool false) ∧ Sat G2 W' (A ++ Bx (pre ++ [x]))))
/-- As Gives: fin says which lists are whole. -/
def GivesP {α : Type} (P : Program) (gf : Nat) (lb : Array Value) (encs : α → Array Value) (adm fin : List α → Prop) (A : List Asrt) : Prop :=
  ∀ (l : Nat) (G : Gnd) (B Bx : List α → List Asrt) (W : World), YldP P l encs G adm B Bx → Sat G W (A ++ B []) →
    Calls P gf (#[.func (.yield l) #[] #[]] ++ lb) W fun e W' => (∃ v, e = .returned v) ∧ ∃ G', G.le G' ∧ ((∃ ys, fin ys ∧ Sat G' W' (A ++ B ys)) ∨ ∃ pre, adm pre ∧ Sat G' W' (A ++ Bx pre))
theorem wp_rangeP {α : Type} {g : Operand} {ps : Array Tmp} {assign body : Code} {Q : Exit → Act → World → Prop} {a : Act}
    {gf : Nat} {lb : Array Value} (hg : a.eval g = .func (.func gf) #[] lb) (eg : ∀ args w, (callFunc gf args).run P w = .ok (.enter gf args) w)
    {encs : α → Array Value} {adm fin : List α → Prop} {A : List Asrt} (hseq : GivesP P gf lb encs adm fin A) (hps : ∀ x, (encs x).size = ps.size)
    (B : List α → List Asrt) (Bx : Code → List α → List Asrt) (S : Sat G w (A ++ B []))
    (hround : ∀ (l : Nat) (pre : List α) (x : α) (W : World) (A' : List Asrt) (G1 : Gnd) (K : Act → World → Prop), adm (pre ++ [x]) → G.le G1 → Sat G1 W (A' ++ B pre) →
      (∀ (C : List Asrt) (a₁ : Act) (W₁ : World), Sat G1 W₁ (A' ++ C) → (∀ A'' W₂, Sat G1 W₂ (A'' ++ C) → body.wpIn (Fence.wide.inRound l) 0 P (rndPost G1 A'' B Bx (pre ++ [x])) a₁ W₂) → K a₁ W₁) →
      assign.wpIn (Fence.wide.inRound l) 0 P (Exit.then K (fun _ _ _ => False))
        { tmps := (ps.zip (encs x)).foldl (fun t (p, v) => t.setIfInBounds p v) a.tmps, defers := [] } W)
    (hdone : ∀ (D : Nat) (ys : List α) (W : World) (G1 : Gnd), fin ys → G.le G1 → Sat G1 W (obj D (.deferred (some [])) :: (A ++ B ys)) → Q .normal { a with defers := { target := .collected D, args := #[] } :: a.defers } W)
    (hstop : ∀ (D : Nat) (c : Code) (pre : List α) (W : World) (G1 : Gnd), adm pre → G.le G1 → Sat G1 W (obj D (.deferred (some [])) :: (A ++ Bx c pre)) → c.wp P Q { a with defers := { target := .collected D, args := #[] } :: a.defers } W) :
    (Code.rangeFunc g ps assign body).wp P Q a w := by
  refine wpIn_wide (n := 0).1 (wpIn_rangeFunc ?_)
  intro fn hfn
  obtain ⟨rec, hrec⟩ : ∃ rec : LoopState → Option Code → Loop, rec = fun st pe => { state := st, pending := pe, fn, tmps := a.tmps, params := ps, assign, body, defers := w.heap.size } := ⟨_, rfl⟩
  have S1 := (S.new (.deferred (some []))).new (.loop (rec .ready none))
  rw [World.size_alloc] at S1
  obtain ⟨W1, hW1⟩ : ∃ W1, (w.alloc (.deferred (some []))).alloc (.loop (rec .ready none)) = W1 := ⟨_, rfl⟩
  rw [hW1] at S1
  obtain ⟨L, hL⟩ : ∃ L, L = w.heap.size + 1 := ⟨_, rfl⟩
  obtain ⟨D, hD⟩ : ∃ D, D = w.heap.size := ⟨_, rfl⟩
  refine ⟨L, [{ target := .collected D, args := #[] }], W1, { target := .fn (.func gf) lb, args := #[.func (.yield L) #[] #[]] }, W1, gf,
    #[.func (.yield L) #[] #[]] ++ lb, W1, ?_, ?_, ?_, ?_, ?_, ?_⟩
  · rw [← hW1, hrec, hL, hD]; exact run_enterLoop_outer _ _ _ _ _
  · simp only [resolve, hg]
    simp [go_sem]
  · intro f' hf'; trivial
  · simp [invoke, go_sem, eg]
  · intro h; simp [Fence.wide] at h
  · rw [← hL, ← hD] at S1
    have S2 : Sat G W1 (A ++ (B [] ++ [obj L (.loop (rec .ready none)), obj D (.deferred (some []))])) := S1.perm (perm_in (A := A) (B := B []) (C := [obj L (.loop (rec .ready none)), obj D (.deferred (some []))])).symm
    refine callsIn_wide.2 ((hseq L G (fun pre => B pre ++ [obj L (.loop (rec .ready none)), obj D (.deferred (some []))])
      (fun pre => [ex fun c => star (Bx c pre ++ [obj L (.loop (rec .done (some c))), obj D (.deferred (some []))])]) W1 ?_ S2).mono ?_)
    · -- one round
      intro pre x W A' G1 m hpre hG1 S3
      have S4 := S3.perm perm_in
      have hl : W.heap[L]? = some (.loop (rec .ready none)) := Sat.obj_at S4
      have hy := run_yield (P := P) (args := encs x) hl (by rw [hrec]; exact hps x)
      rw [hrec] at hy
      refine ⟨fn, _, assign, body, hy, RoundIn.any (m := 0) (roundIn_of_wpIn hfn (wpIn_mono (hround L pre x W _ G1 (fun a₁ W₁ => ∃ C, Sat G1 W₁ ((obj L (.loop (rec .ready none)) :: obj D (.deferred (some [])) :: A') ++ C) ∧ ∀ A'' W₂, Sat G1 W₂ (A'' ++ C) → body.wpIn (Fence.wide.inRound L) 0 P (rndPost G1 A'' B Bx (pre ++ [x])) a₁ W₂) hpre hG1 S4 (fun C a₁ W₁ h1 h2 => ⟨C, h1, h2⟩)) ?_))⟩
      rintro e a₁ W₁ hp
      cases e with
      | normal =>
        obtain ⟨C, S5, hb⟩ := hp
        have hl1 : W₁.heap[L]? = some (.loop (rec .ready none)) := Sat.obj_at S5
        refine ⟨_, run_beginRound hl1 (by rw [hrec]), wpIn_mono (hb (obj L (.loop { rec .ready none with state := .busy }) :: obj D (.deferred (some [])) :: A') _ (Sat.putObj S5 _)) ?_⟩
        have fin : ∀ (jump : Option Code) (G2 : Gnd) (W3 : World) (E : List Asrt), Sat G2 W3 ((obj L (.loop { rec .ready none with state := .busy }) :: obj D (.deferred (some [])) :: A') ++ E) →
            ∃ W4, (Instr.endRound L jump).run P W3 = .ok (.bool jump.isNone) W4 ∧ Sat G2 W4 ((obj L (.loop (rec (if jump.isNone then .ready else .done) jump)) :: obj D (.deferred (some [])) :: A') ++ E) := fun jump G2 W3 E S6 => by
          have hl3 : W3.heap[L]? = some (.loop { rec .ready none with state := .busy }) := Sat.obj_at S6
          have := run_endRound (P := P) jump hl3
          rw [hrec] at this ⊢
          exact ⟨_, this, by rw [hrec] at S6; exact Sat.putObj S6 _⟩
        rintro e a3 W3 hp
        cases e with
        | normal =>
          obtain ⟨G2, hG2, S6⟩ := hp
          obtain ⟨W4, hr, S7⟩ := fin none G2 W3 _ S6
          exact ⟨_, W4, hr, G2, hG2, .inl ⟨rfl, S7.perm (perm_in (A := A') (C := [obj L (.loop (rec .ready none)), obj D (.deferred (some []))])).symm⟩⟩
        | ret =>
          obtain ⟨G2, hG2, S6⟩ := hp
          obtain ⟨W4, hr, S7⟩ := fin (some .ret) G2 W3 _ S6
          refine ⟨_, W4, hr, G2, hG2, .inr ⟨rfl, ?_⟩⟩
          have S8 := S7.perm (perm_in (A := A') (C := [obj L (.loop (rec .done (some .ret))), obj D (.deferred (some []))])).symm
          exact Sat.exIn (E := fun c => Bx c (pre ++ [x]) ++ [obj L (.loop (rec .done (some c))), obj D (.deferred (some []))]) (Code.ret) S8
        | exit id =>
          obtain ⟨G2, hG2, S6⟩ := hp
          obtain ⟨W4, hr, S7⟩ := fin (some (.exit id)) G2 W3 _ S6
          refine ⟨_, W4, hr, G2, hG2, .inr ⟨rfl, ?_⟩⟩
          have S8 := S7.perm (perm_in (A := A') (C := [obj L (.loop (rec .done (some (.exit id)))), obj D (.deferred (some []))])).symm
          exact Sat.exIn (E := fun c => Bx c (pre ++ [x]) ++ [obj L (.loop (rec .done (some c))), obj D (.deferred (some []))]) (Code.exit id) S8
        | goto t =>
          obtain ⟨G2, hG2, S6⟩ := hp
          obtain ⟨W4, hr, S7⟩ := fin (some (.goto t)) G2 W3 _ S6
          refine ⟨_, W4, hr, G2, hG2, .inr ⟨rfl, ?_⟩⟩
          have S8 := S7.perm (perm_in (A := A') (C := [obj L (.loop (rec .done (some (.goto t)))), obj D (.deferred (some []))])).symm
          exact Sat.exIn (E := fun c => Bx c (pre ++ [x]) ++ [obj L (.loop (rec .done (some c))), obj D (.deferred (some []))]) (Code.goto t) S8
        | panic ch => exact hp.elim
        | outgrown => exact hp.elim
      | exit id => exact hp.elim
      | goto t => exact hp.elim
      | ret => exact hp.elim
      | panic ch => exact hp.elim
      | outgrown => exact hp.elim
    · -- behind the iterator
      rintro e W2 ⟨⟨v, rfl⟩, G2, hG2, (⟨ys, hys, S3⟩ | ⟨pre, hpre, S3⟩)⟩
      · have S4 := S3.perm perm_in
        have hl : W2.heap[L]? = some (.loop (rec .ready none)) := Sat.obj_at S4
        refine ⟨none, _, by have := run_endLoop (P := P) hl (by rw [hrec]; simp); rw [hrec] at this; exact this, hdone D ys _ G2 hys hG2 ?_⟩
        exact (Sat.putObj S4 _).drop
      · have S4 := S3.perm List.perm_append_comm
        obtain ⟨c, S5⟩ := Sat.ex_iff.1 S4
        have S6 := ((Sat.star_iff.1 S5).perm List.perm_append_comm).perm (perm_in (A := A) (B := Bx c pre) (C := [obj L (.loop (rec .done (some c))), obj D (.deferred (some []))]))
        have hl : W2.heap[L]? = some (.loop (rec .done (some c))) := Sat.obj_at S6
        refine ⟨some c, _, by have := run_endLoop (P := P) hl (by rw [hrec]; simp); rw [hrec] at this; exact this, wpIn_wide.2 (hstop D c pre _ G2 hpre hG2 ?_)⟩
        exact (Sat.putObj S6 _).drop
end
end Go.Proofs.YtcecfhfbcdbofaaGreatDoor
set_option linter.unusedSimpArgs false
set_option linter.unusedVariables false
namespace Go.Proofs.YtcecfhfbcdbofaaGreatDoor
open Go.Shelf Go.Sort Go.RowKit

def lays189_ren : Go.Shelf.Ren := ⟨fun | 189 => 61 | 125 => 91 | 257 => 90 | 128 => 117 | 129 => 118 | 294 => 108 | 295 => 109 | 296 => 110 | 297 => 111 | 298 => 112 | 299 => 113 | 216 => 114 | 300 => 115 | 301 => 116 | 328 => 121 | 329 => 122 | 330 => 123 | 331 => 124 | 332 => 125 | 215 => 119 | 343 => 126 | n => n, fun | 28 => 43 | 3 => 3 | 46 => 170 | 0 => 0 | 51 => 191 | 53 => 145 | 4 => 4 | 183 => 184 | 182 => 183 | 131 => 137 | 5 => 5 | 9 => 9 | 218 => 195 | 222 => 199 | 228 => 201 | 229 => 202 | n => n, fun | n => n⟩
theorem lays189 : Go.Proofs.Lays.n189 Tryz.prog lays189_ren := {
  mixed := by kernel_rfl
  f125 := Tryz.func91.trans (congrArg some (by kernel_rfl))
  f128 := Tryz.func117.trans (congrArg some (by kernel_rfl))
  f129 := Tryz.func118.trans (congrArg some (by kernel_rfl))
  f189 := Tryz.func61.trans (congrArg some (by kernel_rfl))
  f215 := Tryz.func119.trans (congrArg some (by kernel_rfl))
  f216 := Tryz.func114.trans (congrArg some (by kernel_rfl))
  f257 := Tryz.func90.trans (congrArg some (by kernel_rfl))
  f294 := Tryz.func108.trans (congrArg some (by kernel_rfl))
  f295 := Tryz.func109.trans (congrArg some (by kernel_rfl))
  f296 := Tryz.func110.trans (congrArg some (by kernel_rfl))
  f297 := Tryz.func111.trans (congrArg some (by kernel_rfl))
  f298 := Tryz.func112.trans (congrArg some (by kernel_rfl))
  f299 := Tryz.func113.trans (congrArg some (by kernel_rfl))
  f300 := Tryz.func115.trans (congrArg some (by kernel_rfl))
  f301 := Tryz.func116.trans (congrArg some (by kernel_rfl))
  f328 := Tryz.func121.trans (congrArg some (by kernel_rfl))
  f329 := Tryz.func122.trans (congrArg some (by kernel_rfl))
  f330 := Tryz.func123.trans (congrArg some (by kernel_rfl))
  f331 := Tryz.func124.trans (congrArg some (by kernel_rfl))
  f332 := Tryz.func125.trans (congrArg some (by kernel_rfl))
  f343 := Tryz.func126.trans (congrArg some (by kernel_rfl))
  t0 := Tryz.underlying0
  a0 := Tryz.isAgg0
  z0 := Tryz.sizeOf0
  v0 := Tryz.zeroValue0
  t3 := Tryz.underlying3
  a3 := Tryz.isAgg3
  z3 := Tryz.sizeOf3
  v3 := Tryz.zeroValue3
  t4 := Tryz.underlying4
  a4 := Tryz.isAgg4
  z4 := Tryz.sizeOf4
  v4 := Tryz.zeroValue4
  t5 := Tryz.underlying5
  a5 := Tryz.isAgg5
  z5 := Tryz.sizeOf5
  v5 := Tryz.zeroValue5
  t9 := Tryz.underlying9
  a9 := Tryz.isAgg9
  z9 := Tryz.sizeOf9
  v9 := Tryz.zeroValue9
  t28 := Tryz.underlying43
  a28 := Tryz.isAgg43
  z28 := Tryz.sizeOf43
  v28 := Tryz.zeroValue43
  t46 := Tryz.underlying170
  a46 := Tryz.isAgg170
  z46 := Tryz.sizeOf170
  v46 := Tryz.zeroValue170
  t51 := Tryz.underlying191
  a51 := Tryz.isAgg191
  z51 := Tryz.sizeOf191
  v51 := Tryz.zeroValue191
  t53 := Tryz.underlying145
  a53 := Tryz.isAgg145
  z53 := Tryz.sizeOf145
  v53 := Tryz.zeroValue145
  t131 := Tryz.underlying137
  a131 := Tryz.isAgg137
  z131 := Tryz.sizeOf137
  v131 := Tryz.zeroValue137
  t182 := Tryz.underlying183
  a182 := Tryz.isAgg183
  z182 := Tryz.sizeOf183
  v182 := Tryz.zeroValue183
  t183 := Tryz.underlying184
  a183 := Tryz.isAgg184
  z183 := Tryz.sizeOf184
  v183 := Tryz.zeroValue184
  t218 := Tryz.underlying195
  a218 := Tryz.isAgg195
  z218 := Tryz.sizeOf195
  v218 := Tryz.zeroValue195
  t222 := Tryz.underlying199
  a222 := Tryz.isAgg199
  z222 := Tryz.sizeOf199
  v222 := Tryz.zeroValue199
  t228 := Tryz.underlying201
  a228 := Tryz.isAgg201
  z228 := Tryz.sizeOf201
  v228 := Tryz.zeroValue201
  t229 := Tryz.underlying202
  a229 := Tryz.isAgg202
  z229 := Tryz.sizeOf202
  v229 := Tryz.zeroValue202 }
open Go.Sort Go.RowKit in
theorem slices_Sort_int (blk off cap : Nat) (zs : List Int) (w : World) (hH : Holds (Value.int .i64) w blk off zs.toArray) (hblk : blk < w.heap.size) (hsz : zs.length < 4611686018427387904) :
    Calls Tryz.prog 61 #[.slice (some ⟨blk, off, none⟩) zs.length cap] w fun e w' =>
      e = .returned (.tuple #[]) ∧ ∃ n os, w' = grow (putRow (Value.int .i64) (Sort.ahead w n) blk off (zs.mergeSort fun x y => decide (x ≤ y)).toArray) os := Any.slices_Sort_int lays189 blk off cap zs w hH hblk hsz
theorem slices_Sort_int_none (p : Option Addr) (cap : Nat) (w : World) :
    Calls Tryz.prog 61 #[.slice p 0 cap] w fun e w' => e = .returned (.tuple #[]) ∧ w' = w := Any.slices_Sort_int_none lays189 p cap w
end Go.Proofs.YtcecfhfbcdbofaaGreatDoor
set_option linter.unusedSimpArgs false
set_option linter.unusedVariables false
namespace Go.Proofs.YtcecfhfbcdbofaaGreatDoor
open Go.RowKit Go.Sort Go.Shelf
attribute [local go_sem] Oper.semAt_some

theorem encs_ints (zs : List Int) : encs lenc_r zs = zs.map (Value.int .i64) := by
  induction zs with
  | nil => rfl
  | cons a zs ih =>
    have : encs lenc_r (a :: zs) = lenc_r a ++ encs lenc_r zs := rfl
    rw [this, ih]; rfl
def srt (zs : List Int) : List Int := zs.mergeSort fun x y => decide (x ≤ y)
theorem srt_perm (zs : List Int) : (srt zs).Perm zs := List.mergeSort_perm _ _
theorem srt_len (zs : List Int) : (srt zs).length = zs.length := (srt_perm zs).length_eq
section
variable {G : Gnd} {w : World} {l : List Asrt}
theorem sort_own {v : Value} {zs : List Int} (H : Sat G w (ownS 3 1 v zs.length (encs lenc_r zs) :: l)) (hz : zs.length ≤ 100000) : Calls Tryz.prog 61 #[v] w fun e w' => e = .returned (.tuple #[]) ∧ Sat G w' (ownS 3 1 v zs.length (encs lenc_r (srt zs)) :: l) := by
  have ho := H.owns
  obtain ⟨hl, ⟨rfl, hn0, S0⟩ | ⟨g, cap, cur, rfl, hc, hm, hs, ht, S0⟩⟩ := own_iff.1 H
  · have hz0 : zs = [] := List.eq_nil_of_length_eq_zero hn0
    subst hz0
    refine (slices_Sort_int_none none 0 w).mono ?_
    rintro e w' ⟨rfl, rfl⟩
    exact ⟨rfl, by simpa [srt] using H⟩
  · rw [encs_ints] at ho
    obtain ⟨g', cap', e1, -, hlt, -, -, -, hH⟩ := Go.Lib.holds_of_ownsRow ho (by simp)
    cases e1
    refine (slices_Sort_int g 0 cap zs w hH hlt (by omega)).mono ?_
    rintro e w' ⟨rfl, q, os, rfl⟩
    refine ⟨rfl, ?_⟩
    have ho2 := Go.Lib.ownsRow_putRow (q := q) (ys := srt zs) ho (srt_len zs) (Nat.le_refl _)
    rw [show (srt zs).take zs.length = srt zs from List.take_of_length_le (by rw [srt_len]; exact Nat.le_refl _)] at ho2
    rcases ho2.2 with ⟨e0, _⟩ | ⟨g', cap', cur', e0, -, hg, hn', hm', hs', ht'⟩
    · cases e0
    · cases e0
      have hsz : (putRow (Value.int .i64) (Sort.ahead w q) g 0 (srt zs).toArray).heap.size = w.heap.size := by simp [putRow, mapBlock, Sort.ahead]
      have S1 : Sat G (grow (putRow (Value.int .i64) (Sort.ahead w q) g 0 (srt zs).toArray) os) (obj g (.cells cur' 3 (0, 0)) :: l) := by
        refine Sat.turn S0 rfl rfl rfl (by simp only [grow, Array.size_append]; omega) (fun k hk hkg => ?_) ?_
        · show ((putRow (Value.int .i64) (Sort.ahead w q) g 0 (srt zs).toArray).heap ++ os)[k]? = _
          rw [Array.getElem?_append_left (by omega)]
          simp [putRow, mapBlock, Sort.ahead, Array.getElem?_modify, show g ≠ k from fun e => hkg e.symm]
        · show ((putRow (Value.int .i64) (Sort.ahead w q) g 0 (srt zs).toArray).heap ++ os)[g]? = _
          rw [Array.getElem?_append_left (by omega)]
          exact hg
      exact own_iff.2 ⟨by rw [encs_ints, List.length_map, srt_len]; omega, .inr ⟨g, cap, cur', rfl, hc, hm, hs', by rw [encs_ints]; exact ht', S1⟩⟩
/-- append in a fence. -/
theorem st_appendIn {F : Fence} {n0 : Nat} {P : Program} {ops : Array Oper} {rest : List Oper} {o : Oper} {a : Act} {Q : Exit → Act → World → Prop} (hgd : o.guard = none) (s x : Operand) (t : TypeId)
    (ho : o.op = .call { callee := .builtin .append, args := #[s, x], argTypes := #[t, t] })
    (e : TypeId) (z : Value) (size bytes : Nat) (ht : P.underlying t = some (.slice e)) (hi : (P.info? e).map (fun i => (i.zero, i.size, i.bytes)) = some (some z, size, bytes)) (hzs : z.cells.size = size) (hsz : 0 < size)
    (v : Value) (n : Nat) (xs : List Value) (hs : a.eval s = v) (S : Sat G w (ownS e size v n xs :: l))
    (ad : Addr) (m c : Nat) (news : List Value) (hx : a.eval x = .slice (some ad) m c) (hl : news.length = m * size) (hc : ∀ j u, news[j]? = some u → w.cell? (ad.add j) = some u) (h1 : news.all (·.oneCell') = true)
    (h63 : n + m ≤ maxLen) (hbytes : (n + m) * bytes ≤ 140737488355328)
    (h : ∀ v' w', Sat G w' (ownS e size v' (n + m) (xs ++ news) :: l) → wpListIn F n0 P ops Q rest (a.put o.dst v') w') : wpListIn F n0 P ops Q (o :: rest) a w := by
  obtain ⟨i, hi0, hz, hsize, hby⟩ : ∃ i, P.info? e = some i ∧ i.zero = some z ∧ i.size = size ∧ i.bytes = bytes := by
    cases hi' : P.info? e with
    | none => rw [hi'] at hi; simp at hi
    | some i => rw [hi'] at hi; simp at hi; exact ⟨i, rfl, hi.1, hi.2.1, hi.2.2⟩
  refine wpListIn_plain hgd fun K hK => ?_
  obtain ⟨v', w', hrun, h2, h3, _, h5⟩ := run_append_own_at (P := P) w 0 t o.type e i z size bytes ht hi0 hz hsize hby hzs hsz v n xs S.owns ad m c news hl hc (List.all_eq_true.1 h1) h63 hbytes (Nat.zero_le _)
  unfold Oper.wpIn
  refine ⟨?_, ?_⟩
  · simp [Oper.about, ho, resolve, Target.leads, Sem.run_pure]
  · rw [Oper.semAt_plain F _ _ (by rw [ho]; intro c hc'; cases hc')]
    simp [execOp, ho, resolve, invoke, builtin, hs, hx, hrun, Result.andThen]
    exact hK _ _ (h v' w' (S.grown h2 h3 h5))
def iencs (x : Int) : Array Value := #[.int .i64 x]
def apB (s : Nat) (l : List Asrt) (pre : List Int) : List Asrt := ex (fun v : Value => star [blk s #[v] 43, ownS 3 1 v pre.length (encs lenc_r pre)]) :: l
set_option maxHeartbeats 4000000 in
set_option maxRecDepth 100000 in
theorem append_seq {gf : Nat} {lb : Array Value} {adm fin : List Int → Prop} {A : List Asrt} (eg : ∀ args w, (callFunc gf args).run Tryz.prog w = .ok (.enter gf args) w) (hseq : GivesP Tryz.prog gf lb iencs adm fin A) (hadm : ∀ p, adm p → p.length ≤ 10000) (H : Sat G w (A ++ l)) :
    Calls Tryz.prog 89 #[.slice none 0 0, .func (.func gf) #[] lb] w fun e w' => ∃ G' ys v, G.le G' ∧ fin ys ∧ e = .returned v ∧ Sat G' w' (A ++ (ownS 3 1 v ys.length (encs lenc_r ys) :: l)) := by
  refine calls_any fun K hK => ?_
  refine calls_marks Tryz.func89 rfl ?_
  simp only [Tryz.ntmps89, List.size_toArray, List.length_cons, List.length_nil, Nat.reduceAdd, Nat.reduceSub, Array.replicate_succ, Array.replicate_zero, List.push_toArray, List.append_toArray, List.nil_append, List.cons_append]
  have S1 := H.newBlk #[.slice none 0 0] 43
  have S2 : Sat G _ (A ++ apB w.heap.size l []) := (Sat.perm (l' := (ex fun v : Value => star [blk w.heap.size #[v] 43, ownS 3 1 v 0 (encs lenc_r [])]) :: (A ++ l)) (Sat.ex_iff.2 ⟨Value.slice none 0 0, Sat.star_iff.2 (S1.ownNil 3 1).swap⟩) (List.Perm.refl _)).perm List.perm_middle.symm
  clear H S1
  go_wp2_with fail
  generalize w.heap.size = s at *
  refine wp_rangeP rfl eg hseq (fun _ => rfl) (apB s l) (fun _ _ => [pur False]) S2 ?rnd ?done ?stop
  case stop =>
    intro D c pre W6 G4 hpre hG4 S7
    exact (Sat.pur_iff.1 (S7.drop.perm (List.perm_append_comm (l₁ := A) (l₂ := [pur False])))).1.elim
  case rnd =>
    intro l2 pre x W A' G1 K2 hpre hG1 S3 hK2
    unfold iencs
    gi_wp2
    refine hK2 _ _ _ S3 ?_
    intro A'' W2 S4
    have S5 := S4.perm List.perm_append_comm
    obtain ⟨v, S6⟩ := Sat.ex_iff.1 S5
    have S7 : Sat G1 W2 (blk s #[v] 43 :: ownS 3 1 v pre.length (encs lenc_r pre) :: (l ++ A'')) := Sat.star_iff.1 S6
    have S8 := S7.newBlk #[.int .i64 x] 3
    have S9 := S8.re [2, 0, 1]
    have c0 := S7.cell 0
    have hn := hadm _ hpre
    rw [List.length_append, List.length_singleton] at hn
    have HCL : Hid (∀ (W : World) (v' : Value) (q : Nat), Sat G1 W (blk s #[v'] 43 :: ownS 3 1 v' (pre.length + 1) (encs lenc_r pre ++ [.int .i64 x]) :: blk q #[.int .i64 x] 3 :: (l ++ A'')) → Sat G1 W (A'' ++ apB s l (pre ++ [x]))) := Lib.hid fun W v' q S => by
      have e1 : encs lenc_r pre ++ [Value.int .i64 x] = encs lenc_r (pre ++ [x]) := by rw [encs_append, encs_one]; rfl
      rw [e1, show pre.length + 1 = (pre ++ [x]).length by simp] at S
      have T : Sat G1 W (blk s #[v'] 43 :: ownS 3 1 v' (pre ++ [x]).length (encs lenc_r (pre ++ [x])) :: (l ++ A'')) := (S.re [2, 0, 1]).drop
      have T2 : Sat G1 W (ex (fun v : Value => star [blk s #[v] 43, ownS 3 1 v (pre ++ [x]).length (encs lenc_r (pre ++ [x]))]) :: (l ++ A'')) := Sat.ex_iff.2 ⟨v', Sat.star_iff.2 T⟩
      exact T2.perm (List.perm_append_comm (l₁ := ex _ :: l) (l₂ := A''))
    clear S3 S4 S5 S6 S7 hK2
    generalize pre.length = n at *
    generalize encs lenc_r pre = xs at *
    gi_wp2_with (gi_at_builtin; refine st_appendIn rfl _ _ 43 rfl 3 (.int .i64 0) 1 8 Tryz.underlying43 info_int rfl (by omega) v n xs rfl S9 ⟨W2.heap.size, 0, none⟩ 1 1 [.int .i64 x] rfl rfl (fun j u hj => blk_cells S8 j u hj) rfl (Nat.le_trans hn (by decide)) (by omega) ?_; intro v' w' S'; obtain ⟨A9, c9, rfl, -⟩ := S'.ownSlice; have e0 := S'.pull2.cell 0; have f0 := S'.pull2.frozen 0)
    refine ⟨G1, Gnd.le.rfl', HCL.out _ _ _ (S'.pull2.setCell 0 _)⟩
  case done =>
    intro D ys W6 G4 hys hG4 S7
    have S8 : Sat G4 W6 (apB s l ys ++ (obj D (.deferred (some [])) :: A)) := S7.perm ((List.perm_append_comm (l₁ := obj D (.deferred (some [])) :: A) (l₂ := apB s l ys)))
    obtain ⟨v, S9⟩ := Sat.ex_iff.1 S8
    have S10 : Sat G4 W6 (blk s #[v] 43 :: ownS 3 1 v ys.length (encs lenc_r ys) :: (l ++ obj D (.deferred (some [])) :: A)) := Sat.star_iff.1 S9
    have c0 := S10.cell 0
    have HS : Hid (Sat G4 W6 (obj D (.deferred (some [])) :: (A ++ (ownS 3 1 v ys.length (encs lenc_r ys) :: l)))) := Lib.hid (S10.drop.perm (List.perm_append_comm (l₁ := ownS 3 1 v ys.length (encs lenc_r ys) :: l) (l₂ := obj D (.deferred (some [])) :: A)))
    clear S8 S9 S10
    have HE := Lib.hid (And.intro hys hG4)
    clear S7 hys hG4
    go_wp2_with fail
    refine marks_end HS.out rfl fun W7 S8 => ?_
    exact ⟨v, by simp [results, Tryz.f89, go_sem], hK.out _ _ ⟨G4, ys, v, HE.out.2, HE.out.1, rfl, S8⟩⟩
end
end Go.Proofs.YtcecfhfbcdbofaaGreatDoor
set_option linter.unusedSimpArgs false
set_option linter.unusedVariables false
namespace Go.Proofs.YtcecfhfbcdbofaaGreatDoor
open Go.RowKit
attribute [local go_sem] Oper.semAt_some

section
variable {G : Gnd} {w : World} {l : List Asrt}
set_option maxHeartbeats 4000000 in
set_option maxRecDepth 100000 in
theorem collect_seq {gf : Nat} {lb : Array Value} {adm fin : List Int → Prop} {A : List Asrt} (eg : ∀ args w, (callFunc gf args).run Tryz.prog w = .ok (.enter gf args) w) (hseq : GivesP Tryz.prog gf lb iencs adm fin A) (hadm : ∀ p, adm p → p.length ≤ 10000) (H : Sat G w (A ++ l)) :
    Calls Tryz.prog 60 #[.func (.func gf) #[] lb] w fun e w' => ∃ G' ys v, G.le G' ∧ fin ys ∧ e = .returned v ∧ Sat G' w' (A ++ (ownS 3 1 v ys.length (encs lenc_r ys) :: l)) := by
  refine calls_any fun K hK => ?_
  go_enter Tryz.func60, Tryz.ntmps60
  have hc := append_seq eg hseq hadm H
  have HN := Lib.hid (And.intro hseq hadm)
  clear hseq hadm H
  go_wp2_with fail
  (with_reducible refine hc.mono ?_)
  rintro e w1 ⟨G', ys, v, hG, hf, rfl, S⟩
  have HE := Lib.hid (And.intro hG (And.intro hf S))
  clear hG hf S hc
  go_wp2_with fail
  exact hK.out _ _ ⟨G', ys, v, HE.out.1, HE.out.2.1, rfl, HE.out.2.2⟩
set_option maxHeartbeats 4000000 in
set_option maxRecDepth 100000 in
theorem sorted_seq {gf : Nat} {lb : Array Value} {adm fin : List Int → Prop} {A : List Asrt} (eg : ∀ args w, (callFunc gf args).run Tryz.prog w = .ok (.enter gf args) w) (hseq : GivesP Tryz.prog gf lb iencs adm fin A) (hadm : ∀ p, adm p → p.length ≤ 10000) (hfin : ∀ p, fin p → p.length ≤ 100000) (H : Sat G w (A ++ l)) :
    Calls Tryz.prog 38 #[.func (.func gf) #[] lb] w fun e w' => ∃ G' ys v, G.le G' ∧ fin ys ∧ e = .returned v ∧ Sat G' w' (A ++ (ownS 3 1 v (srt ys).length (encs lenc_r (srt ys)) :: l)) := by
  refine calls_any fun K hK => ?_
  go_enter Tryz.func38, Tryz.ntmps38
  have hc := collect_seq eg hseq hadm H
  have HN := Lib.hid (And.intro hseq hadm)
  clear hseq hadm H
  go_wp2_with fail
  (with_reducible refine hc.mono ?_)
  rintro e w1 ⟨G', ys, v, hG, hf, rfl, S⟩
  have S1 := S.perm List.perm_middle
  have hs := sort_own S1 (hfin _ hf)
  have HE := Lib.hid (And.intro hG hf)
  clear hG hf S S1 hc hfin
  go_wp2_with fail
  (with_reducible refine hs.mono ?_)
  rintro e w2 ⟨rfl, S2⟩
  have HS := Lib.hid (S2.perm List.perm_middle.symm)
  clear S2 hs
  go_wp2_with fail
  exact hK.out _ _ ⟨G', ys, v, HE.out.1, HE.out.2, rfl, by rw [srt_len]; exact HS.out⟩
end
end Go.Proofs.YtcecfhfbcdbofaaGreatDoor
set_option linter.unusedSimpArgs false
set_option linter.unusedVariables false
namespace Go.Proofs.YtcecfhfbcdbofaaGreatDoor
open Go.RowKit
attribute [local go_sem] Oper.semAt_some

/-- How many keys are still to come. -/
def itLeft (r : Nat) (w : World) : Nat := match w.heap[r]? with
  | some (.mapIter (some b) _ seen _) => (match w.heap[b]? with | some (.map es _) => (leftOf es seen).size | _ => 0)
  | _ => 0
/-- The keys that are a tenant's. -/
def keysT (ten t : Int) (M : List (Int × Nat)) : List Int := (M.map (·.1)).filter fun k => ownT k ten == t
theorem keysT_cons (ten t : Int) (x : Int × Nat) (M : List (Int × Nat)) : keysT ten t (x :: M) = if ownT x.1 ten == t then x.1 :: keysT ten t M else keysT ten t M := by
  simp only [keysT, List.map_cons, List.filter_cons]
theorem keysT_perm {ten t : Int} {M N : List (Int × Nat)} (h : M.Perm N) : (keysT ten t M).Perm (keysT ten t N) := (h.map _).filter _
theorem keysT_len (ten t : Int) (M : List (Int × Nat)) : (keysT ten t M).length ≤ M.length := Nat.le_trans (List.length_filter_le _ _) (by simp)
section
variable {G : Gnd} {w : World} {l : List Asrt} {mb : Nat} {M rem : List (Int × Nat)}
theorem it_left {r : Nat} (H : Sat G w (itA mb r M rem :: l)) : itLeft r w = rem.length := by
  obtain ⟨es, clock, since, seen, c0, hf, S⟩ := it_iff.1 H
  unfold itLeft
  rw [S.swap.obj_at]
  simp only [S.obj_at]
  have h1 := hf.2.2.2.2.length_eq
  simpa using h1
theorem it_wf {r : Nat} (H : Sat G w (itA mb r M rem :: l)) : ∀ x ∈ M, (Lit.int .i64 x.1).wf = true := by
  obtain ⟨es, clock, since, seen, c0, hf, S⟩ := it_iff.1 H
  exact hf.1.2.2
theorem ob_owner {w : World} {o : Nat} {ten : Int} (c0 : w.cell? ⟨o, 0, none⟩ = some (.int .i64 ten)) (id : Int) : Calls Tryz.prog 37 #[.pointer (some ⟨o, 0, none⟩), .int .i64 id] w fun e w' => e = .returned (.int .i64 (ownT id ten)) ∧ w = w' := by
  refine calls_any fun K hK => ?_
  have ho := rg_owner0 id ten w
  go_enter Tryz.func37, Tryz.ntmps37
  go_wp2_with fail
  (with_reducible refine ho.mono ?_)
  rintro e w1 ⟨rfl, rfl⟩
  go_wp2_with fail
  exact hK.out _ _ ⟨rfl, rfl⟩
set_option maxHeartbeats 8000000 in
set_option maxRecDepth 100000 in
theorem of_gives (b1 b2 o : Nat) (ten t : Int) (cs : Array Value) (hc0 : cs[0]? = some (.int .i64 ten)) (hc8 : cs[8]? = some (.map (some mb))) : GivesP Tryz.prog 93 #[.pointer (some ⟨b1, 0, none⟩), .pointer (some ⟨b2, 0, none⟩)] iencs (fun p => ∃ rest, (p ++ rest).Perm (keysT ten t M)) (fun p => p.Perm (keysT ten t M)) [blk b1 #[.pointer (some ⟨o, 0, none⟩)] 29, blk b2 #[.int .i64 t] 3, blk o cs 72, mpA mb M] := by
  intro ly G B Bx W hY S
  have hcl : ∀ {W : World} {G : Gnd} {E : List Asrt}, Sat G W (blk o cs 72 :: E) → W.cell? ⟨o, 0, none⟩ = some (.int .i64 ten) ∧ W.cell? ⟨o, 8, none⟩ = some (.map (some mb)) := fun S => ⟨(S.cell 0).trans hc0, (S.cell 8).trans hc8⟩
  have S1 : Sat G W (mpA mb M :: blk b1 #[.pointer (some ⟨o, 0, none⟩)] 29 :: blk b2 #[.int .i64 t] 3 :: blk o cs 72 :: B []) := Sat.re (L := blk b1 #[.pointer (some ⟨o, 0, none⟩)] 29 :: blk b2 #[.int .i64 t] 3 :: blk o cs 72 :: mpA mb M :: B []) S [3, 0, 1, 2]
  have k0 := S1.swap.cell 0
  have k1 := (hcl (S1.re [3, 0, 1, 2])).2
  obtain ⟨W1, hrg, S2⟩ := mp_range S1
  have HW1 := Lib.hid S2
  have HCL : Hid (∀ (W : World) (G : Gnd) (E : List Asrt), Sat G W (blk o cs 72 :: E) → W.cell? ⟨o, 0, none⟩ = some (.int .i64 ten) ∧ W.cell? ⟨o, 8, none⟩ = some (.map (some mb))) := Lib.hid fun W G E S => ⟨(S.cell 0).trans hc0, (S.cell 8).trans hc8⟩
  have HY := Lib.hid hY
  clear S S1 S2 hcl hc0 hc8 hY
  change Calls _ _ #[.func (.yield ly) #[] #[], .pointer (some ⟨b1, 0, none⟩), .pointer (some ⟨b2, 0, none⟩)] W _
  refine callsIn_wide (n := 0).1 (callsIn_of_wp Tryz.func93 rfl trivial ?_ rfl)
  simp only [Tryz.ntmps93, List.size_toArray, List.length_cons, List.length_nil, Nat.reduceAdd, Nat.reduceSub, Array.replicate_succ, Array.replicate_zero, List.push_toArray, List.append_toArray, List.nil_append, List.cons_append]
  gi_wp2
  generalize W.heap.size = r at *
  gi_loopw [] (fun wr => ∃ (pre : List Int) (rem : List (Int × Nat)) (G1 : Gnd), G.le G1 ∧ (pre ++ keysT ten t rem).Perm (keysT ten t M) ∧ Sat G1 wr (itA mb r M rem :: blk b1 #[.pointer (some ⟨o, 0, none⟩)] 29 :: blk b2 #[.int .i64 t] 3 :: blk o cs 72 :: B pre)) (fun wr => itLeft r wr)
  case atStart => exact ⟨[], M, G, Gnd.le.rfl', List.Perm.refl _, HW1.out⟩
  case round =>
    obtain ⟨pre, rem, G1, hG1, hp, S3⟩ := hrel
    have hm := it_left S3
    clear k0 k1 hrg HW1
    rcases mp_next S3 0 with ⟨rfl, hn⟩ | ⟨x, w2, hx, hn, he, S4⟩
    · have HS := Lib.hid (Sat.re (it_end S3) [1, 2, 3, 0])
      have hp2 : pre.Perm (keysT ten t M) := by simpa [keysT] using hp
      clear S3 hp hm
      gi_wp2
      go_end0
      exact ⟨⟨_, rfl⟩, G1, hG1, .inl ⟨pre, hp2, HS.out⟩⟩
    · have hpx := (keysT_perm (ten := ten) (t := t) (List.perm_cons_erase hx)).append_left pre |>.symm.trans hp
      rw [keysT_cons] at hpx
      have hmm : rem.length - 1 = (rem.erase x).length := (List.length_erase_of_mem hx).symm
      have hpos : 0 < rem.length := List.length_pos_of_mem hx
      obtain ⟨kx, hkx⟩ : ∃ kx, kx = x.1 := ⟨_, rfl⟩
      rw [← hkx] at hn he hpx
      obtain ⟨rm, hrm⟩ : ∃ rm, rm = rem.erase x := ⟨_, rfl⟩
      rw [← hrm] at S4 hpx hmm
      obtain ⟨pv, hpv⟩ : ∃ pv, pv = x.2 := ⟨_, rfl⟩
      rw [← hpv] at hn he
      clear hp hx hkx hrm hpv S3
      by_cases hot : ownT kx ten = t
      · rw [if_pos (by rw [hot]; exact beq_self_eq_true t)] at hpx
        have hpx2 : ((pre ++ [kx]) ++ keysT ten t rm).Perm (keysT ten t M) := by simpa using hpx
        have HP := Lib.hid hpx2
        have HM := Lib.hid (And.intro hm (And.intro hmm hpos))
        clear hpx hpx2 hm hmm hpos
        gi_wp2
        refine wp_actIn fun a0 ha0 => ?_
        have HSZ : a0.tmps.size = 25 := by rw [ha0]; rfl
        have E0 : a0.eval (.tmp 0) = .func (.yield ly) #[] #[] := by rw [ha0]; rfl
        have E1 : a0.eval (.tmp 1) = .pointer (some ⟨b1, 0, none⟩) := by rw [ha0]; rfl
        have E2 : a0.eval (.tmp 2) = .pointer (some ⟨b2, 0, none⟩) := by rw [ha0]; rfl
        have E4 : a0.eval (.tmp 4) = .int .i64 kx := by rw [ha0]; rfl
        refine wp_region_JW (by kernel_rfl) 11 (by kernel_rfl) [[], [], [0, 1], [], [2, 3], [4, 2], [5], [5], [6, 7, 5, 5], [8, 5], [5, 9]] (by kernel_rfl) (by kernel_rfl) (fun f a' W => ∃ (b : Bool) (G2 : Gnd) (X : List Asrt), ((f 9 = true → f 8 = true) ∧ (f 10 = true → f 9 = true)) ∧ a' = acts [(0, 14, .pointer (some ⟨o, 0, none⟩)), (1, 15, .int .i64 kx), (2, 16, .int .i64 t), (3, 17, .int .i64 t), (4, 18, .bool true), (5, 19, .bool true), (6, 20, .func (.yield ly) #[] #[]), (7, 21, .int .i64 kx), (8, 22, .bool b), (9, 23, .bool (!b)), (10, 24, .bool (!b))] f a0 ∧ G1.le G2 ∧ Sat G2 W (itA mb r M rm :: blk b1 #[.pointer (some ⟨o, 0, none⟩)] 29 :: blk b2 #[.int .i64 t] 3 :: blk o cs 72 :: X) ∧ (f 8 = false → X = B pre) ∧ (f 8 = true → X = cond b (B (pre ++ [kx])) (Bx (pre ++ [kx])))) ?_ ?_ ?_
        · exact ⟨true, G1, B pre, ⟨fun h => (by cases h), fun h => (by cases h)⟩, rfl, Gnd.le.rfl', S4.drew, fun _ => rfl, fun h => (by cases h)⟩
        · refine ⟨?_, ?_, ?_, ?_, ?_, ?_, ?_, ?_, ?_, ?_, ?_, trivial⟩
          · rintro f a' W h0 hd ⟨b, G2, X, hh, rfl, hG2, S, hx0, hx1⟩
            refine wpOpW_run (v := .pointer (some ⟨o, 0, none⟩)) rfl rfl (fun ρ hρ => ?_) ⟨b, G2, X, hh, (acts_some 0 rfl (by kernel_rfl) (by kernel_rfl)).symm, hG2, S, hx0, hx1⟩
            have e0 : ρ (.tmp 1) = .pointer (some ⟨b1, 0, none⟩) := by rw [hρ]; exact (acts_eval_tmp 1 (by kernel_rfl)).trans E1
            clear hρ
            (have hz := S.swap.cell 0)
            go_simp
          · rintro f a' W h1 hd ⟨b, G2, X, hh, rfl, hG2, S, hx0, hx1⟩
            refine wpOpW_run (v := .int .i64 kx) rfl rfl (fun ρ hρ => ?_) ⟨b, G2, X, hh, (acts_some 1 rfl (by kernel_rfl) (by kernel_rfl)).symm, hG2, S, hx0, hx1⟩
            have e0 : ρ (.tmp 4) = .int .i64 kx := by rw [hρ]; exact (acts_eval_tmp 4 (by kernel_rfl)).trans E4
            clear hρ
            go_simp
          · rintro f a' W h2 hd ⟨b, G2, X, hh, rfl, hG2, S, hx0, hx1⟩
            refine wpOpW_call rfl rfl (fun ρ hρ => ?_) ((ob_owner (HCL.out _ _ _ (S.re [3, 0, 1, 2])).1 kx)) ?_
            · skip
              have e0 : ρ (.tmp 14) = .pointer (some ⟨o, 0, none⟩) := by rw [hρ]; exact acts_eval_hit 0 rfl hd.1 (by rw [HSZ]; rfl) (by kernel_rfl)
              have e1 : ρ (.tmp 15) = .int .i64 kx := by rw [hρ]; exact acts_eval_hit 1 rfl hd.2.1 (by rw [HSZ]; rfl) (by kernel_rfl)
              have ef : ρ (.func 37) = .func (.func 37) #[] #[] := by rw [hρ]; rfl
              clear hρ
              go_simp
            · (rintro e W' ⟨rfl, rfl⟩; rw [hot]; exact ⟨_, rfl, b, G2, X, hh, (acts_some 2 rfl (by kernel_rfl) (by kernel_rfl)).symm, hG2, S, hx0, hx1⟩)
          · rintro f a' W h3 hd ⟨b, G2, X, hh, rfl, hG2, S, hx0, hx1⟩
            refine wpOpW_run (v := .int .i64 t) rfl rfl (fun ρ hρ => ?_) ⟨b, G2, X, hh, (acts_some 3 rfl (by kernel_rfl) (by kernel_rfl)).symm, hG2, S, hx0, hx1⟩
            have e0 : ρ (.tmp 2) = .pointer (some ⟨b2, 0, none⟩) := by rw [hρ]; exact (acts_eval_tmp 2 (by kernel_rfl)).trans E2
            clear hρ
            (have hz := S.pull2.cell 0)
            go_simp
          · rintro f a' W h4 hd ⟨b, G2, X, hh, rfl, hG2, S, hx0, hx1⟩
            refine wpOpW_run (v := .bool true) rfl rfl (fun ρ hρ => ?_) ⟨b, G2, X, hh, (acts_some 4 rfl (by kernel_rfl) (by kernel_rfl)).symm, hG2, S, hx0, hx1⟩
            have e0 : ρ (.tmp 16) = .int .i64 t := by rw [hρ]; exact acts_eval_hit 2 rfl hd.1 (by rw [HSZ]; rfl) (by kernel_rfl)
            have e1 : ρ (.tmp 17) = .int .i64 t := by rw [hρ]; exact acts_eval_hit 3 rfl hd.2.1 (by rw [HSZ]; rfl) (by kernel_rfl)
            clear hρ
            (have hz : (t == t) = true := beq_self_eq_true t)
            go_simp
          · rintro f a' W h5 hd ⟨b, G2, X, hh, rfl, hG2, S, hx0, hx1⟩
            refine wpOpW_run (v := .bool true) rfl rfl (fun ρ hρ => ?_) ⟨b, G2, X, hh, (acts_some 5 rfl (by kernel_rfl) (by kernel_rfl)).symm, hG2, S, hx0, hx1⟩
            have e0 : ρ (.tmp 18) = .bool true := by rw [hρ]; exact acts_eval_hit 4 rfl hd.1 (by rw [HSZ]; rfl) (by kernel_rfl)
            clear hρ
            go_simp
          · rintro f a' W h6 hd ⟨b, G2, X, hh, rfl, hG2, S, hx0, hx1⟩
            refine wpOpW_runG (v := .func (.yield ly) #[] #[]) rfl ?_ (fun ρ hρ => ?_) ⟨b, G2, X, hh, (acts_some 6 rfl (by kernel_rfl) (by kernel_rfl)).symm, hG2, S, hx0, hx1⟩
            · exact wanted_hit (t := 19) rfl rfl (acts_eval_hit 5 rfl hd.1 (by rw [HSZ]; rfl) (by kernel_rfl))
            · skip
              have e0 : ρ (.tmp 0) = .func (.yield ly) #[] #[] := by rw [hρ]; exact (acts_eval_tmp 0 (by kernel_rfl)).trans E0
              clear hρ
              go_simp
          · rintro f a' W h7 hd ⟨b, G2, X, hh, rfl, hG2, S, hx0, hx1⟩
            refine wpOpW_runG (v := .int .i64 kx) rfl ?_ (fun ρ hρ => ?_) ⟨b, G2, X, hh, (acts_some 7 rfl (by kernel_rfl) (by kernel_rfl)).symm, hG2, S, hx0, hx1⟩
            · exact wanted_hit (t := 19) rfl rfl (acts_eval_hit 5 rfl hd.1 (by rw [HSZ]; rfl) (by kernel_rfl))
            · skip
              have e0 : ρ (.tmp 4) = .int .i64 kx := by rw [hρ]; exact (acts_eval_tmp 4 (by kernel_rfl)).trans E4
              clear hρ
              go_simp
          · rintro f a' W h8 hd ⟨b, G2, X, hh, rfl, hG2, S, hx0, hx1⟩
            have q20 : (acts [(0, 14, .pointer (some ⟨o, 0, none⟩)), (1, 15, .int .i64 kx), (2, 16, .int .i64 t), (3, 17, .int .i64 t), (4, 18, .bool true), (5, 19, .bool true), (6, 20, .func (.yield ly) #[] #[]), (7, 21, .int .i64 kx), (8, 22, .bool b), (9, 23, .bool (!b)), (10, 24, .bool (!b))] f a0).eval (.tmp 20) = .func (.yield ly) #[] #[] := acts_eval_hit 6 rfl hd.1 (by rw [HSZ]; rfl) (by kernel_rfl)
            have q21 : (acts [(0, 14, .pointer (some ⟨o, 0, none⟩)), (1, 15, .int .i64 kx), (2, 16, .int .i64 t), (3, 17, .int .i64 t), (4, 18, .bool true), (5, 19, .bool true), (6, 20, .func (.yield ly) #[] #[]), (7, 21, .int .i64 kx), (8, 22, .bool b), (9, 23, .bool (!b)), (10, 24, .bool (!b))] f a0).eval (.tmp 21) = .int .i64 kx := acts_eval_hit 7 rfl hd.2.1 (by rw [HSZ]; rfl) (by kernel_rfl)
            (have h9 : f 9 = false := no_of hh.1 h8; have h10 : f 10 = false := no_of hh.2 h9; obtain rfl := hx0 h8; obtain ⟨fn, tmps, assign, body, hy, hR⟩ := HY.out pre kx W [itA mb r M rm, blk b1 #[.pointer (some ⟨o, 0, none⟩)] 29, blk b2 #[.int .i64 t] 3, blk o cs 72] G2 0 ⟨_, HP.out⟩ (hG1.trans hG2) S; unfold iencs at hy; refine wpOpW_yield rfl (wanted_hit (t := 19) rfl rfl (acts_eval_hit 5 rfl hd.2.2.1 (by rw [HSZ]; rfl) (by kernel_rfl))) (fun ρ hρ => (by have e0 : ρ (.tmp 20) = .func (.yield ly) #[] #[] := (by rw [hρ]; exact q20); have e1 : ρ (.tmp 21) = .int .i64 kx := (by rw [hρ]; exact q21); clear hρ q20 q21; go_simp)) hR (fun e W' hE => ?_); obtain ⟨G3, hG3, hE⟩ := hE; rcases hE with ⟨rfl, S'⟩ | ⟨rfl, S'⟩; exact ⟨_, rfl, true, G3, B (pre ++ [kx]), ⟨fun _ => rfl, hh.2⟩, acts_swap (by simp only [acts, h8, h9, h10, Bool.false_eq_true, if_false]) (k := 8) rfl (by kernel_rfl) (by kernel_rfl), hG2.trans hG3, S', fun h => (by cases h), fun _ => rfl⟩; exact ⟨_, rfl, false, G3, Bx (pre ++ [kx]), ⟨fun _ => rfl, hh.2⟩, acts_swap (by simp only [acts, h8, h9, h10, Bool.false_eq_true, if_false]) (k := 8) rfl (by kernel_rfl) (by kernel_rfl), hG2.trans hG3, S', fun h => (by cases h), fun _ => rfl⟩)
          · rintro f a' W h9 hd ⟨b, G2, X, hh, rfl, hG2, S, hx0, hx1⟩
            refine wpOpW_runG (v := .bool (!b)) rfl ?_ (fun ρ hρ => ?_) ⟨b, G2, X, ⟨fun _ => hd.1, fun _ => rfl⟩, (acts_some 9 rfl (by kernel_rfl) (by kernel_rfl)).symm, hG2, S, hx0, hx1⟩
            · exact wanted_hit (t := 19) rfl rfl (acts_eval_hit 5 rfl hd.2.1 (by rw [HSZ]; rfl) (by kernel_rfl))
            · skip
              have e0 : ρ (.tmp 22) = .bool b := by rw [hρ]; exact acts_eval_hit 8 rfl hd.1 (by rw [HSZ]; rfl) (by kernel_rfl)
              clear hρ
              go_simp
          · rintro f a' W h10 hd ⟨b, G2, X, hh, rfl, hG2, S, hx0, hx1⟩
            refine wpOpW_run (v := .bool (!b)) rfl rfl (fun ρ hρ => ?_) ⟨b, G2, X, ⟨hh.1, fun _ => hd.2.1⟩, (acts_some 10 rfl (by kernel_rfl) (by kernel_rfl)).symm, hG2, S, hx0, hx1⟩
            have e0 : ρ (.tmp 19) = .bool true := by rw [hρ]; exact acts_eval_hit 5 rfl hd.1 (by rw [HSZ]; rfl) (by kernel_rfl)
            have e1 : ρ (.tmp 23) = .bool (!b) := by rw [hρ]; exact acts_eval_hit 9 rfl hd.2.1 (by rw [HSZ]; rfl) (by kernel_rfl)
            have ec : ∀ v, ρ (.const v) = v := by rw [hρ]; exact fun _ => rfl
            clear hρ
            go_simp
        rintro a' W ⟨b, G2, X, -, rfl, hG2, S5, -, hx1⟩
        obtain rfl := hx1 rfl
        subst ha0
        simp only [acts, if_true, Act.put, List.setIfInBounds_toArray, List.set_cons_succ, List.set_cons_zero]
        have hml := it_left S5
        cases b with
        | true =>
          have HS := Lib.hid S5
          clear HSZ E0 E1 E2 E4 S4 S5 hx1
          gi_wp2
          go_roundw
          case rel => exact ⟨pre ++ [kx], rm, G2, hG1.trans hG2, HP.out, HS.out⟩
          case measure => rw [hml, HM.out.1]; have := HM.out.2; omega
        | false =>
          have HS := Lib.hid (Sat.re (it_end S5) [1, 2, 3, 0])
          clear HSZ E0 E1 E2 E4 S4 S5 hx1 hml
          gi_wp2
          refine bodyPost_ret (results_none rfl _ _ _) rfl ?_
          exact ⟨⟨_, rfl⟩, G2, hG1.trans hG2, .inr ⟨_, ⟨_, HP.out⟩, HS.out⟩⟩
      · have hob : (ownT kx ten == t) = false := beq_eq_false_iff_ne.2 hot
        rw [if_neg (by rw [hob]; exact Bool.false_ne_true)] at hpx
        have HP := Lib.hid hpx
        have HM := Lib.hid (And.intro hm (And.intro hmm hpos))
        clear hpx hm hmm hpos hot
        obtain ⟨ow, how⟩ : ∃ ow, ow = ownT kx ten := ⟨_, rfl⟩
        rw [← how] at hob
        have HW := Lib.hid how
        clear how
        gi_wp2
        refine wp_actIn fun a0 ha0 => ?_
        have HSZ : a0.tmps.size = 25 := by rw [ha0]; rfl
        have E0 : a0.eval (.tmp 0) = .func (.yield ly) #[] #[] := by rw [ha0]; rfl
        have E1 : a0.eval (.tmp 1) = .pointer (some ⟨b1, 0, none⟩) := by rw [ha0]; rfl
        have E2 : a0.eval (.tmp 2) = .pointer (some ⟨b2, 0, none⟩) := by rw [ha0]; rfl
        have E4 : a0.eval (.tmp 4) = .int .i64 kx := by rw [ha0]; rfl
        refine wp_region_JW (by kernel_rfl) 11 (by kernel_rfl) [[], [], [0, 1], [], [2, 3], [4, 2], [5], [5], [6, 7, 5, 5], [8, 5], [5, 9]] (by kernel_rfl) (by kernel_rfl) (fun f a' W => a' = acts [(0, 14, .pointer (some ⟨o, 0, none⟩)), (1, 15, .int .i64 kx), (2, 16, .int .i64 ow), (3, 17, .int .i64 t), (4, 18, .bool false), (5, 19, .bool false), (6, 20, undef), (7, 21, undef), (8, 22, undef), (9, 23, undef), (10, 24, .bool false)] f a0 ∧ Sat G1 W (itA mb r M rm :: blk b1 #[.pointer (some ⟨o, 0, none⟩)] 29 :: blk b2 #[.int .i64 t] 3 :: blk o cs 72 :: B pre)) ?_ ?_ ?_
        · exact ⟨rfl, S4.drew⟩
        · refine ⟨?_, ?_, ?_, ?_, ?_, ?_, ?_, ?_, ?_, ?_, ?_, trivial⟩
          · rintro f a' W h0 hd ⟨rfl, S⟩
            refine wpOpW_run (v := .pointer (some ⟨o, 0, none⟩)) rfl rfl (fun ρ hρ => ?_) ⟨(acts_some 0 rfl (by kernel_rfl) (by kernel_rfl)).symm, S⟩
            have e0 : ρ (.tmp 1) = .pointer (some ⟨b1, 0, none⟩) := by rw [hρ]; exact (acts_eval_tmp 1 (by kernel_rfl)).trans E1
            clear hρ
            (have hz := S.swap.cell 0)
            go_simp
          · rintro f a' W h1 hd ⟨rfl, S⟩
            refine wpOpW_run (v := .int .i64 kx) rfl rfl (fun ρ hρ => ?_) ⟨(acts_some 1 rfl (by kernel_rfl) (by kernel_rfl)).symm, S⟩
            have e0 : ρ (.tmp 4) = .int .i64 kx := by rw [hρ]; exact (acts_eval_tmp 4 (by kernel_rfl)).trans E4
            clear hρ
            go_simp
          · rintro f a' W h2 hd ⟨rfl, S⟩
            refine wpOpW_call rfl rfl (fun ρ hρ => ?_) ((ob_owner (HCL.out _ _ _ (S.re [3, 0, 1, 2])).1 kx)) ?_
            · skip
              have e0 : ρ (.tmp 14) = .pointer (some ⟨o, 0, none⟩) := by rw [hρ]; exact acts_eval_hit 0 rfl hd.1 (by rw [HSZ]; rfl) (by kernel_rfl)
              have e1 : ρ (.tmp 15) = .int .i64 kx := by rw [hρ]; exact acts_eval_hit 1 rfl hd.2.1 (by rw [HSZ]; rfl) (by kernel_rfl)
              have ef : ρ (.func 37) = .func (.func 37) #[] #[] := by rw [hρ]; rfl
              clear hρ
              go_simp
            · (rintro e W' ⟨rfl, rfl⟩; rw [← HW.out]; exact ⟨_, rfl, (acts_some 2 rfl (by kernel_rfl) (by kernel_rfl)).symm, S⟩)
          · rintro f a' W h3 hd ⟨rfl, S⟩
            refine wpOpW_run (v := .int .i64 t) rfl rfl (fun ρ hρ => ?_) ⟨(acts_some 3 rfl (by kernel_rfl) (by kernel_rfl)).symm, S⟩
            have e0 : ρ (.tmp 2) = .pointer (some ⟨b2, 0, none⟩) := by rw [hρ]; exact (acts_eval_tmp 2 (by kernel_rfl)).trans E2
            clear hρ
            (have hz := S.pull2.cell 0)
            go_simp
          · rintro f a' W h4 hd ⟨rfl, S⟩
            refine wpOpW_run (v := .bool false) rfl rfl (fun ρ hρ => ?_) ⟨(acts_some 4 rfl (by kernel_rfl) (by kernel_rfl)).symm, S⟩
            have e0 : ρ (.tmp 16) = .int .i64 ow := by rw [hρ]; exact acts_eval_hit 2 rfl hd.1 (by rw [HSZ]; rfl) (by kernel_rfl)
            have e1 : ρ (.tmp 17) = .int .i64 t := by rw [hρ]; exact acts_eval_hit 3 rfl hd.2.1 (by rw [HSZ]; rfl) (by kernel_rfl)
            clear hρ
            go_simp
          · rintro f a' W h5 hd ⟨rfl, S⟩
            refine wpOpW_run (v := .bool false) rfl rfl (fun ρ hρ => ?_) ⟨(acts_some 5 rfl (by kernel_rfl) (by kernel_rfl)).symm, S⟩
            have e0 : ρ (.tmp 18) = .bool false := by rw [hρ]; exact acts_eval_hit 4 rfl hd.1 (by rw [HSZ]; rfl) (by kernel_rfl)
            clear hρ
            go_simp
          · rintro f a' W h6 hd ⟨rfl, S⟩
            refine wpOpW_skip rfl (wanted_miss (t := 19) rfl rfl (acts_eval_hit 5 rfl hd.1 (by rw [HSZ]; rfl) (by kernel_rfl)) (by decide)) ⟨(acts_some 6 rfl (by kernel_rfl) (by kernel_rfl)).symm, S⟩
          · rintro f a' W h7 hd ⟨rfl, S⟩
            refine wpOpW_skip rfl (wanted_miss (t := 19) rfl rfl (acts_eval_hit 5 rfl hd.1 (by rw [HSZ]; rfl) (by kernel_rfl)) (by decide)) ⟨(acts_some 7 rfl (by kernel_rfl) (by kernel_rfl)).symm, S⟩
          · rintro f a' W h8 hd ⟨rfl, S⟩
            refine wpOpW_skip rfl (wanted_miss (t := 19) rfl rfl (acts_eval_hit 5 rfl hd.2.2.1 (by rw [HSZ]; rfl) (by kernel_rfl)) (by decide)) ⟨(acts_some 8 rfl (by kernel_rfl) (by kernel_rfl)).symm, S⟩
          · rintro f a' W h9 hd ⟨rfl, S⟩
            refine wpOpW_skip rfl (wanted_miss (t := 19) rfl rfl (acts_eval_hit 5 rfl hd.2.1 (by rw [HSZ]; rfl) (by kernel_rfl)) (by decide)) ⟨(acts_some 9 rfl (by kernel_rfl) (by kernel_rfl)).symm, S⟩
          · rintro f a' W h10 hd ⟨rfl, S⟩
            refine wpOpW_run (v := .bool false) rfl rfl (fun ρ hρ => ?_) ⟨(acts_some 10 rfl (by kernel_rfl) (by kernel_rfl)).symm, S⟩
            have e0 : ρ (.tmp 19) = .bool false := by rw [hρ]; exact acts_eval_hit 5 rfl hd.1 (by rw [HSZ]; rfl) (by kernel_rfl)
            have e1 : ρ (.tmp 23) = undef := by rw [hρ]; exact acts_eval_hit 9 rfl hd.2.1 (by rw [HSZ]; rfl) (by kernel_rfl)
            have ec : ∀ v, ρ (.const v) = v := by rw [hρ]; exact fun _ => rfl
            clear hρ
            go_simp
        rintro a' W ⟨rfl, S5⟩
        subst ha0
        simp only [acts, if_true, Act.put, List.setIfInBounds_toArray, List.set_cons_succ, List.set_cons_zero]
        have hml := it_left S5
        have HS := Lib.hid S5
        clear HSZ E0 E1 E2 E4 S4 S5
        gi_wp2
        go_roundw
        case rel => exact ⟨pre, rm, G1, hG1, HP.out, HS.out⟩
        case measure => rw [hml, HM.out.1]; have := HM.out.2; omega
end
end Go.Proofs.YtcecfhfbcdbofaaGreatDoor
set_option linter.unusedSimpArgs false
set_option linter.unusedVariables false
namespace Go.Proofs.YtcecfhfbcdbofaaGreatDoor
open Go.RowKit
attribute [local go_sem] Oper.semAt_some

section
variable {G : Gnd} {w : World} {l : List Asrt} {mb : Nat} {M : List (Int × Nat)}
theorem adm_len {p K : List Int} (h : ∃ rest, (p ++ rest).Perm K) : p.length ≤ K.length := by
  obtain ⟨r, h⟩ := h
  have := h.length_eq
  rw [List.length_append] at this
  omega
set_option maxHeartbeats 4000000 in
set_option maxRecDepth 100000 in
theorem ob_of {o : Nat} {cs : Array Value} {ten : Int} (H : Sat G w (blk o cs 72 :: mpA mb M :: l)) (hM : M.length ≤ 10000) (hc0 : cs[0]? = some (.int .i64 ten)) (hc8 : cs[8]? = some (.map (some mb))) (t : Int) :
    Calls Tryz.prog 67 #[.pointer (some ⟨o, 0, none⟩), .int .i64 t] w fun e w' => ∃ G' v ys, G.le G' ∧ ys.Perm (keysT ten t M) ∧ e = .returned v ∧ Sat G' w' (ownS 3 1 v (srt ys).length (encs lenc_r (srt ys)) :: blk o cs 72 :: mpA mb M :: l) := by
  refine calls_any fun K hK => ?_
  have S1 := (H.newBlk #[.pointer (some ⟨o, 0, none⟩)] 29).newBlk #[.int .i64 t] 3
  have hkl := keysT_len ten t M
  go_enter Tryz.func67, Tryz.ntmps67
  rw [World.size_alloc] at S1
  have hg := of_gives (M := M) w.heap.size (w.heap.size + 1) o ten t cs hc0 hc8
  have hs := sorted_seq (A := [blk w.heap.size #[.pointer (some ⟨o, 0, none⟩)] 29, blk (w.heap.size + 1) #[.int .i64 t] 3, blk o cs 72, mpA mb M]) (l := l) (enters_of Tryz.func93 (by kernel_rfl) rfl) hg (fun p hp => Nat.le_trans (adm_len hp) (by omega)) (fun p hp => by rw [hp.length_eq]; omega) (S1.re [1, 0, 2, 3])
  clear hg H S1 hc0 hc8
  go_wp2_with fail
  (with_reducible refine hs.mono ?_)
  rintro e w1 ⟨G', ys, v, hG, hf, rfl, S2⟩
  have S3 := Sat.re S2 [4, 2, 3, 0, 1]
  have S4 := Sat.re S3 [3, 4, 0, 1, 2]
  have HE := Lib.hid (And.intro hG (And.intro hf S4.drop.drop))
  clear hG hf S2 S3 S4 hs
  go_wp2_with fail
  exact hK.out _ _ ⟨G', v, ys, HE.out.1, HE.out.2.1, rfl, HE.out.2.2⟩
set_option maxHeartbeats 8000000 in
set_option maxRecDepth 100000 in
theorem keys_gives (b1 : Nat) : GivesP Tryz.prog 62 #[.pointer (some ⟨b1, 0, none⟩)] iencs (fun p => ∃ rest, (p ++ rest).Perm (M.map (·.1))) (fun p => p.Perm (M.map (·.1))) [blk b1 #[.map (some mb)] 66, mpA mb M] := by
  intro ly G B Bx W hY S
  have S1 : Sat G W (mpA mb M :: blk b1 #[.map (some mb)] 66 :: B []) := Sat.swap S
  have k0 := S1.swap.cell 0
  obtain ⟨W1, hrg, S2⟩ := mp_range S1
  have HW1 := Lib.hid S2
  have HY := Lib.hid hY
  clear S S1 S2 hY
  change Calls _ _ #[.func (.yield ly) #[] #[], .pointer (some ⟨b1, 0, none⟩)] W _
  refine callsIn_wide (n := 0).1 (callsIn_of_wp Tryz.func62 rfl trivial ?_ rfl)
  simp only [Tryz.ntmps62, List.size_toArray, List.length_cons, List.length_nil, Nat.reduceAdd, Nat.reduceSub, Array.replicate_succ, Array.replicate_zero, List.push_toArray, List.append_toArray, List.nil_append, List.cons_append]
  gi_wp2
  generalize W.heap.size = r at *
  gi_loopw [] (fun wr => ∃ (pre : List Int) (rem : List (Int × Nat)) (G1 : Gnd), G.le G1 ∧ (pre ++ rem.map (·.1)).Perm (M.map (·.1)) ∧ Sat G1 wr (itA mb r M rem :: blk b1 #[.map (some mb)] 66 :: B pre)) (fun wr => itLeft r wr)
  case atStart => exact ⟨[], M, G, Gnd.le.rfl', List.Perm.refl _, HW1.out⟩
  case round =>
    obtain ⟨pre, rem, G1, hG1, hp, S3⟩ := hrel
    have hm := it_left S3
    clear k0 hrg HW1
    rcases mp_next S3 0 with ⟨rfl, hn⟩ | ⟨x, w2, hx, hn, he, S4⟩
    · have HS := Lib.hid (Sat.re (it_end S3) [1, 0])
      have hp2 : pre.Perm (M.map (·.1)) := by simpa using hp
      clear S3 hp hm
      gi_wp2
      go_end0
      exact ⟨⟨_, rfl⟩, G1, hG1, .inl ⟨pre, hp2, HS.out⟩⟩
    · have hpx := ((List.perm_cons_erase hx).map (·.1)).append_left pre |>.symm.trans hp
      rw [List.map_cons] at hpx
      have hmm : rem.length - 1 = (rem.erase x).length := (List.length_erase_of_mem hx).symm
      have hpos : 0 < rem.length := List.length_pos_of_mem hx
      obtain ⟨kx, hkx⟩ : ∃ kx, kx = x.1 := ⟨_, rfl⟩
      rw [← hkx] at hn he hpx
      obtain ⟨rm, hrm⟩ : ∃ rm, rm = rem.erase x := ⟨_, rfl⟩
      rw [← hrm] at S4 hpx hmm
      obtain ⟨pv, hpv⟩ : ∃ pv, pv = x.2 := ⟨_, rfl⟩
      rw [← hpv] at hn he
      have hpx2 : ((pre ++ [kx]) ++ rm.map (·.1)).Perm (M.map (·.1)) := by simpa using hpx
      have HP := Lib.hid hpx2
      have HM := Lib.hid (And.intro hm (And.intro hmm hpos))
      clear hp hx hkx hrm hpv S3 hpx hpx2 hm hmm hpos
      obtain ⟨fn, tmps, assign, body, hy, hR⟩ := HY.out pre kx w2 [itA mb r M rm, blk b1 #[.map (some mb)] 66] G1 0 ⟨_, HP.out⟩ hG1 S4
      unfold iencs at hy
      have HR := Lib.hid hR
      clear hR S4
      gi_wp2
      refine ⟨rfl, HR.out.mono ?_⟩
      rintro e W3 ⟨G2, hG2, ⟨rfl, S6⟩ | ⟨rfl, S6⟩⟩
      · have hml := it_left S6
        have HS := Lib.hid S6
        clear S6
        gi_wp2
        go_roundw
        case rel => exact ⟨pre ++ [kx], rm, G2, hG1.trans hG2, HP.out, HS.out⟩
        case measure => rw [hml, HM.out.1]; have := HM.out.2; omega
      · have HS := Lib.hid (Sat.re (it_end S6) [1, 0])
        clear S6
        gi_wp2
        refine bodyPost_ret (results_none rfl _ _ _) rfl ?_
        exact ⟨⟨_, rfl⟩, G2, hG1.trans hG2, .inr ⟨_, ⟨_, HP.out⟩, HS.out⟩⟩
theorem ob_keys (H : Sat G w l) : Calls Tryz.prog 39 #[.map (some mb)] w fun e w' => ∃ b1, e = .returned (.func (.func 62) #[] #[.pointer (some ⟨b1, 0, none⟩)]) ∧ Sat G w' (blk b1 #[.map (some mb)] 66 :: l) := by
  refine calls_any fun K hK => ?_
  have HS := Lib.hid (H.newBlk #[.map (some mb)] 66)
  clear H
  go_enter Tryz.func39, Tryz.ntmps39
  go_wp2_with fail
  exact hK.out _ _ ⟨_, rfl, HS.out⟩
/-- slices.Sorted of the keys. -/
theorem keys_sorted {b1 : Nat} (H : Sat G w (blk b1 #[.map (some mb)] 66 :: mpA mb M :: l)) (hM : M.length ≤ 10000) :
    Calls Tryz.prog 38 #[.func (.func 62) #[] #[.pointer (some ⟨b1, 0, none⟩)]] w fun e w' => ∃ G' v ys, G.le G' ∧ ys.Perm (M.map (·.1)) ∧ e = .returned v ∧ Sat G' w' (ownS 3 1 v (srt ys).length (encs lenc_r (srt ys)) :: mpA mb M :: l) := by
  refine (sorted_seq (A := [blk b1 #[.map (some mb)] 66, mpA mb M]) (l := l) (enters_of Tryz.func62 (by kernel_rfl) rfl) (keys_gives b1) (fun p hp => Nat.le_trans (adm_len hp) (by simpa using hM)) (fun p hp => by rw [hp.length_eq, List.length_map]; omega) H).mono ?_
  rintro e w' ⟨G', ys, v, hG, hf, rfl, S2⟩
  exact ⟨G', v, ys, hG, hf, rfl, Sat.drop (Sat.re (L := blk b1 #[.map (some mb)] 66 :: mpA mb M :: ownS 3 1 v (srt ys).length (encs lenc_r (srt ys)) :: l) S2 [0, 2, 1])⟩
end
end Go.Proofs.YtcecfhfbcdbofaaGreatDoor

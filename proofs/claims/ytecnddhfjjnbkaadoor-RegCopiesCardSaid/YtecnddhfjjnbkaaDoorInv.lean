/- Chapter 14, plain: what stays true of a registry, call by call; a tenant's part of it. No program in sight. -/
import Derived.Test.YtecnddhfjjnbkaaDoorOps
set_option linter.unusedSimpArgs false
set_option linter.unusedVariables false
namespace Go.Proofs.YtecnddhfjjnbkaaDoor
open Go.RowKit

structure RInv (k : Nat) (ten quo : Int) (F : List Ent) (L : List Int) (last : Int) : Prop where
  t0 : 1 ≤ ten
  t1 : ten ≤ 64
  q0 : 1 ≤ quo
  q1 : quo ≤ 65536
  len : (L.length : Int) = ten
  few : F.length ≤ k
  lo : ∀ x ∈ L, -(k : Int) ≤ x ∧ x ≤ k
  last0 : 0 ≤ last
  rise : Rising F
  below : ∀ x ∈ F, x.id ≤ last
  cnt : ∀ x ∈ F, ∀ y ∈ x.C, 0 ≤ y ∧ y ≤ (k : Int) + 1
  own : ∀ x ∈ F, ownR x.id ten = true
section
variable {k : Nat} {ten quo last : Int} {F : List Ent} {L : List Int}
theorem RInv.wf (h : RInv k ten quo F L last) (hk : k ≤ 900) : RWf ten quo F L last :=
  ⟨h.t0, h.t1, h.q0, h.q1, h.len, by have := h.few; omega, fun x hx => by have := h.lo x hx; omega, h.last0⟩
theorem RInv.cnt' (h : RInv k ten quo F L last) (hk : k ≤ 900) : ∀ x ∈ F, ∀ y ∈ x.C, 0 ≤ y ∧ y ≤ 1000 := fun x hx y hy => by have := h.cnt x hx y hy; omega
theorem RInv.mono (h : RInv k ten quo F L last) {j : Nat} (hk : k ≤ j) : RInv j ten quo F L last :=
  ⟨h.t0, h.t1, h.q0, h.q1, h.len, by have := h.few; omega, fun x hx => by have := h.lo x hx; omega, h.last0, h.rise, h.below, fun x hx y hy => by have := h.cnt x hx y hy; omega, h.own⟩
theorem RInv.new {t : Nat} (h : rRight t quo = true) : RInv 0 t quo [] (List.replicate t 0) 0 := by
  obtain ⟨a1, a2, a3, a4⟩ := of_decide_eq_true h
  exact ⟨a1, a2, a3, a4, by simp, by simp, fun x hx => by obtain ⟨-, rfl⟩ := List.mem_replicate.1 hx; omega, Int.le_refl _, List.Pairwise.nil, (fun x hx => by cases hx), (fun x hx => by cases hx), (fun x hx => by cases hx)⟩
theorem liveAt_range (h : RInv k ten quo F L last) (t : Int) : -(k : Int) ≤ liveAt L t ∧ liveAt L t ≤ k := by
  unfold liveAt
  split
  · by_cases ht : t.toNat < L.length
    · rw [List.getD_eq_getElem?_getD, List.getElem?_eq_getElem ht]; exact h.lo _ (List.getElem_mem ht)
    · rw [List.getD_eq_getElem?_getD, List.getElem?_eq_none (by omega)]; simp
  · omega
theorem set_range (h : RInv k ten quo F L last) (t : Int) (d : Int) (hd : -1 ≤ d ∧ d ≤ 1) : ∀ x ∈ L.set t.toNat (liveAt L t + d), -((k + 1 : Nat) : Int) ≤ x ∧ x ≤ ((k + 1 : Nat) : Int) := by
  intro x hx
  have := liveAt_range h t
  rcases List.mem_or_eq_of_mem_set hx with hx | rfl
  · have := h.lo x hx; omega
  · omega
theorem idOf_own {tick : Int} (h : ¬ idOf tick = 0) (h0 : 1 ≤ ten) (h1 : ten ≤ 64) : ownR (idOf tick) ten = true := by
  unfold idOf at h ⊢
  split at h
  · rename_i hh
    rw [if_pos hh]
    exact decide_eq_true (by omega)
  · exact absurd rfl h
theorem rising_snoc {F : List Ent} {y : Ent} (h : Rising F) (hl : ∀ x ∈ F, x.id < y.id) : Rising (F ++ [y]) :=
  List.pairwise_append.2 ⟨h, List.pairwise_singleton _ _, fun x hx z hz => by rw [List.mem_singleton] at hz; subst hz; exact hl x hx⟩
theorem RInv.opn (h : RInv k ten quo F L last) (tick : Int) : RInv (k + 1) ten quo (rOpen ten quo F L last tick).F (rOpen ten quo F L last tick).L (rOpen ten quo F L last tick).last := by
  unfold rOpen
  split
  · exact h.mono (by omega)
  · rename_i h0
    split
    · exact h.mono (by omega)
    · rename_i h1
      split
      · exact h.mono (by omega)
      · have hl0 := h.last0
        refine ⟨h.t0, h.t1, h.q0, h.q1, by rw [List.length_set]; exact h.len, by have := h.few; simp; omega, set_range h _ 1 (by omega), by simp only; omega, rising_snoc h.rise fun x hx => ?_, fun x hx => ?_, fun x hx y hy => ?_, fun x hx => ?_⟩
        · have := h.below x hx; simp only [newE]; omega
        · rcases List.mem_append.1 hx with hx | hx
          · have := h.below x hx; simp only; omega
          · rw [List.mem_singleton] at hx; subst hx; exact Int.le_refl _
        · rcases List.mem_append.1 hx with hx | hx
          · have := h.cnt x hx y hy; omega
          · rw [List.mem_singleton] at hx; subst hx
            simp only [newE, List.mem_cons, List.not_mem_nil, or_false] at hy
            omega
        · rcases List.mem_append.1 hx with hx | hx
          · exact h.own x hx
          · rw [List.mem_singleton] at hx; subst hx; exact idOf_own h0 h.t0 h.t1
/-- An event, stream by stream. -/
def doF (id e : Int) (y : Ent) : Option Ent := if y.id = id then (if (pDo y.n e).n = 4 then none else some (entDo y e)) else some y
theorem doF_other {F : List Ent} {id e : Int} (h : ∀ y ∈ F, y.id ≠ id) : F.filterMap (doF id e) = F := by
  induction F with
  | nil => rfl
  | cons y F ih =>
    have h1 : doF id e y = some y := if_neg (h y (List.mem_cons_self ..))
    rw [List.filterMap_cons, h1, ih fun z hz => h z (List.mem_cons_of_mem _ hz)]
theorem find_id {F : List Ent} {id : Int} {i : Nat} (hF : Rising F) {x : Ent} (hx : F[i]? = some x) (he : x.id = id) : F.find? (fun y => y.id == id) = some x := by
  subst he
  obtain ⟨hi, hxe⟩ := List.getElem?_eq_some_iff.1 hx
  rw [List.find?_eq_some_iff_getElem]
  refine ⟨beq_self_eq_true _, i, hi, hxe, fun j hj => ?_⟩
  have := hF.lt (List.getElem?_eq_getElem (show j < F.length by omega)) hx hj
  simp only [Bool.not_eq_true', beq_eq_false_iff_ne]
  omega
theorem gDo_eq (hF : Rising F) (id e : Int) : gDo ten F L id e = match F.find? (fun y => y.id == id) with
    | none => ⟨F.filterMap (doF id e), L, 14, 0, false⟩
    | some x => ⟨F.filterMap (doF id e), if (pDo x.n e).n = 4 then L.set (ownT id ten).toNat (liveAt L (ownT id ten) - 1) else L, (pDo x.n e).err, (pDo x.n e).code, (pDo x.n e).conn⟩ := by
  by_cases h : ∃ x ∈ F, x.id = id
  · obtain ⟨x, hx, rfl⟩ := h
    obtain ⟨i, hi⟩ := List.mem_iff_getElem?.1 hx
    have hil := (List.getElem?_eq_some_iff.1 hi).1
    have hxe := (List.getElem?_eq_some_iff.1 hi).2
    rw [find_id hF hi rfl]
    have e1 : gDo ten F L x.id e = gDoAt ten F L i x e := by
      unfold gDo
      rw [atE_some hF hi]
      simp only [hi]
    rw [e1]
    have hsplit : F = F.take i ++ x :: F.drop (i + 1) := by
      conv => lhs; rw [← List.take_append_drop i F, List.drop_eq_getElem_cons hil, hxe]
    have ht : ∀ y ∈ F.take i, y.id ≠ x.id := fun y hy => by
      obtain ⟨j, hj⟩ := List.mem_iff_getElem?.1 hy
      rw [List.getElem?_take] at hj
      split at hj
      · rename_i hji
        have := hF.lt hj hi hji
        omega
      · cases hj
    have hd : ∀ y ∈ F.drop (i + 1), y.id ≠ x.id := fun y hy => by
      obtain ⟨j, hj⟩ := List.mem_iff_getElem?.1 hy
      rw [List.getElem?_drop] at hj
      have := hF.lt hi hj (by omega)
      omega
    have hfm : F.filterMap (doF x.id e) = F.take i ++ (if (pDo x.n e).n = 4 then [] else [entDo x e]) ++ F.drop (i + 1) := by
      conv => lhs; rw [hsplit]
      rw [List.filterMap_append, List.filterMap_cons, doF_other ht, doF_other hd]
      have hd0 : doF x.id e x = if (pDo x.n e).n = 4 then none else some (entDo x e) := if_pos rfl
      rw [hd0]
      by_cases h4 : (pDo x.n e).n = 4 <;> simp [h4]
    simp only [hfm]
    unfold gDoAt
    by_cases h4 : (pDo x.n e).n = 4
    · rw [if_pos h4, if_pos h4, if_pos h4]; simp
    · rw [if_neg h4, if_neg h4, if_neg h4]
      rw [List.set_eq_take_append_cons_drop, if_pos hil]
      simp
  · have hno : ∀ x ∈ F, x.id ≠ id := fun x hx e => h ⟨x, hx, e⟩
    have e1 : gDo ten F L id e = ⟨F, L, 14, 0, false⟩ := by
      unfold gDo
      rw [atE_none hno]
    have e2 : F.find? (fun y => y.id == id) = none := List.find?_eq_none.2 fun x hx => by simp [hno x hx]
    rw [e1, e2, doF_other hno]
theorem doF_id {id e : Int} {x y : Ent} (h : doF id e x = some y) : y.id = x.id := by
  unfold doF at h
  split at h
  · split at h
    · cases h
    · cases h; rfl
  · cases h; rfl
theorem bump_range {C : List Int} {k : Int} (h : ∀ x ∈ C, 0 ≤ x ∧ x ≤ k) (hk : 0 ≤ k) (e : Int) (b : Bool) : ∀ x ∈ bump C e b, 0 ≤ x ∧ x ≤ k + 1 := by
  intro x hx
  unfold bump at hx
  split at hx
  · rcases List.mem_or_eq_of_mem_set hx with hx | rfl
    · have := h x hx; omega
    · have : 0 ≤ C.getD e.toNat 0 ∧ C.getD e.toNat 0 ≤ k := by
        by_cases he : e.toNat < C.length
        · rw [List.getD_eq_getElem?_getD, List.getElem?_eq_getElem he]; exact h _ (List.getElem_mem he)
        · rw [List.getD_eq_getElem?_getD, List.getElem?_eq_none (by omega)]; exact ⟨Int.le_refl _, hk⟩
      omega
  · have := h x hx; omega
theorem RInv.doI (h : RInv k ten quo F L last) (id e : Int) : RInv (k + 1) ten quo (gDo ten F L id e).F (gDo ten F L id e).L last := by
  have hFm : (gDo ten F L id e).F = F.filterMap (doF id e) := by rw [gDo_eq h.rise]; split <;> rfl
  have hL : (gDo ten F L id e).L = L ∨ (gDo ten F L id e).L = L.set (ownT id ten).toNat (liveAt L (ownT id ten) + -1) := by
    rw [gDo_eq h.rise]
    split
    · exact .inl rfl
    · simp only
      split
      · exact .inr rfl
      · exact .inl rfl
  rw [hFm]
  have hlen : ((gDo ten F L id e).L.length : Int) = ten := by
    rcases hL with e1 | e1 <;> rw [e1]
    · exact h.len
    · rw [List.length_set]; exact h.len
  have hlo : ∀ x ∈ (gDo ten F L id e).L, -((k + 1 : Nat) : Int) ≤ x ∧ x ≤ ((k + 1 : Nat) : Int) := by
    rcases hL with e1 | e1 <;> rw [e1]
    · intro x hx; have := h.lo x hx; omega
    · exact set_range h _ (-1) (by omega)
  refine ⟨h.t0, h.t1, h.q0, h.q1, hlen, ?_, hlo, h.last0, ?_, fun y hy => ?_, fun y hy z hz => ?_, fun y hy => ?_⟩
  · have := List.length_filterMap_le (doF id e) F
    have := h.few
    omega
  · refine List.pairwise_filterMap.2 (h.rise.imp fun {a b} hab c hc d hd => ?_)
    rw [doF_id hc, doF_id hd]; exact hab
  · obtain ⟨x, hx, hxy⟩ := List.mem_filterMap.1 hy
    rw [doF_id hxy]; exact h.below x hx
  · obtain ⟨x, hx, hxy⟩ := List.mem_filterMap.1 hy
    unfold doF at hxy
    split at hxy
    · split at hxy
      · cases hxy
      · cases hxy
        have := bump_range (h.cnt x hx) (by omega) e _ z hz
        omega
    · simp only [Option.some.injEq] at hxy
      subst hxy
      have := h.cnt x hx z hz
      omega
  · obtain ⟨x, hx, hxy⟩ := List.mem_filterMap.1 hy
    rw [doF_id hxy]; exact h.own x hx
end
end Go.Proofs.YtecnddhfjjnbkaaDoor

/- Chapter 14, plain: a tenant's part of a registry, beside a registry of that tenant's streams alone. -/
import Derived.Test.YtecnddhfjjnbkaaDoorInv
set_option linter.unusedSimpArgs false
set_option linter.unusedVariables false
namespace Go.Proofs.YtecnddhfjjnbkaaDoor
open Go.RowKit

/-- F', L' are a tenant's part of F, L. -/
structure Rel (t ten : Int) (F : List Ent) (L : List Int) (F' : List Ent) (L' : List Int) : Prop where
  fil : F' = F.filter fun x => ownT x.id ten == t
  liv : liveAt L' t = liveAt L t
section
variable {k k' : Nat} {t ten quo last last' : Int} {F F' : List Ent} {L L' : List Int}
theorem live_set_self {L : List Int} {t v : Int} (h0 : 0 ≤ t) (h1 : t < L.length) : liveAt (L.set t.toNat v) t = v := by
  unfold liveAt
  rw [if_pos h0, List.getD_eq_getElem?_getD, List.getElem?_set_self (by omega)]; rfl
theorem live_set_other {L : List Int} {t s v : Int} (h0 : 0 ≤ s) (hne : s ≠ t) : liveAt (L.set s.toNat v) t = liveAt L t := by
  unfold liveAt
  split
  · rw [List.getD_eq_getElem?_getD, List.getElem?_set_ne (by omega), List.getD_eq_getElem?_getD]
  · rfl
theorem ownT_range {id ten : Int} (h0 : 1 ≤ ten) : 0 ≤ ownT id ten ∧ ownT id ten < ten := by
  unfold ownT
  split
  · exact ⟨Int.emod_nonneg _ (by omega), Int.emod_lt_of_pos _ (by omega)⟩
  · omega
/-- A stream of that tenant's is opened in both. -/
theorem Rel.open_same (R : Rel t ten F L F' L') (h : RInv k ten quo F L last) (h' : RInv k' ten quo F' L' last') (tick : Int) (h0 : ¬ idOf tick = 0) (h1 : ¬ idOf tick ≤ last) (h2 : ¬ idOf tick ≤ last') (ht : ownT (idOf tick) ten = t) :
    (rOpen ten quo F' L' last' tick).id = (rOpen ten quo F L last tick).id ∧ (rOpen ten quo F' L' last' tick).err = (rOpen ten quo F L last tick).err ∧
    Rel t ten (rOpen ten quo F L last tick).F (rOpen ten quo F L last tick).L (rOpen ten quo F' L' last' tick).F (rOpen ten quo F' L' last' tick).L ∧ (rOpen ten quo F' L' last' tick).last ≤ idOf tick ∧ (rOpen ten quo F L last tick).last ≤ idOf tick := by
  unfold rOpen
  rw [if_neg h0, if_neg h0, if_neg h1, if_neg h2, ht, R.liv]
  by_cases hq : quo ≤ liveAt L t
  · rw [if_pos hq, if_pos hq]
    exact ⟨rfl, rfl, R, by simp only; omega, by simp only; omega⟩
  · rw [if_neg hq, if_neg hq]
    have hr := ownT_range (id := idOf tick) h.t0
    rw [ht] at hr
    refine ⟨rfl, rfl, ⟨?_, ?_⟩, Int.le_refl _, Int.le_refl _⟩
    · rw [List.filter_append, R.fil]
      congr 1
      simp [newE, ht]
    · rw [live_set_self hr.1 (by have := h.len; have := h'.len; omega), live_set_self hr.1 (by have := h.len; have := h'.len; omega)]
/-- A stream of another one's is opened. -/
theorem Rel.open_other (R : Rel t ten F L F' L') (h : RInv k ten quo F L last) (tick : Int) (h0 : ¬ idOf tick = 0) (h1 : ¬ idOf tick ≤ last) (ht : ownT (idOf tick) ten ≠ t) :
    Rel t ten (rOpen ten quo F L last tick).F (rOpen ten quo F L last tick).L F' L' ∧ (rOpen ten quo F L last tick).last ≤ idOf tick := by
  unfold rOpen
  rw [if_neg h0, if_neg h1]
  split
  · exact ⟨R, by simp only; omega⟩
  · have hr := ownT_range (id := idOf tick) h.t0
    refine ⟨⟨?_, ?_⟩, Int.le_refl _⟩
    · rw [List.filter_append, R.fil]
      simp [newE, ht]
    · rw [live_set_other hr.1 ht]; exact R.liv
theorem filter_doF (p : Ent → Bool) (hp : ∀ x y : Ent, x.id = y.id → p x = p y) (id e : Int) (F : List Ent) : (F.filterMap (doF id e)).filter p = (F.filter p).filterMap (doF id e) := by
  induction F with
  | nil => rfl
  | cons x F ih =>
    rw [List.filterMap_cons, List.filter_cons]
    cases hd : doF id e x with
    | none =>
      simp only
      by_cases hx : p x = true
      · rw [if_pos hx, List.filterMap_cons, hd]; exact ih
      · rw [if_neg hx]; exact ih
    | some y =>
      have hy : p y = p x := hp y x (doF_id hd)
      simp only [List.filter_cons, hy]
      by_cases hx : p x = true
      · rw [if_pos hx, if_pos hx, List.filterMap_cons, hd, ih]
      · rw [if_neg hx, if_neg hx]; exact ih
theorem Rel.do_same (R : Rel t ten F L F' L') (h : RInv k ten quo F L last) (h' : RInv k' ten quo F' L' last') (id e : Int) (ht : ownT id ten = t) (h0 : 0 ≤ t) (h1 : t < ten) :
    (gDo ten F' L' id e).err = (gDo ten F L id e).err ∧ (gDo ten F' L' id e).code = (gDo ten F L id e).code ∧ (gDo ten F' L' id e).conn = (gDo ten F L id e).conn ∧ Rel t ten (gDo ten F L id e).F (gDo ten F L id e).L (gDo ten F' L' id e).F (gDo ten F' L' id e).L := by
  have hp : ∀ x y : Ent, x.id = y.id → (fun x : Ent => ownT x.id ten == t) x = (fun x : Ent => ownT x.id ten == t) y := fun x y h => by simp only [h]
  have hf : F'.find? (fun y => y.id == id) = F.find? (fun y => y.id == id) := by
    rw [R.fil, List.find?_filter]
    congr 1
    funext y
    by_cases hy : y.id = id
    · simp [hy, ht]
    · simp [hy]
  rw [gDo_eq h.rise, gDo_eq h'.rise, hf]
  have hF : F'.filterMap (doF id e) = (F.filterMap (doF id e)).filter fun x => ownT x.id ten == t := by rw [filter_doF _ hp, R.fil]
  cases hx : F.find? (fun y => y.id == id) with
  | none => exact ⟨rfl, rfl, rfl, hF, R.liv⟩
  | some x =>
    refine ⟨rfl, rfl, rfl, hF, ?_⟩
    simp only
    by_cases h4 : (pDo x.n e).n = 4
    · rw [if_pos h4, if_pos h4, ht, live_set_self h0 (by have := h.len; have := h'.len; omega), live_set_self h0 (by have := h.len; have := h'.len; omega), R.liv]
    · rw [if_neg h4, if_neg h4]; exact R.liv
theorem Rel.do_other (R : Rel t ten F L F' L') (h : RInv k ten quo F L last) (id e : Int) (ht : ownT id ten ≠ t) :
    Rel t ten (gDo ten F L id e).F (gDo ten F L id e).L F' L' := by
  have hp : ∀ x y : Ent, x.id = y.id → (fun x : Ent => ownT x.id ten == t) x = (fun x : Ent => ownT x.id ten == t) y := fun x y h => by simp only [h]
  have hF : F' = (F.filterMap (doF id e)).filter fun x => ownT x.id ten == t := by
    rw [filter_doF _ hp, ← R.fil]
    refine (doF_other fun y hy hid => ?_).symm
    rw [R.fil] at hy
    have := (List.mem_filter.1 hy).2
    rw [hid] at this
    exact ht (beq_iff_eq.1 this)
  rw [gDo_eq h.rise]
  cases hx : F.find? (fun y => y.id == id) with
  | none => exact ⟨hF, R.liv⟩
  | some x =>
    refine ⟨hF, ?_⟩
    simp only
    by_cases h4 : (pDo x.n e).n = 4
    · rw [if_pos h4, live_set_other (ownT_range h.t0).1 ht]; exact R.liv
    · rw [if_neg h4]; exact R.liv
end
end Go.Proofs.YtecnddhfjjnbkaaDoor

/- A region that draws its order: any invariant; calls within it; guarded operations. -/
import Derived.Test.YtdfdcenbpanegaaRegion
set_option linter.unusedSimpArgs false
set_option linter.unusedVariables false
namespace Go.Proofs.Ytdfdcenbpanegaa
open Go.RowKit

section
variable {P : Program} {ops : Array Oper} {Q : Exit → Act → World → Prop}
/-- An operation that its guard lets run. -/
theorem wpOp_runG {i : Nat} {o : Oper} {K : Act → World → Prop} {a : Act} {w : World} {v : Value} (ho : ops[i]? = some o) (hw : Region.wanted o (yielded ops a.tmps) = true) (hr : ∀ ρ, ρ = a.eval → (execOp ρ o).run P w = .ok (.value v) w) (h : K (a.put o.dst v) w) : wpOp P ops Q i K a w := by
  unfold wpOp
  simp only [ho]
  rw [if_pos hw]
  left
  unfold Oper.wp
  rw [hr _ rfl]
  exact h
/-- An operation that its guard passes over. -/
theorem wpOp_skip {i : Nat} {o : Oper} {K : Act → World → Prop} {a : Act} {w : World} (ho : ops[i]? = some o) (hw : Region.wanted o (yielded ops a.tmps) = false) (h : K (a.put o.dst undef) w) : wpOp P ops Q i K a w := by
  unfold wpOp
  simp only [ho]
  rw [if_neg (by rw [hw]; exact Bool.false_ne_true)]
  exact h
/-- What a guard looks at. -/
theorem yielded_of {a : Act} {g : Nat} {t : Tmp} {b : Bool} (ht : (ops[g]?).bind (·.dst) = some t) (he : a.eval (.tmp t) = .bool b) : yielded ops a.tmps g = some b := by
  unfold yielded
  rw [ht]
  simp only [Act.eval] at he
  cases hv : a.tmps[t]? with
  | none => simp [hv, undef] at he
  | some v => simp [hv] at he; subst he; simp [hv]
/-- An operation that turns memory. -/
theorem wpOp_mem {i : Nat} {o : Oper} {K : Act → World → Prop} {a : Act} {w w' : World} {v : Value} (ho : ops[i]? = some o) (hg : o.guard = none) (hr : ∀ ρ, ρ = a.eval → (execOp ρ o).run P w = .ok (.value v) w') (h : K (a.put o.dst v) w') : wpOp P ops Q i K a w := by
  unfold wpOp
  simp only [ho]
  have hw : Region.wanted o (yielded ops a.tmps) = true := by unfold Region.wanted; rw [hg]
  rw [if_pos hw]
  left
  unfold Oper.wp
  rw [hr _ rfl]
  exact h
/-- A call of a Go function, by its contract. -/
theorem wpOp_call {i : Nat} {o : Oper} {K : Act → World → Prop} {a : Act} {w : World} {f : FuncId} {args : Array Value} {R : Ending → World → Prop} (ho : ops[i]? = some o) (hg : o.guard = none) (hr : ∀ ρ, ρ = a.eval → (execOp ρ o).run P w = .ok (.enter f args) w)
    (hc : Calls P f args w R) (h : ∀ e w', R e w' → ∃ v, e = .returned v ∧ K (a.put o.dst v) w') : wpOp P ops Q i K a w := by
  unfold wpOp
  simp only [ho]
  have hw : Region.wanted o (yielded ops a.tmps) = true := by unfold Region.wanted; rw [hg]
  rw [if_pos hw]
  left
  unfold Oper.wp
  rw [hr _ rfl]
  rw [Oper.upon_enter]
  refine Calls.mono hc fun e w' he => ?_
  obtain ⟨v, rfl, hv⟩ := h e w' he
  exact hv
/-- A region that draws its order, over any invariant of what is done. -/
theorem wp_region_J {id : Nat} {a : Act} {w : World} (hm : P.follows .mixedOrders = true) (n : Nat) (hn : ops.size = n) (preds : List (List Nat)) (hp : predsOf ops = preds)
    (hpre : ((List.range n).all fun i => (preds.getD i []).all (Nat.blt · i)) = true)
    (J : (Nat → Bool) → Act → World → Prop) (h0 : J (fun j => !Nat.blt j n) a w.drew)
    (hs : forAll (fun i => ∀ f a W, f i = false → allDone f (preds.getD i []) → J f a W → wpOp P ops Q i (J (upd f i)) a W) (List.range n))
    (he : ∀ a W, J (fun _ => true) a W → Q .normal a W) : (Code.region id ops true).wp P Q a w := by
  refine wp_region_any hm ?_
  have hpo : ∀ i o, ops[i]? = some o → ∀ e ∈ o.after, Region.binds .any e = true → e.on ∈ preds.getD i [] := by
    intro i o ho e he hb
    subst hp
    have : (predsOf ops).getD i [] = (o.after.toList.filter (Region.binds .any)).map (·.on) := by
      unfold predsOf
      have ho' : ops.toList[i]? = some o := by simpa using ho
      rw [List.getD_eq_getElem?_getD, List.getElem?_map, ho']
      rfl
    rw [this]
    exact List.mem_map_of_mem (List.mem_filter.2 ⟨by simpa using he, hb⟩)
  have hstart : ∀ j, (Array.replicate ops.size false).getD j true = !Nat.blt j n := by
    intro j
    by_cases h : j < n
    · have hb : Nat.blt j n = true := by simpa using h
      simp [hn, h, hb]
    · have hb : Nat.blt j n = false := by
        cases hb : Nat.blt j n with
        | false => rfl
        | true => exact absurd (by simpa using hb) h
      simp [hn, h, hb]
  refine wpAny_inv hn (J := J) ?_ ?_ ?_ ops.size _ a _ (by simp [hn]) ?_ ?_
  · intro i f a' w' hi hf hpr S'
    refine forAll_mem hs i (List.mem_range.2 hi) f a' w' hf (allDone_of fun p hp' => ?_) S'
    have ho : ops[i]? = some (ops[i]'(by omega)) := Array.getElem?_eq_getElem _
    subst hp
    have : (predsOf ops).getD i [] = ((ops[i]'(by omega)).after.toList.filter (Region.binds .any)).map (·.on) := by
      unfold predsOf
      have ho' : ops.toList[i]? = some (ops[i]'(by omega)) := by simp
      rw [List.getD_eq_getElem?_getD, List.getElem?_map, ho']
      rfl
    rw [this] at hp'
    obtain ⟨e, hme, rfl⟩ := List.mem_map.1 hp'
    obtain ⟨hm1, hm2⟩ := List.mem_filter.1 hme
    exact hpr _ ho e (by simpa using hm1) hm2
  · intro i o ho e he hb
    have hi : i < n := by rw [← hn]; exact (Array.getElem?_eq_some_iff.1 ho).1
    rw [List.all_eq_true] at hpre
    have := hpre i (List.mem_range.2 hi)
    rw [List.all_eq_true] at this
    exact by simpa using this _ (hpo i o ho e he hb)
  · intro a' w' S'; exact he a' w' S'
  · refine Nat.le_trans (List.length_filter_le _ _) ?_
    simp
  · have hf : (fun j => (Array.replicate ops.size false).getD j true) = fun j => !Nat.blt j n := funext hstart
    rw [hf]; exact h0
end
end Go.Proofs.Ytdfdcenbpanegaa

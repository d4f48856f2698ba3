/- A region that draws its order, in a round of a range over a function. -/
import Derived.Test.YtecnddhfjjnbkaaDoorRegJ
import Derived.Test.YtecnddhfjjnbkaaDoorSeq
import Derived.OrdersIn
set_option linter.unusedSimpArgs false
set_option linter.unusedVariables false
namespace Go.Proofs.YtecnddhfjjnbkaaDoor
open Go.RowKit

section
variable {P : Program} {ops : Array Oper} {Q : Exit → Act → World → Prop} {rl : Nat}
theorem wpAnyIn_inv {n : Nat} (hn : ops.size = n) {J : (Nat → Bool) → Act → World → Prop}
    (hs : ∀ i f a w, i < n → f i = false → (∀ o, ops[i]? = some o → ∀ e ∈ o.after, Region.binds .any e = true → f e.on = true) → J f a w → wpOpIn (Fence.wide.inRound rl) 0 P ops Q i (J (upd f i)) a w)
    (hpre : ∀ i o, ops[i]? = some o → ∀ e ∈ o.after, Region.binds .any e = true → e.on < i)
    (he : ∀ a w, J (fun _ => true) a w → Q .normal a w) :
    ∀ (fuel : Nat) (l : Array Bool) (a : Act) (w : World), l.size = n → (l.toList.filter (!·)).length ≤ fuel → J (fun j => l.getD j true) a w → wpAnyIn (Fence.wide.inRound rl) 0 P .any ops Q fuel l a w := by
  have hdone : ∀ (l : Array Bool) a w, l.size = n → Region.ready .any ops l = [] → J (fun j => l.getD j true) a w → Q .normal a w := by
    intro l a w hl hr hJ
    have hall : ∀ k, ∀ j, j < k → l.getD j true = true := by
      intro k
      induction k with
      | zero => intro j hj; omega
      | succ k ih =>
        intro j hj
        by_cases hlt : j < k
        · exact ih j hlt
        have hjk : j = k := by omega
        subst hjk
        cases hf : l.getD j true with
        | true => rfl
        | false =>
          exfalso
          have hjn : j < n := by
            rcases Nat.lt_or_ge j n with h | h
            · exact h
            · rw [← hl] at h; simp [Array.getElem?_eq_none h] at hf
          have ho : ops[j]? = some (ops[j]'(by omega)) := Array.getElem?_eq_getElem _
          have : j ∈ Region.ready .any ops l := mem_ready.2 ⟨hf, _, ho, fun e he hb => by
            have h1 := ih e.on (hpre j _ ho e he hb)
            have h2 : e.on < l.size := by have := hpre j _ ho e he hb; omega
            simp [h2] at h1 ⊢; exact h1⟩
          rw [hr] at this
          cases this
    refine he a w ?_
    have : (fun j => l.getD j true) = fun _ => true := funext fun j => hall (j + 1) j (by omega)
    rw [← this]; exact hJ
  intro fuel
  induction fuel with
  | zero =>
    intro l a w hl hc hJ
    have hr : Region.ready .any ops l = [] := by
      rcases hr : Region.ready .any ops l with _ | ⟨i, is⟩
      · rfl
      · exfalso
        have hi : i ∈ Region.ready .any ops l := by rw [hr]; simp
        obtain ⟨h0, o, ho, _⟩ := mem_ready.1 hi
        have hin : i < l.size := by rw [hl, ← hn]; exact (Array.getElem?_eq_some_iff.1 ho).1
        have hm : false ∈ l.toList.filter (!·) := by
          rw [List.mem_filter]
          simp [hin] at h0
          exact ⟨by rw [← h0]; simp, rfl⟩
        have := List.length_pos_of_mem hm
        omega
    exact ⟨hr, hdone l a w hl hr hJ⟩
  | succ fuel ih =>
    intro l a w hl hc hJ
    refine ⟨fun hr => hdone l a w hl hr hJ, fun i hi => ?_⟩
    obtain ⟨h0, o, ho, hall⟩ := mem_ready.1 hi
    have hin : i < l.size := by rw [hl, ← hn]; exact (Array.getElem?_eq_some_iff.1 ho).1
    refine wpOpIn_mono (fun a' w' h' => ih (l.setIfInBounds i true) a' w' (by simpa using hl) ?_ ?_) (hs i _ a w (by omega) h0 (fun o' ho' e he hb => ?_) hJ)
    · have h1 : l[i] = false := by simpa [hin] using h0
      have h2 : (l.setIfInBounds i true).toList = l.toList.take i ++ true :: l.toList.drop (i + 1) := by
        simp [List.set_eq_take_append_cons_drop, hin]
      have h3 : l.toList = l.toList.take i ++ l[i] :: l.toList.drop (i + 1) := by
        conv => lhs; rw [← List.take_append_drop i l.toList, List.drop_eq_getElem_cons (by simpa using hin)]
        simp
      rw [h2]
      rw [h3] at hc
      simp only [List.filter_append, List.filter_cons, h1, Bool.not_false, if_true, List.length_append, List.length_cons, Bool.not_true, if_false, Bool.false_eq_true] at hc ⊢
      omega
    · have : (fun j => (l.setIfInBounds i true).getD j true) = upd (fun j => l.getD j true) i := funext fun j => getD_setIn hin
      rw [this]; exact h'
    · rw [ho] at ho'; cases ho'
      have h1 := hall e he hb
      have h2 : e.on < l.size := by
        rcases Nat.lt_or_ge e.on l.size with h | h
        · exact h
        · simp [Array.getElem?_eq_none h] at h1
      simp [h2] at h1 ⊢; exact h1
def isDef : Op → Bool
  | .defer _ => true
  | _ => false
theorem nd_of {o : Oper} (h : isDef o.op = false) : ∀ c, o.op ≠ .defer c := fun c e => by rw [e] at h; cases h
theorem wp_actIn {F : Fence} {n : Nat} {c : Code} {a : Act} {w : World} (h : ∀ b, b = a → c.wpIn F n P Q b w) : c.wpIn F n P Q a w := h a rfl
theorem wpOpIn_val {i : Nat} {o : Oper} {K : Act → World → Prop} {a : Act} {w w' : World} {v : Value} (ho : ops[i]? = some o) (hw : Region.wanted o (yielded ops a.tmps) = true) (hr : ∀ ρ, ρ = a.eval → (execOp ρ o).run P w = .ok (.value v) w') (h : K (a.put o.dst v) w') (hnd : isDef o.op = false) : wpOpIn (Fence.wide.inRound rl) 0 P ops Q i K a w := by
  unfold wpOpIn
  simp only [ho]
  rw [if_pos hw]
  refine ⟨fun _ _ => trivial, ?_⟩
  rw [Fence.inRound_round, Oper.semAt_some _ _ _ (nd_of hnd), hr _ rfl]
  exact h
theorem wpOpIn_run {i : Nat} {o : Oper} {K : Act → World → Prop} {a : Act} {w : World} {v : Value} (ho : ops[i]? = some o) (hg : o.guard = none) (hr : ∀ ρ, ρ = a.eval → (execOp ρ o).run P w = .ok (.value v) w) (h : K (a.put o.dst v) w) (hnd : isDef o.op = false := by rfl) : wpOpIn (Fence.wide.inRound rl) 0 P ops Q i K a w :=
  wpOpIn_val ho (by unfold Region.wanted; rw [hg]) hr h hnd
theorem wpOpIn_mem {i : Nat} {o : Oper} {K : Act → World → Prop} {a : Act} {w w' : World} {v : Value} (ho : ops[i]? = some o) (hg : o.guard = none) (hr : ∀ ρ, ρ = a.eval → (execOp ρ o).run P w = .ok (.value v) w') (h : K (a.put o.dst v) w') (hnd : isDef o.op = false := by rfl) : wpOpIn (Fence.wide.inRound rl) 0 P ops Q i K a w :=
  wpOpIn_val ho (by unfold Region.wanted; rw [hg]) hr h hnd
theorem wpOpIn_runG {i : Nat} {o : Oper} {K : Act → World → Prop} {a : Act} {w : World} {v : Value} (ho : ops[i]? = some o) (hw : Region.wanted o (yielded ops a.tmps) = true) (hr : ∀ ρ, ρ = a.eval → (execOp ρ o).run P w = .ok (.value v) w) (h : K (a.put o.dst v) w) (hnd : isDef o.op = false := by rfl) : wpOpIn (Fence.wide.inRound rl) 0 P ops Q i K a w :=
  wpOpIn_val ho hw hr h hnd
theorem wpOpIn_skip {i : Nat} {o : Oper} {K : Act → World → Prop} {a : Act} {w : World} (ho : ops[i]? = some o) (hw : Region.wanted o (yielded ops a.tmps) = false) (h : K (a.put o.dst undef) w) : wpOpIn (Fence.wide.inRound rl) 0 P ops Q i K a w := by
  unfold wpOpIn
  simp only [ho]
  rw [if_neg (by rw [hw]; exact Bool.false_ne_true)]
  exact ⟨fun _ _ => trivial, h⟩
theorem wpOpIn_callG {i : Nat} {o : Oper} {K : Act → World → Prop} {a : Act} {w : World} {f : FuncId} {args : Array Value} {R : Ending → World → Prop} (ho : ops[i]? = some o) (hw : Region.wanted o (yielded ops a.tmps) = true) (hr : ∀ ρ, ρ = a.eval → (execOp ρ o).run P w = .ok (.enter f args) w)
    (hc : Calls P f args w R) (h : ∀ e w', R e w' → ∃ v, e = .returned v ∧ K (a.put o.dst v) w') (hnd : isDef o.op = false := by rfl) : wpOpIn (Fence.wide.inRound rl) 0 P ops Q i K a w := by
  unfold wpOpIn
  simp only [ho]
  rw [if_pos hw]
  refine ⟨fun _ _ => trivial, ?_⟩
  rw [Fence.inRound_round, Oper.semAt_some _ _ _ (nd_of hnd), hr _ rfl, Oper.uponIn_enter]
  refine ⟨fun h => by simp [Fence.wide] at h, CallsIn.inRound rl (callsIn_wide.2 (Calls.mono hc fun e w' he => ?_))⟩
  obtain ⟨v, rfl, hv⟩ := h e w' he
  exact hv
theorem wpOpIn_call {i : Nat} {o : Oper} {K : Act → World → Prop} {a : Act} {w : World} {f : FuncId} {args : Array Value} {R : Ending → World → Prop} (ho : ops[i]? = some o) (hg : o.guard = none) (hr : ∀ ρ, ρ = a.eval → (execOp ρ o).run P w = .ok (.enter f args) w)
    (hc : Calls P f args w R) (h : ∀ e w', R e w' → ∃ v, e = .returned v ∧ K (a.put o.dst v) w') (hnd : isDef o.op = false := by rfl) : wpOpIn (Fence.wide.inRound rl) 0 P ops Q i K a w :=
  wpOpIn_callG ho (by unfold Region.wanted; rw [hg]) hr hc h hnd
/-- A region that draws its order, over any invariant of what is done. -/
theorem wp_region_JIn {id : Nat} {a : Act} {w : World} (hm : P.follows .mixedOrders = true) (n : Nat) (hn : ops.size = n) (preds : List (List Nat)) (hp : predsOf ops = preds)
    (hpre : ((List.range n).all fun i => (preds.getD i []).all (Nat.blt · i)) = true)
    (J : (Nat → Bool) → Act → World → Prop) (h0 : J (fun j => !Nat.blt j n) a w.drew)
    (hs : forAll (fun i => ∀ f a W, f i = false → allDone f (preds.getD i []) → J f a W → wpOpIn (Fence.wide.inRound rl) 0 P ops Q i (J (upd f i)) a W) (List.range n))
    (he : ∀ a W, J (fun _ => true) a W → Q .normal a W) : (Code.region id ops true).wpIn (Fence.wide.inRound rl) 0 P Q a w := by
  refine wpIn_region_any hm ?_
  have hpo : ∀ i o, ops[i]? = some o → ∀ e ∈ o.after, Region.binds .any e = true → e.on ∈ preds.getD i [] := by
    intro i o ho e he hb
    subst hp
    have : (predsOf ops).getD i [] = (o.after.toList.filter (Region.binds .any)).map (·.on) := by
      unfold predsOf
      have ho' : ops.toList[i]? = some o := by simpa using ho
      rw [List.getD_eq_getElem?_getD, List.getElem?_map, ho']
      rfl
    rw [this]
    exact List.mem_map_of_mem (List.mem_filter.2 ⟨by simpa using he, hb⟩)
  have hstart : ∀ j, (Array.replicate ops.size false).getD j true = !Nat.blt j n := by
    intro j
    by_cases h : j < n
    · have hb : Nat.blt j n = true := by simpa using h
      simp [hn, h, hb]
    · have hb : Nat.blt j n = false := by
        cases hb : Nat.blt j n with
        | false => rfl
        | true => exact absurd (by simpa using hb) h
      simp [hn, h, hb]
  refine wpAnyIn_inv hn (J := J) ?_ ?_ ?_ ops.size _ a _ (by simp [hn]) ?_ ?_
  · intro i f a' w' hi hf hpr S'
    refine forAll_mem hs i (List.mem_range.2 hi) f a' w' hf (allDone_of fun p hp' => ?_) S'
    have ho : ops[i]? = some (ops[i]'(by omega)) := Array.getElem?_eq_getElem _
    subst hp
    have : (predsOf ops).getD i [] = ((ops[i]'(by omega)).after.toList.filter (Region.binds .any)).map (·.on) := by
      unfold predsOf
      have ho' : ops.toList[i]? = some (ops[i]'(by omega)) := by simp
      rw [List.getD_eq_getElem?_getD, List.getElem?_map, ho']
      rfl
    rw [this] at hp'
    obtain ⟨e, hme, rfl⟩ := List.mem_map.1 hp'
    obtain ⟨hm1, hm2⟩ := List.mem_filter.1 hme
    exact hpr _ ho e (by simpa using hm1) hm2
  · intro i o ho e he hb
    have hi : i < n := by rw [← hn]; exact (Array.getElem?_eq_some_iff.1 ho).1
    rw [List.all_eq_true] at hpre
    have := hpre i (List.mem_range.2 hi)
    rw [List.all_eq_true] at this
    exact by simpa using this _ (hpo i o ho e he hb)
  · intro a' w' S'; exact he a' w' S'
  · refine Nat.le_trans (List.length_filter_le _ _) ?_
    simp
  · have hf : (fun j => (Array.replicate ops.size false).getD j true) = fun j => !Nat.blt j n := funext hstart
    rw [hf]; exact h0
end
end Go.Proofs.YtecnddhfjjnbkaaDoor

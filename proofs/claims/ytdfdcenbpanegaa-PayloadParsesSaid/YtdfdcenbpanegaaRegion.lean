/- A region that draws its order: shown once for each operation, whatever came up before it. -/
import Derived.Test.YtdfdcenbpanegaaCall
import Derived.Test.YtdfdcenbpanegaaMid
set_option linter.unusedSimpArgs false
set_option linter.unusedVariables false
namespace Go.Proofs.Ytdfdcenbpanegaa
open Go.RowKit

/-- What is done, and i. -/
def upd (f : Nat → Bool) (i : Nat) : Nat → Bool := fun j => Nat.beq j i || f j
/-- The frame when some of the operations have come up: what each yields, by its number. -/
def acts : List (Nat × Tmp × Value) → (Nat → Bool) → Act → Act
  | [], _, a => a
  | p :: ps, f, a => acts ps f (if f p.1 then a.put (some p.2.1) p.2.2 else a)
def predsOf (ops : Array Oper) : List (List Nat) := ops.toList.map fun o => (o.after.toList.filter (Region.binds .any)).map (·.on)
def allDone (f : Nat → Bool) : List Nat → Prop
  | [] => True
  | p :: ps => f p = true ∧ allDone f ps
def forAll (p : Nat → Prop) : List Nat → Prop
  | [] => True
  | i :: is => p i ∧ forAll p is
theorem forAll_mem {p : Nat → Prop} {l : List Nat} (h : forAll p l) : ∀ i ∈ l, p i := by
  induction l with
  | nil => intro i hi; cases hi
  | cons a l ih =>
    intro i hi
    rcases List.mem_cons.1 hi with rfl | hi
    · exact h.1
    · exact ih h.2 i hi
theorem allDone_of {f : Nat → Bool} {l : List Nat} (h : ∀ p ∈ l, f p = true) : allDone f l := by
  induction l with
  | nil => exact trivial
  | cons a l ih => exact ⟨h a (by simp), ih fun p hp => h p (List.mem_cons_of_mem _ hp)⟩
theorem acts_size (ps : List (Nat × Tmp × Value)) (f : Nat → Bool) (a : Act) : (acts ps f a).tmps.size = a.tmps.size := by
  induction ps generalizing a with
  | nil => rfl
  | cons p ps ih => rw [acts, ih]; split <;> simp [Act.put]
theorem acts_stack (ps : List (Nat × Tmp × Value)) (f : Nat → Bool) (a : Act) : ∃ T, acts ps f a = { a with tmps := T } := by
  induction ps generalizing a with
  | nil => exact ⟨a.tmps, rfl⟩
  | cons p ps ih =>
    rw [acts]
    split
    · obtain ⟨T, h⟩ := ih (a.put (some p.2.1) p.2.2); exact ⟨T, by rw [h]; rfl⟩
    · exact ih a
/-- A slot that no operation of the region writes. -/
theorem acts_eval_tmp {ps : List (Nat × Tmp × Value)} {f : Nat → Bool} {a : Act} (t : Tmp) (h : (ps.map (·.2.1)).contains t = false) : (acts ps f a).eval (.tmp t) = a.eval (.tmp t) := by
  induction ps generalizing a with
  | nil => rfl
  | cons p ps ih =>
    simp only [List.map_cons, List.contains_cons, Bool.or_eq_false_iff, beq_eq_false_iff_ne] at h
    rw [acts, ih h.2]
    split
    · exact Act.eval_put fun d hd => by cases hd; intro he; cases he; exact h.1 rfl
    · rfl
/-- A slot that an operation has written. -/
theorem acts_eval_hit {ps : List (Nat × Tmp × Value)} {f : Nat → Bool} {a : Act} (k : Nat) {i : Nat} {t : Tmp} {v : Value} (hk : ps[k]? = some (i, t, v)) (hf : f i = true) (hsz : Nat.blt t a.tmps.size = true) (hu : ((ps.drop (k + 1)).map (·.2.1)).contains t = false) : (acts ps f a).eval (.tmp t) = v := by
  induction ps generalizing a k with
  | nil => cases hk
  | cons p ps ih =>
    cases k with
    | zero =>
      simp only [List.getElem?_cons_zero, Option.some.injEq] at hk
      subst hk
      rw [acts, acts_eval_tmp t (by simpa using hu)]
      have hsz' : t < a.tmps.size := by simpa using hsz
      simp [hf, Act.eval, Act.put, hsz']
    | succ k =>
      rw [acts]
      refine ih k (by simpa using hk) ?_ (by simpa using hu)
      split
      · simpa [Act.put] using hsz
      · exact hsz
theorem acts_congr {ps : List (Nat × Tmp × Value)} {f g : Nat → Bool} {a : Act} (h : ∀ p ∈ ps, f p.1 = g p.1) : acts ps f a = acts ps g a := by
  induction ps generalizing a with
  | nil => rfl
  | cons p ps ih => rw [acts, acts, h p (by simp), ih fun q hq => h q (List.mem_cons_of_mem _ hq)]
/-- An operation without a slot. -/
theorem acts_none {ps : List (Nat × Tmp × Value)} {f : Nat → Bool} {a : Act} (i : Nat) (h : (ps.map (·.1)).contains i = false) : acts ps (upd f i) a = acts ps f a := by
  refine acts_congr fun p hp => ?_
  have hne : p.1 ≠ i := by
    rintro rfl
    rw [List.contains_iff_mem.2 (List.mem_map_of_mem hp)] at h
    cases h
  simp [upd, hne]
theorem acts_put {ps : List (Nat × Tmp × Value)} {f : Nat → Bool} {a : Act} {t : Tmp} {v : Value} (h : (ps.map (·.2.1)).contains t = false) : acts ps f (a.put (some t) v) = (acts ps f a).put (some t) v := by
  induction ps generalizing a with
  | nil => rfl
  | cons p ps ih =>
    simp only [List.map_cons, List.contains_cons, Bool.or_eq_false_iff, beq_eq_false_iff_ne] at h
    rw [acts, acts, ← ih h.2]
    split
    · rw [Act.put_comm]
      intro d hd he
      cases hd; cases he
      exact h.1 rfl
    · rfl
/-- An operation with a slot. -/
theorem acts_some {ps : List (Nat × Tmp × Value)} {f : Nat → Bool} {a : Act} (k : Nat) {i : Nat} {t : Tmp} {v : Value} (hk : ps[k]? = some (i, t, v)) (hi : (((ps.take k) ++ (ps.drop (k + 1))).map (·.1)).contains i = false) (hu : ((ps.drop (k + 1)).map (·.2.1)).contains t = false) :
    acts ps (upd f i) a = (acts ps f a).put (some t) v := by
  induction ps generalizing a k with
  | nil => cases hk
  | cons p ps ih =>
    cases k with
    | zero =>
      simp only [List.getElem?_cons_zero, Option.some.injEq] at hk
      subst hk
      simp only [List.take_zero, List.nil_append, List.drop_succ_cons, List.drop_zero, Nat.zero_add] at hi hu
      rw [acts, acts, acts_none i hi, ← acts_put hu]
      have : upd f i i = true := by simp [upd]
      simp only [this, if_true]
      split
      · congr 1; simp [Act.put]
      · rfl
    | succ k =>
      simp only [List.take_succ_cons, List.cons_append, List.map_cons, List.contains_cons, Bool.or_eq_false_iff, beq_eq_false_iff_ne, List.drop_succ_cons] at hi
      rw [acts, acts]
      have : upd f i p.1 = f p.1 := by simp [upd, Ne.symm hi.1]
      rw [this]
      exact ih k (by simpa using hk) hi.2 (by simpa using hu)

section
variable {P : Program} {ops : Array Oper} {Q : Exit → Act → World → Prop}
theorem getD_setIn {l : Array Bool} {i j : Nat} (hi : i < l.size) : (l.setIfInBounds i true).getD j true = (Nat.beq j i || l.getD j true) := by
  by_cases h : i = j
  · subst h; simp [hi]
  · rw [getD_set_ne true h]; simp [show ¬ j = i from fun e => h e.symm]
theorem wpAny_inv {n : Nat} (hn : ops.size = n) {J : (Nat → Bool) → Act → World → Prop}
    (hs : ∀ i f a w, i < n → f i = false → (∀ o, ops[i]? = some o → ∀ e ∈ o.after, Region.binds .any e = true → f e.on = true) → J f a w → wpOp P ops Q i (J (upd f i)) a w)
    (hpre : ∀ i o, ops[i]? = some o → ∀ e ∈ o.after, Region.binds .any e = true → e.on < i)
    (he : ∀ a w, J (fun _ => true) a w → Q .normal a w) :
    ∀ (fuel : Nat) (l : Array Bool) (a : Act) (w : World), l.size = n → (l.toList.filter (!·)).length ≤ fuel → J (fun j => l.getD j true) a w → wpAny P .any ops Q fuel l a w := by
  have hdone : ∀ (l : Array Bool) a w, l.size = n → Region.ready .any ops l = [] → J (fun j => l.getD j true) a w → Q .normal a w := by
    intro l a w hl hr hJ
    have hall : ∀ k, ∀ j, j < k → l.getD j true = true := by
      intro k
      induction k with
      | zero => intro j hj; omega
      | succ k ih =>
        intro j hj
        by_cases hlt : j < k
        · exact ih j hlt
        have hjk : j = k := by omega
        subst hjk
        cases hf : l.getD j true with
        | true => rfl
        | false =>
          exfalso
          have hjn : j < n := by
            rcases Nat.lt_or_ge j n with h | h
            · exact h
            · rw [← hl] at h; simp [Array.getElem?_eq_none h] at hf
          have ho : ops[j]? = some (ops[j]'(by omega)) := Array.getElem?_eq_getElem _
          have : j ∈ Region.ready .any ops l := mem_ready.2 ⟨hf, _, ho, fun e he hb => by
            have h1 := ih e.on (hpre j _ ho e he hb)
            have h2 : e.on < l.size := by have := hpre j _ ho e he hb; omega
            simp [h2] at h1 ⊢; exact h1⟩
          rw [hr] at this
          cases this
    refine he a w ?_
    have : (fun j => l.getD j true) = fun _ => true := funext fun j => hall (j + 1) j (by omega)
    rw [← this]; exact hJ
  intro fuel
  induction fuel with
  | zero =>
    intro l a w hl hc hJ
    have hr : Region.ready .any ops l = [] := by
      rcases hr : Region.ready .any ops l with _ | ⟨i, is⟩
      · rfl
      · exfalso
        have hi : i ∈ Region.ready .any ops l := by rw [hr]; simp
        obtain ⟨h0, o, ho, _⟩ := mem_ready.1 hi
        have hin : i < l.size := by rw [hl, ← hn]; exact (Array.getElem?_eq_some_iff.1 ho).1
        have hm : false ∈ l.toList.filter (!·) := by
          rw [List.mem_filter]
          simp [hin] at h0
          exact ⟨by rw [← h0]; simp, rfl⟩
        have := List.length_pos_of_mem hm
        omega
    exact ⟨hr, hdone l a w hl hr hJ⟩
  | succ fuel ih =>
    intro l a w hl hc hJ
    refine ⟨fun hr => hdone l a w hl hr hJ, fun i hi => ?_⟩
    obtain ⟨h0, o, ho, hall⟩ := mem_ready.1 hi
    have hin : i < l.size := by rw [hl, ← hn]; exact (Array.getElem?_eq_some_iff.1 ho).1
    refine wpOp_mono (fun a' w' h' => ih (l.setIfInBounds i true) a' w' (by simpa using hl) ?_ ?_) (hs i _ a w (by omega) h0 (fun o' ho' e he hb => ?_) hJ)
    · have h1 : l[i] = false := by simpa [hin] using h0
      have h2 : (l.setIfInBounds i true).toList = l.toList.take i ++ true :: l.toList.drop (i + 1) := by
        simp [List.set_eq_take_append_cons_drop, hin]
      have h3 : l.toList = l.toList.take i ++ l[i] :: l.toList.drop (i + 1) := by
        conv => lhs; rw [← List.take_append_drop i l.toList, List.drop_eq_getElem_cons (by simpa using hin)]
        simp
      rw [h2]
      rw [h3] at hc
      simp only [List.filter_append, List.filter_cons, h1, Bool.not_false, if_true, List.length_append, List.length_cons, Bool.not_true, if_false, Bool.false_eq_true] at hc ⊢
      omega
    · have : (fun j => (l.setIfInBounds i true).getD j true) = upd (fun j => l.getD j true) i := funext fun j => getD_setIn hin
      rw [this]; exact h'
    · rw [ho] at ho'; cases ho'
      have h1 := hall e he hb
      have h2 : e.on < l.size := by
        rcases Nat.lt_or_ge e.on l.size with h | h
        · exact h
        · simp [Array.getElem?_eq_none h] at h1
      simp [h2] at h1 ⊢; exact h1
/-- One operation by itself, as the walks step it. -/
def asK (K : Act → World → Prop) (Q : Exit → Act → World → Prop) : Exit → Act → World → Prop
  | .normal, a, w => K a w
  | e, a, w => Q e a w
theorem wpOp_list {i : Nat} {o : Oper} {K : Act → World → Prop} {a : Act} {w : World} (ho : ops[i]? = some o) (h : wpList P ops (asK K Q) [o] a w) : wpOp P ops Q i K a w := by
  unfold wpOp
  simp only [ho]
  simp only [wpList] at h
  split at h
  · rename_i hw
    rw [if_pos hw]
    rcases h with h | ⟨h1, a', w', h2⟩
    · left
      unfold Oper.wp at *
      generalize (execOp a.eval o).run P w = r at *
      cases r with
      | ok n w' =>
        cases n <;> simp only [Oper.upon] at h ⊢
        case value u => exact h
        case skip => exact h
        case defer d => exact h
        case enter f args =>
          refine Calls.mono h fun e w'' he => ?_
          cases e with
          | returned u => exact he
          | panicked c => exact he
          | outgrown => obtain ⟨a', w', h⟩ := he; exact ⟨a', w', h⟩
        case row row args => exact h
      | halt x w' => cases x <;> simp only [Oper.upon] at h ⊢; exact h
    · exact .inr ⟨h1, a', w', h2⟩
  · rename_i hw
    rw [if_neg hw]
    exact h
theorem wpOp_run {i : Nat} {o : Oper} {K : Act → World → Prop} {a : Act} {w : World} {v : Value} (ho : ops[i]? = some o) (hg : o.guard = none) (hr : ∀ ρ, ρ = a.eval → (execOp ρ o).run P w = .ok (.value v) w) (h : K (a.put o.dst v) w) : wpOp P ops Q i K a w := by
  unfold wpOp
  simp only [ho]
  have hw : Region.wanted o (yielded ops a.tmps) = true := by unfold Region.wanted; rw [hg]
  rw [if_pos hw]
  left
  unfold Oper.wp
  rw [hr _ rfl]
  exact h
/-- A region that draws its order, over Sat: the frame is told by what each operation yields, the memory by rows. -/
theorem wp_region_sat {id : Nat} {a : Act} {w : World} {G : Gnd} (hm : P.follows .mixedOrders = true) (n : Nat) (hn : ops.size = n) (preds : List (List Nat)) (hp : predsOf ops = preds)
    (hpre : ((List.range n).all fun i => (preds.getD i []).all (Nat.blt · i)) = true)
    (ps : List (Nat × Tmp × Value)) (rows : (Nat → Bool) → List Asrt) (hps : (ps.all fun p => Nat.blt p.1 n) = true)
    (S : Sat G w (rows fun j => !Nat.blt j n))
    (hs : forAll (fun i => ∀ f W, f i = false → allDone f (preds.getD i []) → Sat G W (rows f) → wpOp P ops Q i (fun a' W' => a' = acts ps (upd f i) a ∧ Sat G W' (rows (upd f i))) (acts ps f a) W) (List.range n))
    (he : ∀ W, Sat G W (rows fun _ => true) → Q .normal (acts ps (fun _ => true) a) W) : (Code.region id ops true).wp P Q a w := by
  refine wp_region_any hm ?_
  have hpo : ∀ i o, ops[i]? = some o → ∀ e ∈ o.after, Region.binds .any e = true → e.on ∈ preds.getD i [] := by
    intro i o ho e he hb
    subst hp
    have : (predsOf ops).getD i [] = (o.after.toList.filter (Region.binds .any)).map (·.on) := by
      unfold predsOf
      have ho' : ops.toList[i]? = some o := by simpa using ho
      rw [List.getD_eq_getElem?_getD, List.getElem?_map, ho']
      rfl
    rw [this]
    exact List.mem_map_of_mem (List.mem_filter.2 ⟨by simpa using he, hb⟩)
  have hstart : ∀ j, (Array.replicate ops.size false).getD j true = !Nat.blt j n := by
    intro j
    by_cases h : j < n
    · have hb : Nat.blt j n = true := by simpa using h
      simp [hn, h, hb]
    · have hb : Nat.blt j n = false := by
        cases hb : Nat.blt j n with
        | false => rfl
        | true => exact absurd (by simpa using hb) h
      simp [hn, h, hb]
  refine wpAny_inv hn (J := fun f a' w' => a' = acts ps f a ∧ Sat G w' (rows f)) ?_ ?_ ?_ ops.size _ a _ (by simp [hn]) ?_ ?_
  · rintro i f a' w' hi hf hpr ⟨rfl, S'⟩
    refine forAll_mem hs i (List.mem_range.2 hi) f w' hf (allDone_of fun p hp' => ?_) S'
    have ho : ops[i]? = some (ops[i]'(by omega)) := Array.getElem?_eq_getElem _
    subst hp
    have : (predsOf ops).getD i [] = ((ops[i]'(by omega)).after.toList.filter (Region.binds .any)).map (·.on) := by
      unfold predsOf
      have ho' : ops.toList[i]? = some (ops[i]'(by omega)) := by simp
      rw [List.getD_eq_getElem?_getD, List.getElem?_map, ho']
      rfl
    rw [this] at hp'
    obtain ⟨e, hme, rfl⟩ := List.mem_map.1 hp'
    obtain ⟨hm1, hm2⟩ := List.mem_filter.1 hme
    exact hpr _ ho e (by simpa using hm1) hm2
  · intro i o ho e he hb
    have hi : i < n := by rw [← hn]; exact (Array.getElem?_eq_some_iff.1 ho).1
    rw [List.all_eq_true] at hpre
    have := hpre i (List.mem_range.2 hi)
    rw [List.all_eq_true] at this
    exact by simpa using this _ (hpo i o ho e he hb)
  · rintro a' w' ⟨rfl, S'⟩; exact he w' S'
  · refine Nat.le_trans (List.length_filter_le _ _) ?_
    simp
  · have hf : (fun j => (Array.replicate ops.size false).getD j true) = fun j => !Nat.blt j n := funext hstart
    rw [hf]
    refine ⟨?_, S.drew⟩
    have h0 : ∀ (ps : List (Nat × Tmp × Value)) (a : Act), (ps.all fun p => Nat.blt p.1 n) = true → acts ps (fun j => !Nat.blt j n) a = a := by
      intro ps
      induction ps with
      | nil => intro a _; rfl
      | cons p ps ih =>
        intro a h
        rw [List.all_cons, Bool.and_eq_true] at h
        simp only [acts, h.1, Bool.not_true, Bool.false_eq_true, if_false]
        exact ih a h.2
    exact (h0 ps a hps).symm
end
end Go.Proofs.Ytdfdcenbpanegaa

/- Chapter 14, plain: a registry beside the document's list of streams, call by call. No program in sight. -/
import Derived.Test.YtecnddhfjjnbkaaDoorRfr
set_option linter.unusedSimpArgs false
set_option linter.unusedVariables false
namespace Go.Proofs.YtecnddhfjjnbkaaDoor
open Go.RowKit

def absX (y : RSt) : Int × Int × Int := (y.id, y.t, rNum y.s)
def absF (ten : Int) (x : Ent) : Int × Int × Int := (x.id, ownT x.id ten, x.n)
def Sim (ten : Int) (F : List Ent) (X : List RSt) : Prop := X.map absX = F.map (absF ten) ∧ ∀ y ∈ X, y.s ∈ goods
def cntF (ten : Int) (F : List Ent) (t : Int) : Nat := (F.map fun x => ownT x.id ten).count t
def LInv (ten : Int) (F : List Ent) (L : List Int) : Prop := ∀ t, 0 ≤ t → t < ten → liveAt L t = (cntF ten F t : Int)
structure StM where
  F : List Ent
  L : List Int
  last : Int
  X : List RSt
def findX (X : List RSt) (id : Int) : Option Nat := X.findIdx? fun x => x.id == id
def stepX (X : List RSt) (id e : Int) : List RSt :=
  match findX X id with
  | none => X
  | some i => (match X[i]? with | none => X | some x => if 0 ≤ e ∧ e ≤ 8 then (roDo X i x e).1 else X)
def stepM (ten quo : Int) (s : StM) (o : OpD) : StM :=
  if o.k = 1 then ⟨(rOpen ten quo s.F s.L s.last o.n).F, (rOpen ten quo s.F s.L s.last o.n).L, (rOpen ten quo s.F s.L s.last o.n).last, if 0 ≤ o.n ∧ o.n ≤ 1073741823 then (roOpen s.X ten quo s.last o.n).1 else s.X⟩
  else if o.k = 2 then ⟨(gDo ten s.F s.L o.n o.e).F, (gDo ten s.F s.L o.n o.e).L, s.last, stepX s.X o.n o.e⟩
  else if o.k = 3 then ⟨[], List.replicate s.L.length 0, s.last, []⟩ else s
structure SInv (k : Nat) (ten quo : Int) (s : StM) : Prop where
  r : RInv k ten quo s.F s.L s.last
  sim : Sim ten s.F s.X
  live : LInv ten s.F s.L
  alive : ∀ x ∈ s.F, x.n ≠ 4
section
variable {k : Nat} {ten quo last : Int} {F : List Ent} {L : List Int} {X : List RSt}
theorem Sim.len (h : Sim ten F X) : X.length = F.length := by have := congrArg List.length h.1; simpa using this
theorem Sim.find (h : Sim ten F X) (id : Int) : findX X id = atE F id := by
  have h1 : (X.map absX).findIdx? (fun p => p.1 == id) = (F.map (absF ten)).findIdx? (fun p => p.1 == id) := by rw [h.1]
  rw [List.findIdx?_map, List.findIdx?_map] at h1
  exact h1
theorem Sim.get (h : Sim ten F X) {i : Nat} {x : Ent} (hx : F[i]? = some x) : ∃ y, X[i]? = some y ∧ y.id = x.id ∧ y.t = ownT x.id ten ∧ rNum y.s = x.n ∧ y.s ∈ goods := by
  have hi := (List.getElem?_eq_some_iff.1 hx).1
  have hy : ∃ y, X[i]? = some y := ⟨_, List.getElem?_eq_getElem (by rw [h.len]; exact hi)⟩
  obtain ⟨y, hy⟩ := hy
  have h1 := congrArg (fun l => l[i]?) h.1
  simp only [List.getElem?_map, hx, hy, Option.map_some, Option.some.injEq, absX, absF, Prod.mk.injEq] at h1
  exact ⟨y, hy, h1.1, h1.2.1, h1.2.2, h.2 y (List.mem_of_getElem? hy)⟩
theorem Sim.count (h : Sim ten F X) (t : Int) : countR X t = cntF ten F t := by
  unfold countR cntF
  have e1 : X.map (fun y => y.t) = F.map fun x => ownT x.id ten := by
    have := congrArg (List.map fun p : Int × Int × Int => p.2.1) h.1
    rw [List.map_map, List.map_map] at this
    exact this
  rw [← e1, ← List.countP_eq_length_filter, List.count, List.countP_map]
  rfl
theorem atE_get {id : Int} {i : Nat} (h : atE F id = some i) : ∃ x, F[i]? = some x ∧ x.id = id := by
  unfold atE at h
  obtain ⟨hi, hp, -⟩ := List.findIdx?_eq_some_iff_getElem.1 h
  exact ⟨F[i], List.getElem?_eq_getElem hi, beq_iff_eq.1 hp⟩
theorem cnt_snoc (F : List Ent) (x : Ent) (t : Int) : cntF ten (F ++ [x]) t = cntF ten F t + if ownT x.id ten = t then 1 else 0 := by
  unfold cntF
  rw [List.map_append, List.count_append, List.map_cons, List.map_nil, List.count_singleton]
  by_cases h : ownT x.id ten = t <;> simp [h]
theorem split_at {α : Type} {F : List α} {i : Nat} {x : α} (h : F[i]? = some x) : F = F.take i ++ x :: F.drop (i + 1) := by
  obtain ⟨hi, he⟩ := List.getElem?_eq_some_iff.1 h
  conv => lhs; rw [← List.take_append_drop i F, List.drop_eq_getElem_cons hi, he]
theorem cnt_gone {i : Nat} {x : Ent} (h : F[i]? = some x) (t : Int) : cntF ten F t = cntF ten (F.take i ++ F.drop (i + 1)) t + if ownT x.id ten = t then 1 else 0 := by
  conv => lhs; rw [split_at h]
  unfold cntF
  rw [List.map_append, List.map_cons, List.count_append, List.count_cons, List.map_append, List.count_append]
  by_cases e : ownT x.id ten = t <;> simp [e] <;> omega
theorem cnt_set {i : Nat} {x y : Ent} (h : F[i]? = some x) (hy : y.id = x.id) (t : Int) : cntF ten (F.set i y) t = cntF ten F t := by
  unfold cntF
  congr 1
  rw [List.map_set, hy]
  apply List.ext_getElem?
  intro j
  by_cases hj : j = i
  · subst hj
    rw [List.getElem?_set_self (by simpa using (List.getElem?_eq_some_iff.1 h).1), List.getElem?_map, h]; rfl
  · rw [List.getElem?_set_ne (by omega)]
theorem live_set {t s v : Int} (h0 : 0 ≤ s) (h1 : s < L.length) : liveAt (L.set s.toNat v) t = if s = t then v else liveAt L t := by
  by_cases h : s = t
  · subst h
    rw [if_pos rfl]
    unfold liveAt
    rw [if_pos h0, List.getD_eq_getElem?_getD, List.getElem?_set_self (by omega)]; rfl
  · rw [if_neg h]
    unfold liveAt
    split
    · rw [List.getD_eq_getElem?_getD, List.getElem?_set_ne (by omega), List.getD_eq_getElem?_getD]
    · rfl
theorem ownT_rng {id ten : Int} (h0 : 1 ≤ ten) : 0 ≤ ownT id ten ∧ ownT id ten < ten := by
  unfold ownT
  split
  · exact ⟨Int.emod_nonneg _ (by omega), Int.emod_lt_of_pos _ (by omega)⟩
  · omega
theorem ownT_tick {m : Int} (h0 : 0 ≤ m) (h1 : m ≤ 1073741823) (t0 : 1 ≤ ten) (t1 : ten ≤ 64) : ownT (2 * m + 1) ten = m % ten := by
  unfold ownT
  rw [show ownR (2 * m + 1) ten = true from decide_eq_true (by omega), if_pos rfl, show (2 * m + 1) / 2 = m by omega]
theorem newE_sim (id : Int) (t : Int) (h : t = ownT id ten) : absX (newR id t) = absF ten (newE id) := by
  subst h; rfl
/-- Open: both say the same. -/
theorem SInv.opn {s : StM} (h : SInv k ten quo s) (m : Int) (h0 : 0 ≤ m) (h1 : m ≤ 1073741823) :
    (rOpen ten quo s.F s.L s.last m).err = (roOpen s.X ten quo s.last m).2 ∧ (rOpen ten quo s.F s.L s.last m).id = (if (roOpen s.X ten quo s.last m).2 = 0 then 2 * m + 1 else 0) ∧ (rOpen ten quo s.F s.L s.last m).last = (if (roOpen s.X ten quo s.last m).2 = 0 then 2 * m + 1 else s.last) ∧
    Sim ten (rOpen ten quo s.F s.L s.last m).F (roOpen s.X ten quo s.last m).1 ∧ LInv ten (rOpen ten quo s.F s.L s.last m).F (rOpen ten quo s.F s.L s.last m).L ∧ (∀ x ∈ (rOpen ten quo s.F s.L s.last m).F, x.n ≠ 4) := by
  have hid : idOf m = 2 * m + 1 := if_pos ⟨h0, h1⟩
  have how : ownT (2 * m + 1) ten = m % ten := ownT_tick h0 h1 h.r.t0 h.r.t1
  have hr := ownT_rng (id := 2 * m + 1) h.r.t0
  have hcnt : liveAt s.L (m % ten) = (countR s.X (m % ten) : Int) := by rw [h.sim.count, ← how]; exact h.live _ hr.1 hr.2
  unfold rOpen roOpen
  rw [hid, if_neg (by omega), how, hcnt]
  by_cases c1 : 2 * m + 1 ≤ s.last
  · rw [if_pos c1, if_pos c1]
    exact ⟨rfl, (by simp), (by simp), h.sim, h.live, h.alive⟩
  rw [if_neg c1, if_neg c1]
  by_cases c2 : quo ≤ (countR s.X (m % ten) : Int)
  · rw [if_pos c2, if_pos c2]
    exact ⟨rfl, (by simp), (by simp), h.sim, h.live, h.alive⟩
  rw [if_neg c2, if_neg c2]
  refine ⟨rfl, by rw [if_pos rfl], by rw [if_pos rfl], ⟨?_, ?_⟩, ?_, ?_⟩
  · rw [List.map_append, List.map_append, h.sim.1, List.map_singleton, List.map_singleton, newE_sim _ _ how.symm]
  · intro y hy
    rcases List.mem_append.1 hy with hy | hy
    · exact h.sim.2 y hy
    · rw [List.mem_singleton] at hy; subst hy; show (⟨1, 1, 1, 0⟩ : R4) ∈ goods; decide
  · intro t t0 t1
    rw [cnt_snoc, show ownT (newE (2 * m + 1)).id ten = m % ten from how]
    rw [how] at hr
    rw [live_set hr.1 (by have := h.r.len; omega)]
    by_cases e : m % ten = t
    · rw [if_pos e, if_pos e, ← e, h.sim.count, e]; omega
    · rw [if_neg e, if_neg e]; simpa using h.live t t0 t1
  · intro x hx
    rcases List.mem_append.1 hx with hx | hx
    · exact h.alive x hx
    · rw [List.mem_singleton] at hx; subst hx; simp [newE]
theorem sim_parts {F : List Ent} {X : List RSt} (h : Sim ten F X) (i : Nat) (A : List Ent) (B : List RSt) (hab : Sim ten A B) : Sim ten (F.take i ++ A ++ F.drop (i + 1)) (X.take i ++ B ++ X.drop (i + 1)) := by
  refine ⟨?_, ?_⟩
  · simp only [List.map_append, List.map_take, List.map_drop, h.1, hab.1]
  · intro y hy
    rcases List.mem_append.1 hy with hy | hy
    · rcases List.mem_append.1 hy with hy | hy
      · exact h.2 y (List.mem_of_mem_take hy)
      · exact hab.2 y hy
    · exact h.2 y (List.mem_of_mem_drop hy)
theorem set_parts {α : Type} {F : List α} {i : Nat} {x : α} (h : F[i]? = some x) (y : α) : F.set i y = F.take i ++ [y] ++ F.drop (i + 1) := by
  rw [List.set_eq_take_append_cons_drop, if_pos (List.getElem?_eq_some_iff.1 h).1]
  simp
theorem gDo_some (hF : Rising F) {id : Int} {i : Nat} {x : Ent} (e : Int) (h : atE F id = some i) (hx : F[i]? = some x) : gDo ten F L id e = gDoAt ten F L i x e := by
  unfold gDo
  rw [h]
  simp only [hx]
theorem gDo_none {id : Int} (e : Int) (h : atE F id = none) : gDo ten F L id e = ⟨F, L, 14, 0, false⟩ := by
  unfold gDo
  rw [h]
/-- What an event leaves, of both. -/
theorem SInv.doS {s : StM} (h : SInv k ten quo s) (id e : Int) :
    Sim ten (gDo ten s.F s.L id e).F (stepX s.X id e) ∧ LInv ten (gDo ten s.F s.L id e).F (gDo ten s.F s.L id e).L ∧ (∀ x ∈ (gDo ten s.F s.L id e).F, x.n ≠ 4) := by
  have hfx := h.sim.find id
  cases ha : atE s.F id with
  | none =>
    rw [gDo_none e ha]
    have hs : stepX s.X id e = s.X := by unfold stepX; rw [hfx, ha]
    rw [hs]
    exact ⟨h.sim, h.live, h.alive⟩
  | some i =>
    obtain ⟨x, hx, rfl⟩ := atE_get ha
    obtain ⟨y, hy, y1, y2, y3, y4⟩ := h.sim.get hx
    rw [gDo_some h.r.rise e ha hx]
    have hs : stepX s.X x.id e = if 0 ≤ e ∧ e ≤ 8 then (roDo s.X i y e).1 else s.X := by
      unfold stepX
      rw [hfx, ha]
      simp only [hy]
    rw [hs]
    unfold gDoAt
    by_cases hr : 0 ≤ e ∧ e ≤ 8
    · rw [if_pos hr]
      obtain ⟨n, rfl⟩ : ∃ n : Nat, e = n := ⟨e.toNat, by omega⟩
      have hsm := same_of y.s y4 n (by omega)
      have hnum := hsm.num
      rw [y3] at hnum
      unfold roDo
      by_cases h4 : (pDo x.n n).n = 4
      · rw [if_pos h4, if_pos (by rw [← hnum]; exact h4)]
        simp only
        have hown := ownT_rng (id := x.id) h.r.t0
        refine ⟨?_, fun t t0 t1 => ?_, fun z hz => ?_⟩
        · have := sim_parts h.sim i [] [] ⟨rfl, fun y hy => by cases hy⟩
          simpa using this
        · have hc := cnt_gone (ten := ten) hx t
          have hl := h.live t t0 t1
          rw [live_set hown.1 (by have := h.r.len; omega)]
          by_cases e1 : ownT x.id ten = t
          · rw [if_pos e1, e1, hl]; rw [if_pos e1] at hc; omega
          · rw [if_neg e1, hl]; rw [if_neg e1] at hc; omega
        · rcases List.mem_append.1 hz with hz | hz
          · exact h.alive z (List.mem_of_mem_take hz)
          · exact h.alive z (List.mem_of_mem_drop hz)
      · rw [if_neg h4, if_neg (by rw [← hnum]; exact h4)]
        simp only
        refine ⟨?_, fun t t0 t1 => ?_, fun z hz => ?_⟩
        · rw [set_parts hx]
          refine sim_parts h.sim i _ _ ⟨?_, ?_⟩
          · simp only [List.map_cons, List.map_nil, absX, absF, entDo, y1, y2, hnum]
          · intro z hz; rw [List.mem_singleton] at hz; subst hz; exact hsm.good
        · rw [cnt_set hx (y := entDo x n) rfl]; exact h.live t t0 t1
        · rcases List.mem_or_eq_of_mem_set hz with hz | rfl
          · exact h.alive z hz
          · exact h4
    · rw [if_neg hr]
      have hfar := far x.n e (by omega)
      have hx4 := h.alive x (List.mem_of_getElem? hx)
      rw [if_neg (by rw [hfar]; exact hx4)]
      refine ⟨?_, fun t t0 t1 => ?_, fun z hz => ?_⟩
      · refine ⟨?_, h.sim.2⟩
        rw [h.sim.1]
        simp only
        rw [List.map_set]
        apply List.ext_getElem?
        intro j
        by_cases hj : j = i
        · subst hj
          rw [List.getElem?_set_self (by simpa using (List.getElem?_eq_some_iff.1 hx).1), List.getElem?_map, hx]
          simp [absF, entDo, hfar]
        · rw [List.getElem?_set_ne (by omega)]
      · simp only; rw [cnt_set hx (y := entDo x e) rfl]; exact h.live t t0 t1
      · rcases List.mem_or_eq_of_mem_set hz with hz | rfl
        · exact h.alive z hz
        · simp only [entDo, hfar]; exact hx4
theorem live_rep (n : Nat) (t : Int) : liveAt (List.replicate n 0) t = 0 := by
  unfold liveAt
  split
  · rw [List.getD_eq_getElem?_getD, List.getElem?_replicate]; split <;> rfl
  · rfl
theorem SInv.mono {s : StM} {j : Nat} (h : SInv k ten quo s) (hk : k ≤ j) : SInv j ten quo s := ⟨h.r.mono hk, h.sim, h.live, h.alive⟩
theorem SInv.step {s : StM} (h : SInv k ten quo s) (o : OpD) : SInv (k + 1) ten quo (stepM ten quo s o) := by
  unfold stepM
  split
  · by_cases hr : 0 ≤ o.n ∧ o.n ≤ 1073741823
    · rw [if_pos hr]
      obtain ⟨-, -, -, h4, h5, h6⟩ := h.opn o.n hr.1 hr.2
      exact ⟨h.r.opn o.n, h4, h5, h6⟩
    · rw [if_neg hr]
      have e : rOpen ten quo s.F s.L s.last o.n = ⟨s.F, s.L, s.last, 0, 11⟩ := if_pos (if_neg hr)
      rw [e]
      exact h.mono (by omega)
  · split
    · obtain ⟨h4, h5, h6⟩ := h.doS o.n o.e
      exact ⟨h.r.doI o.n o.e, h4, h5, h6⟩
    · split
      · refine ⟨⟨h.r.t0, h.r.t1, h.r.q0, h.r.q1, by simpa using h.r.len, by simp, fun x hx => by obtain ⟨-, rfl⟩ := List.mem_replicate.1 hx; omega, h.r.last0, List.Pairwise.nil, (fun x hx => by cases hx), (fun x hx => by cases hx), (fun x hx => by cases hx)⟩, ⟨rfl, fun y hy => by cases hy⟩, fun t t0 t1 => ?_, fun x hx => by cases hx⟩
        simp only
        rw [live_rep]; rfl
      · exact h.mono (by omega)
theorem SInv.new {t : Nat} (h : rRight t quo = true) : SInv 0 t quo ⟨[], List.replicate t 0, 0, []⟩ :=
  ⟨RInv.new h, ⟨rfl, fun y hy => by cases hy⟩, fun s s0 s1 => by simp only; rw [live_rep]; rfl, fun x hx => by cases hx⟩
end
end Go.Proofs.YtecnddhfjjnbkaaDoor

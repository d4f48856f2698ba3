/- A small logic of memory: 'Sat G w l': the world w bears the ground G (memory that nobody turns any more), and beside it, apart from each other, what each of the list l says. No program in sight. -/
import Derived.Below
import Derived.Laws.AppendOwn
set_option linter.unusedVariables false
namespace Go.Proofs.Ytdfdcenbpanegaa
open Go.RowKit

/-- A part of memory: block numbers and what they hold. -/
abbrev Hp := Nat → Option Obj
/-- What nobody turns any more: blocks, and the streams. -/
structure Gnd where
  ro : Hp
  os : Os
  tape : Nat → Question → Nat
  output : Array (Nat × ByteArray)
  low : Nat
structure Gnd.le (G G' : Gnd) : Prop where
  ro : ∀ k o, G.ro k = some o → G'.ro k = some o
  os : G'.os = G.os
  tape : G'.tape = G.tape
  output : G'.output = G.output
  low : G'.low = G.low
theorem Gnd.le.rfl' {G : Gnd} : G.le G := ⟨fun _ _ h => h, rfl, rfl, rfl, rfl⟩
theorem Gnd.le.trans {G G' G'' : Gnd} (h : G.le G') (k : G'.le G'') : G.le G'' := ⟨fun a o e => k.ro a o (h.ro a o e), k.os.trans h.os, k.tape.trans h.tape, k.output.trans h.output, k.low.trans h.low⟩
def Gnd.of (w : World) : Gnd := ⟨fun k => w.heap[k]?, w.os, w.tape, w.output, w.heap.size⟩

/-- An assertion on a part of memory, over what nobody turns. -/
structure Asrt where
  p : Hp → Hp → Prop
  mono : ∀ {R R' h}, (∀ k o, R k = some o → R' k = some o) → p R h → p R' h

def Apart (a b : Hp) : Prop := ∀ k, a k = none ∨ b k = none
def Hp.or (a b : Hp) : Hp := fun k => (a k).or (b k)
theorem Apart.symm {a b : Hp} (h : Apart a b) : Apart b a := fun k => (h k).symm

def sepAll : List Asrt → Hp → Hp → Prop
  | [], _, _ => True
  | A :: l, R, h => ∃ h1 h2, Apart h1 h2 ∧ (∀ k o, h1 k = some o → h k = some o) ∧ (∀ k o, h2 k = some o → h k = some o) ∧ A.p R h1 ∧ sepAll l R h2

theorem sepAll_up {l : List Asrt} : ∀ {R h h'}, (∀ k o, h k = some o → h' k = some o) → sepAll l R h → sepAll l R h' := by
  cases l with
  | nil => intros; trivial
  | cons A l =>
    rintro R h h' hh ⟨h1, h2, ha, e1, e2, hA, hl⟩
    exact ⟨h1, h2, ha, fun k o e => hh k o (e1 k o e), fun k o e => hh k o (e2 k o e), hA, hl⟩
theorem sepAll_mono {l : List Asrt} : ∀ {R R' h}, (∀ k o, R k = some o → R' k = some o) → sepAll l R h → sepAll l R' h := by
  induction l with
  | nil => intros; trivial
  | cons A l ih =>
    rintro R R' h hR ⟨h1, h2, ha, e1, e2, hA, hl⟩
    exact ⟨h1, h2, ha, e1, e2, A.mono hR hA, ih hR hl⟩
theorem sepAll_swap {A B : Asrt} {l : List Asrt} {R h : Hp} (H : sepAll (A :: B :: l) R h) : sepAll (B :: A :: l) R h := by
  obtain ⟨h1, h2, ha, e1, e2, hA, h3, h4, hb, e3, e4, hB, hl⟩ := H
  have d13 : Apart h1 h3 := fun k => by
    rcases ha k with h | h
    · exact .inl h
    · cases e : h3 k with
      | none => exact .inr rfl
      | some o => have := e3 k o e; rw [h] at this; cases this
  have d14 : Apart h1 h4 := fun k => by
    rcases ha k with h | h
    · exact .inl h
    · cases e : h4 k with
      | none => exact .inr rfl
      | some o => have := e4 k o e; rw [h] at this; cases this
  refine ⟨h3, Hp.or h1 h4, fun k => ?_, fun k o e => e2 k o (e3 k o e), fun k o e => ?_, hB, h1, h4, d14, fun k o e => ?_, fun k o e => ?_, hA, hl⟩
  · rcases d13 k with h | h
    · rcases hb k with h' | h'
      · exact .inl h'
      · exact .inr (by simp [Hp.or, h, h'])
    · exact .inl h
  · simp only [Hp.or, Option.or_eq_some_iff] at e
    rcases e with e | ⟨_, e⟩
    · exact e1 k o e
    · exact e2 k o (e4 k o e)
  · simp [Hp.or, e]
  · rcases d14 k with h | h
    · simp [Hp.or, h, e]
    · rw [h] at e; cases e
theorem sepAll_drop {A : Asrt} {l : List Asrt} {R h : Hp} (H : sepAll (A :: l) R h) : sepAll l R h := by
  obtain ⟨h1, h2, _, _, e2, _, hl⟩ := H
  exact sepAll_up e2 hl
theorem sepAll_tail {A : Asrt} {l l' : List Asrt} {R : Hp} (hs : ∀ h, sepAll l R h → sepAll l' R h) {h : Hp} (H : sepAll (A :: l) R h) : sepAll (A :: l') R h := by
  obtain ⟨h1, h2, ha, e1, e2, hA, hl⟩ := H
  exact ⟨h1, h2, ha, e1, e2, hA, hs _ hl⟩

/-- THE STATE: the ground G lies in w, nobody has turned it; beside it, apart from it and from each other, the assertions of l. -/
structure Sat (G : Gnd) (w : World) (l : List Asrt) : Prop where
  os : w.os = G.os
  tape : w.tape = G.tape
  output : w.output = G.output
  low : G.low ≤ w.heap.size
  ro : ∀ k o, G.ro k = some o → w.heap[k]? = some o
  own : ∃ h : Hp, Apart G.ro h ∧ (∀ k o, h k = some o → w.heap[k]? = some o) ∧ sepAll l G.ro h

theorem Sat.start (w : World) : Sat (Gnd.of w) w [] := ⟨rfl, rfl, rfl, Nat.le_refl _, fun _ _ h => h, fun _ => none, fun _ => .inr rfl, (fun _ _ h => by cases h), trivial⟩
section
variable {G G' : Gnd} {w w' : World} {A B C D : Asrt} {l : List Asrt}
theorem Sat.map {l l' : List Asrt} (hs : ∀ h, sepAll l G.ro h → sepAll l' G.ro h) (H : Sat G w l) : Sat G w l' := by
  obtain ⟨a, b, c, lo, d, h, e, f, g⟩ := H
  exact ⟨a, b, c, lo, d, h, e, f, hs _ g⟩
theorem Sat.drop (H : Sat G w (A :: l)) : Sat G w l := H.map fun _ => sepAll_drop
theorem Sat.swap (H : Sat G w (A :: B :: l)) : Sat G w (B :: A :: l) := H.map fun _ => sepAll_swap
theorem Sat.pull2 (H : Sat G w (A :: B :: C :: l)) : Sat G w (C :: A :: B :: l) := H.map fun _ h => sepAll_swap (sepAll_tail (fun _ => sepAll_swap) h)
theorem Sat.push2 (H : Sat G w (A :: B :: C :: l)) : Sat G w (B :: C :: A :: l) := H.map fun _ h => sepAll_tail (fun _ => sepAll_swap) (sepAll_swap h)
theorem Sat.pull3 (H : Sat G w (A :: B :: C :: D :: l)) : Sat G w (D :: A :: B :: C :: l) :=
  H.map fun _ h => sepAll_swap (sepAll_tail (fun _ h => sepAll_swap (sepAll_tail (fun _ => sepAll_swap) h)) h)
theorem Sat.push3 (H : Sat G w (A :: B :: C :: D :: l)) : Sat G w (B :: C :: D :: A :: l) :=
  H.map fun _ h => sepAll_tail (fun _ h => sepAll_tail (fun _ => sepAll_swap) (sepAll_swap h)) (sepAll_swap h)
theorem Sat.drop2 (H : Sat G w (A :: B :: l)) : Sat G w (A :: l) := H.swap.drop
theorem Sat.conv {A' : Asrt} (hA : ∀ h, A.p G.ro h → A'.p G.ro h) (H : Sat G w (A :: l)) : Sat G w (A' :: l) :=
  Sat.map (l := A :: l) (l' := A' :: l) (fun _ ⟨h1, h2, ha, e1, e2, p, q⟩ => ⟨h1, h2, ha, e1, e2, hA _ p, q⟩) H
theorem Sat.le0 (H : Sat G w l) : (Gnd.of w).os = G.os := H.os

/-! ### connectives -/
/-- A pure fact. -/
def pur (φ : Prop) : Asrt := ⟨fun _ _ => φ, fun _ h => h⟩
/-- A fact on the ground alone. -/
def gnd (f : Hp → Prop) (hf : ∀ {R R'}, (∀ k o, R k = some o → R' k = some o) → f R → f R') : Asrt := ⟨fun R _ => f R, hf⟩
def ex {α : Type} (F : α → Asrt) : Asrt := ⟨fun R h => ∃ x, (F x).p R h, fun hR ⟨x, hx⟩ => ⟨x, (F x).mono hR hx⟩⟩
def star (l : List Asrt) : Asrt := ⟨fun R h => sepAll l R h, fun hR h => sepAll_mono hR h⟩
theorem Sat.pur_iff {φ : Prop} : Sat G w (pur φ :: l) ↔ φ ∧ Sat G w l := by
  constructor
  · intro H
    refine ⟨?_, H.drop⟩
    obtain ⟨_, _, _, _, _, h, _, _, h1, h2, _, _, _, p, _⟩ := H
    exact p
  · rintro ⟨hφ, H⟩
    exact H.map fun h hs => ⟨fun _ => none, h, fun _ => .inl rfl, (fun _ _ e => by cases e), (fun _ _ e => e), hφ, hs⟩
theorem Sat.gnd_iff {f : Hp → Prop} {hf} : Sat G w (gnd f hf :: l) ↔ f G.ro ∧ Sat G w l := by
  constructor
  · intro H
    refine ⟨?_, H.drop⟩
    obtain ⟨_, _, _, _, _, h, _, _, h1, h2, _, _, _, p, _⟩ := H
    exact p
  · rintro ⟨hφ, H⟩
    exact H.map fun h hs => ⟨fun _ => none, h, fun _ => .inl rfl, (fun _ _ e => by cases e), (fun _ _ e => e), hφ, hs⟩
theorem Sat.ex_iff {α : Type} {F : α → Asrt} : Sat G w (ex F :: l) ↔ ∃ x, Sat G w (F x :: l) := by
  constructor
  · rintro ⟨a, b, c, lo, d, h, e, f, h1, h2, ha, e1, e2, ⟨x, p⟩, q⟩
    exact ⟨x, a, b, c, lo, d, h, e, f, h1, h2, ha, e1, e2, p, q⟩
  · rintro ⟨x, a, b, c, lo, d, h, e, f, h1, h2, ha, e1, e2, p, q⟩
    exact ⟨a, b, c, lo, d, h, e, f, h1, h2, ha, e1, e2, ⟨x, p⟩, q⟩
theorem sepAll_append {l l' : List Asrt} {R : Hp} : ∀ {h}, sepAll (l ++ l') R h ↔ ∃ h1 h2, Apart h1 h2 ∧ (∀ k o, h1 k = some o → h k = some o) ∧ (∀ k o, h2 k = some o → h k = some o) ∧ sepAll l R h1 ∧ sepAll l' R h2 := by
  induction l with
  | nil =>
    intro h
    constructor
    · intro H
      exact ⟨fun _ => none, h, fun _ => .inl rfl, (fun _ _ e => by cases e), (fun _ _ e => e), trivial, H⟩
    · rintro ⟨h1, h2, _, _, e2, _, H⟩
      exact sepAll_up e2 H
  | cons A l ih =>
    intro h
    constructor
    · rintro ⟨h1, h2, ha, e1, e2, hA, hl⟩
      obtain ⟨h3, h4, hb, e3, e4, p, q⟩ := ih.1 hl
      have d14 : Apart h1 h4 := fun k => by
        rcases ha k with h | h
        · exact .inl h
        · cases e : h4 k with
          | none => exact .inr rfl
          | some o => have := e4 k o e; rw [h] at this; cases this
      have d13 : Apart h1 h3 := fun k => by
        rcases ha k with h | h
        · exact .inl h
        · cases e : h3 k with
          | none => exact .inr rfl
          | some o => have := e3 k o e; rw [h] at this; cases this
      refine ⟨Hp.or h1 h3, h4, fun k => ?_, fun k o e => ?_, fun k o e => e2 k o (e4 k o e), ⟨h1, h3, d13, fun k o e => by simp [Hp.or, e], fun k o e => ?_, hA, p⟩, q⟩
      · rcases d14 k with h | h
        · rcases hb k with h' | h'
          · exact .inl (by simp [Hp.or, h, h'])
          · exact .inr h'
        · exact .inr h
      · simp only [Hp.or, Option.or_eq_some_iff] at e
        rcases e with e | ⟨_, e⟩
        · exact e1 k o e
        · exact e2 k o (e3 k o e)
      · rcases d13 k with h | h
        · simp [Hp.or, h, e]
        · rw [h] at e; cases e
    · rintro ⟨h1, h2, ha, e1, e2, ⟨h3, h4, hb, e3, e4, hA, hl⟩, q⟩
      have d32 : Apart h3 h2 := fun k => by
        rcases ha k with h | h
        · cases e : h3 k with
          | none => exact .inl rfl
          | some o => have := e3 k o e; rw [h] at this; cases this
        · exact .inr h
      have d42 : Apart h4 h2 := fun k => by
        rcases ha k with h | h
        · cases e : h4 k with
          | none => exact .inl rfl
          | some o => have := e4 k o e; rw [h] at this; cases this
        · exact .inr h
      refine ⟨h3, Hp.or h4 h2, fun k => ?_, fun k o e => e1 k o (e3 k o e), fun k o e => ?_, hA, ih.2 ⟨h4, h2, d42, fun k o e => by simp [Hp.or, e], fun k o e => ?_, hl, q⟩⟩
      · rcases d32 k with h | h
        · exact .inl h
        · rcases hb k with h' | h'
          · exact .inl h'
          · exact .inr (by simp [Hp.or, h, h'])
      · simp only [Hp.or, Option.or_eq_some_iff] at e
        rcases e with e | ⟨_, e⟩
        · exact e1 k o (e4 k o e)
        · exact e2 k o e
      · rcases d42 k with h | h
        · simp [Hp.or, h, e]
        · rw [h] at e; cases e
theorem Sat.star_iff {l' : List Asrt} : Sat G w (star l' :: l) ↔ Sat G w (l' ++ l) := by
  constructor
  · exact Sat.map (l := star l' :: l) (l' := l' ++ l) (fun h hs => sepAll_append.2 hs)
  · exact Sat.map (l := l' ++ l) (l' := star l' :: l) (fun h hs => sepAll_append.1 hs)

/-! ### blocks -/
/-- This block is mine, and holds these cells. -/
def blk (b : Nat) (c : Array Value) (t : TypeId) : Asrt := ⟨fun _ h => h b = some (.cells c t (0, 0)), fun _ h => h⟩
/-- This block is mine, and holds this object. -/
def obj (b : Nat) (o : Obj) : Asrt := ⟨fun _ h => h b = some o, fun _ h => h⟩
theorem Sat.obj_at {b : Nat} {o : Obj} (H : Sat G w (obj b o :: l)) : w.heap[b]? = some o := by
  obtain ⟨_, _, _, _, _, h, _, f, h1, h2, _, e1, _, p, _⟩ := H
  exact f _ _ (e1 _ _ p)
theorem Sat.blk_at {b : Nat} {c : Array Value} {t : TypeId} (H : Sat G w (blk b c t :: l)) : w.heap[b]? = some (.cells c t (0, 0)) := by
  obtain ⟨_, _, _, _, _, h, _, f, h1, h2, _, e1, _, p, _⟩ := H
  exact f _ _ (e1 _ _ p)
theorem Sat.blk_lt {b : Nat} {c : Array Value} {t : TypeId} (H : Sat G w (blk b c t :: l)) : b < w.heap.size := (Array.getElem?_eq_some_iff.1 H.blk_at).1
theorem cell_of_block {w : World} {b : Nat} {c : Array Value} {t : TypeId} {fr : Nat × Nat} (h : w.heap[b]? = some (.cells c t fr)) (j : Nat) : w.cell? ⟨b, j, none⟩ = c[j]? := by simp [World.cell?, h]
theorem frozen_of_block {w : World} {b : Nat} {c : Array Value} {t : TypeId} (h : w.heap[b]? = some (.cells c t (0, 0))) (j : Nat) : w.frozen? ⟨b, j, none⟩ = false := by simp [World.frozen?, h]
theorem Sat.cell {b : Nat} {c : Array Value} {t : TypeId} (H : Sat G w (blk b c t :: l)) (j : Nat) : w.cell? ⟨b, j, none⟩ = c[j]? := cell_of_block H.blk_at j
theorem Sat.frozen {b : Nat} {c : Array Value} {t : TypeId} (H : Sat G w (blk b c t :: l)) (j : Nat) : w.frozen? ⟨b, j, none⟩ = false := frozen_of_block H.blk_at j
/-- Nothing that lay there has turned, but for block b, if it was mine: it holds something else now. -/
theorem Sat.turn {b : Nat} {o o' : Obj} (H : Sat G w (obj b o :: l)) (hos : w'.os = w.os) (ht : w'.tape = w.tape) (hout : w'.output = w.output) (hsz : w.heap.size ≤ w'.heap.size)
    (hk : ∀ k, k < w.heap.size → k ≠ b → w'.heap[k]? = w.heap[k]?) (hb : w'.heap[b]? = some o') : Sat G w' (obj b o' :: l) := by
  obtain ⟨a, b', c, lo, d, h, e, f, h1, h2, ha, e1, e2, p, q⟩ := H
  have hne : ∀ k o, G.ro k = some o → k ≠ b := by
    rintro k o ek rfl
    rcases e k with e | e
    · rw [e] at ek; cases ek
    · have := e1 _ _ p; rw [e] at this; cases this
  have hlt : ∀ k o, w.heap[k]? = some o → k < w.heap.size := fun k o ek => (Array.getElem?_eq_some_iff.1 ek).1
  have h2b : h2 b = none := by
    rcases ha b with h | h
    · have : h1 b = some o := p
      rw [h] at this; cases this
    · exact h
  refine ⟨hos.trans a, ht.trans b', hout.trans c, Nat.le_trans lo hsz, fun k o ek => ?_, Hp.or (fun k => if k = b then some o' else none) h2, fun k => ?_, fun k o ek => ?_, (fun k => if k = b then some o' else none), h2, fun k => ?_, fun k o ek => ?_, fun k o ek => ?_, by simp [obj], q⟩
  · rw [hk k (hlt k o (d k o ek)) (hne k o ek)]; exact d k o ek
  · cases eg : G.ro k with
    | none => exact .inl rfl
    | some o =>
      refine .inr ?_
      have hkb := hne k o eg
      have hk2 : h2 k = none := by
        cases e2' : h2 k with
        | none => rfl
        | some o2 =>
          have := e2 k o2 e2'
          rcases e k with e | e
          · rw [e] at eg; cases eg
          · rw [e] at this; cases this
      simp [Hp.or, hkb, hk2]
  · simp only [Hp.or, Option.or_eq_some_iff] at ek
    rcases ek with ek | ⟨_, ek⟩
    · split at ek
      · rename_i hkb; subst hkb; injection ek with ek; subst ek; exact hb
      · cases ek
    · have hw := f k o (e2 k o ek)
      have hkb : k ≠ b := by rintro rfl; rw [h2b] at ek; cases ek
      rw [hk k (hlt k o hw) hkb]; exact hw
  · by_cases hkb : k = b
    · subst hkb; exact .inr h2b
    · exact .inl (by simp [hkb])
  · simp only [Hp.or, ek, Option.some_or]
  · by_cases hkb : k = b
    · subst hkb; rw [h2b] at ek; cases ek
    · simp [Hp.or, hkb, ek]
theorem Sat.blk_iff {b : Nat} {c : Array Value} {t : TypeId} : Sat G w (blk b c t :: l) ↔ Sat G w (obj b (.cells c t (0, 0)) :: l) := Iff.rfl
/-- Nothing that lay there has turned. -/
theorem Sat.below (H : Sat G w l) (hb : Below w.heap.size w w') : Sat G w' l := by
  obtain ⟨a, b', c, lo, d, h, e, f, q⟩ := H
  have hlt : ∀ k o, w.heap[k]? = some o → k < w.heap.size := fun k o ek => (Array.getElem?_eq_some_iff.1 ek).1
  exact ⟨hb.os.trans a, hb.tape.trans b', hb.output.trans c, Nat.le_trans lo hb.size, fun k o ek => by rw [hb.block k (hlt k o (d k o ek))]; exact d k o ek, h, e, fun k o ek => by rw [hb.block k (hlt k o (f k o ek))]; exact f k o ek, q⟩
theorem Sat.drew (H : Sat G w l) : Sat G w.drew l := H.below ((Below.refl _ _).drew)
theorem Sat.alloc (H : Sat G w l) (o : Obj) : Sat G (w.alloc o) l := H.below ((Below.refl _ _).alloc (Nat.le_refl _) o)
theorem Sat.setCell {b : Nat} {c : Array Value} {t : TypeId} (H : Sat G w (blk b c t :: l)) (j : Nat) (v : Value) : Sat G (w.setCell ⟨b, j, none⟩ v) (blk b (c.setIfInBounds j v) t :: l) := by
  refine H.turn (o' := .cells (c.setIfInBounds j v) t (0, 0)) rfl rfl rfl (by simp [World.setCell]) (fun k _ hk => ?_) ?_
  · exact Below.heap_setCell _ _ _ _ (by simpa using hk)
  · have := H.blk_at
    simp [World.setCell, Array.getElem?_modify, this]
theorem Sat.setRow' {b : Nat} {c : Array Value} {t : TypeId} (H : Sat G w (blk b c t :: l)) (cs : Array Value) (hw : w'.heap = w.heap.modify b fun
      | .cells _ elem frozen => .cells cs elem frozen
      | o => o) (h1 : w'.os = w.os) (h2 : w'.tape = w.tape) (h3 : w'.output = w.output) : Sat G w' (blk b cs t :: l) := by
  refine H.turn (o' := .cells cs t (0, 0)) h1 h2 h3 (by simp [hw]) (fun k _ hk => ?_) ?_
  · rw [hw, Array.getElem?_modify, if_neg (by omega)]
  · have := H.blk_at
    simp [hw, Array.getElem?_modify, this]
/-- A new block is mine. -/
theorem Sat.new (H : Sat G w l) (o : Obj) : Sat G (w.alloc o) (obj w.heap.size o :: l) := by
  obtain ⟨a, b', c, lo, d, h, e, f, q⟩ := H
  have hlt : ∀ k o, w.heap[k]? = some o → k < w.heap.size := fun k o ek => (Array.getElem?_eq_some_iff.1 ek).1
  have hnew : (w.alloc o).heap[w.heap.size]? = some o := by
    show (w.heap.push o)[w.heap.size]? = some o
    simp
  have hold : ∀ k o', w.heap[k]? = some o' → (w.alloc o).heap[k]? = some o' := fun k o' ek => by rw [Below.heap_alloc _ _ _ (hlt k o' ek)]; exact ek
  have hn : h w.heap.size = none := by
    cases en : h w.heap.size with
    | none => rfl
    | some o' => have := hlt _ _ (f _ _ en); omega
  have hr : G.ro w.heap.size = none := by
    cases en : G.ro w.heap.size with
    | none => rfl
    | some o' => have := hlt _ _ (d _ _ en); omega
  refine ⟨a, b', c, Nat.le_trans lo (by simp), fun k o' ek => hold k o' (d k o' ek), Hp.or (fun k => if k = w.heap.size then some o else none) h, fun k => ?_, fun k o' ek => ?_, (fun k => if k = w.heap.size then some o else none), h, fun k => ?_, fun k o' ek => ?_, fun k o' ek => ?_, by simp [obj], q⟩
  · by_cases hk : k = w.heap.size
    · subst hk; exact .inl hr
    · rcases e k with e | e
      · exact .inl e
      · exact .inr (by simp [Hp.or, hk, e])
  · simp only [Hp.or, Option.or_eq_some_iff] at ek
    rcases ek with ek | ⟨_, ek⟩
    · split at ek
      · rename_i hk; subst hk; injection ek with ek; subst ek; exact hnew
      · cases ek
    · exact hold k o' (f k o' ek)
  · by_cases hk : k = w.heap.size
    · subst hk; exact .inr hn
    · exact .inl (by simp [hk])
  · simp only [Hp.or, ek, Option.some_or]
  · by_cases hk : k = w.heap.size
    · subst hk; rw [hn] at ek; cases ek
    · simp [Hp.or, hk, ek]
theorem Sat.newBlk (H : Sat G w l) (c : Array Value) (t : TypeId) : Sat G (w.alloc (.cells c t)) (blk w.heap.size c t :: l) := H.new _
/-- A block that was mine, and that nobody will turn any more, goes into the ground. -/
theorem Sat.freeze {b : Nat} {o : Obj} (H : Sat G w (obj b o :: l)) : ∃ G', G.le G' ∧ G'.ro b = some o ∧ Sat G' w l := by
  obtain ⟨a, b', c, lo, d, h, e, f, h1, h2, ha, e1, e2, p, q⟩ := H
  have hRb : G.ro b = none := by
    rcases e b with e | e
    · exact e
    · have := e1 _ _ p; rw [e] at this; cases this
  have h2b : h2 b = none := by
    rcases ha b with h | h
    · have : h1 b = some o := p
      rw [h] at this; cases this
    · exact h
  refine ⟨{ G with ro := fun k => if k = b then some o else G.ro k }, ⟨fun k o' ek => ?_, rfl, rfl, rfl, rfl⟩, by simp, a, b', c, lo, fun k o' ek => ?_, h2, fun k => ?_, fun k o' ek => f k o' (e2 k o' ek), sepAll_mono (fun k o' ek => ?_) q⟩
  · have hkb : k ≠ b := by rintro rfl; rw [hRb] at ek; cases ek
    simp [hkb, ek]
  · simp only at ek
    split at ek
    · rename_i hk; subst hk; injection ek with ek; subst ek; exact f _ _ (e1 _ _ p)
    · exact d k o' ek
  · by_cases hkb : k = b
    · subst hkb; exact .inr h2b
    · rcases e k with e | e
      · exact .inl (by simp [hkb, e])
      · refine .inr ?_
        cases e2' : h2 k with
        | none => rfl
        | some o2 => have := e2 k o2 e2'; rw [e] at this; cases this
  · have hkb : k ≠ b := by rintro rfl; rw [hRb] at ek; cases ek
    simp [hkb, ek]
/-- A block that somebody else has made since. -/
theorem Sat.claim {b : Nat} {o : Obj} (H : Sat G w l) (hb : Below w.heap.size w w') (hn : w.heap.size ≤ b) (ho : w'.heap[b]? = some o) : Sat G w' (obj b o :: l) := by
  obtain ⟨a, b', c, lo, d, h, e, f, q⟩ := H
  have hlt : ∀ k o, w.heap[k]? = some o → k < w.heap.size := fun k o ek => (Array.getElem?_eq_some_iff.1 ek).1
  have hold : ∀ k o', w.heap[k]? = some o' → w'.heap[k]? = some o' := fun k o' ek => by rw [hb.block k (hlt k o' ek)]; exact ek
  have hnone : ∀ {g : Hp}, (∀ k o, g k = some o → w.heap[k]? = some o) → g b = none := fun {g} hg => by
    cases en : g b with
    | none => rfl
    | some o' => have := hlt _ _ (hg _ _ en); omega
  have hh := hnone f
  have hr := hnone d
  refine ⟨hb.os.trans a, hb.tape.trans b', hb.output.trans c, Nat.le_trans lo hb.size, fun k o' ek => hold k o' (d k o' ek), Hp.or (fun k => if k = b then some o else none) h, fun k => ?_, fun k o' ek => ?_, (fun k => if k = b then some o else none), h, fun k => ?_, fun k o' ek => ?_, fun k o' ek => ?_, by simp [obj], q⟩
  · by_cases hk : k = b
    · subst hk; exact .inl hr
    · rcases e k with e | e
      · exact .inl e
      · exact .inr (by simp [Hp.or, hk, e])
  · simp only [Hp.or, Option.or_eq_some_iff] at ek
    rcases ek with ek | ⟨_, ek⟩
    · split at ek
      · rename_i hk; subst hk; injection ek with ek; subst ek; exact ho
      · cases ek
    · exact hold k o' (f k o' ek)
  · by_cases hk : k = b
    · subst hk; exact .inr hh
    · exact .inl (by simp [hk])
  · simp only [Hp.or, ek, Option.some_or]
  · by_cases hk : k = b
    · subst hk; rw [hh] at ek; cases ek
    · simp [Hp.or, hk, ek]
/-- What the law asks at its end: nothing that lay there as it began has turned. -/
theorem Sat.above {w0 : World} (hG : (Gnd.of w0).le G) (H : Sat G w l) : Below w0.heap.size w0 w :=
  ⟨H.os.trans hG.os, H.tape.trans hG.tape, H.output.trans hG.output, by have := H.low; rw [hG.low] at this; exact this, fun k hk => by
    obtain ⟨o, ho⟩ : ∃ o, w0.heap[k]? = some o := ⟨_, Array.getElem?_eq_getElem hk⟩
    rw [ho]; exact H.ro k o (hG.ro k o ho)⟩
end
end Go.Proofs.Ytdfdcenbpanegaa

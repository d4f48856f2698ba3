/- A small logic of memory: 'Sat G w l': the world w bears the ground G (memory that nobody turns any more), and beside it, apart from each other, what each of the list l says. No program in sight. Small words for walks: an end that the walk does not look into; a cell written with what it holds. What came in: kinds of values (whole numbers, bools, strings, slices, structs and arrays of them), what is read of them out of a part of memory, and that whatever a row's reading reads is so read. The k-th assertion to the front, and back. A slice of one's own, that grows by append. A region that draws its order: shown once for each operation, whatever came up before it. A region that draws its order: any invariant; calls within it; guarded operations. Words for regions that draw: assertions that hold once a thing is done; the frame as a letter; guards. Fields of a block of one's own: a store of one cell, of several in the midst; a load of several in the midst; elements that are handed to append. Slices of one's own, element by element: an element is a row of cells; an element is written; the slice is cut; what is behind it is cleared. The assertions in another order, told by their numbers. make of a slice: its elements are all the empty one. A guard that does not let its operation run. A range over a function, over assertions: what an iterator owes, what a loop over it owes. A region that draws its order, in a round of a range over a function. The walks over octet's functions on numbers. The walks over the references of chapter 1. The walks over octet.In. Bytes that stand somewhere: in blocks, in slices of one's own, in arguments. The walks over slices.Concat of bytes, and bytes.Equal. append of bytes, where what was there is looked at again. -/
import Derived.Below
import Derived.Laws.AppendOwn
import Derived.Test.YtcecfhfbcdbofaaGreatDoorProg
import Derived.WalkKit
import Derived.Lib.Hide
import Derived.ProofKit
import Derived.SizedLaws
import Derived.OpenShut
import Derived.ChangeOld
import Derived.Maps.AppendAt
import Derived.OwnWalk
import Derived.Deep.MidRow
import Derived.Deep.RegionHeld
import Derived.Laws.MakeOwn
import Derived.RangeFuncNested
import Derived.RangeFuncBound
import Derived.RangeFuncCalls
import Derived.RangeFuncLeaves
import Derived.OrdersIn
import Derived.IntWalk
import Derived.Laws.BitsAllLaws
import Derived.Deep.OwnRows
import Derived.Laws.BytesString
import Derived.Laws.BytesArg
import Derived.Laws.Cells
import Derived.Laws.Cover3
import Derived.Deep.Cut
import Derived.Lib.SlBytesConst
import Derived.Laws.AppendOwnNone
import Derived.Lib.AppendZeros
set_option linter.unusedVariables false
namespace Go.Proofs.YtcecfhfbcdbofaaGreatDoor
open Go.RowKit

/-- A part of memory: block numbers and what they hold. -/
abbrev Hp := Nat → Option Obj
/-- What nobody turns any more: blocks, and the streams. -/
structure Gnd where
  ro : Hp
  os : Os
  tape : Nat → Question → Nat
  output : Array (Nat × ByteArray)
  low : Nat
structure Gnd.le (G G' : Gnd) : Prop where
  ro : ∀ k o, G.ro k = some o → G'.ro k = some o
  os : G'.os = G.os
  tape : G'.tape = G.tape
  output : G'.output = G.output
  low : G'.low = G.low
theorem Gnd.le.rfl' {G : Gnd} : G.le G := ⟨fun _ _ h => h, rfl, rfl, rfl, rfl⟩
theorem Gnd.le.trans {G G' G'' : Gnd} (h : G.le G') (k : G'.le G'') : G.le G'' := ⟨fun a o e => k.ro a o (h.ro a o e), k.os.trans h.os, k.tape.trans h.tape, k.output.trans h.output, k.low.trans h.low⟩
def Gnd.of (w : World) : Gnd := ⟨fun k => w.heap[k]?, w.os, w.tape, w.output, w.heap.size⟩

/-- An assertion on a part of memory, over what nobody turns. -/
structure Asrt where
  p : Hp → Hp → Prop
  mono : ∀ {R R' h}, (∀ k o, R k = some o → R' k = some o) → p R h → p R' h

def Apart (a b : Hp) : Prop := ∀ k, a k = none ∨ b k = none
def Hp.or (a b : Hp) : Hp := fun k => (a k).or (b k)
theorem Apart.symm {a b : Hp} (h : Apart a b) : Apart b a := fun k => (h k).symm

def sepAll : List Asrt → Hp → Hp → Prop
  | [], _, _ => True
  | A :: l, R, h => ∃ h1 h2, Apart h1 h2 ∧ (∀ k o, h1 k = some o → h k = some o) ∧ (∀ k o, h2 k = some o → h k = some o) ∧ A.p R h1 ∧ sepAll l R h2

theorem sepAll_up {l : List Asrt} : ∀ {R h h'}, (∀ k o, h k = some o → h' k = some o) → sepAll l R h → sepAll l R h' := by
  cases l with
  | nil => intros; trivial
  | cons A l =>
    rintro R h h' hh ⟨h1, h2, ha, e1, e2, hA, hl⟩
    exact ⟨h1, h2, ha, fun k o e => hh k o (e1 k o e), fun k o e => hh k o (e2 k o e), hA, hl⟩
theorem sepAll_mono {l : List Asrt} : ∀ {R R' h}, (∀ k o, R k = some o → R' k = some o) → sepAll l R h → sepAll l R' h := by
  induction l with
  | nil => intros; trivial
  | cons A l ih =>
    rintro R R' h hR ⟨h1, h2, ha, e1, e2, hA, hl⟩
    exact ⟨h1, h2, ha, e1, e2, A.mono hR hA, ih hR hl⟩
theorem sepAll_swap {A B : Asrt} {l : List Asrt} {R h : Hp} (H : sepAll (A :: B :: l) R h) : sepAll (B :: A :: l) R h := by
  obtain ⟨h1, h2, ha, e1, e2, hA, h3, h4, hb, e3, e4, hB, hl⟩ := H
  have d13 : Apart h1 h3 := fun k => by
    rcases ha k with h | h
    · exact .inl h
    · cases e : h3 k with
      | none => exact .inr rfl
      | some o => have := e3 k o e; rw [h] at this; cases this
  have d14 : Apart h1 h4 := fun k => by
    rcases ha k with h | h
    · exact .inl h
    · cases e : h4 k with
      | none => exact .inr rfl
      | some o => have := e4 k o e; rw [h] at this; cases this
  refine ⟨h3, Hp.or h1 h4, fun k => ?_, fun k o e => e2 k o (e3 k o e), fun k o e => ?_, hB, h1, h4, d14, fun k o e => ?_, fun k o e => ?_, hA, hl⟩
  · rcases d13 k with h | h
    · rcases hb k with h' | h'
      · exact .inl h'
      · exact .inr (by simp [Hp.or, h, h'])
    · exact .inl h
  · simp only [Hp.or, Option.or_eq_some_iff] at e
    rcases e with e | ⟨_, e⟩
    · exact e1 k o e
    · exact e2 k o (e4 k o e)
  · simp [Hp.or, e]
  · rcases d14 k with h | h
    · simp [Hp.or, h, e]
    · rw [h] at e; cases e
theorem sepAll_drop {A : Asrt} {l : List Asrt} {R h : Hp} (H : sepAll (A :: l) R h) : sepAll l R h := by
  obtain ⟨h1, h2, _, _, e2, _, hl⟩ := H
  exact sepAll_up e2 hl
theorem sepAll_tail {A : Asrt} {l l' : List Asrt} {R : Hp} (hs : ∀ h, sepAll l R h → sepAll l' R h) {h : Hp} (H : sepAll (A :: l) R h) : sepAll (A :: l') R h := by
  obtain ⟨h1, h2, ha, e1, e2, hA, hl⟩ := H
  exact ⟨h1, h2, ha, e1, e2, hA, hs _ hl⟩

/-- THE STATE: the ground G lies in w, nobody has turned it; beside it, apart from it and from each other, the assertions of l. -/
structure Sat (G : Gnd) (w : World) (l : List Asrt) : Prop where
  os : w.os = G.os
  tape : w.tape = G.tape
  output : w.output = G.output
  low : G.low ≤ w.heap.size
  ro : ∀ k o, G.ro k = some o → w.heap[k]? = some o
  own : ∃ h : Hp, Apart G.ro h ∧ (∀ k o, h k = some o → w.heap[k]? = some o) ∧ sepAll l G.ro h

theorem Sat.start (w : World) : Sat (Gnd.of w) w [] := ⟨rfl, rfl, rfl, Nat.le_refl _, fun _ _ h => h, fun _ => none, fun _ => .inr rfl, (fun _ _ h => by cases h), trivial⟩
section
variable {G G' : Gnd} {w w' : World} {A B C D : Asrt} {l : List Asrt}
theorem Sat.map {l l' : List Asrt} (hs : ∀ h, sepAll l G.ro h → sepAll l' G.ro h) (H : Sat G w l) : Sat G w l' := by
  obtain ⟨a, b, c, lo, d, h, e, f, g⟩ := H
  exact ⟨a, b, c, lo, d, h, e, f, hs _ g⟩
theorem Sat.drop (H : Sat G w (A :: l)) : Sat G w l := H.map fun _ => sepAll_drop
theorem Sat.swap (H : Sat G w (A :: B :: l)) : Sat G w (B :: A :: l) := H.map fun _ => sepAll_swap
theorem Sat.pull2 (H : Sat G w (A :: B :: C :: l)) : Sat G w (C :: A :: B :: l) := H.map fun _ h => sepAll_swap (sepAll_tail (fun _ => sepAll_swap) h)
theorem Sat.push2 (H : Sat G w (A :: B :: C :: l)) : Sat G w (B :: C :: A :: l) := H.map fun _ h => sepAll_tail (fun _ => sepAll_swap) (sepAll_swap h)
theorem Sat.pull3 (H : Sat G w (A :: B :: C :: D :: l)) : Sat G w (D :: A :: B :: C :: l) :=
  H.map fun _ h => sepAll_swap (sepAll_tail (fun _ h => sepAll_swap (sepAll_tail (fun _ => sepAll_swap) h)) h)
theorem Sat.push3 (H : Sat G w (A :: B :: C :: D :: l)) : Sat G w (B :: C :: D :: A :: l) :=
  H.map fun _ h => sepAll_tail (fun _ h => sepAll_tail (fun _ => sepAll_swap) (sepAll_swap h)) (sepAll_swap h)
theorem Sat.drop2 (H : Sat G w (A :: B :: l)) : Sat G w (A :: l) := H.swap.drop
theorem Sat.conv {A' : Asrt} (hA : ∀ h, A.p G.ro h → A'.p G.ro h) (H : Sat G w (A :: l)) : Sat G w (A' :: l) :=
  Sat.map (l := A :: l) (l' := A' :: l) (fun _ ⟨h1, h2, ha, e1, e2, p, q⟩ => ⟨h1, h2, ha, e1, e2, hA _ p, q⟩) H
theorem Sat.le0 (H : Sat G w l) : (Gnd.of w).os = G.os := H.os

/-! ### connectives -/
/-- A pure fact. -/
def pur (φ : Prop) : Asrt := ⟨fun _ _ => φ, fun _ h => h⟩
/-- A fact on the ground alone. -/
def gnd (f : Hp → Prop) (hf : ∀ {R R'}, (∀ k o, R k = some o → R' k = some o) → f R → f R') : Asrt := ⟨fun R _ => f R, hf⟩
def ex {α : Type} (F : α → Asrt) : Asrt := ⟨fun R h => ∃ x, (F x).p R h, fun hR ⟨x, hx⟩ => ⟨x, (F x).mono hR hx⟩⟩
def star (l : List Asrt) : Asrt := ⟨fun R h => sepAll l R h, fun hR h => sepAll_mono hR h⟩
theorem Sat.pur_iff {φ : Prop} : Sat G w (pur φ :: l) ↔ φ ∧ Sat G w l := by
  constructor
  · intro H
    refine ⟨?_, H.drop⟩
    obtain ⟨_, _, _, _, _, h, _, _, h1, h2, _, _, _, p, _⟩ := H
    exact p
  · rintro ⟨hφ, H⟩
    exact H.map fun h hs => ⟨fun _ => none, h, fun _ => .inl rfl, (fun _ _ e => by cases e), (fun _ _ e => e), hφ, hs⟩
theorem Sat.gnd_iff {f : Hp → Prop} {hf} : Sat G w (gnd f hf :: l) ↔ f G.ro ∧ Sat G w l := by
  constructor
  · intro H
    refine ⟨?_, H.drop⟩
    obtain ⟨_, _, _, _, _, h, _, _, h1, h2, _, _, _, p, _⟩ := H
    exact p
  · rintro ⟨hφ, H⟩
    exact H.map fun h hs => ⟨fun _ => none, h, fun _ => .inl rfl, (fun _ _ e => by cases e), (fun _ _ e => e), hφ, hs⟩
theorem Sat.ex_iff {α : Type} {F : α → Asrt} : Sat G w (ex F :: l) ↔ ∃ x, Sat G w (F x :: l) := by
  constructor
  · rintro ⟨a, b, c, lo, d, h, e, f, h1, h2, ha, e1, e2, ⟨x, p⟩, q⟩
    exact ⟨x, a, b, c, lo, d, h, e, f, h1, h2, ha, e1, e2, p, q⟩
  · rintro ⟨x, a, b, c, lo, d, h, e, f, h1, h2, ha, e1, e2, p, q⟩
    exact ⟨a, b, c, lo, d, h, e, f, h1, h2, ha, e1, e2, ⟨x, p⟩, q⟩
theorem sepAll_append {l l' : List Asrt} {R : Hp} : ∀ {h}, sepAll (l ++ l') R h ↔ ∃ h1 h2, Apart h1 h2 ∧ (∀ k o, h1 k = some o → h k = some o) ∧ (∀ k o, h2 k = some o → h k = some o) ∧ sepAll l R h1 ∧ sepAll l' R h2 := by
  induction l with
  | nil =>
    intro h
    constructor
    · intro H
      exact ⟨fun _ => none, h, fun _ => .inl rfl, (fun _ _ e => by cases e), (fun _ _ e => e), trivial, H⟩
    · rintro ⟨h1, h2, _, _, e2, _, H⟩
      exact sepAll_up e2 H
  | cons A l ih =>
    intro h
    constructor
    · rintro ⟨h1, h2, ha, e1, e2, hA, hl⟩
      obtain ⟨h3, h4, hb, e3, e4, p, q⟩ := ih.1 hl
      have d14 : Apart h1 h4 := fun k => by
        rcases ha k with h | h
        · exact .inl h
        · cases e : h4 k with
          | none => exact .inr rfl
          | some o => have := e4 k o e; rw [h] at this; cases this
      have d13 : Apart h1 h3 := fun k => by
        rcases ha k with h | h
        · exact .inl h
        · cases e : h3 k with
          | none => exact .inr rfl
          | some o => have := e3 k o e; rw [h] at this; cases this
      refine ⟨Hp.or h1 h3, h4, fun k => ?_, fun k o e => ?_, fun k o e => e2 k o (e4 k o e), ⟨h1, h3, d13, fun k o e => by simp [Hp.or, e], fun k o e => ?_, hA, p⟩, q⟩
      · rcases d14 k with h | h
        · rcases hb k with h' | h'
          · exact .inl (by simp [Hp.or, h, h'])
          · exact .inr h'
        · exact .inr h
      · simp only [Hp.or, Option.or_eq_some_iff] at e
        rcases e with e | ⟨_, e⟩
        · exact e1 k o e
        · exact e2 k o (e3 k o e)
      · rcases d13 k with h | h
        · simp [Hp.or, h, e]
        · rw [h] at e; cases e
    · rintro ⟨h1, h2, ha, e1, e2, ⟨h3, h4, hb, e3, e4, hA, hl⟩, q⟩
      have d32 : Apart h3 h2 := fun k => by
        rcases ha k with h | h
        · cases e : h3 k with
          | none => exact .inl rfl
          | some o => have := e3 k o e; rw [h] at this; cases this
        · exact .inr h
      have d42 : Apart h4 h2 := fun k => by
        rcases ha k with h | h
        · cases e : h4 k with
          | none => exact .inl rfl
          | some o => have := e4 k o e; rw [h] at this; cases this
        · exact .inr h
      refine ⟨h3, Hp.or h4 h2, fun k => ?_, fun k o e => e1 k o (e3 k o e), fun k o e => ?_, hA, ih.2 ⟨h4, h2, d42, fun k o e => by simp [Hp.or, e], fun k o e => ?_, hl, q⟩⟩
      · rcases d32 k with h | h
        · exact .inl h
        · rcases hb k with h' | h'
          · exact .inl h'
          · exact .inr (by simp [Hp.or, h, h'])
      · simp only [Hp.or, Option.or_eq_some_iff] at e
        rcases e with e | ⟨_, e⟩
        · exact e1 k o (e4 k o e)
        · exact e2 k o e
      · rcases d42 k with h | h
        · simp [Hp.or, h, e]
        · rw [h] at e; cases e
theorem Sat.star_iff {l' : List Asrt} : Sat G w (star l' :: l) ↔ Sat G w (l' ++ l) := by
  constructor
  · exact Sat.map (l := star l' :: l) (l' := l' ++ l) (fun h hs => sepAll_append.2 hs)
  · exact Sat.map (l := l' ++ l) (l' := star l' :: l) (fun h hs => sepAll_append.1 hs)

/-! ### blocks -/
/-- This block is mine, and holds these cells. -/
def blk (b : Nat) (c : Array Value) (t : TypeId) : Asrt := ⟨fun _ h => h b = some (.cells c t (0, 0)), fun _ h => h⟩
/-- This block is mine, and holds this object. -/
def obj (b : Nat) (o : Obj) : Asrt := ⟨fun _ h => h b = some o, fun _ h => h⟩
theorem Sat.obj_at {b : Nat} {o : Obj} (H : Sat G w (obj b o :: l)) : w.heap[b]? = some o := by
  obtain ⟨_, _, _, _, _, h, _, f, h1, h2, _, e1, _, p, _⟩ := H
  exact f _ _ (e1 _ _ p)
theorem Sat.blk_at {b : Nat} {c : Array Value} {t : TypeId} (H : Sat G w (blk b c t :: l)) : w.heap[b]? = some (.cells c t (0, 0)) := by
  obtain ⟨_, _, _, _, _, h, _, f, h1, h2, _, e1, _, p, _⟩ := H
  exact f _ _ (e1 _ _ p)
theorem Sat.blk_lt {b : Nat} {c : Array Value} {t : TypeId} (H : Sat G w (blk b c t :: l)) : b < w.heap.size := (Array.getElem?_eq_some_iff.1 H.blk_at).1
theorem cell_of_block {w : World} {b : Nat} {c : Array Value} {t : TypeId} {fr : Nat × Nat} (h : w.heap[b]? = some (.cells c t fr)) (j : Nat) : w.cell? ⟨b, j, none⟩ = c[j]? := by simp [World.cell?, h]
theorem frozen_of_block {w : World} {b : Nat} {c : Array Value} {t : TypeId} (h : w.heap[b]? = some (.cells c t (0, 0))) (j : Nat) : w.frozen? ⟨b, j, none⟩ = false := by simp [World.frozen?, h]
theorem Sat.cell {b : Nat} {c : Array Value} {t : TypeId} (H : Sat G w (blk b c t :: l)) (j : Nat) : w.cell? ⟨b, j, none⟩ = c[j]? := cell_of_block H.blk_at j
theorem Sat.frozen {b : Nat} {c : Array Value} {t : TypeId} (H : Sat G w (blk b c t :: l)) (j : Nat) : w.frozen? ⟨b, j, none⟩ = false := frozen_of_block H.blk_at j
/-- Nothing that lay there has turned, but for block b, if it was mine: it holds something else now. -/
theorem Sat.turn {b : Nat} {o o' : Obj} (H : Sat G w (obj b o :: l)) (hos : w'.os = w.os) (ht : w'.tape = w.tape) (hout : w'.output = w.output) (hsz : w.heap.size ≤ w'.heap.size)
    (hk : ∀ k, k < w.heap.size → k ≠ b → w'.heap[k]? = w.heap[k]?) (hb : w'.heap[b]? = some o') : Sat G w' (obj b o' :: l) := by
  obtain ⟨a, b', c, lo, d, h, e, f, h1, h2, ha, e1, e2, p, q⟩ := H
  have hne : ∀ k o, G.ro k = some o → k ≠ b := by
    rintro k o ek rfl
    rcases e k with e | e
    · rw [e] at ek; cases ek
    · have := e1 _ _ p; rw [e] at this; cases this
  have hlt : ∀ k o, w.heap[k]? = some o → k < w.heap.size := fun k o ek => (Array.getElem?_eq_some_iff.1 ek).1
  have h2b : h2 b = none := by
    rcases ha b with h | h
    · have : h1 b = some o := p
      rw [h] at this; cases this
    · exact h
  refine ⟨hos.trans a, ht.trans b', hout.trans c, Nat.le_trans lo hsz, fun k o ek => ?_, Hp.or (fun k => if k = b then some o' else none) h2, fun k => ?_, fun k o ek => ?_, (fun k => if k = b then some o' else none), h2, fun k => ?_, fun k o ek => ?_, fun k o ek => ?_, by simp [obj], q⟩
  · rw [hk k (hlt k o (d k o ek)) (hne k o ek)]; exact d k o ek
  · cases eg : G.ro k with
    | none => exact .inl rfl
    | some o =>
      refine .inr ?_
      have hkb := hne k o eg
      have hk2 : h2 k = none := by
        cases e2' : h2 k with
        | none => rfl
        | some o2 =>
          have := e2 k o2 e2'
          rcases e k with e | e
          · rw [e] at eg; cases eg
          · rw [e] at this; cases this
      simp [Hp.or, hkb, hk2]
  · simp only [Hp.or, Option.or_eq_some_iff] at ek
    rcases ek with ek | ⟨_, ek⟩
    · split at ek
      · rename_i hkb; subst hkb; injection ek with ek; subst ek; exact hb
      · cases ek
    · have hw := f k o (e2 k o ek)
      have hkb : k ≠ b := by rintro rfl; rw [h2b] at ek; cases ek
      rw [hk k (hlt k o hw) hkb]; exact hw
  · by_cases hkb : k = b
    · subst hkb; exact .inr h2b
    · exact .inl (by simp [hkb])
  · simp only [Hp.or, ek, Option.some_or]
  · by_cases hkb : k = b
    · subst hkb; rw [h2b] at ek; cases ek
    · simp [Hp.or, hkb, ek]
theorem Sat.blk_iff {b : Nat} {c : Array Value} {t : TypeId} : Sat G w (blk b c t :: l) ↔ Sat G w (obj b (.cells c t (0, 0)) :: l) := Iff.rfl
/-- Nothing that lay there has turned. -/
theorem Sat.below (H : Sat G w l) (hb : Below w.heap.size w w') : Sat G w' l := by
  obtain ⟨a, b', c, lo, d, h, e, f, q⟩ := H
  have hlt : ∀ k o, w.heap[k]? = some o → k < w.heap.size := fun k o ek => (Array.getElem?_eq_some_iff.1 ek).1
  exact ⟨hb.os.trans a, hb.tape.trans b', hb.output.trans c, Nat.le_trans lo hb.size, fun k o ek => by rw [hb.block k (hlt k o (d k o ek))]; exact d k o ek, h, e, fun k o ek => by rw [hb.block k (hlt k o (f k o ek))]; exact f k o ek, q⟩
theorem Sat.drew (H : Sat G w l) : Sat G w.drew l := H.below ((Below.refl _ _).drew)
theorem Sat.alloc (H : Sat G w l) (o : Obj) : Sat G (w.alloc o) l := H.below ((Below.refl _ _).alloc (Nat.le_refl _) o)
theorem Sat.setCell {b : Nat} {c : Array Value} {t : TypeId} (H : Sat G w (blk b c t :: l)) (j : Nat) (v : Value) : Sat G (w.setCell ⟨b, j, none⟩ v) (blk b (c.setIfInBounds j v) t :: l) := by
  refine H.turn (o' := .cells (c.setIfInBounds j v) t (0, 0)) rfl rfl rfl (by simp [World.setCell]) (fun k _ hk => ?_) ?_
  · exact Below.heap_setCell _ _ _ _ (by simpa using hk)
  · have := H.blk_at
    simp [World.setCell, Array.getElem?_modify, this]
theorem Sat.setRow' {b : Nat} {c : Array Value} {t : TypeId} (H : Sat G w (blk b c t :: l)) (cs : Array Value) (hw : w'.heap = w.heap.modify b fun
      | .cells _ elem frozen => .cells cs elem frozen
      | o => o) (h1 : w'.os = w.os) (h2 : w'.tape = w.tape) (h3 : w'.output = w.output) : Sat G w' (blk b cs t :: l) := by
  refine H.turn (o' := .cells cs t (0, 0)) h1 h2 h3 (by simp [hw]) (fun k _ hk => ?_) ?_
  · rw [hw, Array.getElem?_modify, if_neg (by omega)]
  · have := H.blk_at
    simp [hw, Array.getElem?_modify, this]
/-- A new block is mine. -/
theorem Sat.new (H : Sat G w l) (o : Obj) : Sat G (w.alloc o) (obj w.heap.size o :: l) := by
  obtain ⟨a, b', c, lo, d, h, e, f, q⟩ := H
  have hlt : ∀ k o, w.heap[k]? = some o → k < w.heap.size := fun k o ek => (Array.getElem?_eq_some_iff.1 ek).1
  have hnew : (w.alloc o).heap[w.heap.size]? = some o := by
    show (w.heap.push o)[w.heap.size]? = some o
    simp
  have hold : ∀ k o', w.heap[k]? = some o' → (w.alloc o).heap[k]? = some o' := fun k o' ek => by rw [Below.heap_alloc _ _ _ (hlt k o' ek)]; exact ek
  have hn : h w.heap.size = none := by
    cases en : h w.heap.size with
    | none => rfl
    | some o' => have := hlt _ _ (f _ _ en); omega
  have hr : G.ro w.heap.size = none := by
    cases en : G.ro w.heap.size with
    | none => rfl
    | some o' => have := hlt _ _ (d _ _ en); omega
  refine ⟨a, b', c, Nat.le_trans lo (by simp), fun k o' ek => hold k o' (d k o' ek), Hp.or (fun k => if k = w.heap.size then some o else none) h, fun k => ?_, fun k o' ek => ?_, (fun k => if k = w.heap.size then some o else none), h, fun k => ?_, fun k o' ek => ?_, fun k o' ek => ?_, by simp [obj], q⟩
  · by_cases hk : k = w.heap.size
    · subst hk; exact .inl hr
    · rcases e k with e | e
      · exact .inl e
      · exact .inr (by simp [Hp.or, hk, e])
  · simp only [Hp.or, Option.or_eq_some_iff] at ek
    rcases ek with ek | ⟨_, ek⟩
    · split at ek
      · rename_i hk; subst hk; injection ek with ek; subst ek; exact hnew
      · cases ek
    · exact hold k o' (f k o' ek)
  · by_cases hk : k = w.heap.size
    · subst hk; exact .inr hn
    · exact .inl (by simp [hk])
  · simp only [Hp.or, ek, Option.some_or]
  · by_cases hk : k = w.heap.size
    · subst hk; rw [hn] at ek; cases ek
    · simp [Hp.or, hk, ek]
theorem Sat.newBlk (H : Sat G w l) (c : Array Value) (t : TypeId) : Sat G (w.alloc (.cells c t)) (blk w.heap.size c t :: l) := H.new _
/-- A block that was mine, and that nobody will turn any more, goes into the ground. -/
theorem Sat.freeze {b : Nat} {o : Obj} (H : Sat G w (obj b o :: l)) : ∃ G', G.le G' ∧ G'.ro b = some o ∧ Sat G' w l := by
  obtain ⟨a, b', c, lo, d, h, e, f, h1, h2, ha, e1, e2, p, q⟩ := H
  have hRb : G.ro b = none := by
    rcases e b with e | e
    · exact e
    · have := e1 _ _ p; rw [e] at this; cases this
  have h2b : h2 b = none := by
    rcases ha b with h | h
    · have : h1 b = some o := p
      rw [h] at this; cases this
    · exact h
  refine ⟨{ G with ro := fun k => if k = b then some o else G.ro k }, ⟨fun k o' ek => ?_, rfl, rfl, rfl, rfl⟩, by simp, a, b', c, lo, fun k o' ek => ?_, h2, fun k => ?_, fun k o' ek => f k o' (e2 k o' ek), sepAll_mono (fun k o' ek => ?_) q⟩
  · have hkb : k ≠ b := by rintro rfl; rw [hRb] at ek; cases ek
    simp [hkb, ek]
  · simp only at ek
    split at ek
    · rename_i hk; subst hk; injection ek with ek; subst ek; exact f _ _ (e1 _ _ p)
    · exact d k o' ek
  · by_cases hkb : k = b
    · subst hkb; exact .inr h2b
    · rcases e k with e | e
      · exact .inl (by simp [hkb, e])
      · refine .inr ?_
        cases e2' : h2 k with
        | none => rfl
        | some o2 => have := e2 k o2 e2'; rw [e] at this; cases this
  · have hkb : k ≠ b := by rintro rfl; rw [hRb] at ek; cases ek
    simp [hkb, ek]
/-- A block that somebody else has made since. -/
theorem Sat.claim {b : Nat} {o : Obj} (H : Sat G w l) (hb : Below w.heap.size w w') (hn : w.heap.size ≤ b) (ho : w'.heap[b]? = some o) : Sat G w' (obj b o :: l) := by
  obtain ⟨a, b', c, lo, d, h, e, f, q⟩ := H
  have hlt : ∀ k o, w.heap[k]? = some o → k < w.heap.size := fun k o ek => (Array.getElem?_eq_some_iff.1 ek).1
  have hold : ∀ k o', w.heap[k]? = some o' → w'.heap[k]? = some o' := fun k o' ek => by rw [hb.block k (hlt k o' ek)]; exact ek
  have hnone : ∀ {g : Hp}, (∀ k o, g k = some o → w.heap[k]? = some o) → g b = none := fun {g} hg => by
    cases en : g b with
    | none => rfl
    | some o' => have := hlt _ _ (hg _ _ en); omega
  have hh := hnone f
  have hr := hnone d
  refine ⟨hb.os.trans a, hb.tape.trans b', hb.output.trans c, Nat.le_trans lo hb.size, fun k o' ek => hold k o' (d k o' ek), Hp.or (fun k => if k = b then some o else none) h, fun k => ?_, fun k o' ek => ?_, (fun k => if k = b then some o else none), h, fun k => ?_, fun k o' ek => ?_, fun k o' ek => ?_, by simp [obj], q⟩
  · by_cases hk : k = b
    · subst hk; exact .inl hr
    · rcases e k with e | e
      · exact .inl e
      · exact .inr (by simp [Hp.or, hk, e])
  · simp only [Hp.or, Option.or_eq_some_iff] at ek
    rcases ek with ek | ⟨_, ek⟩
    · split at ek
      · rename_i hk; subst hk; injection ek with ek; subst ek; exact ho
      · cases ek
    · exact hold k o' (f k o' ek)
  · by_cases hk : k = b
    · subst hk; exact .inr hh
    · exact .inl (by simp [hk])
  · simp only [Hp.or, ek, Option.some_or]
  · by_cases hk : k = b
    · subst hk; rw [hh] at ek; cases ek
    · simp [Hp.or, hk, ek]
/-- What the law asks at its end: nothing that lay there as it began has turned. -/
theorem Sat.above {w0 : World} (hG : (Gnd.of w0).le G) (H : Sat G w l) : Below w0.heap.size w0 w :=
  ⟨H.os.trans hG.os, H.tape.trans hG.tape, H.output.trans hG.output, by have := H.low; rw [hG.low] at this; exact this, fun k hk => by
    obtain ⟨o, ho⟩ : ∃ o, w0.heap[k]? = some o := ⟨_, Array.getElem?_eq_getElem hk⟩
    rw [ho]; exact H.ro k o (hG.ro k o ho)⟩
end
end Go.Proofs.YtcecfhfbcdbofaaGreatDoor
set_option linter.unusedSimpArgs false
set_option linter.unusedVariables false
namespace Go.Proofs.YtcecfhfbcdbofaaGreatDoor
open Go.RowKit

theorem calls_any {P : Program} {f : FuncId} {args : Array Value} {w : World} {R : Ending → World → Prop}
    (h : ∀ K : Ending → World → Prop, Hid (∀ e w', R e w' → K e w') → Calls P f args w K) : Calls P f args w R := h R (fun _ _ h => h)
theorem setCell_self {w : World} {a : Addr} {v : Value} (h : w.cell? a = some v) : w.setCell a v = w := by
  have hh : (w.setCell a v).heap = w.heap := by
    apply Array.ext_getElem?
    intro i
    unfold World.cell? at h
    simp only [World.setCell, Array.getElem?_modify]
    split
    · rename_i hi
      subst hi
      split at h
      · rename_i c t fr hb
        rw [hb]
        simp only [Option.map_some, Option.some.injEq, Obj.cells.injEq, and_true]
        split
        · rfl
        · rename_i hs
          simp only [hs] at h
          apply Array.ext_getElem?
          intro j
          rw [Array.getElem?_setIfInBounds]
          split
          · rename_i hj
            subst hj
            have hlt : a.off < c.size := by
              rcases Nat.lt_or_ge a.off c.size with h' | h'
              · exact h'
              · simp [Array.getElem?_eq_none h'] at h
            simp only [hlt, if_true]
            simpa using h.symm
          · rfl
      · simp at h
    · rfl
  cases w
  simp only [World.setCell] at hh ⊢
  rw [hh]
theorem setRow_block (w : World) (g : Nat) (cs : Array Value) (k : Nat) (h : k ≠ g) : (w.setRow g cs).heap[k]? = w.heap[k]? := by
  simp only [World.setRow, Array.getElem?_modify]
  rw [if_neg (by omega)]
theorem setRow_at {w : World} {g : Nat} {old : Array Value} {t : TypeId} {fr : Nat × Nat} (h : w.heap[g]? = some (.cells old t fr)) (cs : Array Value) : (w.setRow g cs).heap[g]? = some (.cells cs t fr) := by
  simp [World.setRow, Array.getElem?_modify, h]
theorem below_setRow {B : Nat} {a w : World} (h : Below B a w) {g : Nat} (hg : B ≤ g) (cs : Array Value) : Below B a (w.setRow g cs) :=
  h.trans ⟨rfl, rfl, rfl, by simp [World.setRow], fun k hk => setRow_block _ _ _ _ (by omega)⟩
theorem below_drew {B : Nat} {a w : World} (h : Below B a w) : Below B a { w with drawn := w.drawn + 1 } := h.drew
theorem Sat.setRow {G : Gnd} {w : World} {l : List Asrt} {b : Nat} {c : Array Value} {t : TypeId} (H : Sat G w (blk b c t :: l)) (cs : Array Value) : Sat G (w.setRow b cs) (blk b cs t :: l) :=
  H.setRow' cs rfl rfl rfl rfl
section
variable {P : Program} {ops : Array Oper} {rest : List Oper} {o : Oper} {a : Act} {w : World} {Q : Exit → Act → World → Prop} {G : Gnd} {l : List Asrt}
/-- A whole row is stored into a block of one's own: the world is a letter then. -/
theorem st_store (hgd : o.guard = none) (ty : TypeId) (x y : Operand) (ho : o.op = .store ty x y) (g : Nat) (cells : Array Value) (hx : a.eval x = .pointer (some ⟨g, 0, none⟩)) (hy : a.eval y = .agg cells)
    (t : TypeId) (old : Array Value) (S : Sat G w (blk g old t :: l)) (hi : (P.info? ty).map (·.size) = some cells.size) (hold : old.size = cells.size) (h1 : cells.all (·.oneCell') = true)
    (h : ∀ w', Sat G w' (blk g cells t :: l) → wpList P ops Q rest (a.put o.dst undef) w') : wpList P ops Q (o :: rest) a w :=
  wpList_store_row hgd ty x y ho g cells hx hy t old S.blk_at hi hold h1 (h _ (S.setRow cells))
/-- A whole block of one's own is loaded. -/
theorem st_load (hgd : o.guard = none) (ty : TypeId) (x : Operand) (ho : o.op = .load ty x) (g : Nat) (hx : a.eval x = .pointer (some ⟨g, 0, none⟩)) (t : TypeId) (cs : Array Value) (S : Sat G w (blk g cs t :: l)) (d : TypeDesc)
    (hu : P.underlying ty = some d) (hd : (match d with | .struct _ | .array _ _ => true | _ => false) = true) (hi : (P.info? ty).map (·.size) = some cs.size)
    (h : wpList P ops Q rest (a.put o.dst (.agg cs)) w) : wpList P ops Q (o :: rest) a w :=
  wpList_load_row hgd ty x ho g hx t cs (0, 0) d S.blk_at hu hd hi h
end
/-- The result lies in a block of one's own. -/
theorem ret_cell {P : Program} {fn : Func} {K : Ending → World → Prop} {a : Act} {w : World} {G : Gnd} {l : List Asrt} {g : Nat} {cs : Array Value} {t : TypeId} (S : Sat G w (blk g cs t :: l)) (p : Tmp) (ty : TypeId) (h : fn.results = #[.cell p ty]) (d : TypeDesc)
    (hp : a.tmps.getD p undef = .pointer (some ⟨g, 0, none⟩)) (hu : P.underlying ty = some d) (hd : (match d with | .struct _ | .array _ _ => true | _ => false) = true) (hi : (P.info? ty).map (·.size) = some cs.size)
    (ha : a.defers = []) (hK : K (.returned (.agg cs)) w) : bodyPost P fn K .ret a w :=
  bodyPost_ret (results_cell_row h _ _ g t cs (0, 0) d hp S.blk_at hu hd hi) ha hK
theorem results_cells3 {P : Program} {fn : Func} {p1 p2 p3 : Tmp} {y1 y2 y3 : TypeId} (h : fn.results = #[.cell p1 y1, .cell p2 y2, .cell p3 y3]) (tmps : Array Value) (w : World) (g1 g2 g3 : Nat) (t1 t2 t3 : TypeId) (c1 c2 c3 : Array Value) (d1 d2 d3 : TypeDesc)
    (hp1 : tmps.getD p1 undef = .pointer (some ⟨g1, 0, none⟩)) (hg1 : w.heap[g1]? = some (.cells c1 t1 (0, 0))) (hu1 : P.underlying y1 = some d1) (hd1 : (match d1 with | .struct _ | .array _ _ => true | _ => false) = true) (hi1 : (P.info? y1).map (·.size) = some c1.size)
    (hp2 : tmps.getD p2 undef = .pointer (some ⟨g2, 0, none⟩)) (hg2 : w.heap[g2]? = some (.cells c2 t2 (0, 0))) (hu2 : P.underlying y2 = some d2) (hd2 : (match d2 with | .struct _ | .array _ _ => true | _ => false) = true) (hi2 : (P.info? y2).map (·.size) = some c2.size)
    (hp3 : tmps.getD p3 undef = .pointer (some ⟨g3, 0, none⟩)) (hg3 : w.heap[g3]? = some (.cells c3 t3 (0, 0))) (hu3 : P.underlying y3 = some d3) (hd3 : (match d3 with | .struct _ | .array _ _ => true | _ => false) = true) (hi3 : (P.info? y3).map (·.size) = some c3.size) :
    (results fn tmps).run P w = .ok (.tuple #[.agg c1, .agg c2, .agg c3]) w := by
  have h1 : tmps[p1]?.getD undef = .pointer (some ⟨g1, 0, none⟩) := by simpa using hp1
  have h2 : tmps[p2]?.getD undef = .pointer (some ⟨g2, 0, none⟩) := by simpa using hp2
  have h3 : tmps[p3]?.getD undef = .pointer (some ⟨g3, 0, none⟩) := by simpa using hp3
  simp [results, h, h1, h2, h3, asAddr, run_loadVar_row w g1 t1 y1 c1 (0, 0) d1 hg1 hu1 hd1 hi1, run_loadVar_row w g2 t2 y2 c2 (0, 0) d2 hg2 hu2 hd2 hi2, run_loadVar_row w g3 t3 y3 c3 (0, 0) d3 hg3 hu3 hd3 hi3]
theorem results_cell_t {P : Program} {fn : Func} {p1 p2 : Tmp} {y1 : TypeId} (h : fn.results = #[.cell p1 y1, .tmp p2]) (tmps : Array Value) (w : World) (g1 : Nat) (t1 : TypeId) (c1 : Array Value) (d1 : TypeDesc)
    (hp1 : tmps.getD p1 undef = .pointer (some ⟨g1, 0, none⟩)) (hg1 : w.heap[g1]? = some (.cells c1 t1 (0, 0))) (hu1 : P.underlying y1 = some d1) (hd1 : (match d1 with | .struct _ | .array _ _ => true | _ => false) = true) (hi1 : (P.info? y1).map (·.size) = some c1.size) :
    (results fn tmps).run P w = .ok (.tuple #[.agg c1, tmps.getD p2 undef]) w := by
  have h1 : tmps[p1]?.getD undef = .pointer (some ⟨g1, 0, none⟩) := by simpa using hp1
  simp [results, h, h1, asAddr, run_loadVar_row w g1 t1 y1 c1 (0, 0) d1 hg1 hu1 hd1 hi1]
end Go.Proofs.YtcecfhfbcdbofaaGreatDoor
set_option linter.unusedSimpArgs false
set_option linter.unusedVariables false
namespace Go.Proofs.YtcecfhfbcdbofaaGreatDoor
open Go.RowKit

/-- A datum. -/
inductive D where
  | int (n : Int)
  | bool (b : Bool)
  | str (s : ByteArray)
  | sl (l : List D)
  | agg (l : List D)
/-- A kind of values. by: how many bytes an element of a slice takes. -/
inductive Ty where
  | int (k : IntKind)
  | bool
  | str
  | sl (bytes : Nat) (t : Ty)
  | agg (l : List Ty)

mutual
def Ty.size : Ty → Nat
  | .int _ | .bool | .str | .sl _ _ => 1
  | .agg l => sizeAll l
def sizeAll : List Ty → Nat
  | [] => 0
  | t :: l => t.size + sizeAll l
end
/-- A cell of a part of memory. -/
def cellR (R : Hp) (a : Addr) : Option Value :=
  match R a.block with
  | some (.cells c _ _) => if a.spot.isSome then none else c[a.off]?
  | _ => none
theorem cellR_heap (w : World) (a : Addr) : cellR (fun k => w.heap[k]?) a = w.cell? a := rfl
theorem cellR_mono {R R' : Hp} (h : ∀ k o, R k = some o → R' k = some o) {a : Addr} {v : Value} (hc : cellR R a = some v) : cellR R' a = some v := by
  unfold cellR at hc ⊢
  cases hb : R a.block with
  | none => rw [hb] at hc; cases hc
  | some o => rw [hb] at hc; rw [h _ _ hb]; exact hc
theorem Sat.cellR {G : Gnd} {w : World} {l : List Asrt} (H : Sat G w l) {a : Addr} {v : Value} (hc : cellR G.ro a = some v) : w.cell? a = some v := by
  rw [← cellR_heap]; exact cellR_mono H.ro hc

/-- The elements of a slice: each is read at its place. -/
def RdElems (R : Hp) (sz : Nat) (p : D → List Value → Prop) (a : Addr) (l : List D) : Prop :=
  ∀ i d, l[i]? = some d → ∃ es : List Value, es.length = sz ∧ (∀ j, j < sz → Go.Proofs.YtcecfhfbcdbofaaGreatDoor.cellR R (a.add (i * sz + j)) = es[j]?) ∧ p d es
mutual
/-- The datum d of kind t is read in these cells. -/
def Rd (R : Hp) : Ty → D → List Value → Prop
  | .int k, .int n, cs => cs = [.int k n] ∧ (Lit.int k n).wf = true
  | .bool, .bool b, cs => cs = [.bool b]
  | .str, .str s, cs => cs = [.string s] ∧ s.size ≤ 140737488351232
  | .sl by_ t, .sl l, cs => l.length * by_ ≤ 140737488351232 ∧ ((cs = [.slice none 0 0] ∧ l = []) ∨
      ∃ a cap, cs = [.slice (some a) l.length cap] ∧ l.length ≤ cap ∧ cap * by_ ≤ 140737488351232 ∧ cap ≤ 9223372036854775807 ∧ RdElems R t.size (fun d es => Rd R t d es) a l)
  | .agg ts, .agg ds, cs => RdAll R ts ds cs
  | _, _, _ => False
def RdAll (R : Hp) : List Ty → List D → List Value → Prop
  | [], [], cs => cs = []
  | t :: ts, d :: ds, cs => ∃ c1 c2, cs = c1 ++ c2 ∧ c1.length = t.size ∧ Rd R t d c1 ∧ RdAll R ts ds c2
  | _, _, _ => False
end

/-! ### the row's own reading -/
mutual
/-- The type t of the program is of this kind. -/
def Ty.fits (P : Program) : Ty → TypeId → Bool
  | .int k, t => match P.underlying t with | some (.int k') => k == k' | _ => false
  | .bool, t => match P.underlying t with | some .bool => true | _ => false
  | .str, t => match P.underlying t with | some .string => true | _ => false
  | .sl b ty, t => match P.underlying t with | some (.slice e) => P.cellsOf e == ty.size && P.bytesOf e == b && decide (0 < ty.size) && ty.fits P e | _ => false
  | .agg ts, t => match P.underlying t with
    | some (.struct fs) => P.cellsOf t == sizeAll ts && fitsFields P ts fs.toList 0
    | some (.array n e) => P.cellsOf t == sizeAll ts && ts.length == n && fitsElems P ts e
    | _ => false
def fitsFields (P : Program) : List Ty → List Field → Nat → Bool
  | [], [], _ => true
  | ty :: ts, f :: fs, off => f.offset == off && P.cellsOf f.type == ty.size && ty.fits P f.type && fitsFields P ts fs (off + ty.size)
  | _, _, _ => false
def fitsElems (P : Program) : List Ty → TypeId → Bool
  | [], _ => true
  | ty :: ts, e => P.cellsOf e == ty.size && ty.fits P e && fitsElems P ts e
end

theorem list_of_each {α : Type} {Q : Nat → α → Prop} : ∀ n : Nat, (∀ i, i < n → ∃ d, Q i d) → ∃ l : List α, l.length = n ∧ ∀ i d, l[i]? = some d → Q i d := by
  intro n
  induction n with
  | zero => exact fun _ => ⟨[], rfl, fun i d h => by simp at h⟩
  | succ n ih =>
    intro h
    obtain ⟨l, hl, hq⟩ := ih (fun i hi => h i (by omega))
    obtain ⟨d, hd⟩ := h n (by omega)
    refine ⟨l ++ [d], by simp [hl], fun i x hx => ?_⟩
    by_cases hi : i < n
    · rw [List.getElem?_append_left (by omega)] at hx; exact hq i x hx
    · have : i = n := by
        have := (List.getElem?_eq_some_iff.1 hx).1
        simp at this; omega
      subst this
      rw [List.getElem?_append_right (by omega), hl] at hx
      simp at hx; subst hx; exact hd
theorem weights_elem {H : Type} {P : Program} {e : TypeId} : ∀ {l : List (DataW H)} {i : Nat} {d : DataW H}, (DataW.weightsAll P e l).all (· ≤ reachBytes) = true → l[i]? = some d → (d.weights P e).all (· ≤ reachBytes) = true := by
  intro l
  induction l with
  | nil => intro i d _ h; simp at h
  | cons x l ih =>
    intro i d h hi
    simp only [DataW.weightsAll, List.all_append, Bool.and_eq_true] at h
    cases i with
    | zero => simp at hi; subst hi; exact h.1
    | succ i => exact ih h.2 (by simpa using hi)
theorem weights_each {H : Type} {P : Program} : ∀ {ts : List TypeId} {l : List (DataW H)} {i : Nat} {d : DataW H} {t : TypeId}, (DataW.weightsEach P ts l).all (· ≤ reachBytes) = true → ts[i]? = some t → l[i]? = some d → (d.weights P t).all (· ≤ reachBytes) = true := by
  intro ts
  induction ts with
  | nil => intro l i d t _ h; simp at h
  | cons x ts ih =>
    intro l i d t h ht hd
    cases l with
    | nil => simp at hd
    | cons y l =>
      simp only [DataW.weightsEach, List.all_append, Bool.and_eq_true] at h
      cases i with
      | zero => simp at hd ht; subst hd; subst ht; exact h.1
      | succ i => exact ih h.2 (by simpa using ht) (by simpa using hd)
theorem cells?_get {w : World} {a : Addr} {n : Nat} {cs : List Value} (h : w.cells? 0 a n = some cs) : cs.length = n ∧ ∀ j, j < n → w.cell? (a.add j) = cs[j]? := by
  unfold World.cells? at h
  rw [if_pos (Nat.zero_le _)] at h
  refine ⟨by simpa using mapM_some_length h, fun j hj => ?_⟩
  have := mapM_some_get h j j (by simp [hj])
  exact this
theorem add_add (a : Addr) (i j : Nat) (h : a.spot = none) : (a.add i).add j = a.add (i + j) := by
  obtain ⟨b, o, s⟩ := a
  simp only at h
  subst h
  unfold Addr.add
  by_cases h1 : i = 0 <;> by_cases h2 : j = 0 <;> simp [h1, h2, Nat.add_assoc]
theorem add_add' {w : World} (a : Addr) (i j : Nat) {v : Value} (hv : w.cell? ((a.add i).add j) = some v) : w.cell? (a.add (i + j)) = some v := by
  obtain ⟨b, o, s⟩ := a
  cases s with
  | none => rw [← add_add _ _ _ rfl]; exact hv
  | some s =>
    by_cases h1 : i = 0
    · subst h1
      have : (⟨b, o, some s⟩ : Addr).add 0 = ⟨b, o, some s⟩ := by simp [Addr.add]
      rw [this] at hv; simpa using hv
    · have e : (⟨b, o, some s⟩ : Addr).add i = ⟨b, o + i, none⟩ := by simp [Addr.add, h1]
      rw [e] at hv
      have e2 : (⟨b, o, some s⟩ : Addr).add (i + j) = ⟨b, o + (i + j), none⟩ := by simp [Addr.add, h1]
      rw [e2]
      have e3 : (⟨b, o + i, none⟩ : Addr).add j = ⟨b, o + (i + j), none⟩ := by
        unfold Addr.add; by_cases h2 : j = 0 <;> simp [h2, Nat.add_assoc]
      rw [e3] at hv; exact hv

section
variable {H : Type} {enc : TypeId × Value → H} {P : Program} {w : World}
mutual
theorem rd_of_trod : ∀ (ty : Ty) {n : Nat} {t : TypeId} {cs : List Value} {x : DataW H × List MemPlace}, ty.fits P t = true → DataW.trod enc P w 0 (fun _ => true) true n t cs = some x →
    (x.1.weights P t).all (· ≤ reachBytes) = true → ∃ d, Rd (fun k => w.heap[k]?) ty d cs
  | .int k, n, t, cs, x, hf, h, _ => by
    simp only [Ty.fits] at hf
    split at hf <;> simp_all
    rename_i ht
    obtain ⟨m, rfl, _, hw⟩ := DataW.trod_int ht h
    exact ⟨.int m, by simp [Rd, hw]⟩
  | .bool, n, t, cs, x, hf, h, _ => by
    simp only [Ty.fits] at hf
    split at hf <;> simp_all
    rename_i ht
    obtain ⟨m, rfl, _⟩ := DataW.trod_bool ht h
    exact ⟨.bool m, by simp [Rd]⟩
  | .str, n, t, cs, x, hf, h, hz => by
    simp only [Ty.fits] at hf
    split at hf
    · rename_i ht
      obtain ⟨m, rfl, rfl, _⟩ := DataW.trod_string ht h
      refine ⟨.str m, ?_⟩
      simp only [DataW.weights, List.all_cons, List.all_nil, Bool.and_true, decide_eq_true_eq, Array.length_toList, reachBytes] at hz
      simp only [Rd, true_and]
      exact of_decide_eq_true hz
    · cases hf
  | .sl b ty, n, t, cs, x, hf, h, hz => by
    simp only [Ty.fits] at hf
    split at hf
    · rename_i e ht
      simp only [Bool.and_eq_true, beq_iff_eq, decide_eq_true_eq] at hf
      obtain ⟨⟨⟨hcs, hby⟩, hpos⟩, hfe⟩ := hf
      rcases DataW.trod_slice ht h with ⟨rfl, _⟩ | ⟨a, len, cap, elems, rest, m, _, rfl, rfl, _, hl, hm, hlen, hel, hsp, _⟩
      · exact ⟨.sl [], by simp [Rd]⟩
      · obtain ⟨hrl, _⟩ := hsp rfl
        simp only [DataW.weights, ht, List.all_cons, List.all_append, Bool.and_eq_true, decide_eq_true_eq, List.length_map, hby] at hz
        obtain ⟨hz0, hz1, _⟩ := hz
        have hcap : elems.length + rest.length = cap := by omega
        rw [hcap] at hz0
        simp only [reachBytes] at hz0
        have each : ∀ i, i < len → ∃ d, ∃ es : List Value, es.length = ty.size ∧ (∀ j, j < ty.size → w.cell? (a.add (i * ty.size + j)) = es[j]?) ∧ Rd (fun k => w.heap[k]?) ty d es := by
          intro i hi
          have h1 := hel i hi
          have hie : i < elems.length := by omega
          rw [List.getElem?_eq_getElem hie] at h1
          obtain ⟨es, he1, he2⟩ := Option.bind_eq_some_iff.1 h1
          obtain ⟨hel1, hel2⟩ := cells?_get he1
          rw [hcs] at hel1 hel2
          have hwt := weights_elem hz1 (i := i) (d := (elems[i]).1) (by simp [List.getElem?_eq_getElem hie])
          obtain ⟨d, hd⟩ := rd_of_trod ty hfe he2 hwt
          refine ⟨d, es, hel1, fun j hj => ?_, hd⟩
          obtain ⟨v, hv⟩ : ∃ v, es[j]? = some v := ⟨_, List.getElem?_eq_getElem (by omega)⟩
          rw [hv]
          exact add_add' a _ _ ((hel2 j hj).trans hv)
        obtain ⟨l, hll, hq⟩ := list_of_each len each
        refine ⟨.sl l, ?_⟩
        simp only [Rd]
        have hle : l.length * b ≤ cap * b := Nat.mul_le_mul_right _ (by omega)
        exact ⟨by omega, .inr ⟨a, cap, by rw [hll], by omega, hz0, by simp only [maxLen] at hm; omega, fun i d hd => hq i d hd⟩⟩
    · cases hf
  | .agg ts, n, t, cs, x, hf, h, hz => by
    simp only [Ty.fits] at hf
    split at hf
    · rename_i fs ht
      simp only [Bool.and_eq_true, beq_iff_eq] at hf
      obtain ⟨hsz, hff⟩ := hf
      obtain ⟨xs, m, _, rfl, hlen, hxl, hx⟩ := DataW.trod_struct ht h
      simp only [DataW.weights, ht] at hz
      have hx' : ∀ (i : Nat) (f : Field), fs.toList[i]? = some f → ∃ y, xs[i]? = some y ∧ DataW.trod enc P w 0 (fun _ => true) true m f.type ((cs.drop f.offset).take (P.cellsOf f.type)) = some y ∧ (y.1.weights P f.type).all (· ≤ reachBytes) = true := by
        intro i f hi
        have hi' : fs[i]? = some f := by simpa using hi
        have hlt : i < xs.length := by have := (Array.getElem?_eq_some_iff.1 hi').1; omega
        have h1 := hx i f hi'
        rw [List.getElem?_eq_getElem hlt] at h1
        exact ⟨_, List.getElem?_eq_getElem hlt, h1, weights_each hz (i := i) (by simp [hi']) (by simp [List.getElem?_eq_getElem hlt])⟩
      obtain ⟨ds, hds⟩ := rd_fields ts hff (cs := cs) (by omega) (m := m) (fun i f hi => by obtain ⟨y, _, h1, h2⟩ := hx' i f hi; exact ⟨y, h1, h2⟩)
      exact ⟨.agg ds, by simpa [Rd] using hds⟩
    · rename_i k e ht
      simp only [Bool.and_eq_true, beq_iff_eq] at hf
      obtain ⟨⟨hsz, hk⟩, hfe⟩ := hf
      cases n with
      | zero => simp [DataW.trod] at h
      | succ n =>
        simp only [DataW.trod, ht] at h
        split at h
        case isFalse => cases h
        rename_i hcl
        obtain ⟨xs, hxs, rfl⟩ := Option.map_eq_some_iff.1 h
        simp only [DataW.weights, ht] at hz
        have hlen := mapM_some_length hxs
        simp at hlen
        have hx' : ∀ i, i < k → ∃ y, DataW.trod enc P w 0 (fun _ => true) true n e ((cs.drop (i * P.cellsOf e)).take (P.cellsOf e)) = some y ∧ (y.1.weights P e).all (· ≤ reachBytes) = true := by
          intro i hi
          have h1 := mapM_some_get hxs i i (by simp [hi])
          have hlt : i < xs.length := by omega
          rw [List.getElem?_eq_getElem hlt] at h1
          exact ⟨_, h1, weights_elem hz (i := i) (by simp [List.getElem?_eq_getElem hlt])⟩
        obtain ⟨ds, hds⟩ := rd_elems ts (cs := cs) (m := n) 0 hfe (by simp; omega) (fun i hi => by simpa using hx' i (by omega))
        exact ⟨.agg ds, by simpa [Rd] using hds⟩
    · cases hf
theorem rd_fields : ∀ (ts : List Ty) {fs : List Field} {off : Nat} {cs : List Value} {m : Nat}, fitsFields P ts fs off = true → cs.length = off + sizeAll ts →
    (∀ (i : Nat) (f : Field), fs[i]? = some f → ∃ y, DataW.trod enc P w 0 (fun _ => true) true m f.type ((cs.drop f.offset).take (P.cellsOf f.type)) = some y ∧ (y.1.weights P f.type).all (· ≤ reachBytes) = true) →
    ∃ ds, RdAll (fun k => w.heap[k]?) ts ds (cs.drop off)
  | [], [], off, cs, m, _, hl, _ => ⟨[], by simp only [RdAll]; simp only [sizeAll] at hl; exact List.drop_of_length_le (by omega)⟩
  | [], _ :: _, _, _, _, hf, _, _ => by simp [fitsFields] at hf
  | _ :: _, [], _, _, _, hf, _, _ => by simp [fitsFields] at hf
  | ty :: ts, f :: fs, off, cs, m, hf, hl, hx => by
    simp only [fitsFields, Bool.and_eq_true, beq_iff_eq] at hf
    obtain ⟨⟨⟨ho, hc⟩, hft⟩, hr⟩ := hf
    obtain ⟨y, h1, h2⟩ := hx 0 f rfl
    simp only [sizeAll] at hl
    rw [ho, hc] at h1
    obtain ⟨d, hd⟩ := rd_of_trod ty hft h1 h2
    obtain ⟨ds, hds⟩ := rd_fields ts hr (cs := cs) (by omega) (m := m) (fun i f hi => hx (i + 1) f (by simpa using hi))
    refine ⟨d :: ds, ?_⟩
    simp only [RdAll]
    exact ⟨(cs.drop off).take ty.size, cs.drop (off + ty.size), by rw [← List.drop_drop, List.take_append_drop], by simp; omega, hd, hds⟩
theorem rd_elems : ∀ (ts : List Ty) {e : TypeId} {cs : List Value} {m : Nat} (i0 : Nat), fitsElems P ts e = true → cs.length = i0 * P.cellsOf e + sizeAll ts →
    (∀ i, i < ts.length → ∃ y, DataW.trod enc P w 0 (fun _ => true) true m e ((cs.drop ((i0 + i) * P.cellsOf e)).take (P.cellsOf e)) = some y ∧ (y.1.weights P e).all (· ≤ reachBytes) = true) →
    ∃ ds, RdAll (fun k => w.heap[k]?) ts ds (cs.drop (i0 * P.cellsOf e))
  | [], e, cs, m, i0, _, hl, _ => ⟨[], by simp only [RdAll]; simp only [sizeAll] at hl; exact List.drop_of_length_le (by omega)⟩
  | ty :: ts, e, cs, m, i0, hf, hl, hx => by
    simp only [fitsElems, Bool.and_eq_true, beq_iff_eq] at hf
    obtain ⟨⟨hc, hft⟩, hr⟩ := hf
    obtain ⟨y, h1, h2⟩ := hx 0 (by simp)
    simp only [sizeAll] at hl
    rw [Nat.add_zero] at h1
    obtain ⟨d, hd⟩ := rd_of_trod ty hft h1 h2
    have hmul : (i0 + 1) * P.cellsOf e = i0 * P.cellsOf e + ty.size := by rw [Nat.add_mul, Nat.one_mul, hc]
    obtain ⟨ds, hds⟩ := rd_elems ts (cs := cs) (m := m) (i0 + 1) hr (by omega) (fun i hi => by
      have := hx (i + 1) (by simp; omega)
      rw [show i0 + 1 + i = i0 + (i + 1) by omega]; exact this)
    refine ⟨d :: ds, ?_⟩
    simp only [RdAll]
    refine ⟨(cs.drop (i0 * P.cellsOf e)).take ty.size, cs.drop ((i0 + 1) * P.cellsOf e), ?_, by simp; omega, ?_, hds⟩
    · rw [hmul, ← List.drop_drop, List.take_append_drop]
    · rw [← hc]; exact hd
end
end

/-- An argument of kind ty: its value's shape, and what it reads as. -/
def ArgV (w : World) (ty : Ty) (v : Value) (d : D) : Prop :=
  match ty with
  | .agg _ => ∃ cs : Array Value, v = .agg cs ∧ Rd (fun k => w.heap[k]?) ty d cs.toList
  | _ => Rd (fun k => w.heap[k]?) ty d [v]
theorem arg_of {H : Type} {enc : TypeId × Value → H} {P : Program} {w : World} {r : Reach} {base : Nat} {ty : Ty} {t : TypeId} {v : Value} {d : DataW H} {p : List MemPlace} (hf : ty.fits P t = true)
    (hok : Value.okWide P w r base t v) (h : DataW.Trod enc P w 0 (fun _ => true) true t v d p) (hz : (d.weights P t).all (· ≤ reachBytes) = true) : ∃ d, ArgV w ty v d := by
  obtain ⟨n, hn⟩ := h
  obtain ⟨x, hx⟩ := rd_of_trod ty hf hn hz
  refine ⟨x, ?_⟩
  cases ty with
  | int k =>
    simp only [Ty.fits] at hf
    split at hf
    · rename_i k' ht
      obtain ⟨m, rfl⟩ := Go.WideShapes.okWide_int ht hok
      exact hx
    · cases hf
  | bool =>
    simp only [Ty.fits] at hf
    split at hf
    · rename_i ht
      obtain ⟨m, rfl⟩ := Go.WideShapes.okWide_bool ht hok
      exact hx
    · cases hf
  | str =>
    simp only [Ty.fits] at hf
    split at hf
    · rename_i ht
      obtain ⟨m, rfl⟩ := Go.WideShapes.okWide_string ht hok
      exact hx
    · cases hf
  | sl b ty =>
    simp only [Ty.fits] at hf
    split at hf
    · rename_i e ht
      obtain ⟨a, l, c, rfl⟩ := Go.WideShapes.okWide_slice ht hok
      exact hx
    · cases hf
  | agg ts =>
    simp only [Ty.fits] at hf
    split at hf
    · rename_i fs ht
      simp only [Value.okWide, ht] at hok
      obtain ⟨cs, rfl, _⟩ := hok
      exact ⟨cs, rfl, hx⟩
    · rename_i k e ht
      simp only [Value.okWide, ht] at hok
      obtain ⟨cs, rfl, _⟩ := hok
      exact ⟨cs, rfl, hx⟩
    · cases hf
theorem arg_int {w : World} {k : IntKind} {v : Value} {d : D} (h : ArgV w (.int k) v d) : ∃ n, v = .int k n ∧ (Lit.int k n).wf = true := by
  cases d <;> simp [ArgV, Rd] at h
  rename_i n
  exact ⟨n, h.1, h.2⟩
theorem arg_bool {w : World} {v : Value} {d : D} (h : ArgV w .bool v d) : ∃ b, v = .bool b := by
  cases d <;> simp [ArgV, Rd] at h
  rename_i n
  exact ⟨n, h⟩
theorem arg_str {w : World} {v : Value} {d : D} (h : ArgV w .str v d) : ∃ s : ByteArray, v = .string s ∧ s.size ≤ 140737488351232 := by
  cases d <;> simp [ArgV, Rd] at h
  rename_i n
  exact ⟨n, h.1, h.2⟩
/-- A slice that is read in a part of memory: nil, or its elements stand at their places. -/
def RdSl (R : Hp) (by_ : Nat) (t : Ty) (v : Value) (l : List D) : Prop := Rd R (.sl by_ t) (.sl l) [v]
theorem arg_sl {w : World} {b : Nat} {t : Ty} {v : Value} {d : D} (h : ArgV w (.sl b t) v d) : ∃ l, RdSl (fun k => w.heap[k]?) b t v l := by
  cases d <;> simp only [ArgV, Rd] at h
  rename_i l
  exact ⟨l, by simpa only [RdSl, Rd] using h⟩
/-- Its length, and that it takes no more than its room. -/
theorem RdSl.form {R : Hp} {b : Nat} {t : Ty} {v : Value} {l : List D} (h : RdSl R b t v l) :
    ∃ A c, v = .slice A l.length c ∧ l.length ≤ c ∧ c ≤ 9223372036854775807 ∧ l.length * b ≤ 140737488351232 ∧ c * b ≤ 140737488351232 ∧ (∀ i d, l[i]? = some d → ∃ a, A = some a ∧ ∃ es : List Value, es.length = t.size ∧ (∀ j, j < t.size → Go.Proofs.YtcecfhfbcdbofaaGreatDoor.cellR R (a.add (i * t.size + j)) = es[j]?) ∧ Rd R t d es) := by
  simp only [RdSl, Rd] at h
  obtain ⟨h0, ⟨h1, rfl⟩ | ⟨a, c, h1, h2, h3, h4, h5⟩⟩ := h
  · simp at h1
    exact ⟨none, 0, by simpa using h1, by simp, by omega, by simp, by simp, fun i d hd => by simp at hd⟩
  · simp at h1
    exact ⟨some a, c, h1, h2, h4, h0, h3, fun i d hd => ⟨a, rfl, h5 i d hd⟩⟩
end Go.Proofs.YtcecfhfbcdbofaaGreatDoor
set_option linter.unusedSimpArgs false
set_option linter.unusedVariables false
namespace Go.Proofs.YtcecfhfbcdbofaaGreatDoor
open Go.RowKit

theorem sepAll_mid (A : Asrt) (l' : List Asrt) : ∀ (l : List Asrt) (R h : Hp), sepAll (l ++ A :: l') R h → sepAll (A :: (l ++ l')) R h := by
  intro l
  induction l with
  | nil => intro R h H; exact H
  | cons B l ih => intro R h H; exact sepAll_swap (sepAll_tail (ih R) H)
theorem sepAll_dim (A : Asrt) (l' : List Asrt) : ∀ (l : List Asrt) (R h : Hp), sepAll (A :: (l ++ l')) R h → sepAll (l ++ A :: l') R h := by
  intro l
  induction l with
  | nil => intro R h H; exact H
  | cons B l ih => intro R h H; exact sepAll_tail (ih R) (sepAll_swap H)
theorem Sat.mid {G : Gnd} {w : World} {A : Asrt} {l' : List Asrt} (l : List Asrt) (H : Sat G w (l ++ A :: l')) : Sat G w (A :: (l ++ l')) := H.map fun _ => sepAll_mid A l' l _ _
theorem Sat.dim {G : Gnd} {w : World} {A : Asrt} {l' : List Asrt} (l : List Asrt) (H : Sat G w (A :: (l ++ l'))) : Sat G w (l ++ A :: l') := H.map fun _ => sepAll_dim A l' l _ _
end Go.Proofs.YtcecfhfbcdbofaaGreatDoor
set_option linter.unusedSimpArgs false
set_option linter.unusedVariables false
namespace Go.Proofs.YtcecfhfbcdbofaaGreatDoor
open Go.RowKit

/-- v is a slice of n elements, of size cells each: xs; its block begins with it, and nobody else has it. -/
def ownS (e : TypeId) (size : Nat) (v : Value) (n : Nat) (xs : List Value) : Asrt :=
  ⟨fun _ h => xs.length = n * size ∧ ((v = .slice none 0 0 ∧ n = 0) ∨
    ∃ g cap cur, v = .slice (some ⟨g, 0, none⟩) n cap ∧ h g = some (.cells cur e (0, 0)) ∧ n ≤ cap ∧ cap ≤ maxLen ∧ cur.size = cap * size ∧ cur.toList.take (n * size) = xs), fun _ h => h⟩
section
variable {G : Gnd} {w w' : World} {l : List Asrt} {e : TypeId} {size : Nat} {v : Value} {n : Nat} {xs : List Value}
/-- An assertion that asks nothing of memory. -/
theorem Sat.free {A : Asrt} (H : Sat G w l) (hA : ∀ R h, A.p R h) : Sat G w (A :: l) := by
  obtain ⟨a, b', c, lo, d, h, f, g, q⟩ := H
  exact ⟨a, b', c, lo, d, h, f, g, fun _ => none, h, fun k => .inl rfl, fun k o ek => (by cases ek), fun k o ek => ek, hA _ _, q⟩
theorem own_iff : Sat G w (ownS e size v n xs :: l) ↔ xs.length = n * size ∧ ((v = .slice none 0 0 ∧ n = 0 ∧ Sat G w l) ∨
    ∃ g cap cur, v = .slice (some ⟨g, 0, none⟩) n cap ∧ n ≤ cap ∧ cap ≤ maxLen ∧ cur.size = cap * size ∧ cur.toList.take (n * size) = xs ∧ Sat G w (blk g cur e :: l)) := by
  constructor
  · intro H
    have hp : ∃ h, (ownS e size v n xs).p G.ro h := by obtain ⟨_, _, _, _, _, _, _, _, h1, h2, _, _, _, p, _⟩ := H; exact ⟨h1, p⟩
    obtain ⟨_, hl, hp⟩ := hp
    refine ⟨hl, ?_⟩
    rcases hp with ⟨rfl, rfl⟩ | ⟨g, cap, cur, rfl, _, hc, hm, hs, ht⟩
    · exact .inl ⟨rfl, rfl, H.drop⟩
    · refine .inr ⟨g, cap, ?_⟩
      obtain ⟨a, b', c, lo, d, h, f, k, h1, h2, x1, x2, x3, p, q⟩ := H
      obtain ⟨_, hp⟩ := p
      rcases hp with ⟨hv, _⟩ | ⟨g', cap', cur', hv, hh, hc', hm', hs', ht'⟩
      · cases hv
      · cases hv
        exact ⟨cur', rfl, hc', hm', hs', ht', a, b', c, lo, d, h, f, k, h1, h2, x1, x2, x3, hh, q⟩
  · rintro ⟨hl, ⟨rfl, rfl, H⟩ | ⟨g, cap, cur, rfl, hc, hm, hs, ht, H⟩⟩
    · exact H.free fun _ _ => ⟨hl, .inl ⟨rfl, rfl⟩⟩
    · exact H.conv fun h hb => ⟨hl, .inr ⟨g, cap, cur, rfl, hb, hc, hm, hs, ht⟩⟩
theorem Sat.ownNil (H : Sat G w l) (e : TypeId) (size : Nat) : Sat G w (ownS e size (.slice none 0 0) 0 [] :: l) := own_iff.2 ⟨by simp, .inl ⟨rfl, rfl, H⟩⟩
theorem Sat.ownBlk {g : Nat} {cs : Array Value} (H : Sat G w (blk g cs e :: l)) (n : Nat) (hs : cs.size = n * size) (hn : n ≤ maxLen) : Sat G w (ownS e size (.slice (some ⟨g, 0, none⟩) n n) n cs.toList :: l) :=
  own_iff.2 ⟨by simpa using hs, .inr ⟨g, n, cs, rfl, Nat.le_refl _, hn, hs, by rw [← hs]; exact List.take_of_length_le (by simp), H⟩⟩
theorem Sat.owns (H : Sat G w (ownS e size v n xs :: l)) : w.ownsRow 0 e size v n xs := by
  obtain ⟨hl, ⟨rfl, rfl, _⟩ | ⟨g, cap, cur, rfl, hc, hm, hs, ht, H⟩⟩ := own_iff.1 H
  · exact ⟨hl, .inl ⟨rfl, rfl⟩⟩
  · exact ⟨hl, .inr ⟨g, cap, cur, rfl, Nat.zero_le _, H.blk_at, hc, hm, hs, ht⟩⟩
/-- Where the slice has grown. -/
theorem Sat.grown {v' : Value} {n' : Nat} {xs' : List Value} (H : Sat G w (ownS e size v n xs :: l)) (ho : w'.ownsRow 0 e size v' n' xs') (hg : w.grownBy w' v.ownBlock) (hw : v'.ownBlock = v.ownBlock ∨ v'.ownBlock = some w.heap.size) :
    Sat G w' (ownS e size v' n' xs' :: l) := by
  obtain ⟨hos, ht, hout, hsz, hbl⟩ := hg
  obtain ⟨hl', hv'⟩ := ho
  -- the rest, where the old slice is left
  have hrest : Sat G w' l ∧ (∀ b o, w.heap.size ≤ b → w'.heap[b]? = some o → Sat G w' (obj b o :: l)) := by
    obtain ⟨_, ⟨rfl, rfl, H0⟩ | ⟨g, cap, cur, rfl, hc, hm, hs, htk, H⟩⟩ := own_iff.1 H
    · have hb : Below w.heap.size w w' := ⟨hos, ht, hout, hsz, fun k hk => hbl k hk (by simp [Value.ownBlock])⟩
      exact ⟨H0.below hb, fun b o h1 h2 => H0.claim hb h1 h2⟩
    · have hlt := H.blk_lt
      obtain ⟨o', ho'⟩ : ∃ o', w'.heap[g]? = some o' := ⟨_, Array.getElem?_eq_getElem (by omega)⟩
      have H1 : Sat G { w with heap := w.heap.setIfInBounds g o' } (obj g o' :: l) := Sat.turn (o := .cells cur e (0, 0)) H rfl rfl rfl (by simp) (fun k _ hk => by simp [Array.getElem?_setIfInBounds_ne (Ne.symm hk)]) (by simp [hlt])
      have hb : Below ({ w with heap := w.heap.setIfInBounds g o' } : World).heap.size { w with heap := w.heap.setIfInBounds g o' } w' := ⟨hos, ht, hout, by simpa using hsz, fun k hk => by
        simp only [Array.size_setIfInBounds] at hk
        by_cases e1 : k = g
        · subst e1; simp [hlt, ho']
        · rw [hbl k hk (by simp [Value.ownBlock, e1])]; simp [Array.getElem?_setIfInBounds_ne (Ne.symm e1)]⟩
      exact ⟨H1.drop.below hb, fun b o h1 h2 => H1.drop.claim hb (by simpa using h1) h2⟩
  rcases hv' with ⟨rfl, rfl⟩ | ⟨g', cap', cur', rfl, _, hat, hc', hm', hs', ht'⟩
  · exact own_iff.2 ⟨hl', .inl ⟨rfl, rfl, hrest.1⟩⟩
  · refine own_iff.2 ⟨hl', .inr ⟨g', cap', cur', rfl, hc', hm', hs', ht', ?_⟩⟩
    rcases hw with hw | hw
    · obtain ⟨_, ⟨rfl, rfl, H⟩ | ⟨g, cap, cur, rfl, hc, hm, hs, htk, H⟩⟩ := own_iff.1 H
      · simp [Value.ownBlock] at hw
      · simp only [Value.ownBlock, Option.some.injEq] at hw
        subst hw
        exact Sat.turn (o := .cells cur e (0, 0)) H hos ht hout hsz (fun k hk hne => hbl k hk (by simp [Value.ownBlock, hne])) hat
    · simp only [Value.ownBlock, Option.some.injEq] at hw
      subst hw
      exact hrest.2 _ _ (Nat.le_refl _) hat
/-- The slice is turned no more. -/
theorem Sat.ownFreeze (H : Sat G w (ownS e size v n xs :: l)) : ∃ G', G.le G' ∧ Sat G' w l ∧ ∃ A c, v = .slice A n c ∧ n ≤ maxLen ∧ xs.length = n * size ∧ ∀ j u, xs[j]? = some u → ∃ g, A = some ⟨g, 0, none⟩ ∧ Go.Proofs.YtcecfhfbcdbofaaGreatDoor.cellR G'.ro ⟨g, j, none⟩ = some u := by
  obtain ⟨hl, ⟨rfl, rfl, H0⟩ | ⟨g, cap, cur, rfl, hc, hm, hs, ht, H⟩⟩ := own_iff.1 H
  · exact ⟨G, Gnd.le.rfl', H0, none, 0, rfl, Nat.zero_le _, hl, fun j u hu => by have := List.eq_nil_of_length_eq_zero (l := xs) (by simpa using hl); subst this; simp at hu⟩
  · obtain ⟨G', hG, hr, H'⟩ := Sat.freeze (o := .cells cur e (0, 0)) H
    refine ⟨G', hG, H', some ⟨g, 0, none⟩, cap, rfl, Nat.le_trans hc hm, hl, fun j u hu => ⟨g, rfl, ?_⟩⟩
    simp only [Go.Proofs.YtcecfhfbcdbofaaGreatDoor.cellR, hr]
    have hj : j < n * size := by rw [← hl]; exact (List.getElem?_eq_some_iff.1 hu).1
    rw [← ht, List.getElem?_take] at hu
    simpa [hj] using hu
end
/-- The elements that are handed to append lie in a block that was just made. -/
theorem alloc_cells (W : World) (n : Nat) (cs : Array Value) (t : TypeId) (hn : n = W.heap.size) (j : Nat) (u : Value) (hj : cs.toList[j]? = some u) : (W.alloc (.cells cs t)).cell? ((⟨n, 0, none⟩ : Addr).add j) = some u := by
  subst hn
  have e : (⟨W.heap.size, 0, none⟩ : Addr).add j = ⟨W.heap.size, j, none⟩ := by unfold Addr.add; split <;> simp_all
  rw [e, cell_of_block (heap_alloc_new W _)]
  simpa using hj
/-- The world is a letter from here on. -/
theorem wp_world {P : Program} {c : Code} {Q : Exit → Act → World → Prop} {a : Act} {W : World} {G : Gnd} {l : List Asrt} (S : Sat G W l) (h : ∀ w, Sat G w l → c.wp P Q a w) : c.wp P Q a W := h _ S
theorem list_world {P : Program} {ops : Array Oper} {r : List Oper} {Q : Exit → Act → World → Prop} {a : Act} {W : World} {G : Gnd} {l : List Asrt} (S : Sat G W l) (h : ∀ w, Sat G w l → wpList P ops Q r a w) : wpList P ops Q r a W := h _ S
theorem calls_world {P : Program} {f : FuncId} {args : Array Value} {K : Ending → World → Prop} {W : World} {G : Gnd} {l : List Asrt} (S : Sat G W l) (h : ∀ w, Sat G w l → Calls P f args w K) : Calls P f args W K := h _ S
section
variable {P : Program} {ops : Array Oper} {rest : List Oper} {o : Oper} {a : Act} {w : World} {Q : Exit → Act → World → Prop} {G : Gnd} {l : List Asrt}
/-- append of a slice that is not nil. -/
theorem st_append (hgd : o.guard = none) (s x : Operand) (t : TypeId)
    (ho : o.op = .call { callee := .builtin .append, args := #[s, x], argTypes := #[t, t] })
    (e : TypeId) (z : Value) (size bytes : Nat) (ht : P.underlying t = some (.slice e)) (hi : (P.info? e).map (fun i => (i.zero, i.size, i.bytes)) = some (some z, size, bytes)) (hzs : z.cells.size = size) (hsz : 0 < size)
    (v : Value) (n : Nat) (xs : List Value) (hs : a.eval s = v) (S : Sat G w (ownS e size v n xs :: l))
    (ad : Addr) (m c : Nat) (news : List Value) (hx : a.eval x = .slice (some ad) m c) (hl : news.length = m * size) (hc : ∀ j u, news[j]? = some u → w.cell? (ad.add j) = some u) (h1 : news.all (·.oneCell') = true)
    (h63 : n + m ≤ maxLen) (hbytes : (n + m) * bytes ≤ 140737488355328)
    (h : ∀ v' w', Sat G w' (ownS e size v' (n + m) (xs ++ news) :: l) → wpList P ops Q rest (a.put o.dst v') w') : wpList P ops Q (o :: rest) a w := by
  obtain ⟨i, hi0, hz, hsize, hby⟩ : ∃ i, P.info? e = some i ∧ i.zero = some z ∧ i.size = size ∧ i.bytes = bytes := by
    cases hi' : P.info? e with
    | none => rw [hi'] at hi; simp at hi
    | some i => rw [hi'] at hi; simp at hi; exact ⟨i, rfl, hi.1, hi.2.1, hi.2.2⟩
  refine wpList_plain hgd fun K hK => ?_
  obtain ⟨v', w', hrun, h2, h3, _, h5⟩ := run_append_own_at (P := P) w 0 t o.type e i z size bytes ht hi0 hz hsize hby hzs hsz v n xs S.owns ad m c news hl hc (List.all_eq_true.1 h1) h63 hbytes (Nat.zero_le _)
  unfold Oper.wp execOp
  simp only [ho, resolve, invoke, builtin, Sem.run_bind, Sem.run_pure, Result.andThen_ok, List.map_toArray, List.map_cons, List.map_nil, hs, hx, hrun]
  exact hK _ _ (h v' w' (S.grown h2 h3 h5))
end
end Go.Proofs.YtcecfhfbcdbofaaGreatDoor
set_option linter.unusedSimpArgs false
set_option linter.unusedVariables false
namespace Go.Proofs.YtcecfhfbcdbofaaGreatDoor
open Go.RowKit

/-- What is done, and i. -/
def upd (f : Nat → Bool) (i : Nat) : Nat → Bool := fun j => Nat.beq j i || f j
/-- The frame when some of the operations have come up: what each yields, by its number. -/
def acts : List (Nat × Tmp × Value) → (Nat → Bool) → Act → Act
  | [], _, a => a
  | p :: ps, f, a => acts ps f (if f p.1 then a.put (some p.2.1) p.2.2 else a)
def predsOf (ops : Array Oper) : List (List Nat) := ops.toList.map fun o => (o.after.toList.filter (Region.binds .any)).map (·.on)
def allDone (f : Nat → Bool) : List Nat → Prop
  | [] => True
  | p :: ps => f p = true ∧ allDone f ps
def forAll (p : Nat → Prop) : List Nat → Prop
  | [] => True
  | i :: is => p i ∧ forAll p is
theorem forAll_mem {p : Nat → Prop} {l : List Nat} (h : forAll p l) : ∀ i ∈ l, p i := by
  induction l with
  | nil => intro i hi; cases hi
  | cons a l ih =>
    intro i hi
    rcases List.mem_cons.1 hi with rfl | hi
    · exact h.1
    · exact ih h.2 i hi
theorem allDone_of {f : Nat → Bool} {l : List Nat} (h : ∀ p ∈ l, f p = true) : allDone f l := by
  induction l with
  | nil => exact trivial
  | cons a l ih => exact ⟨h a (by simp), ih fun p hp => h p (List.mem_cons_of_mem _ hp)⟩
theorem acts_size (ps : List (Nat × Tmp × Value)) (f : Nat → Bool) (a : Act) : (acts ps f a).tmps.size = a.tmps.size := by
  induction ps generalizing a with
  | nil => rfl
  | cons p ps ih => rw [acts, ih]; split <;> simp [Act.put]
theorem acts_stack (ps : List (Nat × Tmp × Value)) (f : Nat → Bool) (a : Act) : ∃ T, acts ps f a = { a with tmps := T } := by
  induction ps generalizing a with
  | nil => exact ⟨a.tmps, rfl⟩
  | cons p ps ih =>
    rw [acts]
    split
    · obtain ⟨T, h⟩ := ih (a.put (some p.2.1) p.2.2); exact ⟨T, by rw [h]; rfl⟩
    · exact ih a
/-- A slot that no operation of the region writes. -/
theorem acts_eval_tmp {ps : List (Nat × Tmp × Value)} {f : Nat → Bool} {a : Act} (t : Tmp) (h : (ps.map (·.2.1)).contains t = false) : (acts ps f a).eval (.tmp t) = a.eval (.tmp t) := by
  induction ps generalizing a with
  | nil => rfl
  | cons p ps ih =>
    simp only [List.map_cons, List.contains_cons, Bool.or_eq_false_iff, beq_eq_false_iff_ne] at h
    rw [acts, ih h.2]
    split
    · exact Act.eval_put fun d hd => by cases hd; intro he; cases he; exact h.1 rfl
    · rfl
/-- A slot that an operation has written. -/
theorem acts_eval_hit {ps : List (Nat × Tmp × Value)} {f : Nat → Bool} {a : Act} (k : Nat) {i : Nat} {t : Tmp} {v : Value} (hk : ps[k]? = some (i, t, v)) (hf : f i = true) (hsz : Nat.blt t a.tmps.size = true) (hu : ((ps.drop (k + 1)).map (·.2.1)).contains t = false) : (acts ps f a).eval (.tmp t) = v := by
  induction ps generalizing a k with
  | nil => cases hk
  | cons p ps ih =>
    cases k with
    | zero =>
      simp only [List.getElem?_cons_zero, Option.some.injEq] at hk
      subst hk
      rw [acts, acts_eval_tmp t (by simpa using hu)]
      have hsz' : t < a.tmps.size := by simpa using hsz
      simp [hf, Act.eval, Act.put, hsz']
    | succ k =>
      rw [acts]
      refine ih k (by simpa using hk) ?_ (by simpa using hu)
      split
      · simpa [Act.put] using hsz
      · exact hsz
theorem acts_congr {ps : List (Nat × Tmp × Value)} {f g : Nat → Bool} {a : Act} (h : ∀ p ∈ ps, f p.1 = g p.1) : acts ps f a = acts ps g a := by
  induction ps generalizing a with
  | nil => rfl
  | cons p ps ih => rw [acts, acts, h p (by simp), ih fun q hq => h q (List.mem_cons_of_mem _ hq)]
/-- An operation without a slot. -/
theorem acts_none {ps : List (Nat × Tmp × Value)} {f : Nat → Bool} {a : Act} (i : Nat) (h : (ps.map (·.1)).contains i = false) : acts ps (upd f i) a = acts ps f a := by
  refine acts_congr fun p hp => ?_
  have hne : p.1 ≠ i := by
    rintro rfl
    rw [List.contains_iff_mem.2 (List.mem_map_of_mem hp)] at h
    cases h
  simp [upd, hne]
theorem acts_put {ps : List (Nat × Tmp × Value)} {f : Nat → Bool} {a : Act} {t : Tmp} {v : Value} (h : (ps.map (·.2.1)).contains t = false) : acts ps f (a.put (some t) v) = (acts ps f a).put (some t) v := by
  induction ps generalizing a with
  | nil => rfl
  | cons p ps ih =>
    simp only [List.map_cons, List.contains_cons, Bool.or_eq_false_iff, beq_eq_false_iff_ne] at h
    rw [acts, acts, ← ih h.2]
    split
    · rw [Act.put_comm]
      intro d hd he
      cases hd; cases he
      exact h.1 rfl
    · rfl
/-- An operation with a slot. -/
theorem acts_some {ps : List (Nat × Tmp × Value)} {f : Nat → Bool} {a : Act} (k : Nat) {i : Nat} {t : Tmp} {v : Value} (hk : ps[k]? = some (i, t, v)) (hi : (((ps.take k) ++ (ps.drop (k + 1))).map (·.1)).contains i = false) (hu : ((ps.drop (k + 1)).map (·.2.1)).contains t = false) :
    acts ps (upd f i) a = (acts ps f a).put (some t) v := by
  induction ps generalizing a k with
  | nil => cases hk
  | cons p ps ih =>
    cases k with
    | zero =>
      simp only [List.getElem?_cons_zero, Option.some.injEq] at hk
      subst hk
      simp only [List.take_zero, List.nil_append, List.drop_succ_cons, List.drop_zero, Nat.zero_add] at hi hu
      rw [acts, acts, acts_none i hi, ← acts_put hu]
      have : upd f i i = true := by simp [upd]
      simp only [this, if_true]
      split
      · congr 1; simp [Act.put]
      · rfl
    | succ k =>
      simp only [List.take_succ_cons, List.cons_append, List.map_cons, List.contains_cons, Bool.or_eq_false_iff, beq_eq_false_iff_ne, List.drop_succ_cons] at hi
      rw [acts, acts]
      have : upd f i p.1 = f p.1 := by simp [upd, Ne.symm hi.1]
      rw [this]
      exact ih k (by simpa using hk) hi.2 (by simpa using hu)

section
variable {P : Program} {ops : Array Oper} {Q : Exit → Act → World → Prop}
theorem getD_setIn {l : Array Bool} {i j : Nat} (hi : i < l.size) : (l.setIfInBounds i true).getD j true = (Nat.beq j i || l.getD j true) := by
  by_cases h : i = j
  · subst h; simp [hi]
  · rw [getD_set_ne true h]; simp [show ¬ j = i from fun e => h e.symm]
theorem wpAny_inv {n : Nat} (hn : ops.size = n) {J : (Nat → Bool) → Act → World → Prop}
    (hs : ∀ i f a w, i < n → f i = false → (∀ o, ops[i]? = some o → ∀ e ∈ o.after, Region.binds .any e = true → f e.on = true) → J f a w → wpOp P ops Q i (J (upd f i)) a w)
    (hpre : ∀ i o, ops[i]? = some o → ∀ e ∈ o.after, Region.binds .any e = true → e.on < i)
    (he : ∀ a w, J (fun _ => true) a w → Q .normal a w) :
    ∀ (fuel : Nat) (l : Array Bool) (a : Act) (w : World), l.size = n → (l.toList.filter (!·)).length ≤ fuel → J (fun j => l.getD j true) a w → wpAny P .any ops Q fuel l a w := by
  have hdone : ∀ (l : Array Bool) a w, l.size = n → Region.ready .any ops l = [] → J (fun j => l.getD j true) a w → Q .normal a w := by
    intro l a w hl hr hJ
    have hall : ∀ k, ∀ j, j < k → l.getD j true = true := by
      intro k
      induction k with
      | zero => intro j hj; omega
      | succ k ih =>
        intro j hj
        by_cases hlt : j < k
        · exact ih j hlt
        have hjk : j = k := by omega
        subst hjk
        cases hf : l.getD j true with
        | true => rfl
        | false =>
          exfalso
          have hjn : j < n := by
            rcases Nat.lt_or_ge j n with h | h
            · exact h
            · rw [← hl] at h; simp [Array.getElem?_eq_none h] at hf
          have ho : ops[j]? = some (ops[j]'(by omega)) := Array.getElem?_eq_getElem _
          have : j ∈ Region.ready .any ops l := mem_ready.2 ⟨hf, _, ho, fun e he hb => by
            have h1 := ih e.on (hpre j _ ho e he hb)
            have h2 : e.on < l.size := by have := hpre j _ ho e he hb; omega
            simp [h2] at h1 ⊢; exact h1⟩
          rw [hr] at this
          cases this
    refine he a w ?_
    have : (fun j => l.getD j true) = fun _ => true := funext fun j => hall (j + 1) j (by omega)
    rw [← this]; exact hJ
  intro fuel
  induction fuel with
  | zero =>
    intro l a w hl hc hJ
    have hr : Region.ready .any ops l = [] := by
      rcases hr : Region.ready .any ops l with _ | ⟨i, is⟩
      · rfl
      · exfalso
        have hi : i ∈ Region.ready .any ops l := by rw [hr]; simp
        obtain ⟨h0, o, ho, _⟩ := mem_ready.1 hi
        have hin : i < l.size := by rw [hl, ← hn]; exact (Array.getElem?_eq_some_iff.1 ho).1
        have hm : false ∈ l.toList.filter (!·) := by
          rw [List.mem_filter]
          simp [hin] at h0
          exact ⟨by rw [← h0]; simp, rfl⟩
        have := List.length_pos_of_mem hm
        omega
    exact ⟨hr, hdone l a w hl hr hJ⟩
  | succ fuel ih =>
    intro l a w hl hc hJ
    refine ⟨fun hr => hdone l a w hl hr hJ, fun i hi => ?_⟩
    obtain ⟨h0, o, ho, hall⟩ := mem_ready.1 hi
    have hin : i < l.size := by rw [hl, ← hn]; exact (Array.getElem?_eq_some_iff.1 ho).1
    refine wpOp_mono (fun a' w' h' => ih (l.setIfInBounds i true) a' w' (by simpa using hl) ?_ ?_) (hs i _ a w (by omega) h0 (fun o' ho' e he hb => ?_) hJ)
    · have h1 : l[i] = false := by simpa [hin] using h0
      have h2 : (l.setIfInBounds i true).toList = l.toList.take i ++ true :: l.toList.drop (i + 1) := by
        simp [List.set_eq_take_append_cons_drop, hin]
      have h3 : l.toList = l.toList.take i ++ l[i] :: l.toList.drop (i + 1) := by
        conv => lhs; rw [← List.take_append_drop i l.toList, List.drop_eq_getElem_cons (by simpa using hin)]
        simp
      rw [h2]
      rw [h3] at hc
      simp only [List.filter_append, List.filter_cons, h1, Bool.not_false, if_true, List.length_append, List.length_cons, Bool.not_true, if_false, Bool.false_eq_true] at hc ⊢
      omega
    · have : (fun j => (l.setIfInBounds i true).getD j true) = upd (fun j => l.getD j true) i := funext fun j => getD_setIn hin
      rw [this]; exact h'
    · rw [ho] at ho'; cases ho'
      have h1 := hall e he hb
      have h2 : e.on < l.size := by
        rcases Nat.lt_or_ge e.on l.size with h | h
        · exact h
        · simp [Array.getElem?_eq_none h] at h1
      simp [h2] at h1 ⊢; exact h1
/-- One operation by itself, as the walks step it. -/
def asK (K : Act → World → Prop) (Q : Exit → Act → World → Prop) : Exit → Act → World → Prop
  | .normal, a, w => K a w
  | e, a, w => Q e a w
theorem wpOp_list {i : Nat} {o : Oper} {K : Act → World → Prop} {a : Act} {w : World} (ho : ops[i]? = some o) (h : wpList P ops (asK K Q) [o] a w) : wpOp P ops Q i K a w := by
  unfold wpOp
  simp only [ho]
  simp only [wpList] at h
  split at h
  · rename_i hw
    rw [if_pos hw]
    rcases h with h | ⟨h1, a', w', h2⟩
    · left
      unfold Oper.wp at *
      generalize (execOp a.eval o).run P w = r at *
      cases r with
      | ok n w' =>
        cases n <;> simp only [Oper.upon] at h ⊢
        case value u => exact h
        case skip => exact h
        case defer d => exact h
        case enter f args =>
          refine Calls.mono h fun e w'' he => ?_
          cases e with
          | returned u => exact he
          | panicked c => exact he
          | outgrown => obtain ⟨a', w', h⟩ := he; exact ⟨a', w', h⟩
        case row row args => exact h
      | halt x w' => cases x <;> simp only [Oper.upon] at h ⊢; exact h
    · exact .inr ⟨h1, a', w', h2⟩
  · rename_i hw
    rw [if_neg hw]
    exact h
theorem wpOp_run {i : Nat} {o : Oper} {K : Act → World → Prop} {a : Act} {w : World} {v : Value} (ho : ops[i]? = some o) (hg : o.guard = none) (hr : ∀ ρ, ρ = a.eval → (execOp ρ o).run P w = .ok (.value v) w) (h : K (a.put o.dst v) w) : wpOp P ops Q i K a w := by
  unfold wpOp
  simp only [ho]
  have hw : Region.wanted o (yielded ops a.tmps) = true := by unfold Region.wanted; rw [hg]
  rw [if_pos hw]
  left
  unfold Oper.wp
  rw [hr _ rfl]
  exact h
/-- A region that draws its order, over Sat: the frame is told by what each operation yields, the memory by rows. -/
theorem wp_region_sat {id : Nat} {a : Act} {w : World} {G : Gnd} (hm : P.follows .mixedOrders = true) (n : Nat) (hn : ops.size = n) (preds : List (List Nat)) (hp : predsOf ops = preds)
    (hpre : ((List.range n).all fun i => (preds.getD i []).all (Nat.blt · i)) = true)
    (ps : List (Nat × Tmp × Value)) (rows : (Nat → Bool) → List Asrt) (hps : (ps.all fun p => Nat.blt p.1 n) = true)
    (S : Sat G w (rows fun j => !Nat.blt j n))
    (hs : forAll (fun i => ∀ f W, f i = false → allDone f (preds.getD i []) → Sat G W (rows f) → wpOp P ops Q i (fun a' W' => a' = acts ps (upd f i) a ∧ Sat G W' (rows (upd f i))) (acts ps f a) W) (List.range n))
    (he : ∀ W, Sat G W (rows fun _ => true) → Q .normal (acts ps (fun _ => true) a) W) : (Code.region id ops true).wp P Q a w := by
  refine wp_region_any hm ?_
  have hpo : ∀ i o, ops[i]? = some o → ∀ e ∈ o.after, Region.binds .any e = true → e.on ∈ preds.getD i [] := by
    intro i o ho e he hb
    subst hp
    have : (predsOf ops).getD i [] = (o.after.toList.filter (Region.binds .any)).map (·.on) := by
      unfold predsOf
      have ho' : ops.toList[i]? = some o := by simpa using ho
      rw [List.getD_eq_getElem?_getD, List.getElem?_map, ho']
      rfl
    rw [this]
    exact List.mem_map_of_mem (List.mem_filter.2 ⟨by simpa using he, hb⟩)
  have hstart : ∀ j, (Array.replicate ops.size false).getD j true = !Nat.blt j n := by
    intro j
    by_cases h : j < n
    · have hb : Nat.blt j n = true := by simpa using h
      simp [hn, h, hb]
    · have hb : Nat.blt j n = false := by
        cases hb : Nat.blt j n with
        | false => rfl
        | true => exact absurd (by simpa using hb) h
      simp [hn, h, hb]
  refine wpAny_inv hn (J := fun f a' w' => a' = acts ps f a ∧ Sat G w' (rows f)) ?_ ?_ ?_ ops.size _ a _ (by simp [hn]) ?_ ?_
  · rintro i f a' w' hi hf hpr ⟨rfl, S'⟩
    refine forAll_mem hs i (List.mem_range.2 hi) f w' hf (allDone_of fun p hp' => ?_) S'
    have ho : ops[i]? = some (ops[i]'(by omega)) := Array.getElem?_eq_getElem _
    subst hp
    have : (predsOf ops).getD i [] = ((ops[i]'(by omega)).after.toList.filter (Region.binds .any)).map (·.on) := by
      unfold predsOf
      have ho' : ops.toList[i]? = some (ops[i]'(by omega)) := by simp
      rw [List.getD_eq_getElem?_getD, List.getElem?_map, ho']
      rfl
    rw [this] at hp'
    obtain ⟨e, hme, rfl⟩ := List.mem_map.1 hp'
    obtain ⟨hm1, hm2⟩ := List.mem_filter.1 hme
    exact hpr _ ho e (by simpa using hm1) hm2
  · intro i o ho e he hb
    have hi : i < n := by rw [← hn]; exact (Array.getElem?_eq_some_iff.1 ho).1
    rw [List.all_eq_true] at hpre
    have := hpre i (List.mem_range.2 hi)
    rw [List.all_eq_true] at this
    exact by simpa using this _ (hpo i o ho e he hb)
  · rintro a' w' ⟨rfl, S'⟩; exact he w' S'
  · refine Nat.le_trans (List.length_filter_le _ _) ?_
    simp
  · have hf : (fun j => (Array.replicate ops.size false).getD j true) = fun j => !Nat.blt j n := funext hstart
    rw [hf]
    refine ⟨?_, S.drew⟩
    have h0 : ∀ (ps : List (Nat × Tmp × Value)) (a : Act), (ps.all fun p => Nat.blt p.1 n) = true → acts ps (fun j => !Nat.blt j n) a = a := by
      intro ps
      induction ps with
      | nil => intro a _; rfl
      | cons p ps ih =>
        intro a h
        rw [List.all_cons, Bool.and_eq_true] at h
        simp only [acts, h.1, Bool.not_true, Bool.false_eq_true, if_false]
        exact ih a h.2
    exact (h0 ps a hps).symm
end
end Go.Proofs.YtcecfhfbcdbofaaGreatDoor
set_option linter.unusedSimpArgs false
set_option linter.unusedVariables false
namespace Go.Proofs.YtcecfhfbcdbofaaGreatDoor
open Go.RowKit

section
variable {P : Program} {ops : Array Oper} {Q : Exit → Act → World → Prop}
/-- An operation that its guard lets run. -/
theorem wpOp_runG {i : Nat} {o : Oper} {K : Act → World → Prop} {a : Act} {w : World} {v : Value} (ho : ops[i]? = some o) (hw : Region.wanted o (yielded ops a.tmps) = true) (hr : ∀ ρ, ρ = a.eval → (execOp ρ o).run P w = .ok (.value v) w) (h : K (a.put o.dst v) w) : wpOp P ops Q i K a w := by
  unfold wpOp
  simp only [ho]
  rw [if_pos hw]
  left
  unfold Oper.wp
  rw [hr _ rfl]
  exact h
/-- An operation that its guard passes over. -/
theorem wpOp_skip {i : Nat} {o : Oper} {K : Act → World → Prop} {a : Act} {w : World} (ho : ops[i]? = some o) (hw : Region.wanted o (yielded ops a.tmps) = false) (h : K (a.put o.dst undef) w) : wpOp P ops Q i K a w := by
  unfold wpOp
  simp only [ho]
  rw [if_neg (by rw [hw]; exact Bool.false_ne_true)]
  exact h
/-- What a guard looks at. -/
theorem yielded_of {a : Act} {g : Nat} {t : Tmp} {b : Bool} (ht : (ops[g]?).bind (·.dst) = some t) (he : a.eval (.tmp t) = .bool b) : yielded ops a.tmps g = some b := by
  unfold yielded
  rw [ht]
  simp only [Act.eval] at he
  cases hv : a.tmps[t]? with
  | none => simp [hv, undef] at he
  | some v => simp [hv] at he; subst he; simp [hv]
/-- An operation that turns memory. -/
theorem wpOp_mem {i : Nat} {o : Oper} {K : Act → World → Prop} {a : Act} {w w' : World} {v : Value} (ho : ops[i]? = some o) (hg : o.guard = none) (hr : ∀ ρ, ρ = a.eval → (execOp ρ o).run P w = .ok (.value v) w') (h : K (a.put o.dst v) w') : wpOp P ops Q i K a w := by
  unfold wpOp
  simp only [ho]
  have hw : Region.wanted o (yielded ops a.tmps) = true := by unfold Region.wanted; rw [hg]
  rw [if_pos hw]
  left
  unfold Oper.wp
  rw [hr _ rfl]
  exact h
/-- A call of a Go function, by its contract. -/
theorem wpOp_call {i : Nat} {o : Oper} {K : Act → World → Prop} {a : Act} {w : World} {f : FuncId} {args : Array Value} {R : Ending → World → Prop} (ho : ops[i]? = some o) (hg : o.guard = none) (hr : ∀ ρ, ρ = a.eval → (execOp ρ o).run P w = .ok (.enter f args) w)
    (hc : Calls P f args w R) (h : ∀ e w', R e w' → ∃ v, e = .returned v ∧ K (a.put o.dst v) w') : wpOp P ops Q i K a w := by
  unfold wpOp
  simp only [ho]
  have hw : Region.wanted o (yielded ops a.tmps) = true := by unfold Region.wanted; rw [hg]
  rw [if_pos hw]
  left
  unfold Oper.wp
  rw [hr _ rfl]
  rw [Oper.upon_enter]
  refine Calls.mono hc fun e w' he => ?_
  obtain ⟨v, rfl, hv⟩ := h e w' he
  exact hv
/-- A region that draws its order, over any invariant of what is done. -/
theorem wp_region_J {id : Nat} {a : Act} {w : World} (hm : P.follows .mixedOrders = true) (n : Nat) (hn : ops.size = n) (preds : List (List Nat)) (hp : predsOf ops = preds)
    (hpre : ((List.range n).all fun i => (preds.getD i []).all (Nat.blt · i)) = true)
    (J : (Nat → Bool) → Act → World → Prop) (h0 : J (fun j => !Nat.blt j n) a w.drew)
    (hs : forAll (fun i => ∀ f a W, f i = false → allDone f (preds.getD i []) → J f a W → wpOp P ops Q i (J (upd f i)) a W) (List.range n))
    (he : ∀ a W, J (fun _ => true) a W → Q .normal a W) : (Code.region id ops true).wp P Q a w := by
  refine wp_region_any hm ?_
  have hpo : ∀ i o, ops[i]? = some o → ∀ e ∈ o.after, Region.binds .any e = true → e.on ∈ preds.getD i [] := by
    intro i o ho e he hb
    subst hp
    have : (predsOf ops).getD i [] = (o.after.toList.filter (Region.binds .any)).map (·.on) := by
      unfold predsOf
      have ho' : ops.toList[i]? = some o := by simpa using ho
      rw [List.getD_eq_getElem?_getD, List.getElem?_map, ho']
      rfl
    rw [this]
    exact List.mem_map_of_mem (List.mem_filter.2 ⟨by simpa using he, hb⟩)
  have hstart : ∀ j, (Array.replicate ops.size false).getD j true = !Nat.blt j n := by
    intro j
    by_cases h : j < n
    · have hb : Nat.blt j n = true := by simpa using h
      simp [hn, h, hb]
    · have hb : Nat.blt j n = false := by
        cases hb : Nat.blt j n with
        | false => rfl
        | true => exact absurd (by simpa using hb) h
      simp [hn, h, hb]
  refine wpAny_inv hn (J := J) ?_ ?_ ?_ ops.size _ a _ (by simp [hn]) ?_ ?_
  · intro i f a' w' hi hf hpr S'
    refine forAll_mem hs i (List.mem_range.2 hi) f a' w' hf (allDone_of fun p hp' => ?_) S'
    have ho : ops[i]? = some (ops[i]'(by omega)) := Array.getElem?_eq_getElem _
    subst hp
    have : (predsOf ops).getD i [] = ((ops[i]'(by omega)).after.toList.filter (Region.binds .any)).map (·.on) := by
      unfold predsOf
      have ho' : ops.toList[i]? = some (ops[i]'(by omega)) := by simp
      rw [List.getD_eq_getElem?_getD, List.getElem?_map, ho']
      rfl
    rw [this] at hp'
    obtain ⟨e, hme, rfl⟩ := List.mem_map.1 hp'
    obtain ⟨hm1, hm2⟩ := List.mem_filter.1 hme
    exact hpr _ ho e (by simpa using hm1) hm2
  · intro i o ho e he hb
    have hi : i < n := by rw [← hn]; exact (Array.getElem?_eq_some_iff.1 ho).1
    rw [List.all_eq_true] at hpre
    have := hpre i (List.mem_range.2 hi)
    rw [List.all_eq_true] at this
    exact by simpa using this _ (hpo i o ho e he hb)
  · intro a' w' S'; exact he a' w' S'
  · refine Nat.le_trans (List.length_filter_le _ _) ?_
    simp
  · have hf : (fun j => (Array.replicate ops.size false).getD j true) = fun j => !Nat.blt j n := funext hstart
    rw [hf]; exact h0
end
end Go.Proofs.YtcecfhfbcdbofaaGreatDoor
set_option linter.unusedSimpArgs false
set_option linter.unusedVariables false
namespace Go.Proofs.YtcecfhfbcdbofaaGreatDoor
open Go.RowKit

def opt (b : Bool) (A : Asrt) : Asrt := ⟨fun R h => b = true → A.p R h, fun hR h e => A.mono hR (h e)⟩
theorem opt_iff {G : Gnd} {w : World} {l : List Asrt} {A : Asrt} : Sat G w (opt true A :: l) ↔ Sat G w (A :: l) :=
  ⟨fun H => Sat.conv (A := opt true A) (fun h (p : true = true → A.p G.ro h) => p rfl) H, fun H => Sat.conv (A' := opt true A) (fun h p _ => p) H⟩
theorem Sat.opt0 {G : Gnd} {w : World} {l : List Asrt} {A : Asrt} (H : Sat G w l) : Sat G w (opt false A :: l) := H.free fun _ _ e => by cases e
theorem Sat.optI {G : Gnd} {w : World} {l : List Asrt} {A : Asrt} {b : Bool} (hb : b = true) (H : Sat G w (A :: l)) : Sat G w (opt b A :: l) := by subst hb; exact opt_iff.2 H
theorem Sat.optE {G : Gnd} {w : World} {l : List Asrt} {A : Asrt} {b : Bool} (hb : b = true) (H : Sat G w (opt b A :: l)) : Sat G w (A :: l) := by subst hb; exact opt_iff.1 H
theorem wp_act {P : Program} {c : Code} {Q : Exit → Act → World → Prop} {a : Act} {w : World} (h : ∀ b, b = a → c.wp P Q b w) : c.wp P Q a w := h a rfl
theorem wanted_hit {ops : Array Oper} {o : Oper} {a : Act} {g : Nat} {t : Tmp} {b : Bool} (hg : o.guard = some (g, b)) (ht : (ops[g]?).bind (·.dst) = some t) (he : a.eval (.tmp t) = .bool b) : Region.wanted o (yielded ops a.tmps) = true := by
  unfold Region.wanted
  rw [hg]
  simp [yielded_of ht he]
/-- Where one value of what is done is another: the slots that were not written yet do not count. -/
theorem acts_swap {ps qs : List (Nat × Tmp × Value)} {f : Nat → Bool} {a : Act} (h : acts qs f a = acts ps f a) {k i : Nat} {t : Tmp} {v : Value} (hk : qs[k]? = some (i, t, v)) (hi : (((qs.take k) ++ (qs.drop (k + 1))).map (·.1)).contains i = false) (hu : ((qs.drop (k + 1)).map (·.2.1)).contains t = false) :
    (acts ps f a).put (some t) v = acts qs (upd f i) a := by rw [acts_some k hk hi hu, h]
/-- A call that its guard lets run. -/
theorem wpOp_callG {P : Program} {ops : Array Oper} {Q : Exit → Act → World → Prop} {i : Nat} {o : Oper} {K : Act → World → Prop} {a : Act} {w : World} {f : FuncId} {args : Array Value} {R : Ending → World → Prop} (ho : ops[i]? = some o) (hw : Region.wanted o (yielded ops a.tmps) = true) (hr : ∀ ρ, ρ = a.eval → (execOp ρ o).run P w = .ok (.enter f args) w)
    (hc : Calls P f args w R) (h : ∀ e w', R e w' → ∃ v, e = .returned v ∧ K (a.put o.dst v) w') : wpOp P ops Q i K a w := by
  unfold wpOp
  simp only [ho]
  rw [if_pos hw]
  left
  unfold Oper.wp
  rw [hr _ rfl]
  rw [Oper.upon_enter]
  refine Calls.mono hc fun e w' he => ?_
  obtain ⟨v, rfl, hv⟩ := h e w' he
  exact hv
end Go.Proofs.YtcecfhfbcdbofaaGreatDoor
set_option linter.unusedSimpArgs false
set_option linter.unusedVariables false
namespace Go.Proofs.YtcecfhfbcdbofaaGreatDoor
open Go.RowKit

theorem cells_one {v : Value} (h : v.oneCell' = true) : v.cells = #[v] := by cases v <;> first | rfl | simp [Value.oneCell'] at h
theorem Sat.ownSlice {G : Gnd} {w : World} {l : List Asrt} {e : TypeId} {size : Nat} {v : Value} {n : Nat} {xs : List Value} (H : Sat G w (ownS e size v n xs :: l)) : ∃ A c, v = .slice A n c ∧ n ≤ c ∧ c ≤ maxLen ∧ (A = none → c = 0) := by
  obtain ⟨_, ⟨rfl, rfl, _⟩ | ⟨g, cap, cur, rfl, h1, h2, _, _, _⟩⟩ := own_iff.1 H
  · exact ⟨none, 0, rfl, Nat.le_refl _, Nat.zero_le _, fun _ => rfl⟩
  · exact ⟨_, cap, rfl, h1, h2, fun h => by cases h⟩
/-- Cells from o on are written. -/
def setMid (cs : Array Value) (o : Nat) : List Value → Array Value
  | [] => cs
  | v :: l => setMid (cs.setIfInBounds o v) (o + 1) l
theorem setMid_size (l : List Value) : ∀ (cs : Array Value) (o : Nat), (setMid cs o l).size = cs.size := by
  induction l with
  | nil => intros; rfl
  | cons v l ih => intro cs o; rw [setMid, ih]; simp
section
variable {P : Program} {ops : Array Oper} {rest : List Oper} {o : Oper} {a : Act} {w : World} {Q : Exit → Act → World → Prop} {G : Gnd} {l : List Asrt}
theorem blk_cells {g : Nat} {cs : Array Value} {t : TypeId} (S : Sat G w (blk g cs t :: l)) (j : Nat) (u : Value) (hj : cs.toList[j]? = some u) : w.cell? ((⟨g, 0, none⟩ : Addr).add j) = some u := by
  have e : (⟨g, 0, none⟩ : Addr).add j = ⟨g, j, none⟩ := by unfold Addr.add; split <;> simp_all
  rw [e, S.cell j]; simpa using hj
theorem setCells_sat {b : Nat} {t : TypeId} : ∀ (vs : List Value) (o : Nat) (cs : Array Value) (w : World), Sat G w (blk b cs t :: l) → Sat G (w.setCells b o vs) (blk b (setMid cs o vs) t :: l)
  | [], _, _, _, S => S
  | v :: r, o, cs, w, S => setCells_sat r (o + 1) _ _ (S.setCell o v)
theorem there_blk {b : Nat} {cs : Array Value} {t : TypeId} (S : Sat G w (blk b cs t :: l)) (o n : Nat) (h : o + n ≤ cs.size) : w.there b o n := fun j hj => by
  rw [S.cell, S.frozen]
  exact ⟨by simp; omega, rfl⟩
/-- The run of a store: whatever the value. -/
theorem run_store_any (ty : TypeId) (b o : Nat) (v : Value) (cs : Array Value) (hv : v.cells = cs) (h1 : cs.all (·.oneCell') = true) (hi : (P.info? ty).map (·.size) = some cs.size) (ht : w.there b o cs.size) :
    (Instr.storeAt ty (.pointer (some ⟨b, o, none⟩)) v).run P w = .ok () (w.setCells b o cs.toList) := by
  have := run_storeCells_cells (P := P) b o cs.toList 0 w (fun j hj => by simpa using (ht j (by simpa using hj)).1) (fun j hj => by simpa using (ht j (by simpa using hj)).2)
    (fun v hv => (Array.all_eq_true_iff_forall_mem.1 h1) v (by simpa using hv))
  cases hq : P.info? ty with
  | none => simp [hq] at hi
  | some i =>
    have hs : cs.size = i.size := by simp [hq] at hi; omega
    simp only [Nat.add_zero] at this
    simp [Instr.storeAt, Instr.sureAddr, storeVar, sizeOf, typeInfo, hq, hv, hs, this]
/-- A store into the midst of a block of one's own. -/
theorem st_mid (hgd : o.guard = none) (ty : TypeId) (x y : Operand) (ho : o.op = .store ty x y) (g j : Nat) (v : Value) (cs : Array Value) (hx : a.eval x = .pointer (some ⟨g, j, none⟩)) (hy : a.eval y = v) (hv : v.cells = cs)
    (t : TypeId) (old : Array Value) (S : Sat G w (blk g old t :: l)) (hi : (P.info? ty).map (·.size) = some cs.size) (hold : j + cs.size ≤ old.size) (h1 : cs.all (·.oneCell') = true)
    (h : ∀ w', Sat G w' (blk g (setMid old j cs.toList) t :: l) → wpList P ops Q rest (a.put o.dst undef) w') : wpList P ops Q (o :: rest) a w := by
  refine wpList_plain hgd fun K hK => ?_
  unfold Oper.wp execOp
  simp only [ho, hx, hy, Sem.run_bind, run_store_any ty g j v cs hv h1 hi (there_blk S j cs.size hold), Sem.run_pure, Result.andThen_ok]
  exact hK _ _ (h _ (setCells_sat _ _ _ _ S))
/-- A store of one cell. -/
theorem st_set (hgd : o.guard = none) (ty : TypeId) (x y : Operand) (ho : o.op = .store ty x y) (g j : Nat) (v : Value) (hx : a.eval x = .pointer (some ⟨g, j, none⟩)) (hy : a.eval y = v) (hv : v.oneCell' = true)
    (t : TypeId) (old : Array Value) (S : Sat G w (blk g old t :: l)) (hi : (P.info? ty).map (·.size) = some 1) (hold : j < old.size)
    (h : ∀ w', Sat G w' (blk g (old.setIfInBounds j v) t :: l) → wpList P ops Q rest (a.put o.dst undef) w') : wpList P ops Q (o :: rest) a w :=
  st_mid hgd ty x y ho g j v #[v] hx hy (cells_one hv) t old S hi (by simp; omega) (by simp [hv]) h
/-- A load out of the midst of a block of one's own. -/
theorem st_get (hgd : o.guard = none) (ty : TypeId) (x : Operand) (ho : o.op = .load ty x) (g j : Nat) (hx : a.eval x = .pointer (some ⟨g, j, none⟩)) (t : TypeId) (cs : Array Value) (S : Sat G w (blk g cs t :: l)) (vs : List Value)
    (hvs : ∀ i v, vs[i]? = some v → cs[j + i]? = some v) (d : TypeDesc) (hu : P.underlying ty = some d) (hd : (match d with | .struct _ | .array _ _ => true | _ => false) = true) (hi : (P.info? ty).map (·.size) = some vs.length)
    (h : wpList P ops Q rest (a.put o.dst (.agg vs.toArray)) w) : wpList P ops Q (o :: rest) a w :=
  wpList_load_mid hgd ty x ho g j hx vs d (fun i v hv => by rw [S.cell]; exact hvs i v hv) hu (by cases d <;> simp_all) hi h
end
end Go.Proofs.YtcecfhfbcdbofaaGreatDoor
set_option linter.unusedSimpArgs false
set_option linter.unusedVariables false
namespace Go.Proofs.YtcecfhfbcdbofaaGreatDoor
open Go.RowKit

def encs {α : Type} (enc : α → List Value) (F : List α) : List Value := F.flatMap enc
section
variable {α : Type} {enc : α → List Value} {size : Nat}
theorem encs_append (A B : List α) : encs enc (A ++ B) = encs enc A ++ encs enc B := by simp [encs]
theorem encs_one (x : α) : encs enc [x] = enc x := by simp [encs]
theorem encs_length (h : ∀ x, (enc x).length = size) (F : List α) : (encs enc F).length = F.length * size := by
  induction F with
  | nil => simp [encs]
  | cons x F ih => simp only [encs, List.flatMap_cons, List.length_append, List.length_cons, h] at ih ⊢; rw [ih, Nat.add_mul]; omega
theorem encs_get (h : ∀ x, (enc x).length = size) : ∀ (F : List α) (i : Nat) (x : α), F[i]? = some x → ∀ j, j < size → (encs enc F)[i * size + j]? = (enc x)[j]?
  | [], i, x, hx, _, _ => by simp at hx
  | y :: F, 0, x, hx, j, hj => by
    simp at hx; subst hx
    simp only [encs, List.flatMap_cons, Nat.zero_mul, Nat.zero_add]
    rw [List.getElem?_append_left (by rw [h]; exact hj)]
  | y :: F, i + 1, x, hx, j, hj => by
    have := encs_get h F i x (by simpa using hx) j hj
    simp only [encs, List.flatMap_cons] at this ⊢
    rw [List.getElem?_append_right (by rw [h, Nat.add_mul]; omega), h]
    rw [← this]; congr 1; rw [Nat.add_mul]; omega
theorem encs_take (h : ∀ x, (enc x).length = size) (F : List α) (k : Nat) : (encs enc F).take (k * size) = encs enc (F.take k) := by
  by_cases hk : k ≤ F.length
  · conv => lhs; rw [← List.take_append_drop k F, encs_append]
    rw [List.take_left' (by rw [encs_length h, List.length_take, Nat.min_eq_left hk])]
  · rw [List.take_of_length_le (l := F) (by omega), List.take_of_length_le (by rw [encs_length h]; exact Nat.mul_le_mul_right _ (by omega))]
theorem encs_set (h : ∀ x, (enc x).length = size) (F : List α) (i : Nat) (x : α) (hi : i < F.length) : encs enc (F.set i x) = encs enc (F.take i) ++ enc x ++ encs enc (F.drop (i + 1)) := by
  rw [List.set_eq_take_append_cons_drop, if_pos hi, encs_append]
  simp [encs]
end
theorem setMid_list : ∀ (vs : List Value) (cur : Array Value) (o : Nat), o + vs.length ≤ cur.size → (setMid cur o vs).toList = cur.toList.take o ++ vs ++ cur.toList.drop (o + vs.length)
  | [], cur, o, h => by simp [setMid]
  | v :: vs, cur, o, h => by
    simp only [List.length_cons] at h
    rw [setMid, setMid_list vs _ (o + 1) (by simp; omega)]
    rw [Array.toList_setIfInBounds]
    apply List.ext_getElem?
    intro k
    have e1 : o + 1 + vs.length = o + (v :: vs).length := by simp; omega
    rw [e1]
    simp only [List.getElem?_append, List.length_append, List.length_take, List.length_set, List.length_cons, Array.length_toList, List.getElem?_take, List.getElem?_drop, List.getElem?_set]
    by_cases k1 : k < o
    · simp [show k < min (o + 1) cur.size by omega, show k < o + 1 by omega, show k < min o cur.size by omega, k1, show ¬ o = k by omega]
      split <;> first | rfl | omega | skip
      all_goals (try split) <;> first | rfl | omega
    · by_cases k2 : k = o
      · subst k2
        simp [show k < min (k + 1) cur.size by omega, show ¬ k < min k cur.size by omega, show k < cur.size by omega, show k - min k cur.size = 0 by omega]
        split <;> first | rfl | omega | skip
        all_goals (try split) <;> first | rfl | omega
      · have h3 : k - min (o + 1) cur.size + 1 = k - min o cur.size := by omega
        by_cases k3 : k < o + 1 + vs.length
        · have a1 : ¬ k < min (o + 1) cur.size := by omega
          have a2 : k < min (o + 1) cur.size + vs.length := by omega
          have a3 : ¬ k < min o cur.size := by omega
          have a4 : k < min o cur.size + (vs.length + 1) := by omega
          rw [if_pos a2, if_neg a1, if_pos a4, if_neg a3, ← h3, List.getElem?_cons_succ]
        · have a2 : ¬ k < min (o + 1) cur.size + vs.length := by omega
          have a4 : ¬ k < min o cur.size + (vs.length + 1) := by omega
          rw [if_neg a2, if_neg a4]
          have a5 : ¬ o = o + (vs.length + 1) + (k - (min (o + 1) cur.size + vs.length)) := by omega
          rw [if_neg a5]
          congr 1
          omega
/-- The cells of a block are the elements F, and what is behind them up to its capacity. -/
structure Lay {α : Type} (enc : α → List Value) (size cap : Nat) (cur : Array Value) (F : List α) : Prop where
  h : ∀ x, (enc x).length = size
  all : cur.size = cap * size
  len : F.length ≤ cap
  at_ : cur.toList.take (F.length * size) = encs enc F
section
variable {α : Type} {enc : α → List Value} {size cap : Nat} {cur : Array Value} {F : List α}
theorem Lay.get (L : Lay enc size cap cur F) {i : Nat} {x : α} (hx : F[i]? = some x) {j : Nat} (hj : j < size) : cur[i * size + j]? = (enc x)[j]? := by
  have h1 := encs_get L.h F i x hx j hj
  rw [← L.at_, List.getElem?_take] at h1
  have hi := (List.getElem?_eq_some_iff.1 hx).1
  have : i * size + j < F.length * size := by
    have := Nat.mul_le_mul_right size (show i + 1 ≤ F.length by omega)
    rw [Nat.add_mul] at this; omega
  rw [if_pos this] at h1
  simpa using h1
theorem Lay.cut (L : Lay enc size cap cur F) (k : Nat) (hk : k ≤ F.length) : Lay enc size cap cur (F.take k) := by
  have hl : (F.take k).length = k := by rw [List.length_take]; omega
  refine ⟨L.h, L.all, by rw [hl]; exact Nat.le_trans hk L.len, ?_⟩
  rw [hl, ← encs_take L.h, ← L.at_, List.take_take, Nat.min_eq_left (Nat.mul_le_mul_right _ hk)]
theorem Lay.room (L : Lay enc size cap cur F) {i : Nat} (hi : i < F.length) : i * size + size ≤ cur.size := by
  rw [L.all]
  have h1 := L.len
  have := Nat.mul_le_mul_right size (show i + 1 ≤ cap by omega)
  rw [Nat.add_mul] at this; omega
theorem Lay.set (L : Lay enc size cap cur F) {i : Nat} (hi : i < F.length) (x : α) : Lay enc size cap (setMid cur (i * size) (enc x)) (F.set i x) := by
  have hr := L.room hi
  refine ⟨L.h, by rw [setMid_size]; exact L.all, by rw [List.length_set]; exact L.len, ?_⟩
  rw [List.length_set, setMid_list _ _ _ (by rw [L.h]; exact hr), L.h, encs_set L.h F i x hi]
  have hm : i * size + size ≤ F.length * size := by
    have := Nat.mul_le_mul_right size (show i + 1 ≤ F.length by omega)
    rw [Nat.add_mul] at this; omega
  have hcs : F.length * size ≤ cur.size := by rw [L.all]; exact Nat.mul_le_mul_right _ L.len
  have e1 : cur.toList.take (i * size) = encs enc (F.take i) := by
    rw [← encs_take L.h, ← L.at_, List.take_take, Nat.min_eq_left (by omega)]
  have e2 : (cur.toList.drop (i * size + size)).take (F.length * size - (i * size + size)) = encs enc (F.drop (i + 1)) := by
    rw [← List.drop_take, L.at_]
    conv => lhs; rw [← List.take_append_drop (i + 1) F, encs_append]
    rw [List.drop_left' (by rw [encs_length L.h, List.length_take, Nat.min_eq_left (by omega), Nat.add_mul]; omega)]
  rw [e1, List.append_assoc, List.append_assoc, List.take_append, List.take_append]
  have l1 : (encs enc (F.take i)).length = i * size := by rw [encs_length L.h, List.length_take, Nat.min_eq_left (by omega)]
  rw [l1, L.h, List.take_of_length_le (by rw [l1]; omega), List.take_of_length_le (l := enc x) (by rw [L.h]; omega)]
  rw [show F.length * size - i * size - size = F.length * size - (i * size + size) by omega, e2]
theorem Lay.keep (L : Lay enc size cap cur F) {o : Nat} {vs : List Value} (ho : F.length * size ≤ o) (hv : o + vs.length ≤ cur.size) : Lay enc size cap (setMid cur o vs) F := by
  refine ⟨L.h, by rw [setMid_size]; exact L.all, L.len, ?_⟩
  rw [setMid_list _ _ _ hv, List.append_assoc, List.take_append, List.take_take, Nat.min_eq_left ho, L.at_]
  have : F.length * size - (cur.toList.take o).length = 0 := by rw [List.length_take]; simp; omega
  rw [this]; simp
variable {G : Gnd} {w : World} {l : List Asrt} {e : TypeId} {v : Value}
theorem Sat.layOpen (H : Sat G w (ownS e size v F.length (encs enc F) :: l)) (h : ∀ x, (enc x).length = size) (hn : 0 < F.length) : ∃ g cap cur, v = .slice (some ⟨g, 0, none⟩) F.length cap ∧ cap ≤ maxLen ∧ Lay enc size cap cur F ∧ Sat G w (blk g cur e :: l) := by
  obtain ⟨hl, ⟨_, h0, _⟩ | ⟨g, cap, cur, rfl, h1, h2, h3, h4, S⟩⟩ := own_iff.1 H
  · omega
  · exact ⟨g, cap, cur, rfl, h2, ⟨h, h3, h1, h4⟩, S⟩
theorem Sat.layClose {g : Nat} (S : Sat G w (blk g cur e :: l)) (L : Lay enc size cap cur F) (hc : cap ≤ maxLen) (n : Nat) (hn : n = F.length) : Sat G w (ownS e size (.slice (some ⟨g, 0, none⟩) n cap) F.length (encs enc F) :: l) := by
  subst hn
  exact own_iff.2 ⟨encs_length L.h F, .inr ⟨g, cap, cur, rfl, L.len, hc, L.all, L.at_, S⟩⟩
end
/-- clear of a slice. -/
theorem zeroCells_length (z : Array Value) (n : Nat) : (Builtin.zeroCells z n).size = n * z.size := by simp [Builtin.zeroCells]
theorem zeroCells_all (z : Array Value) (n : Nat) (h : z.all (·.oneCell') = true) : ∀ v ∈ (Builtin.zeroCells z n).toList, v.oneCell' = true := by
  intro v hv
  simp only [Builtin.zeroCells, Array.toList_map, List.mem_map] at hv
  obtain ⟨i, hi, rfl⟩ := hv
  have hlt : i < n * z.size := by simpa using hi
  have hz : 0 < z.size := by
    rcases Nat.eq_zero_or_pos z.size with e | e
    · rw [e] at hlt; simp at hlt
    · exact e
  have hm := Nat.mod_lt i hz
  rw [getElem!_pos z (i % z.size) hm]
  exact (Array.all_eq_true_iff_forall_mem.1 h) _ (Array.getElem_mem hm)
section
variable {P : Program} {ops : Array Oper} {rest : List Oper} {o : Oper} {a : Act} {w : World} {Q : Exit → Act → World → Prop} {G : Gnd} {l : List Asrt}
theorem run_clear_row (t e ty : TypeId) (z : Value) (ht : P.underlying t = some (.slice e)) (hz : (P.info? e).bind (·.zero) = some z) (h1 : z.cells.all (·.oneCell') = true) (g j n c : Nat) {cur : Array Value} {y : TypeId} (S : Sat G w (blk g cur y :: l)) (hb : j + n * z.cells.size ≤ cur.size) :
    ∃ w', (Builtin.clear_ #[t] ty #[.slice (some ⟨g, j, none⟩) n c]).run P w = .ok (.tuple #[]) w' ∧ Sat G w' (blk g (if n = 0 then cur else setMid cur j (Builtin.zeroCells z.cells n).toList) y :: l) := by
  cases n with
  | zero => exact ⟨w, by simp [Builtin.clear_, run_underlying ht], S⟩
  | succ n =>
    have hv : (zeroValue e).run P w = .ok z w := by
      cases hi : P.info? e with
      | none => rw [hi] at hz; simp at hz
      | some i => rw [hi] at hz; simp at hz; simp [zeroValue, typeInfo, hi, hz]
    have hlen := zeroCells_length z.cells (n + 1)
    have hth := there_blk S j ((n + 1) * z.cells.size) hb
    have hst := run_storeCells_cells (P := P) g j (Builtin.zeroCells z.cells (n + 1)).toList 0 w (fun k hk => by simpa using (hth k (by simpa [hlen] using hk)).1) (fun k hk => by simpa using (hth k (by simpa [hlen] using hk)).2) (zeroCells_all _ _ h1)
    simp only [Nat.add_zero] at hst
    refine ⟨_, ?_, by rw [if_neg (by omega)]; exact setCells_sat _ _ _ _ S⟩
    simp [Builtin.clear_, run_underlying ht, hv, hst]
theorem st_clear (hgd : o.guard = none) (x : Operand) (t : TypeId) (ho : o.op = .call { callee := .builtin .clear, args := #[x], argTypes := #[t] }) (e : TypeId) (z : Value) (ht : P.underlying t = some (.slice e)) (hz : (P.info? e).bind (·.zero) = some z) (h1 : z.cells.all (·.oneCell') = true)
    (g j n c : Nat) (hx : a.eval x = .slice (some ⟨g, j, none⟩) n c) {cur : Array Value} {y : TypeId} (S : Sat G w (blk g cur y :: l)) (hb : j + n * z.cells.size ≤ cur.size)
    (h : ∀ w', Sat G w' (blk g (if n = 0 then cur else setMid cur j (Builtin.zeroCells z.cells n).toList) y :: l) → wpList P ops Q rest (a.put o.dst (.tuple #[])) w') : wpList P ops Q (o :: rest) a w := by
  refine wpList_plain hgd fun K hK => ?_
  obtain ⟨w', hr, S'⟩ := run_clear_row t e o.type z ht hz h1 g j n c S hb
  unfold Oper.wp execOp
  simp only [ho, resolve, invoke, builtin, Sem.run_bind, Sem.run_pure, Result.andThen_ok, List.map_toArray, List.map_cons, List.map_nil, hx, hr]
  exact hK _ _ (h w' S')
end
end Go.Proofs.YtcecfhfbcdbofaaGreatDoor
set_option linter.unusedSimpArgs false
set_option linter.unusedVariables false
namespace Go.Proofs.YtcecfhfbcdbofaaGreatDoor
open Go.RowKit

theorem sepAll_perm {l l' : List Asrt} (h : l.Perm l') : ∀ {R k : Hp}, sepAll l R k → sepAll l' R k := by
  induction h with
  | nil => exact fun h => h
  | cons x _ ih => exact fun H => sepAll_tail (fun _ => ih) H
  | swap x y l => exact fun H => sepAll_swap H
  | trans _ _ ih1 ih2 => exact fun H => ih2 (ih1 H)
theorem range_filterMap {α : Type _} : ∀ (n : Nat) (L : List α), (List.range n).filterMap (fun i => L[i]?) = L.take n := by
  intro n
  induction n with
  | zero => intro L; simp
  | succ n ih =>
    intro L
    rw [List.range_succ, List.filterMap_append, ih]
    cases h : L[n]? with
    | none =>
      have h2 := List.getElem?_eq_none_iff.1 h
      rw [List.take_of_length_le h2, List.take_of_length_le (by omega)]
      simp [h]
    | some x =>
      have hn := (List.getElem?_eq_some_iff.1 h).1
      have he := (List.getElem?_eq_some_iff.1 h).2
      rw [List.take_succ_eq_append_getElem hn]
      simp [h, he]
/-- The k-th of what is written stood at the place is[k]; all of the first n are there. -/
theorem Sat.re {G : Gnd} {w : World} {L : List Asrt} (H : Sat G w L) (is : List Nat) (h : is.isPerm (List.range is.length) = true := by rfl) : Sat G w (is.filterMap (fun i => L[i]?) ++ L.drop is.length) := by
  refine H.map fun k => sepAll_perm ?_
  have h1 := (List.isPerm_iff.1 h).filterMap (fun i => L[i]?)
  rw [range_filterMap] at h1
  conv => lhs; rw [← List.take_append_drop is.length L]
  exact h1.symm.append_right _
end Go.Proofs.YtcecfhfbcdbofaaGreatDoor
set_option linter.unusedSimpArgs false
set_option linter.unusedVariables false
namespace Go.Proofs.YtcecfhfbcdbofaaGreatDoor
open Go.RowKit

theorem made_encs {α : Type} {enc : α → List Value} {size : Nat} (h : ∀ x, (enc x).length = size) (hs : 0 < size) (x : α) (z : Array Value) (hz : z.toList = enc x) (n : Nat) : (madeCells z (n * size)).toList = encs enc (List.replicate n x) := by
  have hzs : z.size = size := by rw [← h x, ← hz]; simp
  apply List.ext_getElem?
  intro k
  by_cases hk : k < n * size
  · have hq : k / size < n := (Nat.div_lt_iff_lt_mul hs).2 hk
    have hm := Nat.mod_lt k hs
    have e := encs_get h (List.replicate n x) (k / size) x (by simp [hq]) (k % size) hm
    rw [show k / size * size + k % size = k from by rw [Nat.mul_comm]; exact Nat.div_add_mod k size] at e
    rw [e, ← hz]
    simp only [madeCells, Array.toList_map, List.getElem?_map, Array.toList_range, List.getElem?_range hk, Option.map_some, Array.getElem?_toList, hzs]
    rw [getElem!_pos z (k % size) (by omega), Array.getElem?_eq_getElem (by omega)]
  · rw [List.getElem?_eq_none (by simp [madeCells]; omega), List.getElem?_eq_none (by rw [encs_length h]; simp; omega)]
theorem run_make_any {P : Program} (t e : TypeId) (z : Value) (size bytes : Nat) (ht : P.underlying t = some (.slice e)) (hinfo : (P.info? e).map (fun i => (i.zero, i.size, i.bytes)) = some (some z, size, bytes)) (n : Nat) (hbytes : bytes * n ≤ 281474976710656) (h63 : n ≤ 9223372036854775807) (w : World) :
    (Instr.makeSlice t (.int .i64 (n : Int)) (.int .i64 (n : Int))).run P w = .ok (.slice (some ⟨w.heap.size, 0, none⟩) n n) (w.alloc (.cells (madeCells z.cells (n * size)) e)) := by
  obtain ⟨i, hi, hzz⟩ := Option.map_eq_some_iff.1 hinfo
  simp only [Prod.mk.injEq] at hzz
  obtain ⟨hz, hsz, hb⟩ := hzz
  have hr := run_make (P := P) w t e i z ht hi hz .i64 .i64 n n (by omega) (Int.le_refl _) (by rw [hb]; have h : ((bytes * n : Nat) : Int) ≤ 281474976710656 := (by omega); rwa [Int.natCast_mul] at h) (by omega)
  simpa [hsz] using hr
end Go.Proofs.YtcecfhfbcdbofaaGreatDoor
set_option linter.unusedSimpArgs false
set_option linter.unusedVariables false
namespace Go.Proofs.YtcecfhfbcdbofaaGreatDoor
open Go.RowKit

theorem wanted_miss {ops : Array Oper} {o : Oper} {a : Act} {g : Nat} {t : Tmp} {b b' : Bool} (hg : o.guard = some (g, b)) (ht : (ops[g]?).bind (·.dst) = some t) (he : a.eval (.tmp t) = .bool b') (hne : b' ≠ b) : Region.wanted o (yielded ops a.tmps) = false := by
  unfold Region.wanted
  rw [hg]
  simp [yielded_of ht he, hne]
theorem wanted_none {ops : Array Oper} {o : Oper} {a : Act} {g : Nat} {t : Tmp} {b : Bool} (hg : o.guard = some (g, b)) (ht : (ops[g]?).bind (·.dst) = some t) (he : a.eval (.tmp t) = undef) : Region.wanted o (yielded ops a.tmps) = false := by
  have hy : yielded ops a.tmps g = none := by
    unfold yielded
    rw [ht]
    simp only [Act.eval] at he
    cases hv : a.tmps[t]? with
    | none => simp [hv]
    | some v => simp [hv] at he; subst he; simp [hv, undef]
  unfold Region.wanted
  rw [hg]
  simp [hy]
/-- A whole block is loaded, behind a guard. -/
theorem wpOp_rowG {P : Program} {ops : Array Oper} {Q : Exit → Act → World → Prop} {i : Nat} {o : Oper} {K : Act → World → Prop} {a : Act} {w : World} {G : Gnd} {l : List Asrt} (ho : ops[i]? = some o) (hw : Region.wanted o (yielded ops a.tmps) = true) (ty : TypeId) (x : Operand) (hop : o.op = .load ty x)
    (g : Nat) (hx : a.eval x = .pointer (some ⟨g, 0, none⟩)) (t : TypeId) (cs : Array Value) (S : Sat G w (blk g cs t :: l)) (d : TypeDesc) (hu : P.underlying ty = some d) (hd : (match d with | .struct _ | .array _ _ => true | _ => false) = true) (hi : (P.info? ty).map (·.size) = some cs.size)
    (h : K (a.put o.dst (.agg cs)) w) : wpOp P ops Q i K a w := by
  unfold wpOp
  simp only [ho]
  rw [if_pos hw]
  left
  exact wp_load_row ty x hop g hx t cs (0, 0) d S.blk_at hu hd hi h
end Go.Proofs.YtcecfhfbcdbofaaGreatDoor
set_option linter.unusedSimpArgs false
set_option linter.unusedVariables false
namespace Go.Proofs.YtcecfhfbcdbofaaGreatDoor
open Go.RowKit

section
variable {P : Program} {G : Gnd} {w : World} {l : List Asrt}
theorem Sat.perm {l l' : List Asrt} (H : Sat G w l) (h : l.Perm l') : Sat G w l' := H.map fun _ => sepAll_perm h
theorem Sat.putObj {b : Nat} {o : Obj} (H : Sat G w (obj b o :: l)) (o' : Obj) : Sat G (w.putObj b o') (obj b o' :: l) :=
  Sat.turn H rfl rfl rfl (by simp) (fun k _ hk => World.putObj_heap_other hk) (World.putObj_heap_same (Array.getElem?_eq_some_iff.1 H.obj_at).1)
theorem Sat.ne {a b : Nat} {ca cb : Array Value} {ta tb : TypeId} (H : Sat G w (blk a ca ta :: blk b cb tb :: l)) : a ≠ b := by
  rintro rfl
  obtain ⟨_, _, _, _, _, h, _, _, h1, h2, ha, _, _, p, h3, h4, _, e3, _, q, _⟩ := H
  have hp : h1 a = some _ := p
  have hq : h3 a = some _ := q
  have h5 := e3 a _ hq
  rcases ha a with h6 | h6
  · rw [hp] at h6; cases h6
  · rw [h5] at h6; cases h6
theorem room_none (k : Nat) : Fence.wide.room k := fun d h => by simp [Fence.wide] at h
theorem RoundIn.any {m m' : Nat} {l : Nat} {f : FuncId} {tmps : Array Value} {assign body : Code} {w : World} {R : Ending → World → Prop}
    (h : RoundIn Fence.wide m P l f tmps assign body w R) : RoundIn Fence.wide m' P l f tmps assign body w R := ⟨h.1, fun c cs _ => h.2 c cs (room_none _)⟩
theorem RoundIn.inR {F : Fence} {m : Nat} {l : Nat} {f : FuncId} {tmps : Array Value} {assign body : Code} {w : World} {R : Ending → World → Prop} (k : Nat) (h : RoundIn F m P l f tmps assign body w R) : RoundIn (F.inRound k) m P l f tmps assign body w R := h
/-- A call of yield as the body of the loop answers it: B says what the body owns when 'pre' have come, Bx when it has said 'no more'; A is whatever the iterator owns. -/
def Yld {α : Type} (P : Program) (l : Nat) (encs : α → Array Value) (G : Gnd) (xs : List α) (B Bx : List α → List Asrt) : Prop :=
  ∀ (pre : List α) (x : α) (W : World) (A : List Asrt) (G1 : Gnd) (m : Nat), (pre ++ [x]) <+: xs → G.le G1 → Sat G1 W (A ++ B pre) →
    YieldAt Fence.wide m P l (encs x) W fun e W' => ∃ G2, G1.le G2 ∧ ((e = .returned (.bool true) ∧ Sat G2 W' (A ++ B (pre ++ [x]))) ∨ (e = .returned (.bool false) ∧ Sat G2 W' (A ++ Bx (pre ++ [x]))))
/-- What an iterator owes: it gives the elements xs in order, as far as it is asked; A: what it owns. -/
def Gives {α : Type} (P : Program) (gf : Nat) (lb : Array Value) (encs : α → Array Value) (xs : List α) (A : List Asrt) : Prop :=
  ∀ (l : Nat) (G : Gnd) (B Bx : List α → List Asrt) (W : World), Yld P l encs G xs B Bx → Sat G W (A ++ B []) →
    Calls P gf (#[.func (.yield l) #[] #[]] ++ lb) W fun e W' => (∃ v, e = .returned v) ∧ ∃ G', G.le G' ∧ (Sat G' W' (A ++ B xs) ∨ ∃ pre, pre <+: xs ∧ Sat G' W' (A ++ Bx pre))
/-- How a round's body is left. -/
def rndPost {α : Type} (G : Gnd) (A : List Asrt) (B : List α → List Asrt) (Bx : Code → List α → List Asrt) (ys : List α) : Exit → Act → World → Prop
  | .normal, _, W => ∃ G2, G.le G2 ∧ Sat G2 W (A ++ B ys)
  | .ret, _, W => ∃ G2, G.le G2 ∧ Sat G2 W (A ++ Bx .ret ys)
  | .exit id, _, W => ∃ G2, G.le G2 ∧ Sat G2 W (A ++ Bx (.exit id) ys)
  | .goto t, _, W => ∃ G2, G.le G2 ∧ Sat G2 W (A ++ Bx (.goto t) ys)
  | .panic _, _, _ => False
  | .outgrown, _, _ => False
theorem perm_in {A B C : List Asrt} : (A ++ (B ++ C)).Perm (C ++ A ++ B) := by
  have h1 : (A ++ (B ++ C)).Perm (A ++ B ++ C) := by rw [List.append_assoc]
  have h2 : (A ++ B ++ C).Perm (C ++ (A ++ B)) := List.perm_append_comm
  have h3 : (C ++ (A ++ B)).Perm (C ++ A ++ B) := by rw [List.append_assoc]
  exact (h1.trans h2).trans h3
theorem Sat.exIn {β : Type} {E : β → List Asrt} {A' : List Asrt} (c : β) (S : Sat G w (A' ++ E c)) : Sat G w (A' ++ [ex fun c => star (E c)]) := by
  have h := S.perm List.perm_append_comm
  have h2 : Sat G w (ex (fun c => star (E c)) :: A') := Sat.ex_iff.2 ⟨c, Sat.star_iff.2 h⟩
  exact h2.perm (List.perm_append_comm (l₁ := [_]) (l₂ := A'))
theorem wp_range {α : Type} {g : Operand} {ps : Array Tmp} {assign body : Code} {Q : Exit → Act → World → Prop} {a : Act}
    {gf : Nat} {lb : Array Value} (hg : a.eval g = .func (.func gf) #[] lb) (eg : ∀ args w, (callFunc gf args).run P w = .ok (.enter gf args) w)
    {encs : α → Array Value} {xs : List α} {A : List Asrt} (hseq : Gives P gf lb encs xs A) (hps : ∀ x, (encs x).size = ps.size)
    (B : List α → List Asrt) (Bx : Code → List α → List Asrt) (S : Sat G w (A ++ B []))
    (hround : ∀ (l : Nat) (pre : List α) (x : α) (W : World) (A' : List Asrt) (G1 : Gnd) (K : Act → World → Prop), (pre ++ [x]) <+: xs → G.le G1 → Sat G1 W (A' ++ B pre) →
      (∀ (C : List Asrt) (a₁ : Act) (W₁ : World), Sat G1 W₁ (A' ++ C) → (∀ A'' W₂, Sat G1 W₂ (A'' ++ C) → body.wpIn (Fence.wide.inRound l) 0 P (rndPost G1 A'' B Bx (pre ++ [x])) a₁ W₂) → K a₁ W₁) →
      assign.wpIn (Fence.wide.inRound l) 0 P (Exit.then K (fun _ _ _ => False))
        { tmps := (ps.zip (encs x)).foldl (fun t (p, v) => t.setIfInBounds p v) a.tmps, defers := [] } W)
    (hdone : ∀ (D : Nat) (W : World) (G1 : Gnd), G.le G1 → Sat G1 W (obj D (.deferred (some [])) :: (A ++ B xs)) → Q .normal { a with defers := { target := .collected D, args := #[] } :: a.defers } W)
    (hstop : ∀ (D : Nat) (c : Code) (pre : List α) (W : World) (G1 : Gnd), pre <+: xs → G.le G1 → Sat G1 W (obj D (.deferred (some [])) :: (A ++ Bx c pre)) → c.wp P Q { a with defers := { target := .collected D, args := #[] } :: a.defers } W) :
    (Code.rangeFunc g ps assign body).wp P Q a w := by
  refine wpIn_wide (n := 0).1 (wpIn_rangeFunc ?_)
  intro fn hfn
  obtain ⟨rec, hrec⟩ : ∃ rec : LoopState → Option Code → Loop, rec = fun st pe => { state := st, pending := pe, fn, tmps := a.tmps, params := ps, assign, body, defers := w.heap.size } := ⟨_, rfl⟩
  have S1 := (S.new (.deferred (some []))).new (.loop (rec .ready none))
  rw [World.size_alloc] at S1
  obtain ⟨W1, hW1⟩ : ∃ W1, (w.alloc (.deferred (some []))).alloc (.loop (rec .ready none)) = W1 := ⟨_, rfl⟩
  rw [hW1] at S1
  obtain ⟨L, hL⟩ : ∃ L, L = w.heap.size + 1 := ⟨_, rfl⟩
  obtain ⟨D, hD⟩ : ∃ D, D = w.heap.size := ⟨_, rfl⟩
  refine ⟨L, [{ target := .collected D, args := #[] }], W1, { target := .fn (.func gf) lb, args := #[.func (.yield L) #[] #[]] }, W1, gf,
    #[.func (.yield L) #[] #[]] ++ lb, W1, ?_, ?_, ?_, ?_, ?_, ?_⟩
  · rw [← hW1, hrec, hL, hD]; exact run_enterLoop_outer _ _ _ _ _
  · simp only [resolve, hg]
    simp [go_sem]
  · intro f' hf'; trivial
  · simp [invoke, go_sem, eg]
  · intro h; simp [Fence.wide] at h
  · rw [← hL, ← hD] at S1
    have S2 : Sat G W1 (A ++ (B [] ++ [obj L (.loop (rec .ready none)), obj D (.deferred (some []))])) := S1.perm (perm_in (A := A) (B := B []) (C := [obj L (.loop (rec .ready none)), obj D (.deferred (some []))])).symm
    refine callsIn_wide.2 ((hseq L G (fun pre => B pre ++ [obj L (.loop (rec .ready none)), obj D (.deferred (some []))])
      (fun pre => [ex fun c => star (Bx c pre ++ [obj L (.loop (rec .done (some c))), obj D (.deferred (some []))])]) W1 ?_ S2).mono ?_)
    · -- one round
      intro pre x W A' G1 m hpre hG1 S3
      have S4 := S3.perm perm_in
      have hl : W.heap[L]? = some (.loop (rec .ready none)) := Sat.obj_at S4
      have hy := run_yield (P := P) (args := encs x) hl (by rw [hrec]; exact hps x)
      rw [hrec] at hy
      refine ⟨fn, _, assign, body, hy, RoundIn.any (m := 0) (roundIn_of_wpIn hfn (wpIn_mono (hround L pre x W _ G1 (fun a₁ W₁ => ∃ C, Sat G1 W₁ ((obj L (.loop (rec .ready none)) :: obj D (.deferred (some [])) :: A') ++ C) ∧ ∀ A'' W₂, Sat G1 W₂ (A'' ++ C) → body.wpIn (Fence.wide.inRound L) 0 P (rndPost G1 A'' B Bx (pre ++ [x])) a₁ W₂) hpre hG1 S4 (fun C a₁ W₁ h1 h2 => ⟨C, h1, h2⟩)) ?_))⟩
      rintro e a₁ W₁ hp
      cases e with
      | normal =>
        obtain ⟨C, S5, hb⟩ := hp
        have hl1 : W₁.heap[L]? = some (.loop (rec .ready none)) := Sat.obj_at S5
        refine ⟨_, run_beginRound hl1 (by rw [hrec]), wpIn_mono (hb (obj L (.loop { rec .ready none with state := .busy }) :: obj D (.deferred (some [])) :: A') _ (Sat.putObj S5 _)) ?_⟩
        have fin : ∀ (jump : Option Code) (G2 : Gnd) (W3 : World) (E : List Asrt), Sat G2 W3 ((obj L (.loop { rec .ready none with state := .busy }) :: obj D (.deferred (some [])) :: A') ++ E) →
            ∃ W4, (Instr.endRound L jump).run P W3 = .ok (.bool jump.isNone) W4 ∧ Sat G2 W4 ((obj L (.loop (rec (if jump.isNone then .ready else .done) jump)) :: obj D (.deferred (some [])) :: A') ++ E) := fun jump G2 W3 E S6 => by
          have hl3 : W3.heap[L]? = some (.loop { rec .ready none with state := .busy }) := Sat.obj_at S6
          have := run_endRound (P := P) jump hl3
          rw [hrec] at this ⊢
          exact ⟨_, this, by rw [hrec] at S6; exact Sat.putObj S6 _⟩
        rintro e a3 W3 hp
        cases e with
        | normal =>
          obtain ⟨G2, hG2, S6⟩ := hp
          obtain ⟨W4, hr, S7⟩ := fin none G2 W3 _ S6
          exact ⟨_, W4, hr, G2, hG2, .inl ⟨rfl, S7.perm (perm_in (A := A') (C := [obj L (.loop (rec .ready none)), obj D (.deferred (some []))])).symm⟩⟩
        | ret =>
          obtain ⟨G2, hG2, S6⟩ := hp
          obtain ⟨W4, hr, S7⟩ := fin (some .ret) G2 W3 _ S6
          refine ⟨_, W4, hr, G2, hG2, .inr ⟨rfl, ?_⟩⟩
          have S8 := S7.perm (perm_in (A := A') (C := [obj L (.loop (rec .done (some .ret))), obj D (.deferred (some []))])).symm
          exact Sat.exIn (E := fun c => Bx c (pre ++ [x]) ++ [obj L (.loop (rec .done (some c))), obj D (.deferred (some []))]) (Code.ret) S8
        | exit id =>
          obtain ⟨G2, hG2, S6⟩ := hp
          obtain ⟨W4, hr, S7⟩ := fin (some (.exit id)) G2 W3 _ S6
          refine ⟨_, W4, hr, G2, hG2, .inr ⟨rfl, ?_⟩⟩
          have S8 := S7.perm (perm_in (A := A') (C := [obj L (.loop (rec .done (some (.exit id)))), obj D (.deferred (some []))])).symm
          exact Sat.exIn (E := fun c => Bx c (pre ++ [x]) ++ [obj L (.loop (rec .done (some c))), obj D (.deferred (some []))]) (Code.exit id) S8
        | goto t =>
          obtain ⟨G2, hG2, S6⟩ := hp
          obtain ⟨W4, hr, S7⟩ := fin (some (.goto t)) G2 W3 _ S6
          refine ⟨_, W4, hr, G2, hG2, .inr ⟨rfl, ?_⟩⟩
          have S8 := S7.perm (perm_in (A := A') (C := [obj L (.loop (rec .done (some (.goto t)))), obj D (.deferred (some []))])).symm
          exact Sat.exIn (E := fun c => Bx c (pre ++ [x]) ++ [obj L (.loop (rec .done (some c))), obj D (.deferred (some []))]) (Code.goto t) S8
        | panic ch => exact hp.elim
        | outgrown => exact hp.elim
      | exit id => exact hp.elim
      | goto t => exact hp.elim
      | ret => exact hp.elim
      | panic ch => exact hp.elim
      | outgrown => exact hp.elim
    · -- behind the iterator
      rintro e W2 ⟨⟨v, rfl⟩, G2, hG2, (S3 | ⟨pre, hpre, S3⟩)⟩
      · have S4 := S3.perm perm_in
        have hl : W2.heap[L]? = some (.loop (rec .ready none)) := Sat.obj_at S4
        refine ⟨none, _, by have := run_endLoop (P := P) hl (by rw [hrec]; simp); rw [hrec] at this; exact this, hdone D _ G2 hG2 ?_⟩
        exact (Sat.putObj S4 _).drop
      · have S4 := S3.perm List.perm_append_comm
        obtain ⟨c, S5⟩ := Sat.ex_iff.1 S4
        have S6 := ((Sat.star_iff.1 S5).perm List.perm_append_comm).perm (perm_in (A := A) (B := Bx c pre) (C := [obj L (.loop (rec .done (some c))), obj D (.deferred (some []))]))
        have hl : W2.heap[L]? = some (.loop (rec .done (some c))) := Sat.obj_at S6
        refine ⟨some c, _, by have := run_endLoop (P := P) hl (by rw [hrec]; simp); rw [hrec] at this; exact this, wpIn_wide.2 (hstop D c pre _ G2 hpre hG2 ?_)⟩
        exact (Sat.putObj S6 _).drop
/-- A function that holds such a loop is entered. -/
theorem calls_marks {f : FuncId} {fn : Func} {c : Code} {args : Array Value} {R : Ending → World → Prop} (hf : P.funcs[f]? = some fn) (hb : fn.body = some c)
    (h : c.wp P (bodyPostM Fence.wide 0 P fn R) { tmps := args ++ Array.replicate (fn.ntmps - args.size) undef, defers := [] } w) : Calls P f args w R :=
  callsIn_wide (n := 0).1 (callsIn_of_wp_marks hf hb trivial (wpIn_wide.2 h))
/-- It returns. -/
theorem marks_end {fn : Func} {R : Ending → World → Prop} {D : Nat} {a : Act} {l : List Asrt} (S : Sat G w (obj D (.deferred (some [])) :: l)) (hd : a.defers = [{ target := .collected D, args := #[] }])
    (h : ∀ W, Sat G W l → ∃ v, (results fn a.tmps).run P W = .ok v W ∧ R (.returned v) W) : LeavesInM Fence.wide 0 P fn a.tmps R a.defers .returning w := by
  rw [hd]
  refine ⟨by simp, .inl ⟨D, _, rfl, run_takeDeferred S.obj_at, ?_⟩⟩
  exact h _ (Sat.putObj S (.deferred none)).drop
theorem marks_none {fn : Func} {R : Ending → World → Prop} {a : Act} (hd : a.defers = []) (h : ∃ v, (results fn a.tmps).run P w = .ok v w ∧ R (.returned v) w) : LeavesInM Fence.wide 0 P fn a.tmps R a.defers .returning w := by
  rw [hd]
  exact h
end
end Go.Proofs.YtcecfhfbcdbofaaGreatDoor
set_option linter.unusedSimpArgs false
set_option linter.unusedVariables false
namespace Go.Proofs.YtcecfhfbcdbofaaGreatDoor
open Go.RowKit

section
variable {P : Program} {ops : Array Oper} {Q : Exit → Act → World → Prop} {rl : Nat}
theorem wpAnyIn_inv {n : Nat} (hn : ops.size = n) {J : (Nat → Bool) → Act → World → Prop}
    (hs : ∀ i f a w, i < n → f i = false → (∀ o, ops[i]? = some o → ∀ e ∈ o.after, Region.binds .any e = true → f e.on = true) → J f a w → wpOpIn (Fence.wide.inRound rl) 0 P ops Q i (J (upd f i)) a w)
    (hpre : ∀ i o, ops[i]? = some o → ∀ e ∈ o.after, Region.binds .any e = true → e.on < i)
    (he : ∀ a w, J (fun _ => true) a w → Q .normal a w) :
    ∀ (fuel : Nat) (l : Array Bool) (a : Act) (w : World), l.size = n → (l.toList.filter (!·)).length ≤ fuel → J (fun j => l.getD j true) a w → wpAnyIn (Fence.wide.inRound rl) 0 P .any ops Q fuel l a w := by
  have hdone : ∀ (l : Array Bool) a w, l.size = n → Region.ready .any ops l = [] → J (fun j => l.getD j true) a w → Q .normal a w := by
    intro l a w hl hr hJ
    have hall : ∀ k, ∀ j, j < k → l.getD j true = true := by
      intro k
      induction k with
      | zero => intro j hj; omega
      | succ k ih =>
        intro j hj
        by_cases hlt : j < k
        · exact ih j hlt
        have hjk : j = k := by omega
        subst hjk
        cases hf : l.getD j true with
        | true => rfl
        | false =>
          exfalso
          have hjn : j < n := by
            rcases Nat.lt_or_ge j n with h | h
            · exact h
            · rw [← hl] at h; simp [Array.getElem?_eq_none h] at hf
          have ho : ops[j]? = some (ops[j]'(by omega)) := Array.getElem?_eq_getElem _
          have : j ∈ Region.ready .any ops l := mem_ready.2 ⟨hf, _, ho, fun e he hb => by
            have h1 := ih e.on (hpre j _ ho e he hb)
            have h2 : e.on < l.size := by have := hpre j _ ho e he hb; omega
            simp [h2] at h1 ⊢; exact h1⟩
          rw [hr] at this
          cases this
    refine he a w ?_
    have : (fun j => l.getD j true) = fun _ => true := funext fun j => hall (j + 1) j (by omega)
    rw [← this]; exact hJ
  intro fuel
  induction fuel with
  | zero =>
    intro l a w hl hc hJ
    have hr : Region.ready .any ops l = [] := by
      rcases hr : Region.ready .any ops l with _ | ⟨i, is⟩
      · rfl
      · exfalso
        have hi : i ∈ Region.ready .any ops l := by rw [hr]; simp
        obtain ⟨h0, o, ho, _⟩ := mem_ready.1 hi
        have hin : i < l.size := by rw [hl, ← hn]; exact (Array.getElem?_eq_some_iff.1 ho).1
        have hm : false ∈ l.toList.filter (!·) := by
          rw [List.mem_filter]
          simp [hin] at h0
          exact ⟨by rw [← h0]; simp, rfl⟩
        have := List.length_pos_of_mem hm
        omega
    exact ⟨hr, hdone l a w hl hr hJ⟩
  | succ fuel ih =>
    intro l a w hl hc hJ
    refine ⟨fun hr => hdone l a w hl hr hJ, fun i hi => ?_⟩
    obtain ⟨h0, o, ho, hall⟩ := mem_ready.1 hi
    have hin : i < l.size := by rw [hl, ← hn]; exact (Array.getElem?_eq_some_iff.1 ho).1
    refine wpOpIn_mono (fun a' w' h' => ih (l.setIfInBounds i true) a' w' (by simpa using hl) ?_ ?_) (hs i _ a w (by omega) h0 (fun o' ho' e he hb => ?_) hJ)
    · have h1 : l[i] = false := by simpa [hin] using h0
      have h2 : (l.setIfInBounds i true).toList = l.toList.take i ++ true :: l.toList.drop (i + 1) := by
        simp [List.set_eq_take_append_cons_drop, hin]
      have h3 : l.toList = l.toList.take i ++ l[i] :: l.toList.drop (i + 1) := by
        conv => lhs; rw [← List.take_append_drop i l.toList, List.drop_eq_getElem_cons (by simpa using hin)]
        simp
      rw [h2]
      rw [h3] at hc
      simp only [List.filter_append, List.filter_cons, h1, Bool.not_false, if_true, List.length_append, List.length_cons, Bool.not_true, if_false, Bool.false_eq_true] at hc ⊢
      omega
    · have : (fun j => (l.setIfInBounds i true).getD j true) = upd (fun j => l.getD j true) i := funext fun j => getD_setIn hin
      rw [this]; exact h'
    · rw [ho] at ho'; cases ho'
      have h1 := hall e he hb
      have h2 : e.on < l.size := by
        rcases Nat.lt_or_ge e.on l.size with h | h
        · exact h
        · simp [Array.getElem?_eq_none h] at h1
      simp [h2] at h1 ⊢; exact h1
def isDef : Op → Bool
  | .defer _ => true
  | _ => false
theorem nd_of {o : Oper} (h : isDef o.op = false) : ∀ c, o.op ≠ .defer c := fun c e => by rw [e] at h; cases h
theorem wp_actIn {F : Fence} {n : Nat} {c : Code} {a : Act} {w : World} (h : ∀ b, b = a → c.wpIn F n P Q b w) : c.wpIn F n P Q a w := h a rfl
theorem wpOpIn_val {i : Nat} {o : Oper} {K : Act → World → Prop} {a : Act} {w w' : World} {v : Value} (ho : ops[i]? = some o) (hw : Region.wanted o (yielded ops a.tmps) = true) (hr : ∀ ρ, ρ = a.eval → (execOp ρ o).run P w = .ok (.value v) w') (h : K (a.put o.dst v) w') (hnd : isDef o.op = false) : wpOpIn (Fence.wide.inRound rl) 0 P ops Q i K a w := by
  unfold wpOpIn
  simp only [ho]
  rw [if_pos hw]
  refine ⟨fun _ _ => trivial, ?_⟩
  rw [Fence.inRound_round, Oper.semAt_some _ _ _ (nd_of hnd), hr _ rfl]
  exact h
theorem wpOpIn_run {i : Nat} {o : Oper} {K : Act → World → Prop} {a : Act} {w : World} {v : Value} (ho : ops[i]? = some o) (hg : o.guard = none) (hr : ∀ ρ, ρ = a.eval → (execOp ρ o).run P w = .ok (.value v) w) (h : K (a.put o.dst v) w) (hnd : isDef o.op = false := by rfl) : wpOpIn (Fence.wide.inRound rl) 0 P ops Q i K a w :=
  wpOpIn_val ho (by unfold Region.wanted; rw [hg]) hr h hnd
theorem wpOpIn_mem {i : Nat} {o : Oper} {K : Act → World → Prop} {a : Act} {w w' : World} {v : Value} (ho : ops[i]? = some o) (hg : o.guard = none) (hr : ∀ ρ, ρ = a.eval → (execOp ρ o).run P w = .ok (.value v) w') (h : K (a.put o.dst v) w') (hnd : isDef o.op = false := by rfl) : wpOpIn (Fence.wide.inRound rl) 0 P ops Q i K a w :=
  wpOpIn_val ho (by unfold Region.wanted; rw [hg]) hr h hnd
theorem wpOpIn_runG {i : Nat} {o : Oper} {K : Act → World → Prop} {a : Act} {w : World} {v : Value} (ho : ops[i]? = some o) (hw : Region.wanted o (yielded ops a.tmps) = true) (hr : ∀ ρ, ρ = a.eval → (execOp ρ o).run P w = .ok (.value v) w) (h : K (a.put o.dst v) w) (hnd : isDef o.op = false := by rfl) : wpOpIn (Fence.wide.inRound rl) 0 P ops Q i K a w :=
  wpOpIn_val ho hw hr h hnd
theorem wpOpIn_skip {i : Nat} {o : Oper} {K : Act → World → Prop} {a : Act} {w : World} (ho : ops[i]? = some o) (hw : Region.wanted o (yielded ops a.tmps) = false) (h : K (a.put o.dst undef) w) : wpOpIn (Fence.wide.inRound rl) 0 P ops Q i K a w := by
  unfold wpOpIn
  simp only [ho]
  rw [if_neg (by rw [hw]; exact Bool.false_ne_true)]
  exact ⟨fun _ _ => trivial, h⟩
theorem wpOpIn_callG {i : Nat} {o : Oper} {K : Act → World → Prop} {a : Act} {w : World} {f : FuncId} {args : Array Value} {R : Ending → World → Prop} (ho : ops[i]? = some o) (hw : Region.wanted o (yielded ops a.tmps) = true) (hr : ∀ ρ, ρ = a.eval → (execOp ρ o).run P w = .ok (.enter f args) w)
    (hc : Calls P f args w R) (h : ∀ e w', R e w' → ∃ v, e = .returned v ∧ K (a.put o.dst v) w') (hnd : isDef o.op = false := by rfl) : wpOpIn (Fence.wide.inRound rl) 0 P ops Q i K a w := by
  unfold wpOpIn
  simp only [ho]
  rw [if_pos hw]
  refine ⟨fun _ _ => trivial, ?_⟩
  rw [Fence.inRound_round, Oper.semAt_some _ _ _ (nd_of hnd), hr _ rfl, Oper.uponIn_enter]
  refine ⟨fun h => by simp [Fence.wide] at h, CallsIn.inRound rl (callsIn_wide.2 (Calls.mono hc fun e w' he => ?_))⟩
  obtain ⟨v, rfl, hv⟩ := h e w' he
  exact hv
theorem wpOpIn_call {i : Nat} {o : Oper} {K : Act → World → Prop} {a : Act} {w : World} {f : FuncId} {args : Array Value} {R : Ending → World → Prop} (ho : ops[i]? = some o) (hg : o.guard = none) (hr : ∀ ρ, ρ = a.eval → (execOp ρ o).run P w = .ok (.enter f args) w)
    (hc : Calls P f args w R) (h : ∀ e w', R e w' → ∃ v, e = .returned v ∧ K (a.put o.dst v) w') (hnd : isDef o.op = false := by rfl) : wpOpIn (Fence.wide.inRound rl) 0 P ops Q i K a w :=
  wpOpIn_callG ho (by unfold Region.wanted; rw [hg]) hr hc h hnd
/-- A region that draws its order, over any invariant of what is done. -/
theorem wp_region_JIn {id : Nat} {a : Act} {w : World} (hm : P.follows .mixedOrders = true) (n : Nat) (hn : ops.size = n) (preds : List (List Nat)) (hp : predsOf ops = preds)
    (hpre : ((List.range n).all fun i => (preds.getD i []).all (Nat.blt · i)) = true)
    (J : (Nat → Bool) → Act → World → Prop) (h0 : J (fun j => !Nat.blt j n) a w.drew)
    (hs : forAll (fun i => ∀ f a W, f i = false → allDone f (preds.getD i []) → J f a W → wpOpIn (Fence.wide.inRound rl) 0 P ops Q i (J (upd f i)) a W) (List.range n))
    (he : ∀ a W, J (fun _ => true) a W → Q .normal a W) : (Code.region id ops true).wpIn (Fence.wide.inRound rl) 0 P Q a w := by
  refine wpIn_region_any hm ?_
  have hpo : ∀ i o, ops[i]? = some o → ∀ e ∈ o.after, Region.binds .any e = true → e.on ∈ preds.getD i [] := by
    intro i o ho e he hb
    subst hp
    have : (predsOf ops).getD i [] = (o.after.toList.filter (Region.binds .any)).map (·.on) := by
      unfold predsOf
      have ho' : ops.toList[i]? = some o := by simpa using ho
      rw [List.getD_eq_getElem?_getD, List.getElem?_map, ho']
      rfl
    rw [this]
    exact List.mem_map_of_mem (List.mem_filter.2 ⟨by simpa using he, hb⟩)
  have hstart : ∀ j, (Array.replicate ops.size false).getD j true = !Nat.blt j n := by
    intro j
    by_cases h : j < n
    · have hb : Nat.blt j n = true := by simpa using h
      simp [hn, h, hb]
    · have hb : Nat.blt j n = false := by
        cases hb : Nat.blt j n with
        | false => rfl
        | true => exact absurd (by simpa using hb) h
      simp [hn, h, hb]
  refine wpAnyIn_inv hn (J := J) ?_ ?_ ?_ ops.size _ a _ (by simp [hn]) ?_ ?_
  · intro i f a' w' hi hf hpr S'
    refine forAll_mem hs i (List.mem_range.2 hi) f a' w' hf (allDone_of fun p hp' => ?_) S'
    have ho : ops[i]? = some (ops[i]'(by omega)) := Array.getElem?_eq_getElem _
    subst hp
    have : (predsOf ops).getD i [] = ((ops[i]'(by omega)).after.toList.filter (Region.binds .any)).map (·.on) := by
      unfold predsOf
      have ho' : ops.toList[i]? = some (ops[i]'(by omega)) := by simp
      rw [List.getD_eq_getElem?_getD, List.getElem?_map, ho']
      rfl
    rw [this] at hp'
    obtain ⟨e, hme, rfl⟩ := List.mem_map.1 hp'
    obtain ⟨hm1, hm2⟩ := List.mem_filter.1 hme
    exact hpr _ ho e (by simpa using hm1) hm2
  · intro i o ho e he hb
    have hi : i < n := by rw [← hn]; exact (Array.getElem?_eq_some_iff.1 ho).1
    rw [List.all_eq_true] at hpre
    have := hpre i (List.mem_range.2 hi)
    rw [List.all_eq_true] at this
    exact by simpa using this _ (hpo i o ho e he hb)
  · intro a' w' S'; exact he a' w' S'
  · refine Nat.le_trans (List.length_filter_le _ _) ?_
    simp
  · have hf : (fun j => (Array.replicate ops.size false).getD j true) = fun j => !Nat.blt j n := funext hstart
    rw [hf]; exact h0
end
end Go.Proofs.YtcecfhfbcdbofaaGreatDoor
set_option linter.unusedSimpArgs false
set_option linter.unusedVariables false
namespace Go.Proofs.YtcecfhfbcdbofaaGreatDoor
open Go.RowKit

/-- A slice whose elements' cells stand somewhere. -/
def SlV (get : Addr → Option Value) (v : Value) (n : Nat) (cs : List Value) : Prop :=
  ∃ A c, v = .slice A n c ∧ n ≤ c ∧ c ≤ maxLen ∧ ∀ j u, cs[j]? = some u → ∃ a, A = some a ∧ get (a.add j) = some u
def byteV (c : UInt8) : Value := .int .u8 c.toNat
def numOf (bs : List UInt8) : Nat := bs.foldl (fun x c => x * 256 + c.toNat) 0
theorem numOf_snoc (bs : List UInt8) (c : UInt8) : numOf (bs ++ [c]) = numOf bs * 256 + c.toNat := by simp [numOf]
theorem numOf_lt (bs : List UInt8) : numOf bs < 256 ^ bs.length := by
  have h : ∀ (bs : List UInt8) (x : Nat), bs.foldl (fun x c => x * 256 + c.toNat) x < (x + 1) * 256 ^ bs.length := by
    intro bs
    induction bs with
    | nil => intro x; simp
    | cons c bs ih =>
      intro x
      simp only [List.foldl_cons, List.length_cons]
      refine Nat.lt_of_lt_of_le (ih _) ?_
      have := c.toNat_lt
      rw [Nat.pow_succ, Nat.mul_comm (256 ^ _), ← Nat.mul_assoc]
      exact Nat.mul_le_mul_right _ (by omega)
  simpa [numOf] using h bs 0
theorem shl_or (x c : Nat) (hx : x < 72057594037927936) (hc : c < 256) : bits .or .u64 (IntKind.u64.wrap ((x : Int) * 256)) (c : Int) = ((x * 256 + c : Nat) : Int) := by
  rw [IntWalk.u64_in _ ⟨by omega, by omega⟩, show ((x : Int) * 256) = ((x * 256 : Nat) : Int) by omega, u64_or_nat _ _ (by omega) (by omega)]
  congr 1
  have := Nat.shiftLeft_add_eq_or_of_lt (i := 8) (show c < 2 ^ 8 by omega) x
  rw [Nat.shiftLeft_eq] at this
  exact this.symm
/-- The last n bytes of x. -/
def bigOf (x n : Nat) : List UInt8 := (List.range n).map fun i => UInt8.ofNat (x / 256 ^ (n - 1 - i) % 256)
theorem bigOf_length (x n : Nat) : (bigOf x n).length = n := by simp [bigOf]
theorem info_u8 : (Tryz.prog.info? 5).map (fun i => (i.zero, i.size, i.bytes)) = some (some (.int .u8 0), 1, 1) := by kernel_rfl
theorem octet_big_none (x n : Int) (w : World) (h : n < 1 ∨ 64 < n) :
    Calls Tryz.prog 66 #[.int .u64 x, .int .i64 n] w fun e w' => e = .returned (.slice none 0 0) ∧ w = w' := by
  refine calls_any fun K hK => ?_
  by_cases h1 : n < 1
  · go_enter Tryz.func66, Tryz.ntmps66
    go_wp2_with fail
    exact hK.out _ _ ⟨rfl, rfl⟩
  · have h2 : 64 < n := by omega
    go_enter Tryz.func66, Tryz.ntmps66
    go_wp2_with fail
    exact hK.out _ _ ⟨rfl, rfl⟩
def digit (x n j : Nat) : UInt8 := UInt8.ofNat (x / 256 ^ (n - 1 - j) % 256)
/-- After k rounds: the last k bytes. -/
def bigRow (x n k : Nat) : Array Value := ((List.range n).map fun j => if n - k ≤ j then byteV (digit x n j) else .int .u8 0).toArray
theorem bigRow_get (x n k j : Nat) (hj : j < n) : (bigRow x n k)[j]? = some (if n - k ≤ j then byteV (digit x n j) else .int .u8 0) := by simp [bigRow, hj]
theorem bigRow_step (x n k : Nat) (hk : k < n) (v : Value) (hv : v = byteV (digit x n (n - 1 - k))) : (bigRow x n k).setIfInBounds (n - 1 - k) v = bigRow x n (k + 1) := by
  apply Array.ext_getElem?
  intro j
  rw [Array.getElem?_setIfInBounds]
  by_cases hj : j < n
  · rw [bigRow_get x n k j hj, bigRow_get x n (k + 1) j hj]
    by_cases e : n - 1 - k = j
    · subst e
      simp only [if_true, hv]
      rw [if_pos (by simp [bigRow]; omega), if_pos (by omega)]
    · rw [if_neg e]
      by_cases h1 : n - k ≤ j
      · rw [if_pos h1, if_pos (by omega)]
      · rw [if_neg h1, if_neg (by omega)]
  · have e1 : (bigRow x n k)[j]? = none := Array.getElem?_eq_none (by simp [bigRow]; omega)
    have e2 : (bigRow x n (k + 1))[j]? = none := Array.getElem?_eq_none (by simp [bigRow]; omega)
    rw [e1, e2, if_neg (by omega)]
theorem bigRow_zero (x n : Nat) : bigRow x n 0 = (List.replicate n (.int .u8 0)).toArray := by
  apply Array.ext_getElem?
  intro j
  by_cases hj : j < n
  · rw [bigRow_get x n 0 j hj, if_neg (by omega)]; simp [hj]
  · have e1 : (bigRow x n 0)[j]? = none := Array.getElem?_eq_none (by simp [bigRow]; omega)
    rw [e1]; simp [hj]
theorem bigRow_all (x n : Nat) : bigRow x n n = ((bigOf x n).map byteV).toArray := by
  apply Array.ext_getElem?
  intro j
  by_cases hj : j < n
  · rw [bigRow_get x n n j hj, if_pos (by omega)]; simp [bigOf, digit, hj]
  · have e1 : (bigRow x n n)[j]? = none := Array.getElem?_eq_none (by simp [bigRow]; omega)
    rw [e1]; simp [bigOf, hj]
set_option maxHeartbeats 1000000 in
theorem octet_big {G : Gnd} {w : World} {l : List Asrt} (H : Sat G w l) (x n : Nat) (hx : x < 18446744073709551616) (h1 : 1 ≤ n) (h2 : n ≤ 64) :
    Calls Tryz.prog 66 #[.int .u64 x, .int .i64 n] w fun e w' => ∃ g, e = .returned (.slice (some ⟨g, 0, none⟩) n n) ∧ Sat G w' (blk g ((bigOf x n).map byteV).toArray 5 :: l) := by
  refine calls_any fun K hK => ?_
  have hmk := run_make_row' (P := Tryz.prog) 35 5 (.int .u8 0) 1 Tryz.underlying35 info_u8 rfl .i64 .i64 n (by omega) (by omega)
  have S0 := H.newBlk (bigRow x n 0) 5
  have HS := Lib.hid S0
  clear S0
  go_enter Tryz.func66, Tryz.ntmps66
  go_wp2_with fail
  go_loopw [0, 6] (fun xv i wr => ∃ k : Nat, k ≤ n ∧ i = .int .i64 ((n : Int) - 1 - k) ∧ xv = .int .u64 ((x / 256 ^ k : Nat) : Int) ∧ Sat G wr (blk w.heap.size (bigRow x n k) 5 :: l)) (fun _ i _ => (intOf i + 1).toNat)
  case atStart => exact ⟨0, Nat.zero_le _, by simp, by simp, by have := HS.out; rw [bigRow_zero] at this; rw [bigRow_zero]; have e : madeCells #[Value.int .u8 0] n = (List.replicate n (Value.int .u8 0)).toArray := Array.toList_inj.1 (by rw [toList_madeCells_one]); rw [e]; exact this⟩
  case round =>
    obtain ⟨k, hk, rfl, rfl, S⟩ := hrel
    clear HS
    have HD : Hid (x / 256 ^ k / 256 = x / 256 ^ (k + 1)) := by show x / 256 ^ k / 256 = x / 256 ^ (k + 1); rw [Nat.div_div_eq_div_mul, Nat.pow_succ]
    have hle : x / 256 ^ k ≤ x := Nat.div_le_self _ _
    have hlt0 := S.blk_lt
    by_cases hlt : k < n
    · have HB : Hid (∀ v, v = byteV (UInt8.ofNat (x / 256 ^ k % 256)) → (bigRow x n k).setIfInBounds (n - 1 - k) v = bigRow x n (k + 1)) := fun v hv => bigRow_step x n k hlt v (by rw [hv, digit, show n - 1 - (n - 1 - k) = k by omega])
      have hc0 : ∃ u, wr.cell? ⟨w.heap.size, n - 1 - k, none⟩ = some u := ⟨_, (S.cell (n - 1 - k)).trans (bigRow_get x n k (n - 1 - k) (by omega))⟩
      obtain ⟨u, hc0⟩ := hc0
      have hfr := S.frozen (n - 1 - k)
      have hjk : ((n : Int) - 1 - k) = ((n - 1 - k : Nat) : Int) := by omega
      have HS := Lib.hid (Sat.setCell S (n - 1 - k))
      have HJ : Hid (((n - 1 - k : Nat) : Int) - 1 = (n : Int) - 1 - (k + 1 : Nat)) := by show ((n - 1 - k : Nat) : Int) - 1 = (n : Int) - 1 - (k + 1 : Nat); omega
      have hjn : n - 1 - k < n := by omega
      clear S
      rw [hjk]
      clear hjk
      generalize n - 1 - k = j at *
      generalize x / 256 ^ k = y at *
      go_wp2_with fail
      refine ⟨⟨k + 1, by omega, by rw [HJ.out], by rw [← HD.out]; rfl, ?_⟩, by simp [intOf]⟩
      rw [← HB.out _ (show Value.int .u8 ((y : Int) % 256) = _ from by simp [byteV])]
      exact HS.out _
    · obtain rfl : k = n := by omega
      have e1 : ((k : Int) - 1 - k) = -1 := by omega
      rw [e1]
      have HS := Lib.hid S
      clear S
      go_wp2_with fail
      refine hK.out _ _ ⟨_, rfl, ?_⟩
      rw [← bigRow_all]
      exact HS.out
end Go.Proofs.YtcecfhfbcdbofaaGreatDoor
set_option linter.unusedSimpArgs false
set_option linter.unusedVariables false
namespace Go.Proofs.YtcecfhfbcdbofaaGreatDoor
open Go.RowKit

def bstr (bs : List UInt8) : ByteArray := ⟨bs.toArray⟩
theorem bstr_push (bs cs : List UInt8) : cs.foldl (fun (r : ByteArray) (c : UInt8) => r.push c) (bstr bs) = bstr (bs ++ cs) := by
  induction cs generalizing bs with
  | nil => simp
  | cons c cs ih =>
    have : (bstr bs).push c = bstr (bs ++ [c]) := by simp [bstr, ByteArray.push]
    rw [List.foldl_cons, this, ih]; simp
theorem bstr_size (bs : List UInt8) : (bstr bs).size = bs.length := by simp [bstr, ByteArray.size]
theorem bstr_append (a b : List UInt8) : bstr a ++ bstr b = bstr (a ++ b) := ByteArray.mk_append_mk a b
theorem bstr_nil : bstr [] = ByteArray.empty := rfl
/-- Bytes as a string. -/
theorem conv_bytes (v : Value) (bs : List UInt8) (w : World) (h : SlV w.cell? v bs.length (bs.map byteV)) :
    (convert 35 9 v).run Tryz.prog w = .ok (.string (bstr bs)) w := by
  obtain ⟨A, c, rfl, hc, hm, hel⟩ := h
  cases A with
  | none =>
    have : bs = [] := by
      cases bs with
      | nil => rfl
      | cons b bs => obtain ⟨a, h, _⟩ := hel 0 (byteV b) rfl; cases h
    subst this
    rw [run_convert_bytes_string w 35 9 5 none _ c Tryz.underlying35 Tryz.underlying5 Tryz.underlying9]
    rfl
  | some a =>
    rw [run_convert_bytes_string w 35 9 5 (some a) _ c Tryz.underlying35 Tryz.underlying5 Tryz.underlying9]
    have e : bs.map byteV = (bs.map fun c => (c.toNat : Int)).map (Value.int .u8) := by simp [byteV]
    have hl := run_loadCells_list (P := Tryz.prog) (w := w) a (bs.map byteV) (fun j v hj => by obtain ⟨a', h, h'⟩ := hel j v hj; cases h; exact h')
    rw [e] at hl
    rw [run_bytesToString w a bs.length c (bs.map fun c => (c.toNat : Int)) (by simpa using hl), List.foldl_map]
    congr 2
    rw [← bstr_nil]
    have := bstr_push [] bs
    simp only [List.nil_append] at this
    rw [← this]
    congr 1
    funext r c
    simp
theorem bigOf_succ (x k : Nat) : bigOf x (k + 1) = UInt8.ofNat (x / 256 ^ k % 256) :: bigOf x k := by
  unfold bigOf
  rw [List.range_succ_eq_map, List.map_cons, List.map_map]
  congr 1
  apply List.map_congr_left
  intro i hi
  have := List.mem_range.1 hi
  simp only [Function.comp, Nat.succ_eq_add_one]
  rw [show k + 1 - 1 - (i + 1) = k - 1 - i by omega]
theorem numOf_cons_lt (bs : List UInt8) (k : Nat) (h : bs.length ≤ 8) : numOf (bs.take k) < 18446744073709551616 :=
  Nat.lt_of_lt_of_le (numOf_lt _) (Nat.le_trans (Nat.pow_le_pow_right (by omega) (show (bs.take k).length ≤ 8 by rw [List.length_take]; omega)) (by decide))
theorem bstr_get (bs : List UInt8) (k : Nat) (h : k < bs.length) (h' : k < (bstr bs).size) : (bstr bs)[k]'h' = bs[k]'h := by
  simp [bstr, ByteArray.getElem_eq_getElem_data]
end Go.Proofs.YtcecfhfbcdbofaaGreatDoor
set_option linter.unusedSimpArgs false
set_option linter.unusedVariables false
namespace Go.Proofs.YtcecfhfbcdbofaaGreatDoor
open Go.RowKit

theorem add_add_all (a : Addr) (k j : Nat) : (a.add k).add j = a.add (k + j) := by
  unfold Addr.add
  by_cases hk : k = 0
  · simp [hk]
  · by_cases hj : j = 0
    · simp [hk, hj]
    · simp [hk, hj, Nat.add_assoc]
/-- Where a slice goes on behind its first k elements. -/
def fromA (A : Option Addr) (c k : Nat) : Option Addr := if c = k then A else A.map (·.add k)
theorem SlV.to {get : Addr → Option Value} {A : Option Addr} {n c : Nat} {cs : List Value} (h : SlV get (.slice A n c) n cs) (k : Nat) (hk : k ≤ n) : SlV get (.slice A k k) k (cs.take k) := by
  obtain ⟨A', c', e, h1, h2, h3⟩ := h
  cases e
  refine ⟨A, k, rfl, Nat.le_refl _, by omega, fun j u hj => h3 j u ?_⟩
  rw [List.getElem?_take] at hj
  split at hj
  · exact hj
  · cases hj
theorem SlV.from {get : Addr → Option Value} {A : Option Addr} {n c : Nat} {cs : List Value} (h : SlV get (.slice A n c) n cs) (hn : cs.length = n) (k : Nat) (hk : k ≤ n) : SlV get (.slice (fromA A c k) (n - k) (c - k)) (n - k) (cs.drop k) := by
  obtain ⟨A', c', e, h1, h2, h3⟩ := h
  cases e
  refine ⟨_, _, rfl, by omega, by omega, fun j u hj => ?_⟩
  rw [List.getElem?_drop] at hj
  obtain ⟨a, hA, hg⟩ := h3 _ u hj
  have hlt := (List.getElem?_eq_some_iff.1 hj).1
  refine ⟨a.add k, ?_, by rw [add_add_all]; exact hg⟩
  unfold fromA
  rw [if_neg (by omega), hA]
  rfl
theorem slice_is_nil (A : Option Addr) (n c : Nat) (w : World) : (binOp .eql 35 (.slice A n c) (.slice none 0 0)).run Tryz.prog w = .ok (.bool A.isNone) w := by
  simp [binOp, run_equal_slice_nil w 35 5 A n c Tryz.underlying35]
/-- A copy of bytes: in memory of its own. -/
theorem bytes_clone {G : Gnd} {w : World} {l : List Asrt} (H : Sat G w l) (v : Value) (bs : List UInt8) (hb : SlV w.cell? v bs.length (bs.map byteV)) (hlen : bs.length ≤ 140737488355328) :
    Calls Tryz.prog 64 #[v] w fun e w' => ∃ u, e = .returned u ∧ Sat G w' (ownS 5 1 u bs.length (bs.map byteV) :: l) := by
  refine calls_any fun K hK => ?_
  obtain ⟨A, c, rfl, hc, hm, hel⟩ := hb
  cases A with
  | none =>
    have e0 : bs = [] := by
      cases bs with
      | nil => rfl
      | cons b bs => obtain ⟨a, h, _⟩ := hel 0 (byteV b) rfl; cases h
    subst e0
    have S := H.ownNil 5 1
    have hnil := slice_is_nil none 0 c w
    clear hel
    go_enter Tryz.func64, Tryz.ntmps64
    go_wp2_with fail
    exact hK.out _ _ ⟨_, rfl, S⟩
  | some a =>
    have S0 := (H.newBlk #[] 5).ownBlk (size := 1) 0 rfl (Nat.zero_le _)
    have hw : ∀ j u, (bs.map byteV)[j]? = some u → (w.alloc (.cells #[] 5)).cell? (a.add j) = some u := fun j u hj => by
      obtain ⟨a', e, h⟩ := hel j u hj
      cases e
      rw [World.cell?_alloc_some _ _ _ (by rw [h]; rfl)]
      exact h
    have hnil := slice_is_nil (some a) bs.length c w
    clear hel H
    go_enter Tryz.func64, Tryz.ntmps64
    go_wp2_with (at_builtin; refine st_append rfl _ _ 35 rfl 5 (.int .u8 0) 1 1 Tryz.underlying35 info_u8 rfl (by omega) _ 0 [] rfl S0 a bs.length c (bs.map byteV) rfl (by simp) hw (by simp [byteV, Value.oneCell']) (by omega) (by omega) ?_; intro v' w' S')
    exact hK.out _ _ ⟨v', rfl, by simpa using S'⟩
theorem Sat.ownForm {G : Gnd} {w : World} {l : List Asrt} {e : TypeId} {size : Nat} {v : Value} {n : Nat} {xs : List Value} (H : Sat G w (ownS e size v n xs :: l)) : ∃ A c, v = .slice A n c ∧ n ≤ c ∧ c ≤ maxLen ∧ (A = none → c = 0) := by
  obtain ⟨_, ⟨rfl, rfl, _⟩ | ⟨g, cap, cur, rfl, h1, h2, _, _, _⟩⟩ := own_iff.1 H
  · exact ⟨none, 0, rfl, Nat.le_refl _, Nat.zero_le _, fun _ => rfl⟩
  · exact ⟨_, cap, rfl, h1, h2, fun h => by cases h⟩
end Go.Proofs.YtcecfhfbcdbofaaGreatDoor
set_option linter.unusedSimpArgs false
set_option linter.unusedVariables false
namespace Go.Proofs.YtcecfhfbcdbofaaGreatDoor
open Go.RowKit

/-- Bytes in a block that was just made. -/
theorem slv_new (W : World) (bs : List UInt8) (h : bs.length ≤ maxLen) (n : Nat) (hn : n = W.heap.size) (t : TypeId) : SlV (W.alloc (.cells (bs.map byteV).toArray t)).cell? (.slice (some ⟨n, 0, none⟩) bs.length bs.length) bs.length (bs.map byteV) :=
  ⟨_, _, rfl, Nat.le_refl _, h, fun j u hj => ⟨_, rfl, alloc_cells W n _ t hn j u (by simpa using hj)⟩⟩
/-- Bytes in a block of one's own. -/
theorem slv_blk {G : Gnd} {w : World} {l : List Asrt} {g : Nat} {bs : List UInt8} {t : TypeId} (H : Sat G w (blk g (bs.map byteV).toArray t :: l)) (h : bs.length ≤ maxLen) : SlV w.cell? (.slice (some ⟨g, 0, none⟩) bs.length bs.length) bs.length (bs.map byteV) :=
  ⟨_, _, rfl, Nat.le_refl _, h, fun j u hj => ⟨_, rfl, by
    have e : (⟨g, 0, none⟩ : Addr).add j = ⟨g, j, none⟩ := by unfold Addr.add; split <;> simp_all
    rw [e, H.cell j]; simpa using hj⟩⟩
theorem slv_own {G : Gnd} {w : World} {l : List Asrt} {v : Value} {bs : List UInt8} {t : TypeId} (H : Sat G w (ownS t 1 v bs.length (bs.map byteV) :: l)) : SlV w.cell? v bs.length (bs.map byteV) := by
  obtain ⟨hl, ⟨rfl, h0, _⟩ | ⟨g, cap, cur, rfl, h1, h2, h3, h4, H⟩⟩ := own_iff.1 H
  · rw [h0]; exact ⟨none, 0, rfl, Nat.le_refl _, Nat.zero_le _, fun j u hj => by have : bs = [] := List.eq_nil_of_length_eq_zero h0; subst this; simp at hj⟩
  · refine ⟨_, cap, rfl, h1, h2, fun j u hj => ⟨_, rfl, ?_⟩⟩
    have e : (⟨g, 0, none⟩ : Addr).add j = ⟨g, j, none⟩ := by unfold Addr.add; split <;> simp_all
    rw [e, H.cell j]
    rw [← h4, List.getElem?_take] at hj
    split at hj
    · simpa using hj
    · cases hj
/-- Bytes of a constant: in a block with the mark of one. -/
theorem slv_const (W : World) (bs : List UInt8) (h : bs.length ≤ maxLen) (n : Nat) (hn : n = W.heap.size) (t : TypeId) (fr : Nat × Nat) : SlV (W.alloc (.cells (bs.map byteV).toArray t fr)).cell? (.slice (some ⟨n, 0, none⟩) bs.length bs.length) bs.length (bs.map byteV) :=
  ⟨_, _, rfl, Nat.le_refl _, h, fun j u hj => ⟨_, rfl, by
    subst hn
    have e : (⟨W.heap.size, 0, none⟩ : Addr).add j = ⟨W.heap.size, j, none⟩ := by unfold Addr.add; split <;> simp_all
    rw [e, cell_of_block (heap_alloc_new W _)]
    simpa using hj⟩⟩
theorem fromA_none {A : Option Addr} {c k : Nat} (hA : A = none → c = 0) (h : fromA A c k = none) : c - k = 0 := by
  unfold fromA at h
  split at h
  · omega
  · cases A with
    | none => have := hA rfl; omega
    | some a => cases h
theorem numOf_cons (c : UInt8) (bs : List UInt8) : numOf (c :: bs) = c.toNat * 256 ^ bs.length + numOf bs := by
  have key : ∀ (bs : List UInt8) (a : Nat), bs.foldl (fun x c => x * 256 + c.toNat) a = a * 256 ^ bs.length + numOf bs := by
    intro bs
    induction bs with
    | nil => intro a; simp [numOf]
    | cons c bs ih =>
      intro a
      simp only [List.foldl_cons, numOf, List.length_cons]
      rw [ih, ih (0 * 256 + c.toNat), Nat.pow_succ]
      rw [Nat.add_mul, Nat.mul_assoc, Nat.mul_comm 256]
      simp only [Nat.zero_mul, Nat.zero_add]
      omega
  unfold numOf
  rw [List.foldl_cons, key]
  simp [numOf]
theorem SlV.sat {G : Gnd} {w : World} {l : List Asrt} {v : Value} {n : Nat} {cs : List Value} (H : Sat G w l) (h : SlV (cellR G.ro) v n cs) : SlV w.cell? v n cs := by
  obtain ⟨A, c, hv, h1, h2, h3⟩ := h
  exact ⟨A, c, hv, h1, h2, fun j u hj => by obtain ⟨a, hA, hc⟩ := h3 j u hj; exact ⟨a, hA, H.cellR hc⟩⟩
theorem byte_cell {R : Hp} {d : D} {es : List Value} (h : Rd R (.int .u8) d es) : ∃ c : UInt8, es = [byteV c] := by
  cases d <;> simp only [Rd] at h
  rename_i n
  obtain ⟨rfl, h⟩ := h
  have h1 : 0 ≤ n ∧ n ≤ 255 := by
    simp [Lit.wf] at h
    exact h
  refine ⟨UInt8.ofNat n.toNat, ?_⟩
  have : (UInt8.ofNat n.toNat).toNat = n.toNat := by simp; omega
  simp only [byteV, this]
  congr 2
  omega
theorem bytes_of {R : Hp} {v : Value} {l : List D} (h : RdSl R 1 (.int .u8) v l) : ∃ bs : List UInt8, bs.length = l.length ∧ bs.length ≤ 140737488351232 ∧ SlV (cellR R) v bs.length (bs.map byteV) := by
  obtain ⟨A, c, hv, hlc, hc, hb, _, hel⟩ := h.form
  have key : ∀ i, i < l.length → ∃ b : UInt8, ∃ a, A = some a ∧ cellR R (a.add i) = some (byteV b) := fun i hi => by
    obtain ⟨a, hA, es, he, hc, hr⟩ := hel i l[i] (List.getElem?_eq_getElem hi)
    obtain ⟨b, rfl⟩ := byte_cell hr
    have := hc 0 (by simp [Ty.size])
    simp only [Ty.size, Nat.mul_one, Nat.add_zero] at this
    exact ⟨b, a, hA, this⟩
  obtain ⟨bs, hbl, hbs⟩ := list_of_each (Q := fun i (b : UInt8) => ∃ a, A = some a ∧ cellR R (a.add i) = some (byteV b)) l.length key
  refine ⟨bs, hbl, by omega, A, c, by rw [hbl]; exact hv, by omega, Nat.le_trans hc (by decide), fun j u hj => ?_⟩
  rw [List.getElem?_map] at hj
  cases hb : bs[j]? with
  | none => rw [hb] at hj; cases hj
  | some b => rw [hb] at hj; cases hj; exact hbs j b hb
theorem bigOf_numOf (bs : List UInt8) : bigOf (numOf bs) bs.length = bs := by
  have key : ∀ (bs : List UInt8) (a : Nat), bigOf (a * 256 ^ bs.length + numOf bs) bs.length = bs := by
    intro bs
    induction bs with
    | nil => intro a; simp [bigOf]
    | cons c bs ih =>
      intro a
      have h2 := numOf_lt bs
      have hc := c.toNat_lt
      rw [List.length_cons, bigOf_succ, numOf_cons]
      have e : a * 256 ^ (bs.length + 1) + (c.toNat * 256 ^ bs.length + numOf bs) = (a * 256 + c.toNat) * 256 ^ bs.length + numOf bs := by
        rw [Nat.pow_succ, Nat.add_mul, Nat.mul_assoc, Nat.mul_comm 256]; omega
      rw [e, ih (a * 256 + c.toNat)]
      congr 1
      have h3 : ((a * 256 + c.toNat) * 256 ^ bs.length + numOf bs) / 256 ^ bs.length = a * 256 + c.toNat := by
        rw [Nat.mul_comm, Nat.mul_add_div (Nat.pos_of_ne_zero (by simp)), Nat.div_eq_of_lt h2, Nat.add_zero]
      rw [h3, show (a * 256 + c.toNat) % 256 = c.toNat by omega]
      simp
  have := key bs 0
  simpa using this
theorem octet_big_all {G : Gnd} {w : World} {l : List Asrt} (H : Sat G w l) (x n : Nat) (hx : x < 18446744073709551616) (h2 : n ≤ 64) :
    Calls Tryz.prog 66 #[.int .u64 x, .int .i64 n] w fun e w' => ∃ u, e = .returned u ∧ Sat G w' (ownS 5 1 u n ((bigOf x n).map byteV) :: l) := by
  by_cases h0 : n = 0
  · subst h0
    exact (octet_big_none x 0 w (by omega)).mono fun e w' h => ⟨_, h.1, by rw [← h.2]; exact H.ownNil 5 1⟩
  · exact (octet_big H x n hx (by omega) h2).mono fun e w' h => by
      obtain ⟨g, rfl, S⟩ := h
      exact ⟨_, rfl, by have := S.ownBlk (size := 1) n (by simp [bigOf_length]) (Nat.le_trans h2 (by decide)); simpa using this⟩
theorem numOf_bigOf (x : Nat) : ∀ n, numOf (bigOf x n) = x % 256 ^ n := by
  have key : ∀ (bs : List UInt8) (a : Nat), bs.foldl (fun x c => x * 256 + c.toNat) a = a * 256 ^ bs.length + numOf bs := by
    intro bs
    induction bs with
    | nil => intro a; simp [numOf]
    | cons c bs ih =>
      intro a
      simp only [List.foldl_cons, numOf, List.length_cons]
      rw [ih, ih (0 * 256 + c.toNat), Nat.pow_succ]
      rw [Nat.add_mul, Nat.mul_assoc, Nat.mul_comm 256]
      simp only [Nat.zero_mul, Nat.zero_add]
      omega
  intro n
  induction n with
  | zero => simp [bigOf, numOf, Nat.mod_one]
  | succ n ih =>
    rw [bigOf_succ]
    unfold numOf
    rw [List.foldl_cons, key, bigOf_length, ih]
    have e1 : (UInt8.ofNat (x / 256 ^ n % 256)).toNat = x / 256 ^ n % 256 := by simp
    rw [e1, Nat.pow_succ, Nat.mod_mul]
    rw [Nat.zero_mul, Nat.zero_add, Nat.mul_comm]
    omega
/-- An element of a slice of one's own, and how it is turned. -/
theorem Sat.ownCell {G : Gnd} {w : World} {l : List Asrt} {e : TypeId} {v : Value} {n : Nat} {xs : List Value} (H : Sat G w (ownS e 1 v n xs :: l)) (k : Nat) (hk : k < n) :
    ∃ g cap, v = .slice (some ⟨g, 0, none⟩) n cap ∧ n ≤ cap ∧ cap ≤ maxLen ∧ w.cell? ⟨g, k, none⟩ = xs[k]? ∧ w.frozen? ⟨g, k, none⟩ = false ∧ ∀ u, Sat G (w.setCell ⟨g, k, none⟩ u) (ownS e 1 v n (xs.set k u) :: l) := by
  obtain ⟨hl, ⟨_, h0, _⟩ | ⟨g, cap, cur, rfl, h1, h2, h3, h4, S⟩⟩ := own_iff.1 H
  · omega
  · refine ⟨g, cap, rfl, h1, h2, ?_, S.frozen k, fun u => ?_⟩
    · rw [S.cell k, ← h4, List.getElem?_take, if_pos (by omega)]; simp
    · refine own_iff.2 ⟨by simpa using hl, .inr ⟨g, cap, _, rfl, h1, h2, ?_, ?_, S.setCell k u⟩⟩
      · simpa using h3
      · rw [Array.toList_setIfInBounds, List.take_set, h4]
theorem bstr_drop (cs : List UInt8) (a e : Nat) (h : cs.length = e) : (bstr cs).extract a e = bstr (cs.drop a) := by
  unfold bstr
  rw [Go.ByteArray.extract_mk, List.take_of_length_le (by rw [List.length_drop]; omega)]
theorem bstr_take (cs : List UInt8) (a : Nat) : (bstr cs).extract 0 a = bstr (cs.take a) := by
  unfold bstr
  rw [Go.ByteArray.extract_mk]; simp
theorem RdSl.none0 {R : Hp} {b : Nat} {t : Ty} {A : Option Addr} {n c : Nat} {l : List D} (h : RdSl R b t (.slice A n c) l) (hA : A = none) : c = 0 := by
  subst hA
  simp only [RdSl, Rd] at h
  obtain ⟨h0, ⟨h1, rfl⟩ | ⟨a, c, h1, h2, h3, h4, h5⟩⟩ := h
  · simp at h1; exact h1.2
  · simp at h1
/-- append of bytes to bytes of one's own. -/
theorem st_app {G : Gnd} {w : World} {l : List Asrt} {ops : Array Oper} {rest : List Oper} {o : Oper} {a : Act} {Q : Exit → Act → World → Prop} {v : Value} {n : Nat} {xs : List Value} (S : Sat G w (ownS 5 1 v n xs :: l)) (hgd : o.guard = none) (s x : Operand)
    (ho : o.op = .call { callee := .builtin .append, args := #[s, x], argTypes := #[35, 35] }) (hs : a.eval s = v)
    {A : Option Addr} {c : Nat} {bs : List UInt8} (hx : a.eval x = .slice A bs.length c) (hb : SlV w.cell? (.slice A bs.length c) bs.length (bs.map byteV)) (hA : A = none → c = 0) (hm : n + bs.length ≤ 140737488355328)
    (h : ∀ v' w', Sat G w' (ownS 5 1 v' (n + bs.length) (xs ++ bs.map byteV) :: l) → wpList Tryz.prog ops Q rest (a.put o.dst v') w') : wpList Tryz.prog ops Q (o :: rest) a w := by
  obtain ⟨A', c', e, h1, h2, hel⟩ := hb
  cases e
  cases A with
  | none =>
    obtain rfl := hA rfl
    have e0 : bs = [] := List.eq_nil_of_length_eq_zero (by omega)
    subst e0
    obtain ⟨i, hi⟩ : ∃ i, Tryz.prog.info? 5 = some i := by
      have := info_u8
      cases hi : Tryz.prog.info? 5 with
      | none => rw [hi] at this; cases this
      | some i => exact ⟨i, rfl⟩
    refine wpList_append_own_none hgd s x 35 ho 0 5 i 1 Tryz.underlying35 hi v n xs hs S.owns hx (h v w ?_)
    simpa using S
  | some ad =>
    have hn : n + bs.length ≤ maxLen := Nat.le_trans hm (by decide)
    refine st_append hgd s x 35 ho 5 (.int .u8 0) 1 1 Tryz.underlying35 info_u8 rfl (by omega) v n xs hs S ad bs.length c (bs.map byteV) hx (by simp) (fun j u hj => ?_) (by simp [byteV, Value.oneCell']) hn (by omega) h
    obtain ⟨a', e, h⟩ := hel j u hj
    cases e; exact h
/-- v is a slice of the bytes bs. -/
def SlB (get : Addr → Option Value) (v : Value) (bs : List UInt8) : Prop := SlV get v bs.length (bs.map byteV) ∧ ∀ n c, v = .slice none n c → c = 0
theorem SlB.v {get : Addr → Option Value} {v : Value} {bs : List UInt8} (h : SlB get v bs) : SlV get v bs.length (bs.map byteV) := h.1
theorem SlB.form {get : Addr → Option Value} {v : Value} {bs : List UInt8} (h : SlB get v bs) : ∃ A c, v = .slice A bs.length c ∧ bs.length ≤ c ∧ c ≤ maxLen ∧ (A = none → c = 0) := by
  obtain ⟨⟨A, c, rfl, h1, h2, _⟩, h3⟩ := h
  exact ⟨A, c, rfl, h1, h2, fun e => h3 _ _ (by rw [e])⟩
theorem SlB.sat {G : Gnd} {w : World} {l : List Asrt} {v : Value} {bs : List UInt8} (h : SlB (cellR G.ro) v bs) (H : Sat G w l) : SlB w.cell? v bs := ⟨h.1.sat H, h.2⟩
theorem SlB.mono {G G' : Gnd} {v : Value} {bs : List UInt8} (h : SlB (cellR G.ro) v bs) (hG : G.le G') : SlB (cellR G'.ro) v bs := by
  obtain ⟨⟨A, c, e, h1, h2, h3⟩, h4⟩ := h
  exact ⟨⟨A, c, e, h1, h2, fun j u hj => by obtain ⟨a, ha, hc⟩ := h3 j u hj; exact ⟨a, ha, cellR_mono hG.ro hc⟩⟩, h4⟩
theorem SlB.nil (get : Addr → Option Value) : SlB get (.slice none 0 0) [] := ⟨⟨none, 0, rfl, Nat.le_refl _, Nat.zero_le _, fun j u hj => by simp at hj⟩, fun n c e => by cases e; rfl⟩
theorem own_slb {G : Gnd} {w : World} {l : List Asrt} {v : Value} {bs : List UInt8} {t : TypeId} (H : Sat G w (ownS t 1 v bs.length (bs.map byteV) :: l)) : SlB w.cell? v bs := by
  refine ⟨slv_own H, fun n c e => ?_⟩
  obtain ⟨A, c', e', _, _, h⟩ := H.ownForm
  rw [e] at e'; cases e'; exact h rfl
/-- What is one's own is turned no more. -/
theorem Sat.ownFrz {G : Gnd} {w : World} {l : List Asrt} {v : Value} {bs : List UInt8} {t : TypeId} (H : Sat G w (ownS t 1 v bs.length (bs.map byteV) :: l)) : ∃ G', G.le G' ∧ Sat G' w l ∧ SlB (Go.Proofs.YtcecfhfbcdbofaaGreatDoor.cellR G'.ro) v bs := by
  have h0 := own_slb H
  obtain ⟨A, c, e, h1, h2, h3⟩ := h0.form
  obtain ⟨G', hG, S, A', c', e', _, _, hel⟩ := H.ownFreeze
  rw [e] at e'; cases e'
  refine ⟨G', hG, S, ⟨A, c, e, h1, h2, fun j u hj => ?_⟩, h0.2⟩
  obtain ⟨g, rfl, hc⟩ := hel j u hj
  have ea : (⟨g, 0, none⟩ : Addr).add j = ⟨g, j, none⟩ := by unfold Addr.add; split <;> simp_all
  exact ⟨_, rfl, by rw [ea]; exact hc⟩
/-- A part of bytes. -/
theorem SlB.to {get : Addr → Option Value} {A : Option Addr} {n c : Nat} {bs : List UInt8} (h : SlB get (.slice A n c) bs) (k : Nat) (hk : k ≤ n) (c' : Nat) (h1 : k ≤ c') (h2 : c' ≤ c) : SlB get (.slice A k c') (bs.take k) := by
  obtain ⟨⟨A', c1, e, h3, h4, h5⟩, h6⟩ := h
  cases e
  have hl : (bs.take k).length = k := by rw [List.length_take]; omega
  refine ⟨⟨A, c', by rw [hl], by omega, by omega, fun j u hj => h5 j u ?_⟩, fun n c e => ?_⟩
  · rw [List.map_take, List.getElem?_take] at hj
    split at hj
    · exact hj
    · cases hj
  · cases e; have := h6 _ _ rfl; omega
theorem SlB.from {get : Addr → Option Value} {A : Option Addr} {n c : Nat} {bs : List UInt8} (h : SlB get (.slice A n c) bs) (k : Nat) (hk : k ≤ n) : SlB get (.slice (fromA A c k) (n - k) (c - k)) (bs.drop k) := by
  have hn : n = bs.length := by obtain ⟨⟨A', c1, e, _⟩, _⟩ := h; cases e; rfl
  subst hn
  have := SlV.from h.1 (by simp) k hk
  refine ⟨by rw [List.length_drop, List.map_drop]; exact this, fun n' c' e => ?_⟩
  injection e with e1 e2 e3
  have := fromA_none (A := A) (c := c) (k := k) (fun hA => h.2 _ _ (by rw [hA])) e1
  omega
theorem slb_of {R : Hp} {v : Value} {l : List D} (h : RdSl R 1 (.int .u8) v l) : ∃ bs : List UInt8, bs.length = l.length ∧ bs.length ≤ 140737488351232 ∧ SlB (cellR R) v bs := by
  obtain ⟨bs, h1, h2, h3⟩ := bytes_of h
  exact ⟨bs, h1, h2, h3, fun n c e => by subst e; exact RdSl.none0 h rfl⟩
end Go.Proofs.YtcecfhfbcdbofaaGreatDoor
set_option linter.unusedSimpArgs false
set_option linter.unusedVariables false
namespace Go.Proofs.YtcecfhfbcdbofaaGreatDoor
open Go.RowKit

set_option maxRecDepth 20000 in
theorem grow_bytes {G : Gnd} {w : World} {l : List Asrt} (H : Sat G w l) (n : Nat) (hn : n ≤ 140737488355328) :
    Calls Tryz.prog 98 #[.slice none 0 0, .int .i64 n] w fun e w' => ∃ u, e = .returned u ∧ Sat G w' (ownS 5 1 u 0 [] :: l) := by
  refine calls_any fun K hK => ?_
  have w1 : wrap64 ((n : Int) - 0) = n := by unfold wrap64; omega
  by_cases h0 : n = 0
  · subst h0
    have S := H.ownNil 5 1
    clear H
    go_enter Tryz.func98, Tryz.ntmps98
    go_wp2_with fail
    exact hK.out _ _ ⟨_, rfl, S⟩
  · have hi : ∃ i, Tryz.prog.info? 5 = some i ∧ i.zero = some (.int .u8 0) ∧ i.size = 1 ∧ i.bytes = 1 := by
      have hi := info_u8
      cases hi' : Tryz.prog.info? 5 with
      | none => rw [hi'] at hi; simp at hi
      | some i => rw [hi'] at hi; simp at hi; exact ⟨i, rfl, hi.1, hi.2.1, hi.2.2⟩
    obtain ⟨i, hi0, hz, hs, hb⟩ := hi
    have hr := fun ty => Go.Lib.run_append_nil_zeros (P := Tryz.prog) w 35 3 ty 5 i (.int .u8 0) .i64 .i64 Tryz.underlying35 Tryz.underlying3 hi0 hz n (by omega) (by omega) (by omega) (by rw [hb]; omega)
    have hcap1 := grownCap_ge w n 0 5
    have hcap2 := grownCap_le_maxLen w n 0 5 (Nat.le_trans hn (by decide))
    have hcap3 : grownCap w n 0 5 ≤ 9223372036854775807 := hcap2
    have S1 := H.drew.newBlk (Builtin.zeroCells (Value.int .u8 0).cells n ++ Builtin.zeroCells (Value.int .u8 0).cells (grownCap w n 0 5 - n)) 5
    have S2 : Sat G _ (ownS 5 1 (.slice (some ⟨w.drew.heap.size, 0, none⟩) 0 (grownCap w n 0 5)) 0 [] :: l) := own_iff.2 ⟨rfl, .inr ⟨_, _, _, rfl, Nat.zero_le _, hcap2, by simp [Builtin.zeroCells, Value.cells]; omega, by simp, S1⟩⟩
    clear S1 H hcap2
    generalize grownCap w n 0 5 = cp at *
    go_enter Tryz.func98, Tryz.ntmps98
    go_wp2_with (at_builtin; refine Go.Lib.wpList_append_run _ rfl _ _ _ _ rfl _ _ rfl rfl _ _ (hr _) ?_)
    exact hK.out _ _ ⟨_, rfl, S2⟩
theorem bstr_list (a : List UInt8) : (bstr a).toList = a := ByteArray.toList_mk _
set_option maxHeartbeats 2000000 in
/-- Bytes one behind the other: in memory of its own. -/
theorem concat_bytes {G : Gnd} {w : World} {l : List Asrt} (H : Sat G w l) (a : Addr) (c : Nat) (ps : List (List UInt8)) (hb : ∀ W, Sat G W l → ∀ i bs, ps[i]? = some bs → ∃ v, W.cell? (a.add i) = some v ∧ SlB W.cell? v bs) (hlen : ps.flatten.length ≤ 140737488355328) (hc : ps.length ≤ c) (hc2 : c ≤ 9223372036854775807) :
    Calls Tryz.prog 76 #[.slice (some a) ps.length c] w fun e w' => ∃ u, e = .returned u ∧ Sat G w' (ownS 5 1 u ps.flatten.length (ps.flatten.map byteV) :: l) := by
  refine calls_any fun K hK => ?_
  have HB := Lib.hid hb
  clear hb
  have hsum : ∀ k bs, ps[k]? = some bs → (ps.take k).flatten.length + bs.length = (ps.take (k + 1)).flatten.length ∧ (ps.take (k + 1)).flatten.length ≤ ps.flatten.length := by
    intro k bs hk
    have hlt := (List.getElem?_eq_some_iff.1 hk).1
    have hx := (List.getElem?_eq_some_iff.1 hk).2
    constructor
    · rw [List.take_succ_eq_append_getElem hlt, hx, List.flatten_append, List.length_append]; simp
    · have : ps = ps.take (k + 1) ++ ps.drop (k + 1) := (List.take_append_drop _ _).symm
      conv => rhs; rw [this, List.flatten_append, List.length_append]
      omega
  have HSM := Lib.hid hsum
  clear hsum
  go_enter Tryz.func76, Tryz.ntmps76
  go_wp2_with fail
  go_loop [3, 11] (fun s i => ∃ k : Nat, k ≤ ps.length ∧ i = .int .i64 k ∧ s = .int .i64 (ps.take k).flatten.length) (fun _ i => ps.length - (intOf i).toNat)
  case atStart => exact ⟨0, Nat.zero_le _, rfl, rfl⟩
  case round =>
    obtain ⟨k, hk, rfl, rfl⟩ := hrel
    by_cases hlt : k < ps.length
    · obtain ⟨v, hcell, hv⟩ := HB.out w H k ps[k] (List.getElem?_eq_getElem hlt)
      obtain ⟨hs1, hs2⟩ := HSM.out k ps[k] (List.getElem?_eq_getElem hlt)
      obtain ⟨A, cc, rfl, hx1, hx2, -⟩ := hv.form
      generalize (ps[k]).length = m at *
      have HS := Lib.hid hs1
      have hw : wrap64 (((ps.take k).flatten.length : Int) + (m : Int)) = ((ps.take k).flatten.length : Int) + (m : Int) := by unfold wrap64; omega
      have hneg : ¬ (((ps.take k).flatten.length : Int) + (m : Int) < 0) := by omega
      clear hv hs1 hs2
      generalize (ps.take k).flatten.length = s at *
      go_wp2_with fail
      refine ⟨⟨k + 1, by omega, by go_num, ?_⟩, by simp [intOf]; omega⟩
      rw [← HS.out]
      congr 1
    · obtain rfl : k = ps.length := by omega
      have hg := grow_bytes H ps.flatten.length (by omega)
      rw [List.take_length]
      generalize hL : ps.flatten.length = L at *
      go_wp2_with fail
      (with_reducible refine hg.mono ?_)
      clear hg
      rintro e w1 ⟨u, rfl, S1⟩
      go_wp2_with fail
      go_loopw [6, 27] (fun x i wr => ∃ k : Nat, k ≤ ps.length ∧ i = .int .i64 k ∧ Sat G wr (ownS 5 1 x (ps.take k).flatten.length ((ps.take k).flatten.map byteV) :: l)) (fun _ i _ => ps.length - (intOf i).toNat)
      case atStart => exact ⟨0, Nat.zero_le _, rfl, by simpa using S1⟩
      case round =>
        obtain ⟨k, hk, rfl, S2⟩ := hrel
        clear S1
        by_cases hlt : k < ps.length
        · obtain ⟨v, hcell, hv⟩ := HB.out wr S2.drop k ps[k] (List.getElem?_eq_getElem hlt)
          obtain ⟨hs1, hs2⟩ := HSM.out k ps[k] (List.getElem?_eq_getElem hlt)
          obtain ⟨A, cc, rfl, hx1, hx2, hx3⟩ := hv.form
          obtain ⟨A2, c2, rfl, -, -, -⟩ := S2.ownForm
          have hfl : (ps.take (k + 1)).flatten = (ps.take k).flatten ++ ps[k] := by rw [List.take_succ_eq_append_getElem hlt, List.flatten_append]; simp
          have hb2 := hv.1
          have HF := Lib.hid hfl
          have hbnd : (ps.take k).flatten.length + (ps[k]).length ≤ 140737488355328 := by omega
          clear hv hs1 hs2 hfl
          go_wp2_with (at_builtin; refine st_app S2 rfl _ _ rfl rfl rfl hb2 hx3 hbnd ?_; intro v' w' S')
          go_roundw
          case rel => exact ⟨k + 1, by omega, by go_num, by rw [HF.out]; simpa using S'⟩
          case measure => simp [intOf]; omega
        · obtain rfl : k = ps.length := by omega
          rw [List.take_length] at S2
          go_wp2_with fail
          exact hK.out _ _ ⟨_, rfl, by rw [hL] at S2; exact S2⟩
end Go.Proofs.YtcecfhfbcdbofaaGreatDoor
set_option linter.unusedSimpArgs false
set_option linter.unusedVariables false
namespace Go.Proofs.YtcecfhfbcdbofaaGreatDoor
open Go.RowKit

theorem Sat.dropL {G : Gnd} {w : World} {l : List Asrt} : ∀ L : List Asrt, Sat G w (L ++ l) → Sat G w l
  | [], H => H
  | _ :: L, H => Sat.dropL L (Sat.drop H)
theorem info_u8' : ∃ i, Tryz.prog.info? 5 = some i ∧ i.zero = some (.int .u8 0) ∧ i.size = 1 ∧ i.bytes = 1 := by
  have hi := info_u8
  cases hi' : Tryz.prog.info? 5 with
  | none => rw [hi'] at hi; simp at hi
  | some i => rw [hi'] at hi; simp at hi; exact ⟨i, rfl, hi.1, hi.2.1, hi.2.2⟩
theorem st_app2 {G : Gnd} {w : World} {l : List Asrt} {ops : Array Oper} {rest : List Oper} {o : Oper} {a : Act} {Q : Exit → Act → World → Prop} {B : Option Addr} {cp : Nat} {bs0 : List UInt8} (S : Sat G w (ownS 5 1 (.slice B bs0.length cp) bs0.length (bs0.map byteV) :: l)) (hgd : o.guard = none) (s x : Operand)
    (ho : o.op = .call { callee := .builtin .append, args := #[s, x], argTypes := #[35, 35] }) (hs : a.eval s = .slice B bs0.length cp)
    {A : Option Addr} {c : Nat} {bs : List UInt8} (hx : a.eval x = .slice A bs.length c) (hb : SlV w.cell? (.slice A bs.length c) bs.length (bs.map byteV)) (h0 : 0 < bs.length) (hm : bs0.length + bs.length ≤ 140737488355328)
    (h : ∀ A' c' w' L, Sat G w' (L ++ l) → (∀ G' W, Sat G' W (L ++ l) → SlB W.cell? (.slice A' (bs0 ++ bs).length c') (bs0 ++ bs) ∧ SlB W.cell? (.slice B bs0.length cp) bs0) → wpList Tryz.prog ops Q rest (a.put o.dst (.slice A' (bs0 ++ bs).length c')) w') : wpList Tryz.prog ops Q (o :: rest) a w := by
  obtain ⟨A', c', e, q1, q2, hel⟩ := hb
  cases e
  have hmx : bs0.length + bs.length ≤ maxLen := Nat.le_trans hm (by decide)
  obtain ⟨ad, rfl⟩ : ∃ ad, A = some ad := by
    obtain ⟨a', e, _⟩ := hel 0 (byteV bs[0]) (by simp [h0])
    exact ⟨a', e⟩
  have hnews : ∀ j u, (bs.map byteV)[j]? = some u → w.cell? (ad.add j) = some u := fun j u hj => by
    obtain ⟨a', e, h⟩ := hel j u hj
    cases e; exact h
  have h1 : ∀ u ∈ bs.map byteV, u.oneCell' = true := by simp [byteV, Value.oneCell']
  obtain ⟨i, hi, hz, hsz, hby⟩ := info_u8'
  obtain ⟨hl, ⟨e, e0, S1⟩ | ⟨g, cap, cur, e, p1, p2, p3, p4, S1⟩⟩ := own_iff.1 S
  · injection e with e1 e2 e3
    subst e1; subst e3
    have eb : bs0 = [] := List.eq_nil_of_length_eq_zero e0
    subst eb
    refine st_app S hgd s x ho hs hx ⟨_, _, rfl, q1, q2, hel⟩ (fun h => by cases h) (by simpa using hm) (fun v' w' S' => ?_)
    simp only [List.map_nil, List.nil_append, List.length_nil, Nat.zero_add] at S'
    obtain ⟨A2, c2, rfl, -, -, -⟩ := S'.ownForm
    exact h A2 c2 w' [_] S' (fun _ W SW => ⟨own_slb SW, SlB.nil _⟩)
  · injection e with e1 e2 e3
    subst e1; subst e3
    simp only [Nat.mul_one] at p3 p4
    by_cases hroom : bs0.length + bs.length ≤ cp
    · have hr := fun ty => run_append_room (P := Tryz.prog) w 35 ty 5 i Tryz.underlying35 hi g bs0.length cp cur S1.blk_at ad bs.length c (bs.map byteV) (by rw [hsz]; simp) hnews h1 hroom (by rw [hsz, p3]; simp; omega)
      refine Go.Lib.wpList_append_run w hgd s x _ _ ho _ _ hs hx _ _ (hr _) ?_
      have S2 := S1.setRow (cur.toList.take (bs0.length * i.size) ++ bs.map byteV ++ cur.toList.drop (bs0.length * i.size + (bs.map byteV).length)).toArray
      have S3 : Sat G _ (ownS 5 1 (.slice (some ⟨g, 0, none⟩) (bs0 ++ bs).length cp) (bs0 ++ bs).length ((bs0 ++ bs).map byteV) :: l) := own_iff.2 ⟨by simp, .inr ⟨g, cp, _, rfl, by rw [List.length_append]; exact hroom, p2, by rw [hsz]; simp [p3]; omega, by
        rw [hsz, Nat.mul_one, Nat.mul_one, p4]
        simp only [List.length_map]
        rw [List.take_left' (by simp), List.map_append], S2⟩⟩
      rw [← List.length_append]
      refine h _ _ _ [_] S3 (fun _ W SW => ?_)
      have hb1 := own_slb SW
      refine ⟨hb1, ?_⟩
      have := hb1.to bs0.length (by simp) cp (by omega) (Nat.le_refl _)
      rwa [List.take_left' rfl] at this
    · have hr := fun ty => run_append_grow (P := Tryz.prog) w 35 ty 5 i (.int .u8 0) Tryz.underlying35 hi hz ⟨g, 0, none⟩ bs0.length cp (bs0.map byteV) (by rw [hsz]; simp) (fun j v hj => by
          have e : (⟨g, 0, none⟩ : Addr).add j = ⟨g, j, none⟩ := by unfold Addr.add; split <;> simp_all
          rw [e, S1.cell j, ← Array.getElem?_toList]
          rw [← p4, List.getElem?_take] at hj
          split at hj
          · exact hj
          · cases hj) ad bs.length c (bs.map byteV) (by rw [hsz]; simp) hnews (by omega) (by omega) (by rw [hby]; exact growslice_fits (by omega) (by omega))
      refine Go.Lib.wpList_append_run w hgd s x _ _ ho _ _ hs hx _ _ (hr _) ?_
      have hc1 := grownCap_ge w (bs0.length + bs.length) cp 5
      have hc2 := grownCap_le_maxLen w (bs0.length + bs.length) cp 5 hmx
      have S2 := S.drew.newBlk ((bs0.map byteV).toArray ++ (bs.map byteV).toArray ++ Builtin.zeroCells (Value.int .u8 0).cells (grownCap w (bs0.length + bs.length) cp 5 - (bs0.length + bs.length))) 5
      have S3 : Sat G _ (ownS 5 1 (.slice (some ⟨w.drew.heap.size, 0, none⟩) (bs0 ++ bs).length (grownCap w (bs0.length + bs.length) cp 5)) (bs0 ++ bs).length ((bs0 ++ bs).map byteV) :: _) := own_iff.2 ⟨by simp, .inr ⟨_, _, _, rfl, by rw [List.length_append]; exact hc1, hc2, by simp [Builtin.zeroCells, Value.cells]; omega, by simp; rw [← List.append_assoc, List.take_left' (by simp)], S2⟩⟩
      rw [← List.length_append] at S3 ⊢
      exact h _ _ _ [_, _] S3 (fun _ W SW => ⟨own_slb SW, own_slb SW.drop⟩)
end Go.Proofs.YtcecfhfbcdbofaaGreatDoor

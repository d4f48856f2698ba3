/- A range over a function, over assertions: what an iterator owes, what a loop over it owes. -/
import Derived.Test.YtecnddhfjjnbkaaDoorPerm
import Derived.RangeFuncNested
import Derived.RangeFuncBound
import Derived.RangeFuncCalls
import Derived.RangeFuncLeaves
set_option linter.unusedSimpArgs false
set_option linter.unusedVariables false
namespace Go.Proofs.YtecnddhfjjnbkaaDoor
open Go.RowKit

section
variable {P : Program} {G : Gnd} {w : World} {l : List Asrt}
theorem Sat.perm {l l' : List Asrt} (H : Sat G w l) (h : l.Perm l') : Sat G w l' := H.map fun _ => sepAll_perm h
theorem Sat.putObj {b : Nat} {o : Obj} (H : Sat G w (obj b o :: l)) (o' : Obj) : Sat G (w.putObj b o') (obj b o' :: l) :=
  Sat.turn H rfl rfl rfl (by simp) (fun k _ hk => World.putObj_heap_other hk) (World.putObj_heap_same (Array.getElem?_eq_some_iff.1 H.obj_at).1)
theorem Sat.ne {a b : Nat} {ca cb : Array Value} {ta tb : TypeId} (H : Sat G w (blk a ca ta :: blk b cb tb :: l)) : a ≠ b := by
  rintro rfl
  obtain ⟨_, _, _, _, _, h, _, _, h1, h2, ha, _, _, p, h3, h4, _, e3, _, q, _⟩ := H
  have hp : h1 a = some _ := p
  have hq : h3 a = some _ := q
  have h5 := e3 a _ hq
  rcases ha a with h6 | h6
  · rw [hp] at h6; cases h6
  · rw [h5] at h6; cases h6
theorem room_none (k : Nat) : Fence.wide.room k := fun d h => by simp [Fence.wide] at h
theorem RoundIn.any {m m' : Nat} {l : Nat} {f : FuncId} {tmps : Array Value} {assign body : Code} {w : World} {R : Ending → World → Prop}
    (h : RoundIn Fence.wide m P l f tmps assign body w R) : RoundIn Fence.wide m' P l f tmps assign body w R := ⟨h.1, fun c cs _ => h.2 c cs (room_none _)⟩
theorem RoundIn.inR {F : Fence} {m : Nat} {l : Nat} {f : FuncId} {tmps : Array Value} {assign body : Code} {w : World} {R : Ending → World → Prop} (k : Nat) (h : RoundIn F m P l f tmps assign body w R) : RoundIn (F.inRound k) m P l f tmps assign body w R := h
/-- A call of yield as the body of the loop answers it: B says what the body owns when 'pre' have come, Bx when it has said 'no more'; A is whatever the iterator owns. -/
def Yld {α : Type} (P : Program) (l : Nat) (encs : α → Array Value) (G : Gnd) (xs : List α) (B Bx : List α → List Asrt) : Prop :=
  ∀ (pre : List α) (x : α) (W : World) (A : List Asrt) (G1 : Gnd) (m : Nat), (pre ++ [x]) <+: xs → G.le G1 → Sat G1 W (A ++ B pre) →
    YieldAt Fence.wide m P l (encs x) W fun e W' => ∃ G2, G1.le G2 ∧ ((e = .returned (.bool true) ∧ Sat G2 W' (A ++ B (pre ++ [x]))) ∨ (e = .returned (.bool false) ∧ Sat G2 W' (A ++ Bx (pre ++ [x]))))
/-- What an iterator owes: it gives the elements xs in order, as far as it is asked; A: what it owns. -/
def Gives {α : Type} (P : Program) (gf : Nat) (lb : Array Value) (encs : α → Array Value) (xs : List α) (A : List Asrt) : Prop :=
  ∀ (l : Nat) (G : Gnd) (B Bx : List α → List Asrt) (W : World), Yld P l encs G xs B Bx → Sat G W (A ++ B []) →
    Calls P gf (#[.func (.yield l) #[] #[]] ++ lb) W fun e W' => (∃ v, e = .returned v) ∧ ∃ G', G.le G' ∧ (Sat G' W' (A ++ B xs) ∨ ∃ pre, pre <+: xs ∧ Sat G' W' (A ++ Bx pre))
/-- How a round's body is left. -/
def rndPost {α : Type} (G : Gnd) (A : List Asrt) (B : List α → List Asrt) (Bx : Code → List α → List Asrt) (ys : List α) : Exit → Act → World → Prop
  | .normal, _, W => ∃ G2, G.le G2 ∧ Sat G2 W (A ++ B ys)
  | .ret, _, W => ∃ G2, G.le G2 ∧ Sat G2 W (A ++ Bx .ret ys)
  | .exit id, _, W => ∃ G2, G.le G2 ∧ Sat G2 W (A ++ Bx (.exit id) ys)
  | .goto t, _, W => ∃ G2, G.le G2 ∧ Sat G2 W (A ++ Bx (.goto t) ys)
  | .panic _, _, _ => False
  | .outgrown, _, _ => False
theorem perm_in {A B C : List Asrt} : (A ++ (B ++ C)).Perm (C ++ A ++ B) := by
  have h1 : (A ++ (B ++ C)).Perm (A ++ B ++ C) := by rw [List.append_assoc]
  have h2 : (A ++ B ++ C).Perm (C ++ (A ++ B)) := List.perm_append_comm
  have h3 : (C ++ (A ++ B)).Perm (C ++ A ++ B) := by rw [List.append_assoc]
  exact (h1.trans h2).trans h3
theorem Sat.exIn {β : Type} {E : β → List Asrt} {A' : List Asrt} (c : β) (S : Sat G w (A' ++ E c)) : Sat G w (A' ++ [ex fun c => star (E c)]) := by
  have h := S.perm List.perm_append_comm
  have h2 : Sat G w (ex (fun c => star (E c)) :: A') := Sat.ex_iff.2 ⟨c, Sat.star_iff.2 h⟩
  exact h2.perm (List.perm_append_comm (l₁ := [_]) (l₂ := A'))
theorem wp_range {α : Type} {g : Operand} {ps : Array Tmp} {assign body : Code} {Q : Exit → Act → World → Prop} {a : Act}
    {gf : Nat} {lb : Array Value} (hg : a.eval g = .func (.func gf) #[] lb) (eg : ∀ args w, (callFunc gf args).run P w = .ok (.enter gf args) w)
    {encs : α → Array Value} {xs : List α} {A : List Asrt} (hseq : Gives P gf lb encs xs A) (hps : ∀ x, (encs x).size = ps.size)
    (B : List α → List Asrt) (Bx : Code → List α → List Asrt) (S : Sat G w (A ++ B []))
    (hround : ∀ (l : Nat) (pre : List α) (x : α) (W : World) (A' : List Asrt) (G1 : Gnd) (K : Act → World → Prop), (pre ++ [x]) <+: xs → G.le G1 → Sat G1 W (A' ++ B pre) →
      (∀ (C : List Asrt) (a₁ : Act) (W₁ : World), Sat G1 W₁ (A' ++ C) → (∀ A'' W₂, Sat G1 W₂ (A'' ++ C) → body.wpIn (Fence.wide.inRound l) 0 P (rndPost G1 A'' B Bx (pre ++ [x])) a₁ W₂) → K a₁ W₁) →
      assign.wpIn (Fence.wide.inRound l) 0 P (Exit.then K (fun _ _ _ => False))
        { tmps := (ps.zip (encs x)).foldl (fun t (p, v) => t.setIfInBounds p v) a.tmps, defers := [] } W)
    (hdone : ∀ (D : Nat) (W : World) (G1 : Gnd), G.le G1 → Sat G1 W (obj D (.deferred (some [])) :: (A ++ B xs)) → Q .normal { a with defers := { target := .collected D, args := #[] } :: a.defers } W)
    (hstop : ∀ (D : Nat) (c : Code) (pre : List α) (W : World) (G1 : Gnd), pre <+: xs → G.le G1 → Sat G1 W (obj D (.deferred (some [])) :: (A ++ Bx c pre)) → c.wp P Q { a with defers := { target := .collected D, args := #[] } :: a.defers } W) :
    (Code.rangeFunc g ps assign body).wp P Q a w := by
  refine wpIn_wide (n := 0).1 (wpIn_rangeFunc ?_)
  intro fn hfn
  obtain ⟨rec, hrec⟩ : ∃ rec : LoopState → Option Code → Loop, rec = fun st pe => { state := st, pending := pe, fn, tmps := a.tmps, params := ps, assign, body, defers := w.heap.size } := ⟨_, rfl⟩
  have S1 := (S.new (.deferred (some []))).new (.loop (rec .ready none))
  rw [World.size_alloc] at S1
  obtain ⟨W1, hW1⟩ : ∃ W1, (w.alloc (.deferred (some []))).alloc (.loop (rec .ready none)) = W1 := ⟨_, rfl⟩
  rw [hW1] at S1
  obtain ⟨L, hL⟩ : ∃ L, L = w.heap.size + 1 := ⟨_, rfl⟩
  obtain ⟨D, hD⟩ : ∃ D, D = w.heap.size := ⟨_, rfl⟩
  refine ⟨L, [{ target := .collected D, args := #[] }], W1, { target := .fn (.func gf) lb, args := #[.func (.yield L) #[] #[]] }, W1, gf,
    #[.func (.yield L) #[] #[]] ++ lb, W1, ?_, ?_, ?_, ?_, ?_, ?_⟩
  · rw [← hW1, hrec, hL, hD]; exact run_enterLoop_outer _ _ _ _ _
  · simp only [resolve, hg]
    simp [go_sem]
  · intro f' hf'; trivial
  · simp [invoke, go_sem, eg]
  · intro h; simp [Fence.wide] at h
  · rw [← hL, ← hD] at S1
    have S2 : Sat G W1 (A ++ (B [] ++ [obj L (.loop (rec .ready none)), obj D (.deferred (some []))])) := S1.perm (perm_in (A := A) (B := B []) (C := [obj L (.loop (rec .ready none)), obj D (.deferred (some []))])).symm
    refine callsIn_wide.2 ((hseq L G (fun pre => B pre ++ [obj L (.loop (rec .ready none)), obj D (.deferred (some []))])
      (fun pre => [ex fun c => star (Bx c pre ++ [obj L (.loop (rec .done (some c))), obj D (.deferred (some []))])]) W1 ?_ S2).mono ?_)
    · -- one round
      intro pre x W A' G1 m hpre hG1 S3
      have S4 := S3.perm perm_in
      have hl : W.heap[L]? = some (.loop (rec .ready none)) := Sat.obj_at S4
      have hy := run_yield (P := P) (args := encs x) hl (by rw [hrec]; exact hps x)
      rw [hrec] at hy
      refine ⟨fn, _, assign, body, hy, RoundIn.any (m := 0) (roundIn_of_wpIn hfn (wpIn_mono (hround L pre x W _ G1 (fun a₁ W₁ => ∃ C, Sat G1 W₁ ((obj L (.loop (rec .ready none)) :: obj D (.deferred (some [])) :: A') ++ C) ∧ ∀ A'' W₂, Sat G1 W₂ (A'' ++ C) → body.wpIn (Fence.wide.inRound L) 0 P (rndPost G1 A'' B Bx (pre ++ [x])) a₁ W₂) hpre hG1 S4 (fun C a₁ W₁ h1 h2 => ⟨C, h1, h2⟩)) ?_))⟩
      rintro e a₁ W₁ hp
      cases e with
      | normal =>
        obtain ⟨C, S5, hb⟩ := hp
        have hl1 : W₁.heap[L]? = some (.loop (rec .ready none)) := Sat.obj_at S5
        refine ⟨_, run_beginRound hl1 (by rw [hrec]), wpIn_mono (hb (obj L (.loop { rec .ready none with state := .busy }) :: obj D (.deferred (some [])) :: A') _ (Sat.putObj S5 _)) ?_⟩
        have fin : ∀ (jump : Option Code) (G2 : Gnd) (W3 : World) (E : List Asrt), Sat G2 W3 ((obj L (.loop { rec .ready none with state := .busy }) :: obj D (.deferred (some [])) :: A') ++ E) →
            ∃ W4, (Instr.endRound L jump).run P W3 = .ok (.bool jump.isNone) W4 ∧ Sat G2 W4 ((obj L (.loop (rec (if jump.isNone then .ready else .done) jump)) :: obj D (.deferred (some [])) :: A') ++ E) := fun jump G2 W3 E S6 => by
          have hl3 : W3.heap[L]? = some (.loop { rec .ready none with state := .busy }) := Sat.obj_at S6
          have := run_endRound (P := P) jump hl3
          rw [hrec] at this ⊢
          exact ⟨_, this, by rw [hrec] at S6; exact Sat.putObj S6 _⟩
        rintro e a3 W3 hp
        cases e with
        | normal =>
          obtain ⟨G2, hG2, S6⟩ := hp
          obtain ⟨W4, hr, S7⟩ := fin none G2 W3 _ S6
          exact ⟨_, W4, hr, G2, hG2, .inl ⟨rfl, S7.perm (perm_in (A := A') (C := [obj L (.loop (rec .ready none)), obj D (.deferred (some []))])).symm⟩⟩
        | ret =>
          obtain ⟨G2, hG2, S6⟩ := hp
          obtain ⟨W4, hr, S7⟩ := fin (some .ret) G2 W3 _ S6
          refine ⟨_, W4, hr, G2, hG2, .inr ⟨rfl, ?_⟩⟩
          have S8 := S7.perm (perm_in (A := A') (C := [obj L (.loop (rec .done (some .ret))), obj D (.deferred (some []))])).symm
          exact Sat.exIn (E := fun c => Bx c (pre ++ [x]) ++ [obj L (.loop (rec .done (some c))), obj D (.deferred (some []))]) (Code.ret) S8
        | exit id =>
          obtain ⟨G2, hG2, S6⟩ := hp
          obtain ⟨W4, hr, S7⟩ := fin (some (.exit id)) G2 W3 _ S6
          refine ⟨_, W4, hr, G2, hG2, .inr ⟨rfl, ?_⟩⟩
          have S8 := S7.perm (perm_in (A := A') (C := [obj L (.loop (rec .done (some (.exit id)))), obj D (.deferred (some []))])).symm
          exact Sat.exIn (E := fun c => Bx c (pre ++ [x]) ++ [obj L (.loop (rec .done (some c))), obj D (.deferred (some []))]) (Code.exit id) S8
        | goto t =>
          obtain ⟨G2, hG2, S6⟩ := hp
          obtain ⟨W4, hr, S7⟩ := fin (some (.goto t)) G2 W3 _ S6
          refine ⟨_, W4, hr, G2, hG2, .inr ⟨rfl, ?_⟩⟩
          have S8 := S7.perm (perm_in (A := A') (C := [obj L (.loop (rec .done (some (.goto t)))), obj D (.deferred (some []))])).symm
          exact Sat.exIn (E := fun c => Bx c (pre ++ [x]) ++ [obj L (.loop (rec .done (some c))), obj D (.deferred (some []))]) (Code.goto t) S8
        | panic ch => exact hp.elim
        | outgrown => exact hp.elim
      | exit id => exact hp.elim
      | goto t => exact hp.elim
      | ret => exact hp.elim
      | panic ch => exact hp.elim
      | outgrown => exact hp.elim
    · -- behind the iterator
      rintro e W2 ⟨⟨v, rfl⟩, G2, hG2, (S3 | ⟨pre, hpre, S3⟩)⟩
      · have S4 := S3.perm perm_in
        have hl : W2.heap[L]? = some (.loop (rec .ready none)) := Sat.obj_at S4
        refine ⟨none, _, by have := run_endLoop (P := P) hl (by rw [hrec]; simp); rw [hrec] at this; exact this, hdone D _ G2 hG2 ?_⟩
        exact (Sat.putObj S4 _).drop
      · have S4 := S3.perm List.perm_append_comm
        obtain ⟨c, S5⟩ := Sat.ex_iff.1 S4
        have S6 := ((Sat.star_iff.1 S5).perm List.perm_append_comm).perm (perm_in (A := A) (B := Bx c pre) (C := [obj L (.loop (rec .done (some c))), obj D (.deferred (some []))]))
        have hl : W2.heap[L]? = some (.loop (rec .done (some c))) := Sat.obj_at S6
        refine ⟨some c, _, by have := run_endLoop (P := P) hl (by rw [hrec]; simp); rw [hrec] at this; exact this, wpIn_wide.2 (hstop D c pre _ G2 hpre hG2 ?_)⟩
        exact (Sat.putObj S6 _).drop
/-- A function that holds such a loop is entered. -/
theorem calls_marks {f : FuncId} {fn : Func} {c : Code} {args : Array Value} {R : Ending → World → Prop} (hf : P.funcs[f]? = some fn) (hb : fn.body = some c)
    (h : c.wp P (bodyPostM Fence.wide 0 P fn R) { tmps := args ++ Array.replicate (fn.ntmps - args.size) undef, defers := [] } w) : Calls P f args w R :=
  callsIn_wide (n := 0).1 (callsIn_of_wp_marks hf hb trivial (wpIn_wide.2 h))
/-- It returns. -/
theorem marks_end {fn : Func} {R : Ending → World → Prop} {D : Nat} {a : Act} {l : List Asrt} (S : Sat G w (obj D (.deferred (some [])) :: l)) (hd : a.defers = [{ target := .collected D, args := #[] }])
    (h : ∀ W, Sat G W l → ∃ v, (results fn a.tmps).run P W = .ok v W ∧ R (.returned v) W) : LeavesInM Fence.wide 0 P fn a.tmps R a.defers .returning w := by
  rw [hd]
  refine ⟨by simp, .inl ⟨D, _, rfl, run_takeDeferred S.obj_at, ?_⟩⟩
  exact h _ (Sat.putObj S (.deferred none)).drop
theorem marks_none {fn : Func} {R : Ending → World → Prop} {a : Act} (hd : a.defers = []) (h : ∃ v, (results fn a.tmps).run P w = .ok v w ∧ R (.returned v) w) : LeavesInM Fence.wide 0 P fn a.tmps R a.defers .returning w := by
  rw [hd]
  exact h
end
end Go.Proofs.YtecnddhfjjnbkaaDoor

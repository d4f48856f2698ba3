/- dyn's table: what it holds; New, Len, Size, Limit. -/
import Derived.Test.YtkjkekhhhbopcaaPerm
import Derived.Test.YtkjkekhhhbopcaaMk
import Derived.Test.YtkjkekhhhbopcaaApp2
import Derived.Deep.QuietTactic
import Derived.BigQuiet
import Derived.IntWalk
set_option linter.unusedSimpArgs false
set_option linter.unusedVariables false
namespace Go.Proofs.Ytkjkekhhhbopcaa
open Go.RowKit

/-- A field: its name and its value. -/
abbrev Fd := List UInt8 × List UInt8
def fenc (f : Fd) : List Value := [.string (bstr f.1), .string (bstr f.2)]
theorem fd_len (f : Fd) : (fenc f).length = 2 := rfl
def fsz1 (f : Fd) : Nat := f.1.length + f.2.length + 32
def fsz (F : List Fd) : Nat := (F.map fsz1).sum
theorem fsz_nil : fsz [] = 0 := rfl
theorem fsz_cons (f : Fd) (F : List Fd) : fsz (f :: F) = fsz1 f + fsz F := by simp [fsz]
theorem fsz_append (F H : List Fd) : fsz (F ++ H) = fsz F + fsz H := by simp [fsz]
/-- A table: the fields Z that went (they are empty) and F, the oldest first. -/
def tbA (p : Nat) (Z F : List Fd) (lim : Int) : Asrt :=
  ex fun v : Value => star [blk p #[v, .int .i64 Z.length, .int .i64 (fsz F), .int .i64 lim] 60, ownS 23 2 v (Z ++ F).length (encs fenc (Z ++ F))]
structure TWf (Z F : List Fd) (lim : Int) : Prop where
  l0 : 0 ≤ lim
  l1 : lim ≤ 65536
  sz : (fsz F : Int) ≤ lim
  z : Z.length ≤ F.length
theorem TWf.len {Z F : List Fd} {lim : Int} (h : TWf Z F lim) : 32 * F.length ≤ 65536 := by
  have h1 : ∀ F : List Fd, 32 * F.length ≤ fsz F := by
    intro F
    induction F with
    | nil => simp [fsz]
    | cons f F ih => rw [fsz_cons]; simp only [List.length_cons, fsz1]; omega
  have := h1 F
  have := h.sz
  have := h.l1
  omega
section
variable {G : Gnd} {w : World} {l : List Asrt} {p : Nat} {Z F : List Fd} {lim : Int}
theorem tb_iff : Sat G w (tbA p Z F lim :: l) ↔ ∃ v, Sat G w (blk p #[v, .int .i64 Z.length, .int .i64 (fsz F), .int .i64 lim] 60 :: ownS 23 2 v (Z ++ F).length (encs fenc (Z ++ F)) :: l) := by
  unfold tbA
  rw [Sat.ex_iff]
  simp only [Sat.star_iff, List.cons_append, List.nil_append]
def lRight (n : Int) : Bool := decide (0 ≤ n ∧ n ≤ 65536)
theorem dyn_right (n : Int) (h : lRight n = true) (w : World) : Calls Try.prog 24 #[.int .i64 n] w fun e w' => e = .returned (.bool true) ∧ w = w' := by
  refine calls_any fun K hK => ?_
  obtain ⟨a1, a2⟩ := of_decide_eq_true h
  clear h
  have z1 : decide (n ≥ 0) = true := decide_eq_true (by omega)
  have z2 : decide (n ≤ 65536) = true := decide_eq_true (by omega)
  go_enter Try.func24, Try.ntmps24
  go_wp2_with fail
  exact hK.out _ _ ⟨rfl, rfl⟩
theorem dyn_right_not (n : Int) (h : lRight n = false) (w : World) : Calls Try.prog 24 #[.int .i64 n] w fun e w' => e = .returned (.bool false) ∧ w = w' := by
  refine calls_any fun K hK => ?_
  have h1 : ¬ (0 ≤ n ∧ n ≤ 65536) := of_decide_eq_false h
  clear h
  by_cases h2 : 0 ≤ n
  · have z1 : decide (n ≥ 0) = true := decide_eq_true (by omega)
    have z2 : decide (n ≤ 65536) = false := decide_eq_false (by omega)
    clear h1
    go_enter Try.func24, Try.ntmps24
    go_wp2_with fail
    exact hK.out _ _ ⟨rfl, rfl⟩
  · have z1 : decide (n ≥ 0) = false := decide_eq_false (by omega)
    clear h1
    go_enter Try.func24, Try.ntmps24
    go_wp2_with fail
    exact hK.out _ _ ⟨rfl, rfl⟩
theorem tb_new_not (n : Int) (h : lRight n = false) (w : World) : Calls Try.prog 8 #[.int .i64 n] w fun e w' => e = .returned (.tuple #[.pointer none, .int .i64 11]) ∧ w = w' := by
  refine calls_any fun K hK => ?_
  have hr := dyn_right_not n h
  clear h
  go_enter Try.func8, Try.ntmps8
  go_wp2_with fail
  (with_reducible refine (hr _).mono ?_)
  clear hr
  rintro e w1 ⟨rfl, rfl⟩
  go_wp2_with fail
  exact hK.out _ _ ⟨rfl, rfl⟩
theorem tb_new (H : Sat G w l) (n : Int) (h : lRight n = true) : Calls Try.prog 8 #[.int .i64 n] w fun e w' => ∃ p, e = .returned (.tuple #[.pointer (some ⟨p, 0, none⟩), .int .i64 0]) ∧ Sat G w' (tbA p [] [] n :: l) := by
  refine calls_any fun K hK => ?_
  obtain ⟨a1, a2⟩ := of_decide_eq_true h
  have S := (H.ownNil 23 2).newBlk #[.slice none 0 0, .int .i64 0, .int .i64 0, .int .i64 n] 60
  have HS : Hid (Sat G _ (tbA _ [] [] n :: l)) := Lib.hid (tb_iff.2 ⟨_, S⟩)
  clear S H
  have z1 : decide (n ≥ 0) = true := decide_eq_true (by omega)
  have z2 : decide (n ≤ 65536) = true := decide_eq_true (by omega)
  go_enter Try.func8, Try.ntmps8
  go_wp2_with fail
  (with_reducible refine (dyn_right n h _).mono ?_)
  rintro e w1 ⟨rfl, rfl⟩
  go_wp2_with fail
  exact hK.out _ _ ⟨_, rfl, HS.out⟩
theorem tb_size (H : Sat G w (tbA p Z F lim :: l)) : Calls Try.prog 11 #[.pointer (some ⟨p, 0, none⟩)] w fun e w' => e = .returned (.int .i64 (fsz F)) ∧ w = w' := by
  refine calls_any fun K hK => ?_
  obtain ⟨v, S⟩ := tb_iff.1 H
  have c2 := S.cell 2
  clear S H
  go_enter Try.func11, Try.ntmps11
  go_wp2_with fail
  exact hK.out _ _ ⟨rfl, rfl⟩
theorem tb_limit (H : Sat G w (tbA p Z F lim :: l)) : Calls Try.prog 12 #[.pointer (some ⟨p, 0, none⟩)] w fun e w' => e = .returned (.int .i64 lim) ∧ w = w' := by
  refine calls_any fun K hK => ?_
  obtain ⟨v, S⟩ := tb_iff.1 H
  have c3 := S.cell 3
  clear S H
  go_enter Try.func12, Try.ntmps12
  go_wp2_with fail
  exact hK.out _ _ ⟨rfl, rfl⟩
theorem Sat.drewQ {G : Gnd} {w : World} {l : List Asrt} (H : Sat G w l) (n : Nat) : Sat G (w.drewN n) l := H.below ⟨rfl, rfl, rfl, Nat.le_refl _, fun _ _ => rfl⟩
theorem tb_len (H : Sat G w (tbA p Z F lim :: l)) (hz : Z.length ≤ 100000) (hf : F.length ≤ 100000) : Calls Try.prog 10 #[.pointer (some ⟨p, 0, none⟩)] w fun e w' => e = .returned (.int .i64 F.length) ∧ Sat G w' (tbA p Z F lim :: l) := by
  refine calls_any fun K hK => ?_
  obtain ⟨v, S⟩ := tb_iff.1 H
  obtain ⟨A, c, rfl, -, -, -⟩ := S.swap.ownSlice
  have c0 := S.cell 0
  have c1 := S.cell 1
  have HH := Lib.hid H
  clear S H
  generalize hn : (Z ++ F).length = n at *
  have hn2 : n = Z.length + F.length := by rw [← hn]; simp
  have hwr : IntKind.i64.wrap ((n : Int) - (Z.length : Int)) = ((F.length : Nat) : Int) := by rw [IntWalk.i64_in _ (by omega)]; omega
  clear hn hn2
  go_enter Try.func10, Try.ntmps10
  go_upto_region 1 with fail
  go_quiet (fail)
  go_wp2_with fail
  exact hK.out _ _ ⟨rfl, HH.out.drewQ _⟩
end
end Go.Proofs.Ytkjkekhhhbopcaa

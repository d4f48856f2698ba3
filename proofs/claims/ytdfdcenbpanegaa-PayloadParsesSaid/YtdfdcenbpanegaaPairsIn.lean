/- The pairs of a payload. -/
import Derived.Test.YtdfdcenbpanegaaItm
import Derived.Test.YtdfdcenbpanegaaElt
set_option linter.unusedSimpArgs false
set_option linter.unusedVariables false
namespace Go.Proofs.Ytdfdcenbpanegaa
open Go.RowKit

def prc (p : Int × Int) : List Value := [.int .i64 p.1, .int .i64 p.2]
theorem prc_len (p : Int × Int) : (prc p).length = 2 := rfl
theorem info_pr : (Try.prog.info? 50).map (fun i => (i.zero, i.size, i.bytes)) = some (some (.agg #[.int .i64 0, .int .i64 0]), 2, 16) := by kernel_rfl
/-- Pairs that nobody turns. -/
def RPr (R : Hp) (v : Value) (ps : List (Int × Int)) : Prop :=
  ∃ A c, v = .slice A ps.length c ∧ ps.length ≤ c ∧ c ≤ maxLen ∧ ∀ (i : Nat) (p : Int × Int), ps[i]? = some p → ∃ g, A = some ⟨g, 0, none⟩ ∧ cellR R ⟨g, i * 2, none⟩ = some (.int .i64 p.1) ∧ cellR R ⟨g, i * 2 + 1, none⟩ = some (.int .i64 p.2)
theorem RPr.nil (R : Hp) : RPr R (.slice none 0 0) [] := ⟨none, 0, rfl, Nat.le_refl _, Nat.zero_le _, fun i p h => by simp at h⟩
theorem RPr.mono {G G' : Gnd} {v : Value} {ps : List (Int × Int)} (h : RPr G.ro v ps) (hG : G.le G') : RPr G'.ro v ps := by
  obtain ⟨A, c, e, h1, h2, h3⟩ := h
  exact ⟨A, c, e, h1, h2, fun i p hp => by obtain ⟨g, ha, x, y⟩ := h3 i p hp; exact ⟨g, ha, cellR_mono hG.ro x, cellR_mono hG.ro y⟩⟩
theorem rpr_of {G : Gnd} {w : World} {l : List Asrt} {v : Value} {ps : List (Int × Int)} (S : Sat G w (ownS 50 2 v ps.length (encs prc ps) :: l)) : ∃ G', G.le G' ∧ Sat G' w l ∧ RPr G'.ro v ps := by
  obtain ⟨A, c, rfl, h1, h2, -⟩ := S.ownSlice
  obtain ⟨G', hG, S', A', c', e, hm, hl, hr⟩ := S.ownFreeze
  cases e
  refine ⟨G', hG, S', A, c, rfl, h1, h2, fun i p hp => ?_⟩
  have hg := fun j (hj : j < 2) => encs_get prc_len ps i p hp j hj
  obtain ⟨g, rfl, x⟩ := hr (i * 2 + 0) _ ((hg 0 (by omega)).trans rfl)
  obtain ⟨g', e, y⟩ := hr (i * 2 + 1) _ ((hg 1 (by omega)).trans rfl)
  cases e
  exact ⟨g, rfl, x, y⟩
/-- The pairs of bytes: two of a name, four of a value. -/
def pairsIn : List UInt8 → List (Int × Int)
  | a :: b :: c :: d :: e :: f :: r => ((numOf [a, b] : Int), (numOf [c, d, e, f] : Int)) :: pairsIn r
  | _ => []
theorem pairsIn_len (bs : List UInt8) : (pairsIn bs).length ≤ bs.length := by
  fun_induction pairsIn bs with
  | case1 a b c d e f r ih => simp only [List.length_cons] at ih ⊢; omega
  | case2 => simp
theorem pairsIn_step {bs : List UInt8} (h : 6 ≤ bs.length) : pairsIn bs = ((numOf (bs.take 2) : Int), (numOf ((bs.drop 2).take 4) : Int)) :: pairsIn ((bs.drop 2).drop 4) := by
  match bs, h with
  | a :: b :: c :: d :: e :: f :: r, _ => rfl
/-- How much a reader has left, as memory tells. -/
def lenAt (r : Nat) (w : World) : Nat := match w.cell? ⟨r, 0, none⟩ with
  | some (.slice _ n _) => n
  | _ => 0
theorem RdF.lenAt {G : Gnd} {w : World} {l : List Asrt} {r : Nat} {bs : List UInt8} (H : RdF G w r bs l) : Go.Proofs.Ytdfdcenbpanegaa.lenAt r w = bs.length := by
  obtain ⟨A, c, -, H⟩ := H
  have h : w.cell? ⟨r, 0, none⟩ = some (.slice A bs.length c) := H.cell 0
  unfold Go.Proofs.Ytdfdcenbpanegaa.lenAt
  rw [h]
theorem pl_num2 {G : Gnd} {w : World} {l : List Asrt} {r : Nat} {bs : List UInt8} (H : RdF G w r bs l) (hk : 2 ≤ bs.length) :
    Calls Try.prog 33 #[.pointer (some ⟨r, 0, none⟩), .int .i64 2] w fun e w' => e = .returned (.int .i64 (numOf (bs.take 2))) ∧ RdF G w' r (bs.drop 2) l := pl_number H 2 hk (by decide)
theorem pl_num4 {G : Gnd} {w : World} {l : List Asrt} {r : Nat} {bs : List UInt8} (H : RdF G w r bs l) (hk : 4 ≤ bs.length) :
    Calls Try.prog 33 #[.pointer (some ⟨r, 0, none⟩), .int .i64 4] w fun e w' => e = .returned (.int .i64 (numOf (bs.take 4))) ∧ RdF G w' r (bs.drop 4) l := pl_number H 4 hk (by decide)
theorem no_of2 {f : Nat → Bool} {i j : Nat} (h : f i = true → f j = true) (hj : f j = false) : f i = false := by
  cases hi : f i with
  | false => rfl
  | true => rw [h hi] at hj; cases hj
def HQ (f : Nat → Bool) : Prop := (f 11 = true → f 10 = true) ∧ (f 11 = true → f 4 = true) ∧ (f 14 = true → f 11 = true) ∧ (f 8 = true → f 6 = true)
end Go.Proofs.Ytdfdcenbpanegaa

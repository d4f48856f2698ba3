/- The walk over payload.Item.Equal. -/
import Derived.Test.YtdfdcenbpanegaaEqP
set_option linter.unusedSimpArgs false
set_option linter.unusedVariables false
namespace Go.Proofs.Ytdfdcenbpanegaa
open Go.RowKit

def sameN (x y : ItS) : Bool := decide (x.k = y.k ∧ x.s = y.s ∧ x.fl = y.fl ∧ x.code = y.code ∧ x.last = y.last ∧ x.inc = y.inc ∧ x.dep = y.dep ∧ x.wgt = y.wgt)
def sameF (x y : ItS) : Bool := decide (x.e = y.e ∧ x.l = y.l ∧ x.a = y.a ∧ x.wd = y.wd ∧ x.ex = y.ex)
def itEq (x y : ItS) (t t' : List UInt8) (ps ps' : List (Int × Int)) : Bool := sameN x y && sameF x y && (t == t') && decide (ps = ps')
section
variable {G : Gnd} {w : World} {l : List Asrt}
set_option maxHeartbeats 8000000 in
set_option maxRecDepth 100000 in
theorem pl_equal (H : Sat G w l) (x y : ItS) (v u v' u' : Value) (t t' : List UInt8) (ps ps' : List (Int × Int)) (ht : SlB (cellR G.ro) v t) (hp : RPr G.ro u ps) (ht' : SlB (cellR G.ro) v' t') (hp' : RPr G.ro u' ps') :
    Calls Try.prog 14 #[.agg (x.cs v u), .agg (y.cs v' u')] w fun e w' => e = .returned (.bool (itEq x y t t' ps ps')) ∧ Sat G w' l := by
  refine calls_any fun K hK => ?_
  obtain ⟨VA, vc, rfl, -, -, -⟩ := ht.form
  obtain ⟨VB, vd, rfl, -, -, -⟩ := ht'.form
  obtain ⟨UA, uc, rfl, -⟩ := id hp
  obtain ⟨UB, ud, rfl, -⟩ := id hp'
  have S1 := (H.alloc (.cells (x.cs (.slice VA t.length vc) (.slice UA ps.length uc)) 28)).alloc (.cells (y.cs (.slice VB t'.length vd) (.slice UB ps'.length ud)) 28)
  have HS1 := Lib.hid S1
  have hbe := bytes_equal _ _ t t' (ht.sat S1).1 (ht'.sat S1).1
  have hpe := pr_equal S1 _ _ ps ps' hp hp'
  have HT := Lib.hid ht
  clear H ht hp ht' hp' S1
  unfold itEq at hK
  have h8 := fun w => eq_arr8 x.k x.s x.fl x.code x.last x.inc x.dep x.wgt y.k y.s y.fl y.code y.last y.inc y.dep y.wgt w
  have h5 := fun w => eq_arr5 x.e x.l x.a x.wd x.ex y.e y.l y.a y.wd y.ex w
  change ∀ w, _ = Result.ok (sameN x y) w at h8
  change ∀ w, _ = Result.ok (sameF x y) w at h5
  unfold ItS.cs at hbe hpe ⊢
  generalize sameN x y = b8 at *
  generalize sameF x y = b5 at *
  generalize ht : (t == t') = bt at *
  generalize hpq : decide (ps = ps') = bp at *
  cases b8 with
  | false =>
    simp only [Bool.false_and] at hK
    clear hbe hpe
    go_enter Try.func14, Try.ntmps14
    go_wp2_with fail
    exact hK.out _ _ ⟨rfl, HS1.out⟩
  | true =>
    cases b5 with
    | false =>
      simp only [Bool.true_and, Bool.false_and] at hK
      clear hbe hpe
      go_enter Try.func14, Try.ntmps14
      go_wp2_with fail
      exact hK.out _ _ ⟨rfl, HS1.out⟩
    | true =>
      simp only [Bool.true_and] at hK
      cases bt with
      | false =>
        simp only [Bool.false_and] at hK
        clear hpe
        go_enter Try.func14, Try.ntmps14
        go_wp2_with fail
        (with_reducible refine hbe.mono ?_)
        clear hbe
        rintro e w1 ⟨rfl, rfl⟩
        go_wp2_with fail
        exact hK.out _ _ ⟨rfl, HS1.out⟩
      | true =>
        simp only [Bool.true_and] at hK
        go_enter Try.func14, Try.ntmps14
        go_wp2_with fail
        (with_reducible refine hbe.mono ?_)
        clear hbe
        rintro e w1 ⟨rfl, rfl⟩
        go_wp2_with fail
        (with_reducible refine hpe.mono ?_)
        clear hpe
        rintro e w2 ⟨rfl, S2⟩
        go_wp2_with fail
        exact hK.out _ _ ⟨rfl, S2⟩
theorem pl_known (k : Int) (w : World) : Calls Try.prog 13 #[.int .i64 k] w fun e w' => e = .returned (.bool (decide (0 ≤ k ∧ k ≤ 9))) ∧ w = w' := by
  refine calls_any fun K hK => ?_
  by_cases h0 : 0 ≤ k
  · by_cases h9 : k ≤ 9
    · rw [decide_eq_true ⟨h0, h9⟩] at hK
      go_enter Try.func13, Try.ntmps13
      go_wp2_with fail
      exact hK.out _ _ ⟨rfl, rfl⟩
    · rw [decide_eq_false (fun h => h9 h.2)] at hK
      go_enter Try.func13, Try.ntmps13
      go_wp2_with fail
      exact hK.out _ _ ⟨rfl, rfl⟩
  · rw [decide_eq_false (fun h => h0 h.1)] at hK
    go_enter Try.func13, Try.ntmps13
    go_wp2_with fail
    exact hK.out _ _ ⟨rfl, rfl⟩
end
end Go.Proofs.Ytdfdcenbpanegaa

/- The walk over cell.Open. -/
import Derived.Test.YthenpoammpkjeaaDel
set_option linter.unusedSimpArgs false
set_option linter.unusedVariables false
namespace Go.Proofs.Ythenpoammpkjeaa
open Go.RowKit

/-- These are the frames that bytes begin with. -/
def FrL (R : Hp) (bs : List UInt8) (F : List Fr4) : Prop :=
  ∀ (i : Nat) (f : Fr4), F[i]? = some f → f.1 = hdT (eat bs i) ∧ f.2.1 = hdF (eat bs i) ∧ f.2.2.1 = hdS (eat bs i) ∧ SlB (cellR R) f.2.2.2 (((eat bs i).drop 9).take (hdN (eat bs i)))
theorem FrL.mono {G G' : Gnd} {bs : List UInt8} {F : List Fr4} (h : FrL G.ro bs F) (hG : G.le G') : FrL G'.ro bs F := fun i f hf => by
  obtain ⟨h1, h2, h3, h4⟩ := h i f hf
  exact ⟨h1, h2, h3, h4.mono hG⟩
theorem FrL.sl {R : Hp} {bs : List UInt8} {F : List Fr4} (h : FrL R bs F) : SlF F := fun i f hf => by
  obtain ⟨-, -, -, h4⟩ := h i f hf
  obtain ⟨A, c, e, -⟩ := h4.form
  exact ⟨A, _, c, e⟩
theorem frs_list {R : Hp} {K : Nat} {xs : List Value} {bs : List UInt8} (hl : xs.length = K * 4) (h : ∀ i, i < K → FrAt R (fun j => xs[i * 4 + j]?) (eat bs i)) :
    ∃ F : List Fr4, F.length = K ∧ xs = encs fc F ∧ FrL R bs F := by
  obtain ⟨F, hF, hq⟩ := list_of_each (Q := fun i (f : Fr4) => (∀ j, j < 4 → xs[i * 4 + j]? = (fc f)[j]?) ∧ f.1 = hdT (eat bs i) ∧ f.2.1 = hdF (eat bs i) ∧ f.2.2.1 = hdS (eat bs i) ∧ SlB (cellR R) f.2.2.2 (((eat bs i).drop 9).take (hdN (eat bs i)))) K (fun i hi => by
    obtain ⟨u, h0, h1, h2, h3, h4⟩ := h i hi
    refine ⟨((hdT (eat bs i) : Int), (hdF (eat bs i) : Int), (hdS (eat bs i) : Int), u), fun j hj => ?_, rfl, rfl, rfl, h4⟩
    rcases j with _ | _ | _ | _ | j
    · exact h0
    · exact h1
    · exact h2
    · exact h3
    · omega)
  refine ⟨F, hF, ?_, fun i f hf => (hq i f hf).2⟩
  apply List.ext_getElem?
  intro m
  by_cases hm : m < K * 4
  · have hi : m / 4 < F.length := by omega
    have h1 := (hq (m / 4) _ (List.getElem?_eq_getElem hi)).1 (m % 4) (by omega)
    have h2 := encs_get fc_len F (m / 4) _ (List.getElem?_eq_getElem hi) (m % 4) (by omega)
    rw [show m / 4 * 4 + m % 4 = m by omega] at h1 h2
    rw [h1, h2]
  · rw [List.getElem?_eq_none (by omega), List.getElem?_eq_none (by rw [encs_length fc_len]; omega)]
/-- A slice of frames that nobody turns. -/
def RFs (R : Hp) (v : Value) (F : List Fr4) : Prop :=
  ∃ A c, v = .slice A F.length c ∧ F.length ≤ c ∧ c ≤ maxLen ∧ ∀ (i : Nat) (f : Fr4), F[i]? = some f → ∃ g, A = some ⟨g, 0, none⟩ ∧ ∀ j, j < 4 → cellR R ⟨g, i * 4 + j, none⟩ = (fc f)[j]?
theorem rfs_of {G : Gnd} {w : World} {l : List Asrt} {v : Value} {F : List Fr4} (S : Sat G w (ownS 40 4 v F.length (encs fc F) :: l)) : ∃ G', G.le G' ∧ Sat G' w l ∧ RFs G'.ro v F := by
  obtain ⟨A, c, rfl, h1, h2, -⟩ := S.ownSlice
  obtain ⟨G', hG, S', A', c', e, hm, hl, hr⟩ := S.ownFreeze
  cases e
  refine ⟨G', hG, S', A, c, rfl, h1, h2, fun i f hf => ?_⟩
  have hg := fun j (hj : j < 4) => encs_get fc_len F i f hf j hj
  obtain ⟨g, rfl, -⟩ := hr (i * 4 + 0) _ ((hg 0 (by omega)).trans rfl)
  refine ⟨g, rfl, fun j hj => ?_⟩
  obtain ⟨u, hu⟩ : ∃ u, (fc f)[j]? = some u := ⟨_, List.getElem?_eq_getElem (by rw [fc_len]; exact hj)⟩
  obtain ⟨g', e, hc⟩ := hr (i * 4 + j) u ((hg j hj).trans hu)
  cases e
  rw [hc, hu]
def OpenRes (R : Hp) (bs : List UInt8) (n : Int) (e : Ending) : Prop :=
  (clRight n = false ∧ e = .returned (.tuple #[.slice none 0 0, .int .i64 11])) ∨
  (clRight n = true ∧ ∃ K, Eats bs (n + 18) K ∧
    ((headE (eat bs K) (n + 18) = 16 ∧ eat bs K = [] ∧ (bs.length : Int) = n + 18 ∧ ∃ F v', F.length = K ∧ FrL R bs F ∧ e = .returned (.tuple #[v', .int .i64 0]) ∧ RFs R v' (F.filter keep)) ∨
     ((headE (eat bs K) (n + 18) = 106 ∨ headE (eat bs K) (n + 18) = 16 ∧ (eat bs K ≠ [] ∨ (bs.length : Int) ≠ n + 18)) ∧ e = .returned (.tuple #[.slice none 0 0, .int .i64 10]))))
set_option maxHeartbeats 1000000 in
theorem cell_open {G : Gnd} {w : World} {l : List Asrt} (H : Sat G w l) (v : Value) (bs : List UInt8) (n : Int) (hv : SlB (cellR G.ro) v bs) (hn : bs.length ≤ 100000000) :
    Calls Try.prog 17 #[v, .int .i64 n] w fun e w' => ∃ G', G.le G' ∧ OpenRes G'.ro bs n e ∧ Sat G' w' l := by
  refine calls_any fun K hK => ?_
  have hr := cell_right n w
  cases h : clRight n with
  | false =>
    rw [h] at hr
    go_enter Try.func17, Try.ntmps17
    go_wp2_with fail
    (with_reducible refine hr.mono ?_)
    rintro e w1 ⟨rfl, rfl⟩
    go_wp2_with fail
    exact hK.out _ _ ⟨G, Gnd.le.rfl', .inl ⟨h, rfl⟩, H⟩
  | true =>
    rw [h] at hr
    obtain ⟨b1, b2⟩ := right_bounds h
    have hlen := fun W => cell_len n W
    rw [show clLen n = n + 18 by unfold clLen; rw [h]; rfl] at hlen
    have hall := frame_all_own H v bs (n + 18) hv (by omega)
    obtain ⟨B, cb, rfl, -, -, -⟩ := hv.form
    clear H hv
    go_enter Try.func17, Try.ntmps17
    go_wp2_with fail
    (with_reducible refine hr.mono ?_)
    clear hr
    rintro e w1 ⟨rfl, rfl⟩
    have hl1 := hlen w
    go_wp2_with fail
    (with_reducible refine hl1.mono ?_)
    clear hl1
    rintro e w1 ⟨rfl, rfl⟩
    go_wp2_with fail
    (with_reducible refine hall.mono ?_)
    clear hall
    rintro e w2 ⟨G2, M, hG2, hE, ⟨h16, v1, v2, xs, rfl, hfr, hrest, S⟩ | ⟨h106, rfl, S⟩⟩
    · have hxl := (own_iff.1 S).1
      obtain ⟨F, hFl, rfl, hFL⟩ := frs_list hxl hfr
      clear hfr hxl
      have hel := eat_len hE
      obtain ⟨R, cr, rfl, -, -, -⟩ := hrest.form
      clear hrest
      by_cases e0 : eat bs M = []
      · have e1 : (eat bs M).length = 0 := by rw [e0]; rfl
        by_cases e2 : (bs.length : Int) = n + 18
        · subst hFl
          have hd := del_frames S hFL.sl (by omega)
          have hl1 := hlen w2
          rw [← e2] at hl1
          have HL := Lib.hid (And.intro h16 (And.intro e0 (And.intro e2 (And.intro hE hFL))))
          rw [e1]
          clear h16 e0 e1 e2 hE hFL hel hlen
          obtain ⟨A1, c1, rfl, -, -, -⟩ := S.ownSlice
          clear S
          go_wp2_with fail
          (with_reducible refine hl1.mono ?_)
          clear hl1
          rintro e w3 ⟨rfl, rfl⟩
          go_wp2_with fail
          (with_reducible refine hd.mono ?_)
          clear hd
          rintro e w4 ⟨v4, rfl, S4⟩
          obtain ⟨G5, hG5, S5, hrf⟩ := rfs_of S4
          have HRF := Lib.hid hrf
          clear hrf S4
          go_wp2_with fail
          obtain ⟨q1, q2, q3, q4, q5⟩ := HL.out
          exact hK.out _ _ ⟨G5, hG2.trans hG5, .inr ⟨h, _, q4, .inl ⟨q1, q2, q3, F, v4, rfl, q5.mono hG5, rfl, HRF.out⟩⟩, S5⟩
        · have hne : (((bs.length : Int)) == n + 18) = false := beq_eq_false_iff_ne.2 e2
          have hl1 := hlen w2
          have HL := Lib.hid (And.intro h16 (And.intro e2 hE))
          rw [e1]
          clear h16 e0 e1 e2 hE hFL hel hlen
          obtain ⟨A1, c1, rfl, -, -, -⟩ := S.ownSlice
          go_wp2_with fail
          (with_reducible refine hl1.mono ?_)
          clear hl1
          rintro e w3 ⟨rfl, rfl⟩
          go_wp2_with fail
          obtain ⟨q1, q2, q3⟩ := HL.out
          exact hK.out _ _ ⟨G2, hG2, .inr ⟨h, M, q3, .inr ⟨.inr ⟨q1, .inr q2⟩, rfl⟩⟩, S.drop⟩
      · have e1 : 0 < (eat bs M).length := List.length_pos_iff.2 e0
        have HL := Lib.hid (And.intro h16 (And.intro e0 hE))
        clear h16 e0 hE hFL hel hlen
        generalize (eat bs M).length = m at *
        obtain ⟨A1, c1, rfl, -, -, -⟩ := S.ownSlice
        go_wp2_with fail
        obtain ⟨q1, q2, q3⟩ := HL.out
        exact hK.out _ _ ⟨G2, hG2, .inr ⟨h, M, q3, .inr ⟨.inr ⟨q1, .inl q2⟩, rfl⟩⟩, S.drop⟩
    · clear hlen
      have HL := Lib.hid (And.intro h106 hE)
      clear h106 hE
      go_wp2_with fail
      exact hK.out _ _ ⟨G2, hG2, .inr ⟨h, M, HL.out.2, .inr ⟨.inl HL.out.1, rfl⟩⟩, S⟩
end Go.Proofs.Ythenpoammpkjeaa

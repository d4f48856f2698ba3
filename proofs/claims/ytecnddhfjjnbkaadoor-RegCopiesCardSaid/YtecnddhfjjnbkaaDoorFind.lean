/- reg: where a stream is (slices.BinarySearchFunc). -/
import Derived.Test.YtecnddhfjjnbkaaDoorOpn
set_option linter.unusedSimpArgs false
set_option linter.unusedVariables false
namespace Go.Proofs.YtecnddhfjjnbkaaDoor
open Go.RowKit

def cmpR (a b : Int) : Int := if a < b then -1 else if b < a then 1 else 0
section
variable {G : Gnd} {w w' : World} {l : List Asrt} {g : Nat} {ten quo last : Int} {F : List Ent} {L : List Int}
theorem cm_nan (a : Int) (w : World) : Calls Tryd.prog 49 #[.int .i64 a] w fun e w' => e = .returned (.bool false) ∧ w = w' := by
  refine calls_any fun K hK => ?_
  have z : (a != a) = false := by simp
  go_enter Tryd.func49, Tryd.ntmps49
  go_wp2_with fail
  exact hK.out _ _ ⟨rfl, rfl⟩
theorem cm_compare (a b : Int) (w : World) : Calls Tryd.prog 44 #[.int .i64 a, .int .i64 b] w fun e w' => e = .returned (.int .i64 (cmpR a b)) ∧ w = w' := by
  refine calls_any fun K hK => ?_
  unfold cmpR at hK
  have h1 := fun W => cm_nan a W
  have h2 := fun W => cm_nan b W
  by_cases a1 : a < b
  · rw [if_pos a1] at hK
    go_enter Tryd.func44, Tryd.ntmps44
    go_wp2_with fail
    (with_reducible refine (h1 _).mono ?_); rintro e w1 ⟨rfl, rfl⟩; go_wp2_with fail; (with_reducible refine (h2 _).mono ?_); rintro e w1 ⟨rfl, rfl⟩; go_wp2_with fail
    exact hK.out _ _ ⟨rfl, rfl⟩
  · by_cases a2 : b < a
    · rw [if_neg a1, if_pos a2] at hK
      go_enter Tryd.func44, Tryd.ntmps44
      go_wp2_with fail
      (with_reducible refine (h1 _).mono ?_); rintro e w1 ⟨rfl, rfl⟩; go_wp2_with fail; (with_reducible refine (h2 _).mono ?_); rintro e w1 ⟨rfl, rfl⟩; go_wp2_with fail
      exact hK.out _ _ ⟨rfl, rfl⟩
    · rw [if_neg a1, if_neg a2] at hK
      go_enter Tryd.func44, Tryd.ntmps44
      go_wp2_with fail
      (with_reducible refine (h1 _).mono ?_); rintro e w1 ⟨rfl, rfl⟩; go_wp2_with fail; (with_reducible refine (h2 _).mono ?_); rintro e w1 ⟨rfl, rfl⟩; go_wp2_with fail
      exact hK.out _ _ ⟨rfl, rfl⟩
theorem fi_cmp (H : Sat G w l) (a n c0 c1 c2 c3 c4 c5 c6 c7 c8 id : Int) : Calls Tryd.prog 43 #[.agg #[.int .i64 a, .int .i64 n, .int .i64 c0, .int .i64 c1, .int .i64 c2, .int .i64 c3, .int .i64 c4, .int .i64 c5, .int .i64 c6, .int .i64 c7, .int .i64 c8], .int .i64 id] w fun e w' => e = .returned (.int .i64 (cmpR a id)) ∧ Sat G w' l := by
  refine calls_any fun K hK => ?_
  have S := H.newBlk #[.int .i64 a, .int .i64 n, .int .i64 c0, .int .i64 c1, .int .i64 c2, .int .i64 c3, .int .i64 c4, .int .i64 c5, .int .i64 c6, .int .i64 c7, .int .i64 c8] 72
  have c0 := S.cell 0
  have hc := fun W => cm_compare a id W
  have HS := Lib.hid S
  clear H S
  go_enter Tryd.func43, Tryd.ntmps43
  go_wp2_with fail
  (with_reducible refine (hc _).mono ?_)
  rintro e w1 ⟨rfl, rfl⟩
  go_wp2_with fail
  exact hK.out _ _ ⟨rfl, HS.out.drop⟩
theorem nine {C : List Int} (h : C.length = 9) : ∃ c0 c1 c2 c3 c4 c5 c6 c7 c8, C = [c0, c1, c2, c3, c4, c5, c6, c7, c8] := by
  match C, h with
  | [c0, c1, c2, c3, c4, c5, c6, c7, c8], _ => exact ⟨c0, c1, c2, c3, c4, c5, c6, c7, c8, rfl⟩
def Rising (F : List Ent) : Prop := F.Pairwise fun x y => x.id < y.id
theorem Rising.lt (h : Rising F) {i j : Nat} {x y : Ent} (hx : F[i]? = some x) (hy : F[j]? = some y) (hij : i < j) : x.id < y.id := by
  obtain ⟨hi, rfl⟩ := List.getElem?_eq_some_iff.1 hx
  obtain ⟨hj, rfl⟩ := List.getElem?_eq_some_iff.1 hy
  exact List.pairwise_iff_getElem.1 h i j hi hj hij
/-- What a search says: the place, or that there is none. -/
def Found (F : List Ent) (id : Int) (i : Nat) (ok : Bool) : Prop := if ok then ∃ x, F[i]? = some x ∧ x.id = id else ∀ x ∈ F, x.id ≠ id
/-- The eleven cells of one. -/
theorem one_cells {cap cur i b} {x : Ent} (La : Lay Ent.enc 11 cap cur F) (S : Sat G w (blk b cur 72 :: l)) (hx : F[i]? = some x) {c0 : Int} {c1 : Int} {c2 : Int} {c3 : Int} {c4 : Int} {c5 : Int} {c6 : Int} {c7 : Int} {c8 : Int} (hC : x.C = [c0, c1, c2, c3, c4, c5, c6, c7, c8]) :
    w.cell? ⟨b, i * 11, none⟩ = some (.int .i64 x.id) ∧ w.cell? ⟨b, i * 11 + 1, none⟩ = some (.int .i64 x.n) ∧ w.cell? ⟨b, i * 11 + 2, none⟩ = some (.int .i64 c0) ∧ w.cell? ⟨b, i * 11 + 3, none⟩ = some (.int .i64 c1) ∧ w.cell? ⟨b, i * 11 + 4, none⟩ = some (.int .i64 c2) ∧ w.cell? ⟨b, i * 11 + 5, none⟩ = some (.int .i64 c3) ∧ w.cell? ⟨b, i * 11 + 6, none⟩ = some (.int .i64 c4) ∧ w.cell? ⟨b, i * 11 + 7, none⟩ = some (.int .i64 c5) ∧ w.cell? ⟨b, i * 11 + 8, none⟩ = some (.int .i64 c6) ∧ w.cell? ⟨b, i * 11 + 9, none⟩ = some (.int .i64 c7) ∧ w.cell? ⟨b, i * 11 + 10, none⟩ = some (.int .i64 c8) := by
  have h := fun j (hj : j < 11) => (S.cell (i * 11 + j)).trans (La.get hx hj)
  simp only [Ent.enc, hC, ints, List.map_cons, List.map_nil] at h
  exact ⟨h 0 (by decide), h 1 (by decide), h 2 (by decide), h 3 (by decide), h 4 (by decide), h 5 (by decide), h 6 (by decide), h 7 (by decide), h 8 (by decide), h 9 (by decide), h 10 (by decide)⟩
set_option maxHeartbeats 8000000 in
set_option maxRecDepth 100000 in
theorem bs_find {v : Value} (H : Sat G w (ownS 72 11 v F.length (encs Ent.enc F) :: l)) (hF : Rising F) (hn : F.length ≤ 10001) (id : Int) :
    Calls Tryd.prog 42 #[v, .int .i64 id, .func (.func 43) #[] #[]] w fun e w' => ∃ i ok, e = .returned (.tuple #[.int .i64 (i : Nat), .bool ok]) ∧ i ≤ F.length ∧ Found F id i ok ∧ Sat G w' (ownS 72 11 v F.length (encs Ent.enc F) :: l) := by
  refine calls_any fun K hK => ?_
  by_cases h0 : F.length = 0
  · have hF0 : F = [] := List.eq_nil_of_length_eq_zero h0
    subst hF0
    obtain ⟨A, c, rfl, -⟩ := H.ownSlice
    have HH := Lib.hid H
    clear H h0
    go_enter Tryd.func42, Tryd.ntmps42
    go_wp2_with fail
    go_loopw [9, 10] (fun i j wr => i = .int .i64 0 ∧ j = .int .i64 0 ∧ wr = w) (fun _ _ _ => 0)
    case atStart => exact ⟨rfl, rfl, rfl⟩
    case round =>
      obtain ⟨rfl, rfl, rfl⟩ := hrel
      go_wp2_with fail
      exact hK.out _ _ ⟨0, false, rfl, Nat.le_refl _, (fun x hx => by cases hx), HH.out⟩
  obtain ⟨b, cap, cur, rfl, hcap, La, S⟩ := H.layOpen ent_len (by omega)
  have hcc : cap ≤ 9223372036854775807 := hcap
  have hlc := La.len
  have HLA := Lib.hid La
  have HCP := Lib.hid hcap
  obtain ⟨N, hN⟩ : ∃ N, N = F.length := ⟨_, rfl⟩
  rw [← hN] at hlc hn h0 ⊢
  have HN := Lib.hid hN
  have HF := Lib.hid hF
  clear H La hcap hN hF
  go_enter Tryd.func42, Tryd.ntmps42
  go_wp2_with fail
  go_loopw [9, 10] (fun i j wr => ∃ (p q : Nat), i = .int .i64 p ∧ j = .int .i64 q ∧ p ≤ q ∧ q ≤ N ∧ (∀ k x, F[k]? = some x → k < p → x.id < id) ∧ (∀ k x, F[k]? = some x → q ≤ k → id ≤ x.id) ∧ Sat G wr (blk b cur 72 :: l)) (fun i j _ => (intOf j).toNat - (intOf i).toNat)
  case atStart => exact ⟨0, N, rfl, rfl, Nat.zero_le _, Nat.le_refl _, (fun k x _ h => absurd h (Nat.not_lt_zero _)), (fun k x hk h => by have := (List.getElem?_eq_some_iff.1 hk).1; rw [HN.out] at h; omega), S⟩
  case round =>
    obtain ⟨p, q, rfl, rfl, hpq, hqN, hlo, hhi, S1⟩ := hrel
    have HLO := Lib.hid hlo
    have HHI := Lib.hid hhi
    clear hlo hhi S
    by_cases hlt : p < q
    · have hm1 : p ≤ (p + q) / 2 := by omega
      have hm2 : (p + q) / 2 < q := by omega
      obtain ⟨x, hx⟩ : ∃ x, F[(p + q) / 2]? = some x := ⟨_, List.getElem?_eq_getElem (by rw [← HN.out]; omega)⟩
      obtain ⟨c0, c1, c2, c3, c4, c5, c6, c7, c8, hC⟩ := nine x.hC
      obtain ⟨d0, d1, d2, d3, d4, d5, d6, d7, d8, d9, d10⟩ := one_cells HLA.out S1 hx hC
      have HX := Lib.hid hx
      have hcmp := fi_cmp S1 x.id x.n c0 c1 c2 c3 c4 c5 c6 c7 c8 id
      have hmN : (p + q) / 2 < N := by omega
      have hlt2 : (p : Int) < (q : Int) := by omega
      unfold cmpR at hcmp
      clear hx hC S1
      by_cases a1 : x.id < id
      · rw [if_pos a1] at hcmp
        go_wp2_with fail; (with_reducible refine hcmp.mono ?_); clear hcmp d0 d1 d2 d3 d4 d5 d6 d7 d8 d9 d10; rintro e w1 ⟨rfl, S2⟩; go_wp2_with fail
        go_roundw
        case rel => exact ⟨(p + q) / 2 + 1, q, by go_num, rfl, by omega, hqN, (fun k y hk h => by
          by_cases e : k = (p + q) / 2
          · subst e
            have := HX.out.symm.trans hk
            simp only [Option.some.injEq] at this
            rw [← this]; exact a1
          · have := HF.out.lt hk HX.out (by omega)
            omega), HHI.out, S2⟩
        case measure => simp [intOf]; omega
      · have hle : id ≤ x.id := by omega
        have hcz : ¬ (cmpR x.id id < 0) := by unfold cmpR; rw [if_neg a1]; split <;> omega
        rw [if_neg a1] at hcmp
        by_cases a2 : id < x.id
        · rw [if_pos a2] at hcmp
          go_wp2_with fail; (with_reducible refine hcmp.mono ?_); clear hcmp d0 d1 d2 d3 d4 d5 d6 d7 d8 d9 d10; rintro e w1 ⟨rfl, S2⟩; go_wp2_with fail
          go_roundw
          case rel => exact ⟨p, (p + q) / 2, rfl, by go_num, by omega, by omega, HLO.out, (fun k y hk h => by
            by_cases e : k = (p + q) / 2
            · subst e
              have := HX.out.symm.trans hk
              simp only [Option.some.injEq] at this
              rw [← this]; exact hle
            · have := HF.out.lt HX.out hk (by omega)
              omega), S2⟩
          case measure => simp [intOf]; omega
        · rw [if_neg a2] at hcmp
          go_wp2_with fail; (with_reducible refine hcmp.mono ?_); clear hcmp d0 d1 d2 d3 d4 d5 d6 d7 d8 d9 d10; rintro e w1 ⟨rfl, S2⟩; go_wp2_with fail
          go_roundw
          case rel => exact ⟨p, (p + q) / 2, rfl, by go_num, by omega, by omega, HLO.out, (fun k y hk h => by
            by_cases e : k = (p + q) / 2
            · subst e
              have := HX.out.symm.trans hk
              simp only [Option.some.injEq] at this
              rw [← this]; exact hle
            · have := HF.out.lt HX.out hk (by omega)
              omega), S2⟩
          case measure => simp [intOf]; omega
    · obtain rfl : p = q := by omega
      by_cases hpN : p < N
      · obtain ⟨x, hx⟩ : ∃ x, F[p]? = some x := ⟨_, List.getElem?_eq_getElem (by rw [← HN.out]; omega)⟩
        obtain ⟨c0, c1, c2, c3, c4, c5, c6, c7, c8, hC⟩ := nine x.hC
        obtain ⟨d0, d1, d2, d3, d4, d5, d6, d7, d8, d9, d10⟩ := one_cells HLA.out S1 hx hC
        have HX := Lib.hid hx
        have hcmp := fi_cmp S1 x.id x.n c0 c1 c2 c3 c4 c5 c6 c7 c8 id
        have hge : id ≤ x.id := HHI.out p x hx (Nat.le_refl _)
        have hpN2 : (p : Int) < (N : Int) := by omega
        clear hx hC S1
        unfold cmpR at hcmp
        rw [if_neg (by omega)] at hcmp
        by_cases a2 : id < x.id
        · rw [if_pos a2] at hcmp
          go_wp2_with fail; (with_reducible refine hcmp.mono ?_); clear hcmp d0 d1 d2 d3 d4 d5 d6 d7 d8 d9 d10; rintro e w1 ⟨rfl, S2⟩; go_wp2_with fail
          have e := HN.out
          subst e
          refine hK.out _ _ ⟨p, false, rfl, hqN, (fun y hy e => ?_), S2.layClose HLA.out HCP.out F.length rfl⟩
          obtain ⟨k, hk⟩ := List.mem_iff_getElem?.1 hy
          by_cases h : k < p
          · have := HLO.out k y hk h; omega
          · by_cases e2 : k = p
            · subst e2
              have := HX.out.symm.trans hk
              simp only [Option.some.injEq] at this
              rw [← this] at e; omega
            · have := HF.out.lt HX.out hk (by omega); omega
        · rw [if_neg a2] at hcmp
          go_wp2_with fail; (with_reducible refine hcmp.mono ?_); clear hcmp d0 d1 d2 d3 d4 d5 d6 d7 d8 d9 d10; rintro e w1 ⟨rfl, S2⟩; go_wp2_with fail
          have e := HN.out
          subst e
          exact hK.out _ _ ⟨p, true, rfl, hqN, ⟨x, HX.out, by omega⟩, S2.layClose HLA.out HCP.out F.length rfl⟩
      · obtain rfl : p = N := by omega
        have HS := Lib.hid S1
        clear S1
        go_wp2_with fail
        have e := HN.out
        subst e
        refine hK.out _ _ ⟨F.length, false, rfl, Nat.le_refl _, (fun y hy e => ?_), HS.out.layClose HLA.out HCP.out F.length rfl⟩
        obtain ⟨k, hk⟩ := List.mem_iff_getElem?.1 hy
        have := HLO.out k y hk (List.getElem?_eq_some_iff.1 hk).1
        omega
theorem rg_find (H : Sat G w (rgA g ten quo F L last :: l)) (hF : Rising F) (hn : F.length ≤ 10001) (id : Int) :
    Calls Tryd.prog 25 #[.pointer (some ⟨g, 0, none⟩), .int .i64 id] w fun e w' => ∃ i ok, e = .returned (.tuple #[.int .i64 (i : Nat), .bool ok]) ∧ i ≤ F.length ∧ Found F id i ok ∧ Sat G w' (rgA g ten quo F L last :: l) := by
  refine calls_any fun K hK => ?_
  obtain ⟨v, u, S⟩ := rg_iff.1 H
  have c2 := S.cell 2
  have hb := bs_find S.swap hF hn id
  clear H S
  go_enter Tryd.func25, Tryd.ntmps25
  go_wp2_with fail
  (with_reducible refine hb.mono ?_)
  rintro e w1 ⟨i, ok, rfl, hi, hf, S2⟩
  go_wp2_with fail
  exact hK.out _ _ ⟨i, ok, rfl, hi, hf, rg_iff.2 ⟨v, u, S2.swap⟩⟩
end
end Go.Proofs.YtecnddhfjjnbkaaDoor

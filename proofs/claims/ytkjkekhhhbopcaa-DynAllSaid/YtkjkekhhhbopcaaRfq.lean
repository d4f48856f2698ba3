/- The reference's lists; the walks over Size, Resize. -/
import Derived.Test.YtkjkekhhhbopcaaAwd
set_option linter.unusedSimpArgs false
set_option linter.unusedVariables false
namespace Go.Proofs.Ytkjkekhhhbopcaa
open Go.RowKit

/-- v is a slice of the fields L. -/
def RF (get : Addr → Option Value) (v : Value) (L : List Fd) : Prop :=
  ∃ A c, v = .slice A L.length c ∧ L.length ≤ c ∧ c ≤ 9223372036854775807 ∧ (A = none → c = 0) ∧ ∀ i x, L[i]? = some x → ∃ g o, A = some ⟨g, o, none⟩ ∧ ∀ j u, (fenc x)[j]? = some u → get ⟨g, o + i * 2 + j, none⟩ = some u
theorem RF.mono {G G' : Gnd} {v : Value} {L : List Fd} (h : RF (cellR G.ro) v L) (hG : G.le G') : RF (cellR G'.ro) v L := by
  obtain ⟨A, c, e, h1, h2, h3, h4⟩ := h
  exact ⟨A, c, e, h1, h2, h3, fun i x hx => by obtain ⟨g, o, ha, hc⟩ := h4 i x hx; exact ⟨g, o, ha, fun j u hj => cellR_mono hG.ro (hc j u hj)⟩⟩
theorem RF.sat {G : Gnd} {w : World} {l : List Asrt} {v : Value} {L : List Fd} (h : RF (cellR G.ro) v L) (H : Sat G w l) : RF w.cell? v L := by
  obtain ⟨A, c, e, h1, h2, h3, h4⟩ := h
  exact ⟨A, c, e, h1, h2, h3, fun i x hx => by obtain ⟨g, o, ha, hc⟩ := h4 i x hx; exact ⟨g, o, ha, fun j u hj => H.cellR (hc j u hj)⟩⟩
theorem RF.nil (get : Addr → Option Value) : RF get (.slice none 0 0) [] := ⟨none, 0, rfl, Nat.le_refl _, by omega, fun _ => rfl, fun i x h => by simp at h⟩
/-- What is one's own is turned no more. -/
theorem Sat.rf {G : Gnd} {w : World} {l : List Asrt} {v : Value} {L : List Fd} (H : Sat G w (ownS 47 2 v L.length (encs fenc L) :: l)) : ∃ G', G.le G' ∧ Sat G' w l ∧ RF (Go.Proofs.Ytkjkekhhhbopcaa.cellR G'.ro) v L := by
  obtain ⟨A, c, rfl, h1, h2, h3⟩ := H.ownSlice
  obtain ⟨G', hG, S, A', c', e, _, _, hel⟩ := H.ownFreeze
  cases e
  refine ⟨G', hG, S, A, c, rfl, h1, h2, h3, fun i x hx => ?_⟩
  have h0 := encs_get fd_len L i x hx
  obtain ⟨g, rfl, hc⟩ := hel (i * 2 + 0) _ (h0 0 (by decide))
  refine ⟨g, 0, rfl, fun j u hj => ?_⟩
  have hlt : j < 2 := (List.getElem?_eq_some_iff.1 hj).1
  obtain ⟨g', e', hc'⟩ := hel (i * 2 + j) u ((h0 j hlt).trans hj)
  cases e'
  rw [Nat.zero_add]
  exact hc'
/-- Its head part. -/
theorem RF.cut {get : Addr → Option Value} {A : Option Addr} {n c : Nat} {L : List Fd} (h : RF get (.slice A n c) L) {k : Nat} (hk : k ≤ n) : RF get (.slice A k c) (L.take k) := by
  obtain ⟨A', c', e, h1, h2, h3, h4⟩ := h
  cases e
  have hl : (L.take k).length = k := by rw [List.length_take]; omega
  refine ⟨A, c, by rw [hl], by omega, h2, h3, fun i y hy => ?_⟩
  rw [List.getElem?_take] at hy
  split at hy
  · exact h4 i y hy
  · cases hy
theorem rev_cut {F : List Fd} {k m : Nat} (h : m + 1 + k = F.length) : (F.drop k).reverse.take m = (F.drop (k + 1)).reverse := by
  rw [List.take_reverse, List.length_drop, List.drop_drop]
  congr 2
  omega
theorem fsz_rev (F : List Fd) : fsz F.reverse = fsz F := by
  induction F with
  | nil => rfl
  | cons x F ih => rw [List.reverse_cons, fsz_append, fsz_cons, fsz_cons, fsz_nil, ih]; omega
theorem take_snoc' {L : List Fd} {k : Nat} {x : Fd} (h : L[k]? = some x) : L.take (k + 1) = L.take k ++ [x] := by
  rw [List.take_add_one, h]; rfl
theorem fsz_take {L : List Fd} {k : Nat} {x : Fd} (h : L[k]? = some x) : fsz (L.take (k + 1)) = fsz (L.take k) + fsz1 x := by
  rw [take_snoc' h, fsz_append, fsz_cons, fsz_nil]; omega
theorem fsz_take_le (L : List Fd) (k : Nat) : fsz (L.take k) ≤ fsz L := by
  conv => rhs; rw [← List.take_append_drop k L, fsz_append]
  omega
theorem drewN_add (w : World) (n m : Nat) : (w.drewN n).drewN m = w.drewN (n + m) := by simp [World.drewN, Nat.add_assoc]
section
variable {G : Gnd} {w w' : World} {l : List Asrt}
set_option maxHeartbeats 4000000 in
theorem ref_size {v : Value} {L : List Fd} (hv : RF w.cell? v L) (hsz : fsz L ≤ 1152921504606846976) : Calls Try.prog 29 #[v] w fun e w' => e = .returned (.int .i64 (fsz L)) ∧ ∃ n, w' = w.drewN n := by
  refine calls_any fun K hK => ?_
  obtain ⟨A, c, rfl, hlc, hc, h0, hel⟩ := hv
  have HEL := Lib.hid hel
  have HT := Lib.hid fun k x (h : L[k]? = some x) => fsz_take h
  have HB := Lib.hid fun k => fsz_take_le L k
  clear hel h0
  go_enter Try.func29, Try.ntmps29
  go_wp2_with fail
  go_loopw [3, 4] (fun s i wr => ∃ k n : Nat, k ≤ L.length ∧ i = .int .i64 k ∧ s = .int .i64 (fsz (L.take k)) ∧ wr = w.drewN n) (fun _ i _ => L.length - (intOf i).toNat)
  case atStart => exact ⟨0, 0, Nat.zero_le _, rfl, rfl, rfl⟩
  case round =>
    obtain ⟨k, n, hk, rfl, rfl, hwr⟩ := hrel
    have HW := Lib.hid hwr
    by_cases hlt : k < L.length
    · have hx := List.getElem?_eq_getElem hlt
      obtain ⟨g, o, rfl, hcl⟩ := HEL.out k _ hx
      have ht := HT.out k _ hx
      have hb1 := HB.out k
      have hb2 := HB.out (k + 1)
      generalize L[k] = x at *
      obtain ⟨h, b⟩ := x
      have d1 : wr.cell? ⟨g, o + k * 2, none⟩ = some (.string (bstr h)) := by rw [hwr]; exact hcl 0 _ rfl
      have d2 : wr.cell? ⟨g, o + k * 2 + 1, none⟩ = some (.string (bstr b)) := by rw [hwr]; exact hcl 1 _ rfl
      clear hwr
      have z1 := bstr_size h
      have z2 := bstr_size b
      have hiz : fsz1 (h, b) = h.length + b.length + 32 := rfl
      rw [hiz] at ht
      obtain ⟨s2, hs2⟩ : ∃ s2, s2 = fsz (L.take (k + 1)) := ⟨_, rfl⟩
      rw [← hs2] at ht hb2
      have HS2 := Lib.hid hs2
      have HT2 := Lib.hid ht
      generalize hs1 : fsz (L.take k) = s1 at *
      generalize hhl : h.length = hl at *
      generalize hbl : b.length = bl at *
      have hw1 : IntKind.i64.wrap ((hl : Int) + bl) = (hl : Int) + bl := IntWalk.i64_in _ (by omega)
      have hw3 : IntKind.i64.wrap ((hl : Int) + bl + 32) = (hl : Int) + bl + 32 := IntWalk.i64_in _ (by omega)
      have hw2 : IntKind.i64.wrap ((s1 : Int) + ((hl : Int) + bl + 32)) = (s2 : Int) := by rw [IntWalk.i64_in _ (by omega)]; omega
      clear hcl hx hs2 ht hs1 hhl hbl hiz
      go_upto_region 5 with fail
      go_quiet (fail)
      go_wp2_with fail
      go_roundw
      case rel => exact ⟨k + 1, _, by omega, by go_num, by rw [← HS2.out], by rw [HW.out]; exact drewN_add _ _ _⟩
      case measure => simp [intOf]; omega
    · obtain rfl : k = L.length := by omega
      rw [List.take_length]
      clear hwr
      go_wp2_with fail
      exact hK.out _ _ ⟨rfl, n, HW.out⟩
/-- Resize: of the fields F (the oldest first). -/
theorem ref_resize {v : Value} {F : List Fd} (H : Sat G w l) (hv : RF (cellR G.ro) v F.reverse) (n : Int) (hsz : fsz F ≤ 65536) : Calls Try.prog 28 #[v, .int .i64 n] w fun e w' => ∃ u, e = .returned u ∧ RF (cellR G.ro) u (shrF n F).1.reverse ∧ Sat G w' l := by
  refine calls_any fun K hK => ?_
  obtain ⟨K0, hK0⟩ : ∃ K0, K0 = (shrF n F).2 := ⟨_, rfl⟩
  have HD : Hid ((shrF n F).1 = F.drop K0) := Lib.hid (by rw [hK0]; exact shrF_drop n F)
  have HGO := Lib.hid fun k (h : k < K0) => shrF_lt (most := n) (F := F) (hK0 ▸ h)
  have HEND := Lib.hid (hK0 ▸ shrF_end n F)
  have hkl : K0 ≤ F.length := by have := shrF_len n F; omega
  have HB : Hid (∀ k, fsz (F.drop k) ≤ 65536) := Lib.hid fun k => by
    have : fsz F = fsz (F.take k) + fsz (F.drop k) := by rw [← fsz_append, List.take_append_drop]
    omega
  clear hK0 hsz
  obtain ⟨A, c, rfl, hlc, hc, h0⟩ := id hv
  have hA : Hid (A = none → F.length = 0) := Lib.hid fun e => by have := h0.1 e; rw [List.length_reverse] at hlc; omega
  rw [List.length_reverse] at hlc hv
  clear h0
  rw [List.length_reverse]
  have HV := Lib.hid hv
  clear hv
  go_enter Try.func28, Try.ntmps28
  go_wp2_with fail
  go_loopw [0] (fun u wr => ∃ k m : Nat, k ≤ K0 ∧ m + k = F.length ∧ u = .slice A m c ∧ RF (cellR G.ro) u (F.drop k).reverse ∧ Sat G wr l) (fun u _ => match u with | .slice _ m _ => m | _ => 0)
  case atStart => exact ⟨0, F.length, Nat.zero_le _, rfl, rfl, by simpa using HV.out, H⟩
  case round =>
    obtain ⟨k, m, hk, hm, rfl, hr, S⟩ := hrel
    have hsize := ref_size (hr.sat S) (by rw [fsz_rev]; have := HB.out k; omega)
    rw [fsz_rev] at hsize
    by_cases hlt : k < K0
    · obtain ⟨hk1, hk2⟩ := HGO.out k hlt
      obtain ⟨m, rfl⟩ : ∃ m', m = m' + 1 := ⟨m - 1, by omega⟩
      have hrc := hr.cut (k := m) (by omega)
      rw [rev_cut hm] at hrc
      obtain ⟨g, o, rfl⟩ : ∃ g o, A = some ⟨g, o, none⟩ := by
        obtain ⟨A', c', e, -, -, -, hel⟩ := hr
        obtain ⟨e1, e2, e3⟩ := Value.slice.inj e
        subst e1
        have hl0 : 0 < (F.drop k).reverse.length := by rw [List.length_reverse, List.length_drop]; omega
        obtain ⟨g, o, e, -⟩ := hel 0 _ (List.getElem?_eq_getElem hl0)
        exact ⟨g, o, e⟩
      have hmc : m ≤ c := by omega
      have HR := Lib.hid hrc
      generalize fsz (F.drop k) = s at *
      have hgt : n < (s : Int) := hk2
      have hwm : IntKind.i64.wrap (((m + 1 : Nat) : Int) - 1) = (m : Int) := by rw [IntWalk.i64_in _ (by omega)]; omega
      have hmp : (0 : Int) < ((m + 1 : Nat) : Int) := by omega
      clear hr hrc hk2 H HV hA
      have HM := Lib.hid hm
      have HS := Lib.hid S
      clear hm S hlc
      obtain ⟨m1, hm1⟩ : ∃ m1, m1 = m + 1 := ⟨_, rfl⟩
      rw [← hm1] at hwm hmp hsize ⊢
      have hmm : m ≤ m1 := by omega
      have HM1 := Lib.hid hm1
      clear hm1
      go_wp2_with fail
      (with_reducible refine hsize.mono ?_)
      clear hsize
      rintro e w1 ⟨rfl, n1, rfl⟩
      go_wp2_with fail
      go_roundw
      case rel => exact ⟨k + 1, m, by omega, by have := HM.out; omega, rfl, HR.out, HS.out.drewQ n1⟩
      case measure => simp; have := HM1.out; omega
    · obtain rfl : k = K0 := by omega
      have HR := Lib.hid hr
      have HS := Lib.hid S
      clear hr S H HV hA
      rw [HD.out] at hK
      by_cases hm0 : m = 0
      · subst hm0
        clear hsize hm HB HGO HEND
        go_wp2_with fail
        exact hK.out _ _ ⟨_, rfl, HR.out, HS.out⟩
      · have hle : (fsz (F.drop k) : Int) ≤ n := by rcases HEND.out with h | h; exact absurd h (by omega); exact h
        generalize hs : fsz (F.drop k) = s at *
        have hgt : ¬ (n < (s : Int)) := by omega
        have hmp : (0 : Int) < (m : Int) := by omega
        clear hm HB HGO HEND hle hs
        go_wp2_with fail
        (with_reducible refine hsize.mono ?_)
        clear hsize
        rintro e w1 ⟨rfl, n1, rfl⟩
        go_wp2_with fail
        exact hK.out _ _ ⟨_, rfl, HR.out, HS.out.drewQ n1⟩
end
end Go.Proofs.Ytkjkekhhhbopcaa

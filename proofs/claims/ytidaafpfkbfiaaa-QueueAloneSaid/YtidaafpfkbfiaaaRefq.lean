/- The reference's lists; the walks over Size, Put, Cut, Drop. -/
import Derived.Test.YtidaafpfkbfiaaaOps
import Derived.Deep.QuietTactic
import Derived.BigQuiet
set_option linter.unusedSimpArgs false
set_option linter.unusedVariables false
namespace Go.Proofs.Ytidaafpfkbfiaaa
open Go.RowKit

def renc (x : It) : List Value := [.int .i64 x.1, .string (bstr x.2.1), .string (bstr x.2.2)]
theorem re_len (x : It) : (renc x).length = 3 := rfl
/-- v is a slice of the items L. -/
def RL (get : Addr → Option Value) (v : Value) (L : List It) : Prop :=
  ∃ A c, v = .slice A L.length c ∧ L.length ≤ c ∧ c ≤ 9223372036854775807 ∧ (A = none → c = 0) ∧ ∀ i x, L[i]? = some x → ∃ g o, A = some ⟨g, o, none⟩ ∧ ∀ j u, (renc x)[j]? = some u → get ⟨g, o + i * 3 + j, none⟩ = some u
theorem RL.mono {G G' : Gnd} {v : Value} {L : List It} (h : RL (cellR G.ro) v L) (hG : G.le G') : RL (cellR G'.ro) v L := by
  obtain ⟨A, c, e, h1, h2, h3, h4⟩ := h
  exact ⟨A, c, e, h1, h2, h3, fun i x hx => by obtain ⟨g, o, ha, hc⟩ := h4 i x hx; exact ⟨g, o, ha, fun j u hj => cellR_mono hG.ro (hc j u hj)⟩⟩
theorem RL.sat {G : Gnd} {w : World} {l : List Asrt} {v : Value} {L : List It} (h : RL (cellR G.ro) v L) (H : Sat G w l) : RL w.cell? v L := by
  obtain ⟨A, c, e, h1, h2, h3, h4⟩ := h
  exact ⟨A, c, e, h1, h2, h3, fun i x hx => by obtain ⟨g, o, ha, hc⟩ := h4 i x hx; exact ⟨g, o, ha, fun j u hj => H.cellR (hc j u hj)⟩⟩
theorem RL.nil (get : Addr → Option Value) : RL get (.slice none 0 0) [] := ⟨none, 0, rfl, Nat.le_refl _, by omega, fun _ => rfl, fun i x h => by simp at h⟩
/-- What is one's own is turned no more. -/
theorem Sat.rl {G : Gnd} {w : World} {l : List Asrt} {v : Value} {L : List It} (H : Sat G w (ownS 31 3 v L.length (encs renc L) :: l)) : ∃ G', G.le G' ∧ Sat G' w l ∧ RL (Go.Proofs.Ytidaafpfkbfiaaa.cellR G'.ro) v L := by
  obtain ⟨A, c, rfl, h1, h2, h3⟩ := H.ownSlice
  obtain ⟨G', hG, S, A', c', e, _, _, hel⟩ := H.ownFreeze
  cases e
  refine ⟨G', hG, S, A, c, rfl, h1, h2, h3, fun i x hx => ?_⟩
  have h0 := encs_get re_len L i x hx
  obtain ⟨g, rfl, hc⟩ := hel (i * 3 + 0) _ (h0 0 (by decide))
  refine ⟨g, 0, rfl, fun j u hj => ?_⟩
  have hlt : j < 3 := (List.getElem?_eq_some_iff.1 hj).1
  obtain ⟨g', e', hc'⟩ := hel (i * 3 + j) u ((h0 j hlt).trans hj)
  cases e'
  rw [Nat.zero_add]
  exact hc'
/-- Its tail. -/
theorem RL.tail {get : Addr → Option Value} {A : Option Addr} {n c : Nat} {x : It} {L : List It} (h : RL get (.slice A n c) (x :: L)) : RL get (.slice (if c = 1 then A else A.map (·.add 3)) (n - 1) (c - 1)) L := by
  obtain ⟨A', c', e, h1, h2, h3, h4⟩ := h
  cases e
  obtain ⟨g, o, rfl, -⟩ := h4 0 x rfl
  simp only [List.length_cons] at h1
  have e0 : (x :: L).length - 1 = L.length := by simp
  rw [e0]
  refine ⟨_, _, rfl, by omega, by omega, fun e => ?_, fun i y hy => ?_⟩
  · split at e <;> simp at e
  · have hlt := (List.getElem?_eq_some_iff.1 hy).1
    rw [if_neg (by omega)]
    obtain ⟨g', o', e', hc⟩ := h4 (i + 1) y (by simpa using hy)
    cases e'
    refine ⟨g, o + 3, by simp [Addr.add], fun j u hj => ?_⟩
    have := hc j u hj
    rw [show o + 3 + i * 3 + j = o + (i + 1) * 3 + j by omega]
    exact this
theorem info_ri : (Try.prog.info? 31).map (fun i => (i.zero, i.size, i.bytes)) = some (some (.agg #[.int .i64 0, .string ByteArray.empty, .string ByteArray.empty]), 3, 40) := by kernel_rfl
theorem qsz_take {L : List It} {k : Nat} {x : It} (h : L[k]? = some x) : qsz (L.take (k + 1)) = qsz (L.take k) + isz x := by
  rw [take_snoc h, qsz_append, qsz_cons, qsz_nil]; omega
theorem qsz_take_le (L : List It) (k : Nat) : qsz (L.take k) ≤ qsz L := by
  conv => rhs; rw [← List.take_append_drop k L, qsz_append]
  omega
theorem drewN_add (w : World) (n m : Nat) : (w.drewN n).drewN m = w.drewN (n + m) := by simp [World.drewN, Nat.add_assoc]
section
variable {G : Gnd} {w w' : World} {l : List Asrt}
set_option maxHeartbeats 4000000 in
theorem ref_size {v : Value} {L : List It} (hv : RL w.cell? v L) (hsz : qsz L ≤ 1152921504606846976) : Calls Try.prog 19 #[v] w fun e w' => e = .returned (.int .i64 (qsz L)) ∧ ∃ n, w' = w.drewN n := by
  refine calls_any fun K hK => ?_
  obtain ⟨A, c, rfl, hlc, hc, h0, hel⟩ := hv
  have HEL := Lib.hid hel
  have HT := Lib.hid fun k x (h : L[k]? = some x) => qsz_take h
  have HB := Lib.hid fun k => qsz_take_le L k
  clear hel h0
  go_enter Try.func19, Try.ntmps19
  go_wp2_with fail
  go_loopw [3, 4] (fun s i wr => ∃ k n : Nat, k ≤ L.length ∧ i = .int .i64 k ∧ s = .int .i64 (qsz (L.take k)) ∧ wr = w.drewN n) (fun _ i _ => L.length - (intOf i).toNat)
  case atStart => exact ⟨0, 0, Nat.zero_le _, rfl, rfl, rfl⟩
  case round =>
    obtain ⟨k, n, hk, rfl, rfl, hwr⟩ := hrel
    have HW := Lib.hid hwr
    by_cases hlt : k < L.length
    · have hx := List.getElem?_eq_getElem hlt
      obtain ⟨g, o, rfl, hcl⟩ := HEL.out k _ hx
      have ht := HT.out k _ hx
      have hb1 := HB.out k
      have hb2 := HB.out (k + 1)
      generalize L[k] = x at *
      obtain ⟨xn, h, b⟩ := x
      have d1 : wr.cell? ⟨g, o + k * 3 + 1, none⟩ = some (.string (bstr h)) := by rw [hwr]; exact hcl 1 _ rfl
      have d2 : wr.cell? ⟨g, o + k * 3 + 2, none⟩ = some (.string (bstr b)) := by rw [hwr]; exact hcl 2 _ rfl
      clear hwr
      have z1 := bstr_size h
      have z2 := bstr_size b
      have hiz : isz (xn, h, b) = h.length + b.length := rfl
      rw [hiz] at ht
      obtain ⟨s2, hs2⟩ : ∃ s2, s2 = qsz (L.take (k + 1)) := ⟨_, rfl⟩
      rw [← hs2] at ht hb2
      have HS2 := Lib.hid hs2
      have HT2 := Lib.hid ht
      generalize hs1 : qsz (L.take k) = s1 at *
      generalize hhl : h.length = hl at *
      generalize hbl : b.length = bl at *
      have hw1 : IntKind.i64.wrap ((hl : Int) + bl) = (hl : Int) + bl := IntWalk.i64_in _ (by omega)
      have hw2 : IntKind.i64.wrap ((s1 : Int) + ((hl : Int) + bl)) = (s2 : Int) := by rw [IntWalk.i64_in _ (by omega)]; omega
      clear hcl hx hs2 ht hs1 hhl hbl hiz
      go_upto_region 5 with fail
      go_quiet (fail)
      go_wp2_with fail
      go_roundw
      case rel => exact ⟨k + 1, _, by omega, by go_num, by rw [← HS2.out], by rw [HW.out]; exact drewN_add _ _ _⟩
      case measure => simp [intOf]; omega
    · obtain rfl : k = L.length := by omega
      rw [List.take_length]
      clear hwr
      go_wp2_with fail
      exact hK.out _ _ ⟨rfl, n, HW.out⟩
end
end Go.Proofs.Ytidaafpfkbfiaaa

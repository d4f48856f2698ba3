/- Chapter 14: the reference's lists of streams. -/
import Derived.Test.YtecnddhfjjnbkaaDoorInv
import Derived.Test.YtecnddhfjjnbkaaDoorPlain
import Derived.Deep.QuietTactic
import Derived.BigQuiet
import Derived.Laws.AppendOwnNone
set_option linter.unusedSimpArgs false
set_option linter.unusedVariables false
namespace Go.Proofs.YtecnddhfjjnbkaaDoor
open Go.RowKit

/-- A stream of the reference. -/
structure RSt where
  id : Int
  t : Int
  s : R4
def renc (x : RSt) : List Value := [.int .i64 x.id, .int .i64 x.t, .int .i64 x.s.b, .int .i64 x.s.w, .int .i64 x.s.t, .int .i64 x.s.r]
theorem re_len (x : RSt) : (renc x).length = 6 := rfl
theorem take_snoc {α : Type} {F : List α} {i : Nat} {x : α} (h : F[i]? = some x) : F.take (i + 1) = F.take i ++ [x] := by
  have hi := (List.getElem?_eq_some_iff.1 h).1
  have he := (List.getElem?_eq_some_iff.1 h).2
  rw [List.take_succ_eq_append_getElem hi, he]
/-- v is a slice of the items L. -/
def RL (get : Addr → Option Value) (v : Value) (L : List RSt) : Prop :=
  ∃ A c, v = .slice A L.length c ∧ L.length ≤ c ∧ c ≤ 9223372036854775807 ∧ (A = none → c = 0) ∧ ∀ i x, L[i]? = some x → ∃ g o, A = some ⟨g, o, none⟩ ∧ ∀ j u, (renc x)[j]? = some u → get ⟨g, o + i * 6 + j, none⟩ = some u
theorem RL.mono {G G' : Gnd} {v : Value} {L : List RSt} (h : RL (cellR G.ro) v L) (hG : G.le G') : RL (cellR G'.ro) v L := by
  obtain ⟨A, c, e, h1, h2, h3, h4⟩ := h
  exact ⟨A, c, e, h1, h2, h3, fun i x hx => by obtain ⟨g, o, ha, hc⟩ := h4 i x hx; exact ⟨g, o, ha, fun j u hj => cellR_mono hG.ro (hc j u hj)⟩⟩
theorem RL.sat {G : Gnd} {w : World} {l : List Asrt} {v : Value} {L : List RSt} (h : RL (cellR G.ro) v L) (H : Sat G w l) : RL w.cell? v L := by
  obtain ⟨A, c, e, h1, h2, h3, h4⟩ := h
  exact ⟨A, c, e, h1, h2, h3, fun i x hx => by obtain ⟨g, o, ha, hc⟩ := h4 i x hx; exact ⟨g, o, ha, fun j u hj => H.cellR (hc j u hj)⟩⟩
theorem RL.nil (get : Addr → Option Value) : RL get (.slice none 0 0) [] := ⟨none, 0, rfl, Nat.le_refl _, by omega, fun _ => rfl, fun i x h => by simp at h⟩
/-- What is one's own is turned no more. -/
theorem Sat.rl {G : Gnd} {w : World} {l : List Asrt} {v : Value} {L : List RSt} (H : Sat G w (ownS 59 6 v L.length (encs renc L) :: l)) : ∃ G', G.le G' ∧ Sat G' w l ∧ RL (Go.Proofs.YtecnddhfjjnbkaaDoor.cellR G'.ro) v L := by
  obtain ⟨A, c, rfl, h1, h2, h3⟩ := H.ownSlice
  obtain ⟨G', hG, S, A', c', e, _, _, hel⟩ := H.ownFreeze
  cases e
  refine ⟨G', hG, S, A, c, rfl, h1, h2, h3, fun i x hx => ?_⟩
  have h0 := encs_get re_len L i x hx
  obtain ⟨g, rfl, hc⟩ := hel (i * 6 + 0) _ (h0 0 (by decide))
  refine ⟨g, 0, rfl, fun j u hj => ?_⟩
  have hlt : j < 6 := (List.getElem?_eq_some_iff.1 hj).1
  obtain ⟨g', e', hc'⟩ := hel (i * 6 + j) u ((h0 j hlt).trans hj)
  cases e'
  rw [Nat.zero_add]
  exact hc'
theorem info_ri : (Tryd.prog.info? 59).map (fun i => (i.zero, i.size, i.bytes)) = some (some (.agg #[.int .i64 0, .int .i64 0, .int .i64 0, .int .i64 0, .int .i64 0, .int .i64 0]), 6, 48) := by kernel_rfl
theorem drewN_add (w : World) (n m : Nat) : (w.drewN n).drewN m = w.drewN (n + m) := by simp [World.drewN, Nat.add_assoc]
theorem Sat.drewQ {G : Gnd} {w : World} {l : List Asrt} (H : Sat G w l) (n : Nat) : Sat G (w.drewN n) l := H.below ⟨rfl, rfl, rfl, Nat.le_refl _, fun _ _ => rfl⟩
theorem info_ri' : ∃ i, Tryd.prog.info? 59 = some i := by
  have := info_ri
  cases hi : Tryd.prog.info? 59 with
  | none => rw [hi] at this; cases this
  | some i => exact ⟨i, rfl⟩
theorem renc_one (L : List RSt) : (encs renc L).all (·.oneCell') = true := by
  rw [List.all_eq_true]
  intro u hu
  obtain ⟨x, hx, hu⟩ := List.mem_flatMap.1 hu
  simp only [renc, List.mem_cons, List.not_mem_nil, or_false] at hu
  rcases hu with rfl | rfl | rfl | rfl | rfl | rfl <;> rfl
section
variable {G : Gnd} {w w' : World} {l : List Asrt}
/-- append of items to items of one's own. -/
theorem st_appL {ops : Array Oper} {rest : List Oper} {o : Oper} {a : Act} {Q : Exit → Act → World → Prop} {v : Value} {n : Nat} {xs : List Value} (S : Sat G w (ownS 59 6 v n xs :: l)) (hgd : o.guard = none) (s x : Operand)
    (ho : o.op = .call { callee := .builtin .append, args := #[s, x], argTypes := #[45, 45] }) (hs : a.eval s = v)
    {u : Value} {L : List RSt} (hx : a.eval x = u) (hb : RL w.cell? u L) (hm : n + L.length ≤ 100000)
    (h : ∀ v' w', Sat G w' (ownS 59 6 v' (n + L.length) (xs ++ encs renc L) :: l) → wpList Tryd.prog ops Q rest (a.put o.dst v') w') : wpList Tryd.prog ops Q (o :: rest) a w := by
  obtain ⟨A, c, rfl, h1, h2, h3, hel⟩ := hb
  cases L with
  | nil =>
    cases A with
    | none =>
      obtain rfl := h3 rfl
      obtain ⟨i, hi⟩ := info_ri'
      refine wpList_append_own_none hgd s x 45 ho 0 59 i 6 Tryd.underlying45 hi v n xs hs S.owns hx (h v w ?_)
      simpa [encs] using S
    | some ad =>
      exact st_append hgd s x 45 ho 59 (.agg #[.int .i64 0, .int .i64 0, .int .i64 0, .int .i64 0, .int .i64 0, .int .i64 0]) 6 48 Tryd.underlying45 info_ri rfl (by omega) v n xs hs S ad 0 c [] hx rfl (fun j u hj => by simp at hj) rfl (Nat.le_trans (show n + 0 ≤ 100000 from hm) (by decide)) (by simp only [List.length_nil] at hm; omega) h
  | cons y L =>
    obtain ⟨g, o', rfl, -⟩ := hel 0 y rfl
    refine st_append hgd s x 45 ho 59 (.agg #[.int .i64 0, .int .i64 0, .int .i64 0, .int .i64 0, .int .i64 0, .int .i64 0]) 6 48 Tryd.underlying45 info_ri rfl (by omega) v n xs hs S ⟨g, o', none⟩ (y :: L).length c (encs renc (y :: L)) hx (encs_length re_len _) (fun j u hj => ?_) (renc_one _) (Nat.le_trans hm (by decide)) (by omega) h
    have hjl := (List.getElem?_eq_some_iff.1 hj).1
    rw [encs_length re_len] at hjl
    have hq : j / 6 < (y :: L).length := by omega
    have hx' := List.getElem?_eq_getElem hq
    obtain ⟨g', o'', e, hc⟩ := hel (j / 6) _ hx'
    cases e
    have h0 := encs_get re_len (y :: L) (j / 6) _ hx' (j % 6) (Nat.mod_lt _ (by decide))
    have ej : j / 6 * 6 + j % 6 = j := by omega
    rw [ej] at h0
    have := hc (j % 6) u (h0.symm.trans hj)
    have ea : (⟨g, o', none⟩ : Addr).add j = ⟨g, o' + j, none⟩ := by unfold Addr.add; split <;> simp_all
    rw [ea, ← this, show o' + j / 6 * 6 + j % 6 = o' + j by omega]
theorem rl_new (x : RSt) (W : World) (n : Nat) (hn : n = W.heap.size) : RL (W.alloc (.cells (renc x).toArray 59)).cell? (.slice (some ⟨n, 0, none⟩) 1 1) [x] := ⟨_, _, rfl, Nat.le_refl _, by omega, (fun e => by cases e), fun i y hy => ⟨n, 0, rfl, fun j u hj => by
  have hi := (List.getElem?_eq_some_iff.1 hy).1
  simp only [List.length_cons, List.length_nil] at hi
  obtain rfl : i = 0 := by omega
  simp at hy
  subst hy
  subst hn
  rw [show 0 + 0 * 6 + j = j by omega, cell_of_block (heap_alloc_new W _)]
  simpa using hj⟩⟩
end
end Go.Proofs.YtecnddhfjjnbkaaDoor

/- Slices of one's own, element by element: an element is a row of cells; an element is written; the slice is cut; what is behind it is cleared. -/
import Derived.Test.YtdfdcenbpanegaaFld
set_option linter.unusedSimpArgs false
set_option linter.unusedVariables false
namespace Go.Proofs.Ytdfdcenbpanegaa
open Go.RowKit

def encs {α : Type} (enc : α → List Value) (F : List α) : List Value := F.flatMap enc
section
variable {α : Type} {enc : α → List Value} {size : Nat}
theorem encs_append (A B : List α) : encs enc (A ++ B) = encs enc A ++ encs enc B := by simp [encs]
theorem encs_one (x : α) : encs enc [x] = enc x := by simp [encs]
theorem encs_length (h : ∀ x, (enc x).length = size) (F : List α) : (encs enc F).length = F.length * size := by
  induction F with
  | nil => simp [encs]
  | cons x F ih => simp only [encs, List.flatMap_cons, List.length_append, List.length_cons, h] at ih ⊢; rw [ih, Nat.add_mul]; omega
theorem encs_get (h : ∀ x, (enc x).length = size) : ∀ (F : List α) (i : Nat) (x : α), F[i]? = some x → ∀ j, j < size → (encs enc F)[i * size + j]? = (enc x)[j]?
  | [], i, x, hx, _, _ => by simp at hx
  | y :: F, 0, x, hx, j, hj => by
    simp at hx; subst hx
    simp only [encs, List.flatMap_cons, Nat.zero_mul, Nat.zero_add]
    rw [List.getElem?_append_left (by rw [h]; exact hj)]
  | y :: F, i + 1, x, hx, j, hj => by
    have := encs_get h F i x (by simpa using hx) j hj
    simp only [encs, List.flatMap_cons] at this ⊢
    rw [List.getElem?_append_right (by rw [h, Nat.add_mul]; omega), h]
    rw [← this]; congr 1; rw [Nat.add_mul]; omega
theorem encs_take (h : ∀ x, (enc x).length = size) (F : List α) (k : Nat) : (encs enc F).take (k * size) = encs enc (F.take k) := by
  by_cases hk : k ≤ F.length
  · conv => lhs; rw [← List.take_append_drop k F, encs_append]
    rw [List.take_left' (by rw [encs_length h, List.length_take, Nat.min_eq_left hk])]
  · rw [List.take_of_length_le (l := F) (by omega), List.take_of_length_le (by rw [encs_length h]; exact Nat.mul_le_mul_right _ (by omega))]
theorem encs_set (h : ∀ x, (enc x).length = size) (F : List α) (i : Nat) (x : α) (hi : i < F.length) : encs enc (F.set i x) = encs enc (F.take i) ++ enc x ++ encs enc (F.drop (i + 1)) := by
  rw [List.set_eq_take_append_cons_drop, if_pos hi, encs_append]
  simp [encs]
end
theorem setMid_list : ∀ (vs : List Value) (cur : Array Value) (o : Nat), o + vs.length ≤ cur.size → (setMid cur o vs).toList = cur.toList.take o ++ vs ++ cur.toList.drop (o + vs.length)
  | [], cur, o, h => by simp [setMid]
  | v :: vs, cur, o, h => by
    simp only [List.length_cons] at h
    rw [setMid, setMid_list vs _ (o + 1) (by simp; omega)]
    rw [Array.toList_setIfInBounds]
    apply List.ext_getElem?
    intro k
    have e1 : o + 1 + vs.length = o + (v :: vs).length := by simp; omega
    rw [e1]
    simp only [List.getElem?_append, List.length_append, List.length_take, List.length_set, List.length_cons, Array.length_toList, List.getElem?_take, List.getElem?_drop, List.getElem?_set]
    by_cases k1 : k < o
    · simp [show k < min (o + 1) cur.size by omega, show k < o + 1 by omega, show k < min o cur.size by omega, k1, show ¬ o = k by omega]
      split <;> first | rfl | omega | skip
      all_goals (try split) <;> first | rfl | omega
    · by_cases k2 : k = o
      · subst k2
        simp [show k < min (k + 1) cur.size by omega, show ¬ k < min k cur.size by omega, show k < cur.size by omega, show k - min k cur.size = 0 by omega]
        split <;> first | rfl | omega | skip
        all_goals (try split) <;> first | rfl | omega
      · have h3 : k - min (o + 1) cur.size + 1 = k - min o cur.size := by omega
        by_cases k3 : k < o + 1 + vs.length
        · have a1 : ¬ k < min (o + 1) cur.size := by omega
          have a2 : k < min (o + 1) cur.size + vs.length := by omega
          have a3 : ¬ k < min o cur.size := by omega
          have a4 : k < min o cur.size + (vs.length + 1) := by omega
          rw [if_pos a2, if_neg a1, if_pos a4, if_neg a3, ← h3, List.getElem?_cons_succ]
        · have a2 : ¬ k < min (o + 1) cur.size + vs.length := by omega
          have a4 : ¬ k < min o cur.size + (vs.length + 1) := by omega
          rw [if_neg a2, if_neg a4]
          have a5 : ¬ o = o + (vs.length + 1) + (k - (min (o + 1) cur.size + vs.length)) := by omega
          rw [if_neg a5]
          congr 1
          omega
/-- The cells of a block are the elements F, and what is behind them up to its capacity. -/
structure Lay {α : Type} (enc : α → List Value) (size cap : Nat) (cur : Array Value) (F : List α) : Prop where
  h : ∀ x, (enc x).length = size
  all : cur.size = cap * size
  len : F.length ≤ cap
  at_ : cur.toList.take (F.length * size) = encs enc F
section
variable {α : Type} {enc : α → List Value} {size cap : Nat} {cur : Array Value} {F : List α}
theorem Lay.get (L : Lay enc size cap cur F) {i : Nat} {x : α} (hx : F[i]? = some x) {j : Nat} (hj : j < size) : cur[i * size + j]? = (enc x)[j]? := by
  have h1 := encs_get L.h F i x hx j hj
  rw [← L.at_, List.getElem?_take] at h1
  have hi := (List.getElem?_eq_some_iff.1 hx).1
  have : i * size + j < F.length * size := by
    have := Nat.mul_le_mul_right size (show i + 1 ≤ F.length by omega)
    rw [Nat.add_mul] at this; omega
  rw [if_pos this] at h1
  simpa using h1
theorem Lay.cut (L : Lay enc size cap cur F) (k : Nat) (hk : k ≤ F.length) : Lay enc size cap cur (F.take k) := by
  have hl : (F.take k).length = k := by rw [List.length_take]; omega
  refine ⟨L.h, L.all, by rw [hl]; exact Nat.le_trans hk L.len, ?_⟩
  rw [hl, ← encs_take L.h, ← L.at_, List.take_take, Nat.min_eq_left (Nat.mul_le_mul_right _ hk)]
theorem Lay.room (L : Lay enc size cap cur F) {i : Nat} (hi : i < F.length) : i * size + size ≤ cur.size := by
  rw [L.all]
  have h1 := L.len
  have := Nat.mul_le_mul_right size (show i + 1 ≤ cap by omega)
  rw [Nat.add_mul] at this; omega
theorem Lay.set (L : Lay enc size cap cur F) {i : Nat} (hi : i < F.length) (x : α) : Lay enc size cap (setMid cur (i * size) (enc x)) (F.set i x) := by
  have hr := L.room hi
  refine ⟨L.h, by rw [setMid_size]; exact L.all, by rw [List.length_set]; exact L.len, ?_⟩
  rw [List.length_set, setMid_list _ _ _ (by rw [L.h]; exact hr), L.h, encs_set L.h F i x hi]
  have hm : i * size + size ≤ F.length * size := by
    have := Nat.mul_le_mul_right size (show i + 1 ≤ F.length by omega)
    rw [Nat.add_mul] at this; omega
  have hcs : F.length * size ≤ cur.size := by rw [L.all]; exact Nat.mul_le_mul_right _ L.len
  have e1 : cur.toList.take (i * size) = encs enc (F.take i) := by
    rw [← encs_take L.h, ← L.at_, List.take_take, Nat.min_eq_left (by omega)]
  have e2 : (cur.toList.drop (i * size + size)).take (F.length * size - (i * size + size)) = encs enc (F.drop (i + 1)) := by
    rw [← List.drop_take, L.at_]
    conv => lhs; rw [← List.take_append_drop (i + 1) F, encs_append]
    rw [List.drop_left' (by rw [encs_length L.h, List.length_take, Nat.min_eq_left (by omega), Nat.add_mul]; omega)]
  rw [e1, List.append_assoc, List.append_assoc, List.take_append, List.take_append]
  have l1 : (encs enc (F.take i)).length = i * size := by rw [encs_length L.h, List.length_take, Nat.min_eq_left (by omega)]
  rw [l1, L.h, List.take_of_length_le (by rw [l1]; omega), List.take_of_length_le (l := enc x) (by rw [L.h]; omega)]
  rw [show F.length * size - i * size - size = F.length * size - (i * size + size) by omega, e2]
theorem Lay.keep (L : Lay enc size cap cur F) {o : Nat} {vs : List Value} (ho : F.length * size ≤ o) (hv : o + vs.length ≤ cur.size) : Lay enc size cap (setMid cur o vs) F := by
  refine ⟨L.h, by rw [setMid_size]; exact L.all, L.len, ?_⟩
  rw [setMid_list _ _ _ hv, List.append_assoc, List.take_append, List.take_take, Nat.min_eq_left ho, L.at_]
  have : F.length * size - (cur.toList.take o).length = 0 := by rw [List.length_take]; simp; omega
  rw [this]; simp
variable {G : Gnd} {w : World} {l : List Asrt} {e : TypeId} {v : Value}
theorem Sat.layOpen (H : Sat G w (ownS e size v F.length (encs enc F) :: l)) (h : ∀ x, (enc x).length = size) (hn : 0 < F.length) : ∃ g cap cur, v = .slice (some ⟨g, 0, none⟩) F.length cap ∧ cap ≤ maxLen ∧ Lay enc size cap cur F ∧ Sat G w (blk g cur e :: l) := by
  obtain ⟨hl, ⟨_, h0, _⟩ | ⟨g, cap, cur, rfl, h1, h2, h3, h4, S⟩⟩ := own_iff.1 H
  · omega
  · exact ⟨g, cap, cur, rfl, h2, ⟨h, h3, h1, h4⟩, S⟩
theorem Sat.layClose {g : Nat} (S : Sat G w (blk g cur e :: l)) (L : Lay enc size cap cur F) (hc : cap ≤ maxLen) (n : Nat) (hn : n = F.length) : Sat G w (ownS e size (.slice (some ⟨g, 0, none⟩) n cap) F.length (encs enc F) :: l) := by
  subst hn
  exact own_iff.2 ⟨encs_length L.h F, .inr ⟨g, cap, cur, rfl, L.len, hc, L.all, L.at_, S⟩⟩
end
/-- clear of a slice. -/
theorem zeroCells_length (z : Array Value) (n : Nat) : (Builtin.zeroCells z n).size = n * z.size := by simp [Builtin.zeroCells]
theorem zeroCells_all (z : Array Value) (n : Nat) (h : z.all (·.oneCell') = true) : ∀ v ∈ (Builtin.zeroCells z n).toList, v.oneCell' = true := by
  intro v hv
  simp only [Builtin.zeroCells, Array.toList_map, List.mem_map] at hv
  obtain ⟨i, hi, rfl⟩ := hv
  have hlt : i < n * z.size := by simpa using hi
  have hz : 0 < z.size := by
    rcases Nat.eq_zero_or_pos z.size with e | e
    · rw [e] at hlt; simp at hlt
    · exact e
  have hm := Nat.mod_lt i hz
  rw [getElem!_pos z (i % z.size) hm]
  exact (Array.all_eq_true_iff_forall_mem.1 h) _ (Array.getElem_mem hm)
section
variable {P : Program} {ops : Array Oper} {rest : List Oper} {o : Oper} {a : Act} {w : World} {Q : Exit → Act → World → Prop} {G : Gnd} {l : List Asrt}
theorem run_clear_row (t e ty : TypeId) (z : Value) (ht : P.underlying t = some (.slice e)) (hz : (P.info? e).bind (·.zero) = some z) (h1 : z.cells.all (·.oneCell') = true) (g j n c : Nat) {cur : Array Value} {y : TypeId} (S : Sat G w (blk g cur y :: l)) (hb : j + n * z.cells.size ≤ cur.size) :
    ∃ w', (Builtin.clear_ #[t] ty #[.slice (some ⟨g, j, none⟩) n c]).run P w = .ok (.tuple #[]) w' ∧ Sat G w' (blk g (if n = 0 then cur else setMid cur j (Builtin.zeroCells z.cells n).toList) y :: l) := by
  cases n with
  | zero => exact ⟨w, by simp [Builtin.clear_, run_underlying ht], S⟩
  | succ n =>
    have hv : (zeroValue e).run P w = .ok z w := by
      cases hi : P.info? e with
      | none => rw [hi] at hz; simp at hz
      | some i => rw [hi] at hz; simp at hz; simp [zeroValue, typeInfo, hi, hz]
    have hlen := zeroCells_length z.cells (n + 1)
    have hth := there_blk S j ((n + 1) * z.cells.size) hb
    have hst := run_storeCells_cells (P := P) g j (Builtin.zeroCells z.cells (n + 1)).toList 0 w (fun k hk => by simpa using (hth k (by simpa [hlen] using hk)).1) (fun k hk => by simpa using (hth k (by simpa [hlen] using hk)).2) (zeroCells_all _ _ h1)
    simp only [Nat.add_zero] at hst
    refine ⟨_, ?_, by rw [if_neg (by omega)]; exact setCells_sat _ _ _ _ S⟩
    simp [Builtin.clear_, run_underlying ht, hv, hst]
theorem st_clear (hgd : o.guard = none) (x : Operand) (t : TypeId) (ho : o.op = .call { callee := .builtin .clear, args := #[x], argTypes := #[t] }) (e : TypeId) (z : Value) (ht : P.underlying t = some (.slice e)) (hz : (P.info? e).bind (·.zero) = some z) (h1 : z.cells.all (·.oneCell') = true)
    (g j n c : Nat) (hx : a.eval x = .slice (some ⟨g, j, none⟩) n c) {cur : Array Value} {y : TypeId} (S : Sat G w (blk g cur y :: l)) (hb : j + n * z.cells.size ≤ cur.size)
    (h : ∀ w', Sat G w' (blk g (if n = 0 then cur else setMid cur j (Builtin.zeroCells z.cells n).toList) y :: l) → wpList P ops Q rest (a.put o.dst (.tuple #[])) w') : wpList P ops Q (o :: rest) a w := by
  refine wpList_plain hgd fun K hK => ?_
  obtain ⟨w', hr, S'⟩ := run_clear_row t e o.type z ht hz h1 g j n c S hb
  unfold Oper.wp execOp
  simp only [ho, resolve, invoke, builtin, Sem.run_bind, Sem.run_pure, Result.andThen_ok, List.map_toArray, List.map_cons, List.map_nil, hx, hr]
  exact hK _ _ (h w' S')
end
end Go.Proofs.Ytdfdcenbpanegaa

/- append of zeros to bytes of one's own. -/
import Derived.Test.YtdfdcenbpanegaaCat
import Derived.Test.YtdfdcenbpanegaaElt
import Derived.Lib.AppendZerosOnto
set_option linter.unusedSimpArgs false
set_option linter.unusedVariables false
namespace Go.Proofs.Ytdfdcenbpanegaa
open Go.RowKit

theorem zeroCells_one (v : Value) (n : Nat) : (Builtin.zeroCells #[v] n).toList = List.replicate n v := by
  apply List.ext_getElem?
  intro k
  simp only [Builtin.zeroCells, Array.toList_map, List.getElem?_map, Array.toList_range, List.size_toArray, List.length_cons, List.length_nil, Nat.mul_one, Nat.zero_add, Nat.mod_one]
  by_cases hk : k < n
  · rw [List.getElem?_range hk, List.getElem?_replicate, if_pos hk]; rfl
  · rw [List.getElem?_eq_none (by simp; omega), List.getElem?_replicate, if_neg hk]; rfl
section
variable {G : Gnd} {w : World} {l : List Asrt}
set_option maxRecDepth 20000 in
theorem st_zeros {ops : Array Oper} {rest : List Oper} {o : Oper} {a : Act} {Q : Exit → Act → World → Prop} {v : Value} {n : Nat} {xs : List Value} (S : Sat G w (ownS 5 1 v n xs :: l)) (hgd : o.guard = none) (s x : Operand)
    (ho : o.op = .call { callee := .builtin .append, args := #[s, x], argTypes := #[22, 3] }) (hs : a.eval s = v) (k : Nat) (hx : a.eval x = .int .i64 k) (h0 : 0 < n) (hb : n + k ≤ 100000)
    (h : ∀ v' w', Sat G w' (ownS 5 1 v' (n + k) (xs ++ List.replicate k (.int .u8 0)) :: l) → wpList Try.prog ops Q rest (a.put o.dst v') w') : wpList Try.prog ops Q (o :: rest) a w := by
  obtain ⟨hl, ⟨_, h1, _⟩ | ⟨g, cap, cur, rfl, hc, hm, hsz, htk, S'⟩⟩ := own_iff.1 S
  · omega
  obtain ⟨i, hi0, hz, hsize, hby⟩ : ∃ i, Try.prog.info? 5 = some i ∧ i.zero = some (.int .u8 0) ∧ i.size = 1 ∧ i.bytes = 1 := by
    have hi := info_u8
    cases hi' : Try.prog.info? 5 with
    | none => rw [hi'] at hi; simp at hi
    | some i => rw [hi'] at hi; simp at hi; exact ⟨i, rfl, hi.1, hi.2.1, hi.2.2⟩
  have hw : IntKind.i64.wrap (k : Int) = k := by rw [IntKind.wrap_i64]; omega
  have hneg : ¬ ((k : Int) < 0) := by omega
  have h48 : ¬ (281474976710656 < (k : Int)) := by omega
  by_cases hf : n + k ≤ cap
  · have hst := run_storeCells_cells (P := Try.prog) g n (List.replicate k (.int .u8 0)) 0 w (fun j hj => by
      rw [List.length_replicate] at hj
      rw [S'.cell]; simp; omega) (fun j hj => S'.frozen _) (by intro v hv; rw [List.eq_of_mem_replicate hv]; rfl)
    simp only [Nat.add_zero] at hst
    have hst0 : k = 0 → w.setCells g n (List.replicate k (.int .u8 0)) = w := fun e => by subst e; rfl
    have hr : (Builtin.append_ #[22, 3] o.type #[.slice (some ⟨g, 0, none⟩) n cap, .int .i64 k]).run Try.prog w = .ok (.slice (some ⟨g, 0, none⟩) (n + k) cap) (w.setCells g n (List.replicate k (.int .u8 0))) := by
      have hzc := zeroCells_one (.int .u8 0) k
      by_cases hk : k = 0
      · subst hk
        have hw0 : IntKind.i64.wrap 0 = 0 := by rw [IntKind.wrap_i64]; decide
        simp [Builtin.append_, run_underlying Try.underlying22, run_underlying Try.underlying3, sizeOf, typeInfo, zeroValue, hi0, hz, hsize, hby, asInt, asIntOf, hw0, hc, Addr.add_lit, World.setCells, storeCells]
      · simp [Builtin.append_, run_underlying Try.underlying22, run_underlying Try.underlying3, sizeOf, typeInfo, zeroValue, hi0, hz, hsize, hby, asInt, asIntOf, hw, hneg, h48, hf, hk, Addr.add_lit, Value.cells, hzc, hst]
    refine Go.Lib.wpList_append_run w hgd s x _ _ ho _ _ hs hx _ _ hr ?_
    have S2 := setCells_sat (List.replicate k (.int .u8 0)) n cur w S'
    refine h _ _ (own_iff.2 ⟨by simp [hl], .inr ⟨g, cap, _, rfl, hf, hm, by rw [setMid_size]; exact hsz, ?_, S2⟩⟩)
    rw [setMid_list _ _ _ (by simp; omega)]
    simp only [Nat.mul_one] at htk ⊢
    rw [htk, List.take_left' (by simp [hl])]
  · have hold : (Builtin.firstCells i.size n (.slice (some ⟨g, 0, none⟩) n cap)).run Try.prog w.drew = .ok xs.toArray w.drew := by
      rw [hsize]
      exact run_firstCells_some w.drew 1 n _ n cap xs hl (fun j u hj => by
        have e : (⟨g, 0, none⟩ : Addr).add j = ⟨g, j, none⟩ := by unfold Addr.add; split <;> simp_all
        have hjl := (List.getElem?_eq_some_iff.1 hj).1
        rw [← htk, List.getElem?_take] at hj
        split at hj
        · rw [e, S'.drew.cell]; simpa using hj
        · cases hj)
    have hcap1 := grownCap_ge w (n + k) cap 5
    have hcap2 := grownCap_le_maxLen w (n + k) cap 5 (Nat.le_trans hb (by decide))
    have hr := Go.Lib.run_append_grow_zeros (P := Try.prog) w 22 3 o.type 5 i (.int .u8 0) .i64 .i64 Try.underlying22 Try.underlying3 hi0 hz (some ⟨g, 0, none⟩) n cap xs hold k (by omega) (by omega) (by omega) (by omega) (by rw [hby]; omega) (growslice_fits (by omega) (by rw [hby]; omega))
    refine Go.Lib.wpList_append_run w hgd s x _ _ ho _ _ hs hx _ _ hr ?_
    have S2 := S'.drop.drew.newBlk (xs.toArray ++ Builtin.zeroCells (Value.int .u8 0).cells k ++ Builtin.zeroCells (Value.int .u8 0).cells (grownCap w (n + k) cap 5 - (n + k))) 5
    refine h _ _ (own_iff.2 ⟨by simp [hl], .inr ⟨_, _, _, rfl, hcap1, hcap2, ?_, ?_, S2⟩⟩)
    · simp [Builtin.zeroCells, Value.cells]; omega
    · rw [show (Value.int IntKind.u8 0).cells = #[.int .u8 0] from rfl, Array.toList_append, Array.toList_append, zeroCells_one, List.take_left' (by simp; omega)]
end
end Go.Proofs.Ytdfdcenbpanegaa

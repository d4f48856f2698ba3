/- append of bytes, where what was there is looked at again. -/
import Derived.Test.YtkjeeogifdmeoaaCat
set_option linter.unusedSimpArgs false
set_option linter.unusedVariables false
namespace Go.Proofs.Ytkjeeogifdmeoaa
open Go.RowKit

theorem Sat.dropL {G : Gnd} {w : World} {l : List Asrt} : ∀ L : List Asrt, Sat G w (L ++ l) → Sat G w l
  | [], H => H
  | _ :: L, H => Sat.dropL L (Sat.drop H)
theorem info_u8' : ∃ i, Try.prog.info? 5 = some i ∧ i.zero = some (.int .u8 0) ∧ i.size = 1 ∧ i.bytes = 1 := by
  have hi := info_u8
  cases hi' : Try.prog.info? 5 with
  | none => rw [hi'] at hi; simp at hi
  | some i => rw [hi'] at hi; simp at hi; exact ⟨i, rfl, hi.1, hi.2.1, hi.2.2⟩
theorem st_app2 {G : Gnd} {w : World} {l : List Asrt} {ops : Array Oper} {rest : List Oper} {o : Oper} {a : Act} {Q : Exit → Act → World → Prop} {B : Option Addr} {cp : Nat} {bs0 : List UInt8} (S : Sat G w (ownS 5 1 (.slice B bs0.length cp) bs0.length (bs0.map byteV) :: l)) (hgd : o.guard = none) (s x : Operand)
    (ho : o.op = .call { callee := .builtin .append, args := #[s, x], argTypes := #[31, 31] }) (hs : a.eval s = .slice B bs0.length cp)
    {A : Option Addr} {c : Nat} {bs : List UInt8} (hx : a.eval x = .slice A bs.length c) (hb : SlV w.cell? (.slice A bs.length c) bs.length (bs.map byteV)) (h0 : 0 < bs.length) (hm : bs0.length + bs.length ≤ 140737488355328)
    (h : ∀ A' c' w' L, Sat G w' (L ++ l) → (∀ G' W, Sat G' W (L ++ l) → SlB W.cell? (.slice A' (bs0 ++ bs).length c') (bs0 ++ bs) ∧ SlB W.cell? (.slice B bs0.length cp) bs0) → wpList Try.prog ops Q rest (a.put o.dst (.slice A' (bs0 ++ bs).length c')) w') : wpList Try.prog ops Q (o :: rest) a w := by
  obtain ⟨A', c', e, q1, q2, hel⟩ := hb
  cases e
  have hmx : bs0.length + bs.length ≤ maxLen := Nat.le_trans hm (by decide)
  obtain ⟨ad, rfl⟩ : ∃ ad, A = some ad := by
    obtain ⟨a', e, _⟩ := hel 0 (byteV bs[0]) (by simp [h0])
    exact ⟨a', e⟩
  have hnews : ∀ j u, (bs.map byteV)[j]? = some u → w.cell? (ad.add j) = some u := fun j u hj => by
    obtain ⟨a', e, h⟩ := hel j u hj
    cases e; exact h
  have h1 : ∀ u ∈ bs.map byteV, u.oneCell' = true := by simp [byteV, Value.oneCell']
  obtain ⟨i, hi, hz, hsz, hby⟩ := info_u8'
  obtain ⟨hl, ⟨e, e0, S1⟩ | ⟨g, cap, cur, e, p1, p2, p3, p4, S1⟩⟩ := own_iff.1 S
  · injection e with e1 e2 e3
    subst e1; subst e3
    have eb : bs0 = [] := List.eq_nil_of_length_eq_zero e0
    subst eb
    refine st_app S hgd s x ho hs hx ⟨_, _, rfl, q1, q2, hel⟩ (fun h => by cases h) (by simpa using hm) (fun v' w' S' => ?_)
    simp only [List.map_nil, List.nil_append, List.length_nil, Nat.zero_add] at S'
    obtain ⟨A2, c2, rfl, -, -, -⟩ := S'.ownForm
    exact h A2 c2 w' [_] S' (fun _ W SW => ⟨own_slb SW, SlB.nil _⟩)
  · injection e with e1 e2 e3
    subst e1; subst e3
    simp only [Nat.mul_one] at p3 p4
    by_cases hroom : bs0.length + bs.length ≤ cp
    · have hr := fun ty => run_append_room (P := Try.prog) w 31 ty 5 i Try.underlying31 hi g bs0.length cp cur S1.blk_at ad bs.length c (bs.map byteV) (by rw [hsz]; simp) hnews h1 hroom (by rw [hsz, p3]; simp; omega)
      refine Go.Lib.wpList_append_run w hgd s x _ _ ho _ _ hs hx _ _ (hr _) ?_
      have S2 := S1.setRow (cur.toList.take (bs0.length * i.size) ++ bs.map byteV ++ cur.toList.drop (bs0.length * i.size + (bs.map byteV).length)).toArray
      have S3 : Sat G _ (ownS 5 1 (.slice (some ⟨g, 0, none⟩) (bs0 ++ bs).length cp) (bs0 ++ bs).length ((bs0 ++ bs).map byteV) :: l) := own_iff.2 ⟨by simp, .inr ⟨g, cp, _, rfl, by rw [List.length_append]; exact hroom, p2, by rw [hsz]; simp [p3]; omega, by
        rw [hsz, Nat.mul_one, Nat.mul_one, p4]
        simp only [List.length_map]
        rw [List.take_left' (by simp), List.map_append], S2⟩⟩
      rw [← List.length_append]
      refine h _ _ _ [_] S3 (fun _ W SW => ?_)
      have hb1 := own_slb SW
      refine ⟨hb1, ?_⟩
      have := hb1.to bs0.length (by simp) cp (by omega) (Nat.le_refl _)
      rwa [List.take_left' rfl] at this
    · have hr := fun ty => run_append_grow (P := Try.prog) w 31 ty 5 i (.int .u8 0) Try.underlying31 hi hz ⟨g, 0, none⟩ bs0.length cp (bs0.map byteV) (by rw [hsz]; simp) (fun j v hj => by
          have e : (⟨g, 0, none⟩ : Addr).add j = ⟨g, j, none⟩ := by unfold Addr.add; split <;> simp_all
          rw [e, S1.cell j, ← Array.getElem?_toList]
          rw [← p4, List.getElem?_take] at hj
          split at hj
          · exact hj
          · cases hj) ad bs.length c (bs.map byteV) (by rw [hsz]; simp) hnews (by omega) (by omega) (by rw [hby]; exact growslice_fits (by omega) (by omega))
      refine Go.Lib.wpList_append_run w hgd s x _ _ ho _ _ hs hx _ _ (hr _) ?_
      have hc1 := grownCap_ge w (bs0.length + bs.length) cp 5
      have hc2 := grownCap_le_maxLen w (bs0.length + bs.length) cp 5 hmx
      have S2 := S.drew.newBlk ((bs0.map byteV).toArray ++ (bs.map byteV).toArray ++ Builtin.zeroCells (Value.int .u8 0).cells (grownCap w (bs0.length + bs.length) cp 5 - (bs0.length + bs.length))) 5
      have S3 : Sat G _ (ownS 5 1 (.slice (some ⟨w.drew.heap.size, 0, none⟩) (bs0 ++ bs).length (grownCap w (bs0.length + bs.length) cp 5)) (bs0 ++ bs).length ((bs0 ++ bs).map byteV) :: _) := own_iff.2 ⟨by simp, .inr ⟨_, _, _, rfl, by rw [List.length_append]; exact hc1, hc2, by simp [Builtin.zeroCells, Value.cells]; omega, by simp; rw [← List.append_assoc, List.take_left' (by simp)], S2⟩⟩
      rw [← List.length_append] at S3 ⊢
      exact h _ _ _ [_, _] S3 (fun _ W SW => ⟨own_slb SW, own_slb SW.drop⟩)
end Go.Proofs.Ytkjeeogifdmeoaa

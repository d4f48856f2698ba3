/- Fields of a block of one's own: a store of one cell, of several in the midst; a load of several in the midst; elements that are handed to append. -/
import Derived.Test.YtdfdcenbpanegaaCall
import Derived.Test.YtdfdcenbpanegaaOwn
import Derived.Deep.MidRow
import Derived.Deep.RegionHeld
set_option linter.unusedSimpArgs false
set_option linter.unusedVariables false
namespace Go.Proofs.Ytdfdcenbpanegaa
open Go.RowKit

theorem cells_one {v : Value} (h : v.oneCell' = true) : v.cells = #[v] := by cases v <;> first | rfl | simp [Value.oneCell'] at h
theorem Sat.ownSlice {G : Gnd} {w : World} {l : List Asrt} {e : TypeId} {size : Nat} {v : Value} {n : Nat} {xs : List Value} (H : Sat G w (ownS e size v n xs :: l)) : ∃ A c, v = .slice A n c ∧ n ≤ c ∧ c ≤ maxLen ∧ (A = none → c = 0) := by
  obtain ⟨_, ⟨rfl, rfl, _⟩ | ⟨g, cap, cur, rfl, h1, h2, _, _, _⟩⟩ := own_iff.1 H
  · exact ⟨none, 0, rfl, Nat.le_refl _, Nat.zero_le _, fun _ => rfl⟩
  · exact ⟨_, cap, rfl, h1, h2, fun h => by cases h⟩
/-- Cells from o on are written. -/
def setMid (cs : Array Value) (o : Nat) : List Value → Array Value
  | [] => cs
  | v :: l => setMid (cs.setIfInBounds o v) (o + 1) l
theorem setMid_size (l : List Value) : ∀ (cs : Array Value) (o : Nat), (setMid cs o l).size = cs.size := by
  induction l with
  | nil => intros; rfl
  | cons v l ih => intro cs o; rw [setMid, ih]; simp
section
variable {P : Program} {ops : Array Oper} {rest : List Oper} {o : Oper} {a : Act} {w : World} {Q : Exit → Act → World → Prop} {G : Gnd} {l : List Asrt}
theorem blk_cells {g : Nat} {cs : Array Value} {t : TypeId} (S : Sat G w (blk g cs t :: l)) (j : Nat) (u : Value) (hj : cs.toList[j]? = some u) : w.cell? ((⟨g, 0, none⟩ : Addr).add j) = some u := by
  have e : (⟨g, 0, none⟩ : Addr).add j = ⟨g, j, none⟩ := by unfold Addr.add; split <;> simp_all
  rw [e, S.cell j]; simpa using hj
theorem setCells_sat {b : Nat} {t : TypeId} : ∀ (vs : List Value) (o : Nat) (cs : Array Value) (w : World), Sat G w (blk b cs t :: l) → Sat G (w.setCells b o vs) (blk b (setMid cs o vs) t :: l)
  | [], _, _, _, S => S
  | v :: r, o, cs, w, S => setCells_sat r (o + 1) _ _ (S.setCell o v)
theorem there_blk {b : Nat} {cs : Array Value} {t : TypeId} (S : Sat G w (blk b cs t :: l)) (o n : Nat) (h : o + n ≤ cs.size) : w.there b o n := fun j hj => by
  rw [S.cell, S.frozen]
  exact ⟨by simp; omega, rfl⟩
/-- The run of a store: whatever the value. -/
theorem run_store_any (ty : TypeId) (b o : Nat) (v : Value) (cs : Array Value) (hv : v.cells = cs) (h1 : cs.all (·.oneCell') = true) (hi : (P.info? ty).map (·.size) = some cs.size) (ht : w.there b o cs.size) :
    (Instr.storeAt ty (.pointer (some ⟨b, o, none⟩)) v).run P w = .ok () (w.setCells b o cs.toList) := by
  have := run_storeCells_cells (P := P) b o cs.toList 0 w (fun j hj => by simpa using (ht j (by simpa using hj)).1) (fun j hj => by simpa using (ht j (by simpa using hj)).2)
    (fun v hv => (Array.all_eq_true_iff_forall_mem.1 h1) v (by simpa using hv))
  cases hq : P.info? ty with
  | none => simp [hq] at hi
  | some i =>
    have hs : cs.size = i.size := by simp [hq] at hi; omega
    simp only [Nat.add_zero] at this
    simp [Instr.storeAt, Instr.sureAddr, storeVar, sizeOf, typeInfo, hq, hv, hs, this]
/-- A store into the midst of a block of one's own. -/
theorem st_mid (hgd : o.guard = none) (ty : TypeId) (x y : Operand) (ho : o.op = .store ty x y) (g j : Nat) (v : Value) (cs : Array Value) (hx : a.eval x = .pointer (some ⟨g, j, none⟩)) (hy : a.eval y = v) (hv : v.cells = cs)
    (t : TypeId) (old : Array Value) (S : Sat G w (blk g old t :: l)) (hi : (P.info? ty).map (·.size) = some cs.size) (hold : j + cs.size ≤ old.size) (h1 : cs.all (·.oneCell') = true)
    (h : ∀ w', Sat G w' (blk g (setMid old j cs.toList) t :: l) → wpList P ops Q rest (a.put o.dst undef) w') : wpList P ops Q (o :: rest) a w := by
  refine wpList_plain hgd fun K hK => ?_
  unfold Oper.wp execOp
  simp only [ho, hx, hy, Sem.run_bind, run_store_any ty g j v cs hv h1 hi (there_blk S j cs.size hold), Sem.run_pure, Result.andThen_ok]
  exact hK _ _ (h _ (setCells_sat _ _ _ _ S))
/-- A store of one cell. -/
theorem st_set (hgd : o.guard = none) (ty : TypeId) (x y : Operand) (ho : o.op = .store ty x y) (g j : Nat) (v : Value) (hx : a.eval x = .pointer (some ⟨g, j, none⟩)) (hy : a.eval y = v) (hv : v.oneCell' = true)
    (t : TypeId) (old : Array Value) (S : Sat G w (blk g old t :: l)) (hi : (P.info? ty).map (·.size) = some 1) (hold : j < old.size)
    (h : ∀ w', Sat G w' (blk g (old.setIfInBounds j v) t :: l) → wpList P ops Q rest (a.put o.dst undef) w') : wpList P ops Q (o :: rest) a w :=
  st_mid hgd ty x y ho g j v #[v] hx hy (cells_one hv) t old S hi (by simp; omega) (by simp [hv]) h
/-- A load out of the midst of a block of one's own. -/
theorem st_get (hgd : o.guard = none) (ty : TypeId) (x : Operand) (ho : o.op = .load ty x) (g j : Nat) (hx : a.eval x = .pointer (some ⟨g, j, none⟩)) (t : TypeId) (cs : Array Value) (S : Sat G w (blk g cs t :: l)) (vs : List Value)
    (hvs : ∀ i v, vs[i]? = some v → cs[j + i]? = some v) (d : TypeDesc) (hu : P.underlying ty = some d) (hd : (match d with | .struct _ | .array _ _ => true | _ => false) = true) (hi : (P.info? ty).map (·.size) = some vs.length)
    (h : wpList P ops Q rest (a.put o.dst (.agg vs.toArray)) w) : wpList P ops Q (o :: rest) a w :=
  wpList_load_mid hgd ty x ho g j hx vs d (fun i v hv => by rw [S.cell]; exact hvs i v hv) hu (by cases d <;> simp_all) hi h
end
end Go.Proofs.Ytdfdcenbpanegaa

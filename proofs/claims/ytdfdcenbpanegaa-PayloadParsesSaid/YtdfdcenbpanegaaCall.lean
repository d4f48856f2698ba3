/- Small words for walks: an end that the walk does not look into; a cell written with what it holds. -/
import Derived.Test.YtdfdcenbpanegaaProg
import Derived.Test.YtdfdcenbpanegaaSat
import Derived.WalkKit
import Derived.Lib.Hide
set_option linter.unusedSimpArgs false
set_option linter.unusedVariables false
namespace Go.Proofs.Ytdfdcenbpanegaa
open Go.RowKit

theorem calls_any {P : Program} {f : FuncId} {args : Array Value} {w : World} {R : Ending → World → Prop}
    (h : ∀ K : Ending → World → Prop, Hid (∀ e w', R e w' → K e w') → Calls P f args w K) : Calls P f args w R := h R (fun _ _ h => h)
theorem setCell_self {w : World} {a : Addr} {v : Value} (h : w.cell? a = some v) : w.setCell a v = w := by
  have hh : (w.setCell a v).heap = w.heap := by
    apply Array.ext_getElem?
    intro i
    unfold World.cell? at h
    simp only [World.setCell, Array.getElem?_modify]
    split
    · rename_i hi
      subst hi
      split at h
      · rename_i c t fr hb
        rw [hb]
        simp only [Option.map_some, Option.some.injEq, Obj.cells.injEq, and_true]
        split
        · rfl
        · rename_i hs
          simp only [hs] at h
          apply Array.ext_getElem?
          intro j
          rw [Array.getElem?_setIfInBounds]
          split
          · rename_i hj
            subst hj
            have hlt : a.off < c.size := by
              rcases Nat.lt_or_ge a.off c.size with h' | h'
              · exact h'
              · simp [Array.getElem?_eq_none h'] at h
            simp only [hlt, if_true]
            simpa using h.symm
          · rfl
      · simp at h
    · rfl
  cases w
  simp only [World.setCell] at hh ⊢
  rw [hh]
theorem setRow_block (w : World) (g : Nat) (cs : Array Value) (k : Nat) (h : k ≠ g) : (w.setRow g cs).heap[k]? = w.heap[k]? := by
  simp only [World.setRow, Array.getElem?_modify]
  rw [if_neg (by omega)]
theorem setRow_at {w : World} {g : Nat} {old : Array Value} {t : TypeId} {fr : Nat × Nat} (h : w.heap[g]? = some (.cells old t fr)) (cs : Array Value) : (w.setRow g cs).heap[g]? = some (.cells cs t fr) := by
  simp [World.setRow, Array.getElem?_modify, h]
theorem below_setRow {B : Nat} {a w : World} (h : Below B a w) {g : Nat} (hg : B ≤ g) (cs : Array Value) : Below B a (w.setRow g cs) :=
  h.trans ⟨rfl, rfl, rfl, by simp [World.setRow], fun k hk => setRow_block _ _ _ _ (by omega)⟩
theorem below_drew {B : Nat} {a w : World} (h : Below B a w) : Below B a { w with drawn := w.drawn + 1 } := h.drew
theorem Sat.setRow {G : Gnd} {w : World} {l : List Asrt} {b : Nat} {c : Array Value} {t : TypeId} (H : Sat G w (blk b c t :: l)) (cs : Array Value) : Sat G (w.setRow b cs) (blk b cs t :: l) :=
  H.setRow' cs rfl rfl rfl rfl
section
variable {P : Program} {ops : Array Oper} {rest : List Oper} {o : Oper} {a : Act} {w : World} {Q : Exit → Act → World → Prop} {G : Gnd} {l : List Asrt}
/-- A whole row is stored into a block of one's own: the world is a letter then. -/
theorem st_store (hgd : o.guard = none) (ty : TypeId) (x y : Operand) (ho : o.op = .store ty x y) (g : Nat) (cells : Array Value) (hx : a.eval x = .pointer (some ⟨g, 0, none⟩)) (hy : a.eval y = .agg cells)
    (t : TypeId) (old : Array Value) (S : Sat G w (blk g old t :: l)) (hi : (P.info? ty).map (·.size) = some cells.size) (hold : old.size = cells.size) (h1 : cells.all (·.oneCell') = true)
    (h : ∀ w', Sat G w' (blk g cells t :: l) → wpList P ops Q rest (a.put o.dst undef) w') : wpList P ops Q (o :: rest) a w :=
  wpList_store_row hgd ty x y ho g cells hx hy t old S.blk_at hi hold h1 (h _ (S.setRow cells))
/-- A whole block of one's own is loaded. -/
theorem st_load (hgd : o.guard = none) (ty : TypeId) (x : Operand) (ho : o.op = .load ty x) (g : Nat) (hx : a.eval x = .pointer (some ⟨g, 0, none⟩)) (t : TypeId) (cs : Array Value) (S : Sat G w (blk g cs t :: l)) (d : TypeDesc)
    (hu : P.underlying ty = some d) (hd : (match d with | .struct _ | .array _ _ => true | _ => false) = true) (hi : (P.info? ty).map (·.size) = some cs.size)
    (h : wpList P ops Q rest (a.put o.dst (.agg cs)) w) : wpList P ops Q (o :: rest) a w :=
  wpList_load_row hgd ty x ho g hx t cs (0, 0) d S.blk_at hu hd hi h
end
/-- The result lies in a block of one's own. -/
theorem ret_cell {P : Program} {fn : Func} {K : Ending → World → Prop} {a : Act} {w : World} {G : Gnd} {l : List Asrt} {g : Nat} {cs : Array Value} {t : TypeId} (S : Sat G w (blk g cs t :: l)) (p : Tmp) (ty : TypeId) (h : fn.results = #[.cell p ty]) (d : TypeDesc)
    (hp : a.tmps.getD p undef = .pointer (some ⟨g, 0, none⟩)) (hu : P.underlying ty = some d) (hd : (match d with | .struct _ | .array _ _ => true | _ => false) = true) (hi : (P.info? ty).map (·.size) = some cs.size)
    (ha : a.defers = []) (hK : K (.returned (.agg cs)) w) : bodyPost P fn K .ret a w :=
  bodyPost_ret (results_cell_row h _ _ g t cs (0, 0) d hp S.blk_at hu hd hi) ha hK
theorem results_cells3 {P : Program} {fn : Func} {p1 p2 p3 : Tmp} {y1 y2 y3 : TypeId} (h : fn.results = #[.cell p1 y1, .cell p2 y2, .cell p3 y3]) (tmps : Array Value) (w : World) (g1 g2 g3 : Nat) (t1 t2 t3 : TypeId) (c1 c2 c3 : Array Value) (d1 d2 d3 : TypeDesc)
    (hp1 : tmps.getD p1 undef = .pointer (some ⟨g1, 0, none⟩)) (hg1 : w.heap[g1]? = some (.cells c1 t1 (0, 0))) (hu1 : P.underlying y1 = some d1) (hd1 : (match d1 with | .struct _ | .array _ _ => true | _ => false) = true) (hi1 : (P.info? y1).map (·.size) = some c1.size)
    (hp2 : tmps.getD p2 undef = .pointer (some ⟨g2, 0, none⟩)) (hg2 : w.heap[g2]? = some (.cells c2 t2 (0, 0))) (hu2 : P.underlying y2 = some d2) (hd2 : (match d2 with | .struct _ | .array _ _ => true | _ => false) = true) (hi2 : (P.info? y2).map (·.size) = some c2.size)
    (hp3 : tmps.getD p3 undef = .pointer (some ⟨g3, 0, none⟩)) (hg3 : w.heap[g3]? = some (.cells c3 t3 (0, 0))) (hu3 : P.underlying y3 = some d3) (hd3 : (match d3 with | .struct _ | .array _ _ => true | _ => false) = true) (hi3 : (P.info? y3).map (·.size) = some c3.size) :
    (results fn tmps).run P w = .ok (.tuple #[.agg c1, .agg c2, .agg c3]) w := by
  have h1 : tmps[p1]?.getD undef = .pointer (some ⟨g1, 0, none⟩) := by simpa using hp1
  have h2 : tmps[p2]?.getD undef = .pointer (some ⟨g2, 0, none⟩) := by simpa using hp2
  have h3 : tmps[p3]?.getD undef = .pointer (some ⟨g3, 0, none⟩) := by simpa using hp3
  simp [results, h, h1, h2, h3, asAddr, run_loadVar_row w g1 t1 y1 c1 (0, 0) d1 hg1 hu1 hd1 hi1, run_loadVar_row w g2 t2 y2 c2 (0, 0) d2 hg2 hu2 hd2 hi2, run_loadVar_row w g3 t3 y3 c3 (0, 0) d3 hg3 hu3 hd3 hi3]
theorem results_cell_t {P : Program} {fn : Func} {p1 p2 : Tmp} {y1 : TypeId} (h : fn.results = #[.cell p1 y1, .tmp p2]) (tmps : Array Value) (w : World) (g1 : Nat) (t1 : TypeId) (c1 : Array Value) (d1 : TypeDesc)
    (hp1 : tmps.getD p1 undef = .pointer (some ⟨g1, 0, none⟩)) (hg1 : w.heap[g1]? = some (.cells c1 t1 (0, 0))) (hu1 : P.underlying y1 = some d1) (hd1 : (match d1 with | .struct _ | .array _ _ => true | _ => false) = true) (hi1 : (P.info? y1).map (·.size) = some c1.size) :
    (results fn tmps).run P w = .ok (.tuple #[.agg c1, tmps.getD p2 undef]) w := by
  have h1 : tmps[p1]?.getD undef = .pointer (some ⟨g1, 0, none⟩) := by simpa using hp1
  simp [results, h, h1, asAddr, run_loadVar_row w g1 t1 y1 c1 (0, 0) d1 hg1 hu1 hd1 hi1]
end Go.Proofs.Ytdfdcenbpanegaa

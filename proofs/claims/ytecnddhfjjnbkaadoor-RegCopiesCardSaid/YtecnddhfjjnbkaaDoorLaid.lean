/- The table, out of the row's own condition. -/
import Derived.Test.YtecnddhfjjnbkaaDoorDo
import Derived.Test.YtecnddhfjjnbkaaDoorArgs
import Derived.LaidMore
import Derived.Lib.LaidTab
import Derived.MakeChecks
import Derived.Test.YtecnddhfjjnbkaaDoorRows
set_option linter.unusedSimpArgs false
set_option linter.unusedVariables false
namespace Go.Proofs.YtecnddhfjjnbkaaDoor
open Go.RowKit

theorem row_cells {H : Type} {enc : TypeId × Value → H} {P : Program} {w : World} {base : Nat} {sp : Nat → Bool} {held : Bool} {fuel : Nat} {t e : TypeId} {n m : Nat} {k : IntKind} {cs : List Value} {zss : List (List Int)} {p : List MemPlace} {te : TypeId}
    (ht : P.underlying t = some (.array m te)) (hte : P.underlying te = some (.array n e)) (he : P.underlying e = some (.int k)) (hce : P.cellsOf e = 1) (hcte : P.cellsOf te = n) (hct : P.cellsOf t = m * n)
    (h : DataW.trod enc P w base sp held fuel t cs = some (.agg (zss.map fun zs => Lib.tabData k zs), p)) : cs.length = m * n ∧ zss.length = m ∧ ∀ i zs, zss[i]? = some zs → (cs.drop (i * n)).take n = zs.map fun z => Value.int k z := by
  obtain ⟨xs, m', rfl, hx, hl, hxl, hel⟩ := DataW.trod_array ht h
  have hx1 : zss.map (fun zs => (Lib.tabData k zs : DataW H)) = xs.map (·.1) := by
    have := congrArg Prod.fst hx
    simpa using this
  have hzl : zss.length = m := by
    have := congrArg List.length hx1
    simp at this; omega
  refine ⟨by rw [hl, hct], hzl, fun i zs hi => ?_⟩
  have hlt := (List.getElem?_eq_some_iff.1 hi).1
  have hxi : ∃ q, xs[i]? = some (Lib.tabData k zs, q) := by
    have e1 : (xs.map (·.1))[i]? = some (Lib.tabData k zs) := by rw [← hx1, List.getElem?_map, hi]; rfl
    rw [List.getElem?_map] at e1
    cases hxx : xs[i]? with
    | none => rw [hxx] at e1; cases e1
    | some y =>
      rw [hxx] at e1
      simp only [Option.map_some, Option.some.injEq] at e1
      exact ⟨y.2, by rw [← e1]⟩
  obtain ⟨q, hq⟩ := hxi
  have h2 := hel i (by omega)
  rw [hcte, hq] at h2
  exact Lib.cells_of_tab hte he hce hcte h2
theorem tab_of_laid {W : World} (hg : Tryd.prog.globalNamed "squint/state.table" = some 0) (htt : (Tryd.prog.globals[0]?).map (·.type) = some 101) (h : laidMetH Tryd.prog [("squint/state.table", (Rows.laid_squint_state_table : DataW Unit))] W) : TabW W := by
  rw [MakeChecks.laidMetH_plain _ _ _ (by kernel_rfl)] at h
  obtain ⟨ps, ⟨g0, t0, cs0, f0, p0, q0, hg0, ht0, hv0, hd0, _⟩, _⟩ := h
  obtain rfl := Option.some.inj (hg.symm.trans hg0)
  obtain rfl := Option.some.inj (htt.symm.trans ht0)
  have hr := row_cells (zss := [[1, -1, -1, -1, -2, -2, -2, -2, -2], [1, 1, 3, 4, 1, 1, 2, 4, 1], [2, 2, 4, 4, -3, -3, -3, 4, 2], [-1, -1, -1, 4, 3, 3, 4, 4, 3], [-1, -1, -1, -1, -3, -3, -3, 4, 4]]) (k := .i64) Tryd.underlying101 Tryd.underlying100 Tryd.underlying50 (by kernel_rfl) (by kernel_rfl) (by kernel_rfl) hd0
  obtain ⟨hl, -, hz⟩ := hr
  intro k hk
  have hc := World.var?_cell hg hv0 k
  have hcl : cs0[k]? = some (.int .i64 (tabL.getD k 0)) := by
    have key : cs0.toList = tabL.map (Value.int .i64) := by
      have h0 := hz 0 _ rfl
      have h1 := hz 1 _ rfl
      have h2 := hz 2 _ rfl
      have h3 := hz 3 _ rfl
      have h4 := hz 4 _ rfl
      have e : cs0.toList = (cs0.toList.drop (0 * 9)).take 9 ++ ((cs0.toList.drop (1 * 9)).take 9 ++ ((cs0.toList.drop (2 * 9)).take 9 ++ ((cs0.toList.drop (3 * 9)).take 9 ++ (cs0.toList.drop (4 * 9)).take 9))) := by
        have a4 : (cs0.toList.drop (4 * 9)).take 9 = cs0.toList.drop (4 * 9) := List.take_of_length_le (by rw [List.length_drop]; omega)
        rw [a4]
        have st : ∀ (j : Nat), (cs0.toList.drop (j * 9)).take 9 ++ cs0.toList.drop ((j + 1) * 9) = cs0.toList.drop (j * 9) := fun j => by
          rw [show (j + 1) * 9 = j * 9 + 9 by omega, ← List.drop_drop, List.take_append_drop]
        rw [st 3, st 2, st 1, st 0]; rfl
      rw [e, h0, h1, h2, h3, h4]; rfl
    have := congrArg (fun l => l[k]?) key
    simp only [Array.getElem?_toList, List.getElem?_map] at this
    rw [this, List.getD_eq_getElem?_getD]
    have : k < tabL.length := hk
    rw [List.getElem?_eq_getElem this]; rfl
  rw [hc, hcl]
end Go.Proofs.YtecnddhfjjnbkaaDoor

/- The table, out of the row's own condition. outbound's laws: may, and a config as an argument. -/
import Derived.Test.YtcecfhfbcdbofaaGreatDoorG7
import Derived.LaidMore
import Derived.Lib.LaidTab
import Derived.MakeChecks
import Derived.Test.YtcecfhfbcdbofaaGreatDoorRows
set_option linter.unusedSimpArgs false
set_option linter.unusedVariables false
namespace Go.Proofs.YtcecfhfbcdbofaaGreatDoor
open Go.RowKit

theorem row_cells {H : Type} {enc : TypeId × Value → H} {P : Program} {w : World} {base : Nat} {sp : Nat → Bool} {held : Bool} {fuel : Nat} {t e : TypeId} {n m : Nat} {k : IntKind} {cs : List Value} {zss : List (List Int)} {p : List MemPlace} {te : TypeId}
    (ht : P.underlying t = some (.array m te)) (hte : P.underlying te = some (.array n e)) (he : P.underlying e = some (.int k)) (hce : P.cellsOf e = 1) (hcte : P.cellsOf te = n) (hct : P.cellsOf t = m * n)
    (h : DataW.trod enc P w base sp held fuel t cs = some (.agg (zss.map fun zs => Lib.tabData k zs), p)) : cs.length = m * n ∧ zss.length = m ∧ ∀ i zs, zss[i]? = some zs → (cs.drop (i * n)).take n = zs.map fun z => Value.int k z := by
  obtain ⟨xs, m', rfl, hx, hl, hxl, hel⟩ := DataW.trod_array ht h
  have hx1 : zss.map (fun zs => (Lib.tabData k zs : DataW H)) = xs.map (·.1) := by
    have := congrArg Prod.fst hx
    simpa using this
  have hzl : zss.length = m := by
    have := congrArg List.length hx1
    simp at this; omega
  refine ⟨by rw [hl, hct], hzl, fun i zs hi => ?_⟩
  have hlt := (List.getElem?_eq_some_iff.1 hi).1
  have hxi : ∃ q, xs[i]? = some (Lib.tabData k zs, q) := by
    have e1 : (xs.map (·.1))[i]? = some (Lib.tabData k zs) := by rw [← hx1, List.getElem?_map, hi]; rfl
    rw [List.getElem?_map] at e1
    cases hxx : xs[i]? with
    | none => rw [hxx] at e1; cases e1
    | some y =>
      rw [hxx] at e1
      simp only [Option.map_some, Option.some.injEq] at e1
      exact ⟨y.2, by rw [← e1]⟩
  obtain ⟨q, hq⟩ := hxi
  have h2 := hel i (by omega)
  rw [hcte, hq] at h2
  exact Lib.cells_of_tab hte he hce hcte h2
theorem tab_of_laid {W : World} (hg : Tryz.prog.globalNamed "squint/state.table" = some 0) (htt : (Tryz.prog.globals[0]?).map (·.type) = some 194) (h : laidMetH Tryz.prog [("squint/state.table", (Rows.laid_squint_state_table : DataW Unit))] W) : TabW W := by
  rw [MakeChecks.laidMetH_plain _ _ _ (by kernel_rfl)] at h
  obtain ⟨ps, ⟨g0, t0, cs0, f0, p0, q0, hg0, ht0, hv0, hd0, _⟩, _⟩ := h
  obtain rfl := Option.some.inj (hg.symm.trans hg0)
  obtain rfl := Option.some.inj (htt.symm.trans ht0)
  have hr := row_cells (zss := [[1, -1, -1, -1, -2, -2, -2, -2, -2], [1, 1, 3, 4, 1, 1, 2, 4, 1], [2, 2, 4, 4, -3, -3, -3, 4, 2], [-1, -1, -1, 4, 3, 3, 4, 4, 3], [-1, -1, -1, -1, -3, -3, -3, 4, 4]]) (k := .i64) Tryz.underlying194 Tryz.underlying193 Tryz.underlying131 (by kernel_rfl) (by kernel_rfl) (by kernel_rfl) hd0
  obtain ⟨hl, -, hz⟩ := hr
  intro k hk
  have hc := World.var?_cell hg hv0 k
  have hcl : cs0[k]? = some (.int .i64 (tabL.getD k 0)) := by
    have key : cs0.toList = tabL.map (Value.int .i64) := by
      have h0 := hz 0 _ rfl
      have h1 := hz 1 _ rfl
      have h2 := hz 2 _ rfl
      have h3 := hz 3 _ rfl
      have h4 := hz 4 _ rfl
      have e : cs0.toList = (cs0.toList.drop (0 * 9)).take 9 ++ ((cs0.toList.drop (1 * 9)).take 9 ++ ((cs0.toList.drop (2 * 9)).take 9 ++ ((cs0.toList.drop (3 * 9)).take 9 ++ (cs0.toList.drop (4 * 9)).take 9))) := by
        have a4 : (cs0.toList.drop (4 * 9)).take 9 = cs0.toList.drop (4 * 9) := List.take_of_length_le (by rw [List.length_drop]; omega)
        rw [a4]
        have st : ∀ (j : Nat), (cs0.toList.drop (j * 9)).take 9 ++ cs0.toList.drop ((j + 1) * 9) = cs0.toList.drop (j * 9) := fun j => by
          rw [show (j + 1) * 9 = j * 9 + 9 by omega, ← List.drop_drop, List.take_append_drop]
        rw [st 3, st 2, st 1, st 0]; rfl
      rw [e, h0, h1, h2, h3, h4]; rfl
    have := congrArg (fun l => l[k]?) key
    simp only [Array.getElem?_toList, List.getElem?_map] at this
    rw [this, List.getD_eq_getElem?_getD]
    have : k < tabL.length := hk
    rw [List.getElem?_eq_getElem this]; rfl
  rw [hc, hcl]
end Go.Proofs.YtcecfhfbcdbofaaGreatDoor
set_option linter.unusedSimpArgs false
set_option linter.unusedVariables false
namespace Go.Proofs.YtcecfhfbcdbofaaGreatDoor
open Go.RowKit
attribute [local go_sem] Oper.semAt_some

theorem rd_int1 {R : Hp} {k : IntKind} {d : D} {c : List Value} (h : Rd R (.int k) d c) : ∃ n, c = [.int k n] := by
  cases d <;> simp only [Rd] at h
  exact ⟨_, h.1⟩
theorem rd_bool1 {R : Hp} {d : D} {c : List Value} (h : Rd R .bool d c) : ∃ n, c = [.bool n] := by
  cases d <;> simp only [Rd] at h
  exact ⟨_, h⟩
theorem rd_bytes1 {R : Hp} {d : D} {c : List Value} (hl : c.length = 1) (h : Rd R (.sl 1 (.int .u8)) d c) : ∃ v t, c = [v] ∧ SlB (Go.Proofs.YtcecfhfbcdbofaaGreatDoor.cellR R) v t ∧ t.length ≤ 140737488351232 := by
  obtain ⟨l, rfl⟩ : ∃ l, d = .sl l := by cases d <;> (try simp only [Rd] at h) <;> exact ⟨_, rfl⟩
  obtain ⟨v, rfl⟩ : ∃ v, c = [v] := by
    match c, hl with
    | [v], _ => exact ⟨v, rfl⟩
  have h3' : RdSl R 1 (.int .u8) v l := by simpa only [RdSl, Rd] using h
  obtain ⟨bs, e1, e2, e3⟩ := slb_of h3'
  exact ⟨v, bs, rfl, e3, e2⟩
theorem rd_slice1 {R : Hp} {b : Nat} {t : Ty} {d : D} {c : List Value} (hl : c.length = 1) (h : Rd R (.sl b t) d c) : ∃ A n cp, c = [.slice A n cp] := by
  obtain ⟨l, rfl⟩ : ∃ l, d = .sl l := by cases d <;> (try simp only [Rd] at h) <;> exact ⟨_, rfl⟩
  obtain ⟨v, rfl⟩ : ∃ v, c = [v] := by
    match c, hl with
    | [v], _ => exact ⟨v, rfl⟩
  have h3' : RdSl R b t v l := by simpa only [RdSl, Rd] using h
  obtain ⟨A, cp, rfl, -⟩ := h3'.form
  exact ⟨A, _, cp, rfl⟩
theorem rdAll_cons {R : Hp} {t : Ty} {ts : List Ty} {ds : List D} {cs : List Value} (h : RdAll R (t :: ts) ds cs) : ∃ d ds' c cs', ds = d :: ds' ∧ cs = c ++ cs' ∧ c.length = t.size ∧ Rd R t d c ∧ RdAll R ts ds' cs' := by
  cases ds with
  | nil => simp [RdAll] at h
  | cons d ds =>
    simp only [RdAll] at h
    obtain ⟨c1, c2, rfl, h1, h2, h3⟩ := h
    exact ⟨d, ds, c1, c2, rfl, rfl, h1, h2, h3⟩
theorem rdAll_nil {R : Hp} {ds : List D} {cs : List Value} (h : RdAll R [] ds cs) : cs = [] := by
  cases ds with
  | nil => simpa [RdAll] using h
  | cons d ds => simp [RdAll] at h
theorem arg_cfg {w : World} {v : Value} {d : D} (h : ArgV w (Ty.agg [.int .i64, .int .i64, .int .i64, .int .i64, .int .i64]) v d) : ∃ t z b i q : Int, v = .agg #[.int .i64 t, .int .i64 z, .int .i64 b, .int .i64 i, .int .i64 q] := by
  obtain ⟨cs, rfl, h⟩ := h
  obtain ⟨ds, rfl⟩ : ∃ ds, d = .agg ds := by cases d <;> (try simp only [Rd] at h) <;> exact ⟨_, rfl⟩
  simp only [Rd] at h
  obtain ⟨_, _, c0, _, rfl, e0, _, r0, h⟩ := rdAll_cons h
  obtain ⟨_, _, c1, _, rfl, rfl, _, r1, h⟩ := rdAll_cons h
  obtain ⟨_, _, c2, _, rfl, rfl, _, r2, h⟩ := rdAll_cons h
  obtain ⟨_, _, c3, _, rfl, rfl, _, r3, h⟩ := rdAll_cons h
  obtain ⟨_, _, c4, _, rfl, rfl, _, r4, h⟩ := rdAll_cons h
  obtain rfl := rdAll_nil h
  obtain ⟨m0, rfl⟩ := rd_int1 r0
  obtain ⟨m1, rfl⟩ := rd_int1 r1
  obtain ⟨m2, rfl⟩ := rd_int1 r2
  obtain ⟨m3, rfl⟩ := rd_int1 r3
  obtain ⟨m4, rfl⟩ := rd_int1 r4
  exact ⟨m0, m1, m2, m3, m4, by rw [show cs = #[.int .i64 m0, .int .i64 m1, .int .i64 m2, .int .i64 m3, .int .i64 m4] from Array.toList_inj.1 (by rw [e0]; rfl)]⟩
set_option maxHeartbeats 8000000 in
set_option maxRecDepth 100000 in
theorem law_may {G : Gnd} {w : World} {l : List Asrt} (H : Sat G w l) (t z b i q : Int) : Calls Tryz.prog 19 #[.agg #[.int .i64 t, .int .i64 z, .int .i64 b, .int .i64 i, .int .i64 q]] w fun e w' => e = .returned (.bool (mayB t z b i q)) ∧ Sat G w' l := by
  refine calls_any fun K hK => ?_
  have S := H.newBlk #[.int .i64 t, .int .i64 z, .int .i64 b, .int .i64 i, .int .i64 q] 23
  have c0 := S.cell 0
  have c1 := S.cell 1
  have c2 := S.cell 2
  have c3 := S.cell 3
  have c4 := S.cell 4
  have HS := Lib.hid S.drop
  clear S H
  by_cases a0 : 1 ≤ t
  rotate_left
  · rw [show mayB t z b i q = false from decide_eq_false (by omega)] at hK
    go_enter Tryz.func19, Tryz.ntmps19
    go_wp2_with fail
    exact hK.out _ _ ⟨rfl, HS.out⟩
  by_cases a1 : t ≤ 64
  rotate_left
  · rw [show mayB t z b i q = false from decide_eq_false (by omega)] at hK
    go_enter Tryz.func19, Tryz.ntmps19
    go_wp2_with fail
    exact hK.out _ _ ⟨rfl, HS.out⟩
  by_cases a2 : 0 ≤ b
  rotate_left
  · rw [show mayB t z b i q = false from decide_eq_false (by omega)] at hK
    go_enter Tryz.func19, Tryz.ntmps19
    go_wp2_with fail
    exact hK.out _ _ ⟨rfl, HS.out⟩
  by_cases a3 : b ≤ 1048576
  rotate_left
  · rw [show mayB t z b i q = false from decide_eq_false (by omega)] at hK
    go_enter Tryz.func19, Tryz.ntmps19
    go_wp2_with fail
    exact hK.out _ _ ⟨rfl, HS.out⟩
  by_cases a4 : 1 ≤ i
  rotate_left
  · rw [show mayB t z b i q = false from decide_eq_false (by omega)] at hK
    go_enter Tryz.func19, Tryz.ntmps19
    go_wp2_with fail
    exact hK.out _ _ ⟨rfl, HS.out⟩
  by_cases a5 : i ≤ 4096
  rotate_left
  · rw [show mayB t z b i q = false from decide_eq_false (by omega)] at hK
    go_enter Tryz.func19, Tryz.ntmps19
    go_wp2_with fail
    exact hK.out _ _ ⟨rfl, HS.out⟩
  by_cases a6 : 1 ≤ q
  rotate_left
  · rw [show mayB t z b i q = false from decide_eq_false (by omega)] at hK
    go_enter Tryz.func19, Tryz.ntmps19
    go_wp2_with fail
    exact hK.out _ _ ⟨rfl, HS.out⟩
  by_cases a7 : q ≤ 65536
  rotate_left
  · rw [show mayB t z b i q = false from decide_eq_false (by omega)] at hK
    go_enter Tryz.func19, Tryz.ntmps19
    go_wp2_with fail
    exact hK.out _ _ ⟨rfl, HS.out⟩
  by_cases a8 : 16 ≤ z
  rotate_left
  · rw [show mayB t z b i q = false from decide_eq_false (by omega)] at hK
    go_enter Tryz.func19, Tryz.ntmps19
    go_wp2_with fail
    exact hK.out _ _ ⟨rfl, HS.out⟩
  by_cases a9 : z ≤ 256
  rotate_left
  · rw [show mayB t z b i q = false from decide_eq_false (by omega)] at hK
    go_enter Tryz.func19, Tryz.ntmps19
    go_wp2_with fail
    exact hK.out _ _ ⟨rfl, HS.out⟩
  rw [show mayB t z b i q = true from decide_eq_true (by omega)] at hK
  go_enter Tryz.func19, Tryz.ntmps19
  go_wp2_with fail
  exact hK.out _ _ ⟨rfl, HS.out⟩
end Go.Proofs.YtcecfhfbcdbofaaGreatDoor

/- Chapter 10: the reference's Parse, walked, kind by kind. -/
import Derived.Test.YtdfdcenbpanegaaRfw
set_option linter.unusedSimpArgs false
set_option linter.unusedVariables false
namespace Go.Proofs.Ytdfdcenbpanegaa
open Go.RowKit

theorem results_cell_tt {P : Program} {fn : Func} {p1 p2 p3 : Tmp} {y1 : TypeId} (h : fn.results = #[.cell p1 y1, .tmp p2, .tmp p3]) (tmps : Array Value) (w : World) (g1 : Nat) (t1 : TypeId) (c1 : Array Value) (d1 : TypeDesc)
    (hp1 : tmps.getD p1 undef = .pointer (some ⟨g1, 0, none⟩)) (hg1 : w.heap[g1]? = some (.cells c1 t1 (0, 0))) (hu1 : P.underlying y1 = some d1) (hd1 : (match d1 with | .struct _ | .array _ _ => true | _ => false) = true) (hi1 : (P.info? y1).map (·.size) = some c1.size) :
    (results fn tmps).run P w = .ok (.tuple #[.agg c1, tmps.getD p2 undef, tmps.getD p3 undef]) w := by
  have h1 : tmps[p1]?.getD undef = .pointer (some ⟨g1, 0, none⟩) := by simpa using hp1
  simp [results, h, h1, asAddr, run_loadVar_row w g1 t1 y1 c1 (0, 0) d1 hg1 hu1 hd1 hi1]
/-- A call within a plain region. -/
theorem st_call {P : Program} {ops : Array Oper} {rest : List Oper} {o : Oper} {a : Act} {w : World} {Q : Exit → Act → World → Prop} (hgd : o.guard = none) {f : FuncId} {args : Array Value} {R : Ending → World → Prop} (hr : (execOp a.eval o).run P w = .ok (.enter f args) w) (hc : Calls P f args w R) (h : ∀ e w', R e w' → ∃ v, e = .returned v ∧ wpList P ops Q rest (a.put o.dst v) w') : wpList P ops Q (o :: rest) a w := by
  refine wpList_plain hgd fun K hK => ?_
  unfold Oper.wp
  rw [hr]
  refine Calls.mono hc fun e w' he => ?_
  obtain ⟨v, rfl, hv⟩ := h e w' he
  exact hK _ _ hv
/-- What the reference's Parse answers. -/
def refOut (r : RdRes) (u : Value) : Value := .tuple #[.agg (r.x.rs r.t u), .int .i64 r.f.1, .int .i64 (b2i r.f.2)]
end Go.Proofs.Ytdfdcenbpanegaa

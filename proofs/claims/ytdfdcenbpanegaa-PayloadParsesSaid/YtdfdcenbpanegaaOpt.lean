/- Words for regions that draw: assertions that hold once a thing is done; the frame as a letter; guards. -/
import Derived.Test.YtdfdcenbpanegaaRegJ
import Derived.Test.YtdfdcenbpanegaaOwn
set_option linter.unusedSimpArgs false
set_option linter.unusedVariables false
namespace Go.Proofs.Ytdfdcenbpanegaa
open Go.RowKit

def opt (b : Bool) (A : Asrt) : Asrt := ⟨fun R h => b = true → A.p R h, fun hR h e => A.mono hR (h e)⟩
theorem opt_iff {G : Gnd} {w : World} {l : List Asrt} {A : Asrt} : Sat G w (opt true A :: l) ↔ Sat G w (A :: l) :=
  ⟨fun H => Sat.conv (A := opt true A) (fun h (p : true = true → A.p G.ro h) => p rfl) H, fun H => Sat.conv (A' := opt true A) (fun h p _ => p) H⟩
theorem Sat.opt0 {G : Gnd} {w : World} {l : List Asrt} {A : Asrt} (H : Sat G w l) : Sat G w (opt false A :: l) := H.free fun _ _ e => by cases e
theorem Sat.optI {G : Gnd} {w : World} {l : List Asrt} {A : Asrt} {b : Bool} (hb : b = true) (H : Sat G w (A :: l)) : Sat G w (opt b A :: l) := by subst hb; exact opt_iff.2 H
theorem Sat.optE {G : Gnd} {w : World} {l : List Asrt} {A : Asrt} {b : Bool} (hb : b = true) (H : Sat G w (opt b A :: l)) : Sat G w (A :: l) := by subst hb; exact opt_iff.1 H
theorem wp_act {P : Program} {c : Code} {Q : Exit → Act → World → Prop} {a : Act} {w : World} (h : ∀ b, b = a → c.wp P Q b w) : c.wp P Q a w := h a rfl
theorem wanted_hit {ops : Array Oper} {o : Oper} {a : Act} {g : Nat} {t : Tmp} {b : Bool} (hg : o.guard = some (g, b)) (ht : (ops[g]?).bind (·.dst) = some t) (he : a.eval (.tmp t) = .bool b) : Region.wanted o (yielded ops a.tmps) = true := by
  unfold Region.wanted
  rw [hg]
  simp [yielded_of ht he]
/-- Where one value of what is done is another: the slots that were not written yet do not count. -/
theorem acts_swap {ps qs : List (Nat × Tmp × Value)} {f : Nat → Bool} {a : Act} (h : acts qs f a = acts ps f a) {k i : Nat} {t : Tmp} {v : Value} (hk : qs[k]? = some (i, t, v)) (hi : (((qs.take k) ++ (qs.drop (k + 1))).map (·.1)).contains i = false) (hu : ((qs.drop (k + 1)).map (·.2.1)).contains t = false) :
    (acts ps f a).put (some t) v = acts qs (upd f i) a := by rw [acts_some k hk hi hu, h]
/-- A call that its guard lets run. -/
theorem wpOp_callG {P : Program} {ops : Array Oper} {Q : Exit → Act → World → Prop} {i : Nat} {o : Oper} {K : Act → World → Prop} {a : Act} {w : World} {f : FuncId} {args : Array Value} {R : Ending → World → Prop} (ho : ops[i]? = some o) (hw : Region.wanted o (yielded ops a.tmps) = true) (hr : ∀ ρ, ρ = a.eval → (execOp ρ o).run P w = .ok (.enter f args) w)
    (hc : Calls P f args w R) (h : ∀ e w', R e w' → ∃ v, e = .returned v ∧ K (a.put o.dst v) w') : wpOp P ops Q i K a w := by
  unfold wpOp
  simp only [ho]
  rw [if_pos hw]
  left
  unfold Oper.wp
  rw [hr _ rfl]
  rw [Oper.upon_enter]
  refine Calls.mono hc fun e w' he => ?_
  obtain ⟨v, rfl, hv⟩ := h e w' he
  exact hv
end Go.Proofs.Ytdfdcenbpanegaa

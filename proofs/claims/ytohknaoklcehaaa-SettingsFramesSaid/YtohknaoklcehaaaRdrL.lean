/- A reader, and what stands beside it. -/
import Derived.Test.YtohknaoklcehaaaRdr
set_option linter.unusedSimpArgs false
set_option linter.unusedVariables false
namespace Go.Proofs.Ytohknaoklcehaaa
open Go.RowKit

section
variable {G : Gnd} {w : World} {l : List Asrt} {A : Option Addr} {c r : Nat} {bs : List UInt8}
theorem RdrS.cell {q : Nat} {cs : Array Value} {t : TypeId} (H : RdrS G w r bs (blk q cs t :: l)) (j : Nat) : w.cell? ⟨q, j, none⟩ = cs[j]? := by obtain ⟨A, c, H⟩ := H; exact H.pull2.cell j
theorem RdrS.newBlk (H : RdrS G w r bs l) (cs : Array Value) (t : TypeId) : RdrS G (w.alloc (.cells cs t)) r bs (blk w.heap.size cs t :: l) := by obtain ⟨A, c, H⟩ := H; exact ⟨A, c, (H.newBlk cs t).push2⟩
theorem RdrS.dropl {B : Asrt} (H : RdrS G w r bs (B :: l)) : RdrS G w r bs l := by obtain ⟨A, c, H⟩ := H; exact ⟨A, c, H.pull2.drop⟩
theorem wp_rdr {P : Program} {cd : Code} {Q : Exit → Act → World → Prop} {a : Act} {W : World} (S : RdrS G W r bs l) (h : ∀ w, RdrS G w r bs l → cd.wp P Q a w) : cd.wp P Q a W := h _ S
theorem RdrS.cellR {ad : Addr} {v : Value} (H : RdrS G w r bs l) (hc : Go.Proofs.Ytohknaoklcehaaa.cellR G.ro ad = some v) : w.cell? ad = some v := H.gone.cellR hc
end
end Go.Proofs.Ytohknaoklcehaaa

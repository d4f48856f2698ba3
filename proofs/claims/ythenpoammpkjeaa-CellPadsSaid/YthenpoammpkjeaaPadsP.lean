/- What a padded cell says, parsed. -/
import Derived.Test.YthenpoammpkjeaaPParse
import Derived.Test.YthenpoammpkjeaaPad
set_option linter.unusedSimpArgs false
set_option linter.unusedVariables false
namespace Go.Proofs.Ythenpoammpkjeaa
open Go.RowKit

theorem hasF_pad (d : Bool) : hasF (if d then 9 else 8) 8 = true ∧ hasF (if d then 9 else 8) 1 = d := by
  cases d
  · exact ⟨by decide, by decide⟩
  · exact ⟨by decide, by decide⟩
theorem padS_pad {x : ItS} {bs : List UInt8} {z : Nat} {fl : Int} (h8 : hasF fl 8 = true) (hz : z ≤ 255) : padS 0 fl x (padB bs z) = ((0, false), x, bs) := by
  have hb : (UInt8.ofNat z).toNat = z := by rw [UInt8.toNat_ofNat']; simp; omega
  unfold padS
  rw [if_pos h8]
  unfold padB
  simp only [hb]
  unfold padW
  rw [show ((0 : Int) == 1) = false from rfl, Bool.false_and, if_neg (by decide)]
  unfold padE
  rw [if_neg (by simp)]
  simp
theorem pad_parse {bs : List UInt8} {z : Nat} {st : Int} (hz : z ≤ 255) (hs : 1 ≤ st) (d : Bool) :
    parseS 0 (if d then 9 else 8) st (padB bs z) = ⟨(0, false), { bareS 0 st (padB bs z).length with e := d }, bs, []⟩ := by
  obtain ⟨h8, h1⟩ := hasF_pad d
  have h0 : placeBad 0 st = false := by
    unfold placeBad
    simp
    omega
  have hr : readS 0 (if d then 9 else 8) st (padB bs z) = ⟨(0, false), { bareS 0 st (padB bs z).length with e := d }, bs, []⟩ := by
    unfold readS
    rw [if_pos (by decide), padS_pad h8 hz, h1]
    rfl
  unfold parseS
  rw [h0, if_neg (by decide), if_pos (by rfl), hr, if_pos (by rfl)]
end Go.Proofs.Ythenpoammpkjeaa

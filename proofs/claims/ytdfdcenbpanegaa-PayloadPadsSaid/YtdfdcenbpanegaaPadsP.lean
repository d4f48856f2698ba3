/- What a padded text says, parsed (chapter 10). -/
import Derived.Test.YtdfdcenbpanegaaFaultP
set_option linter.unusedSimpArgs false
set_option linter.unusedVariables false
namespace Go.Proofs.Ytdfdcenbpanegaa
open Go.RowKit

def padB (bs : List UInt8) (z : Nat) : List UInt8 := UInt8.ofNat z :: (bs ++ List.replicate z 0)
theorem padB_length (bs : List UInt8) (z : Nat) : (padB bs z).length = 1 + bs.length + z := by simp [padB]; omega
theorem padB_row (bs : List UInt8) (z : Nat) (hz : z ≤ 255) : [Value.int .u8 z] ++ bs.map byteV ++ List.replicate z (.int .u8 0) = (padB bs z).map byteV := by
  have hb : byteV (UInt8.ofNat z) = .int .u8 z := by unfold byteV; rw [UInt8.toNat_ofNat']; simp; omega
  simp only [padB, List.map_cons, List.map_append, List.map_replicate, hb, List.cons_append, List.nil_append]
  rfl
theorem padS_pad {x : ItS} {bs : List UInt8} {z : Nat} (hz : z ≤ 255) : padS 0 9 x (padB bs z) = ((0, false), x, bs) := by
  have hb : (UInt8.ofNat z).toNat = z := by rw [UInt8.toNat_ofNat']; simp; omega
  unfold padS
  rw [if_pos (by decide)]
  unfold padB
  simp only [hb]
  unfold padW
  rw [show ((0 : Int) == 1) = false from rfl, Bool.false_and, if_neg (by decide)]
  unfold padE
  rw [if_neg (by simp)]
  simp
theorem place_ok {st : Int} (hs : 1 ≤ st) : placeBad 0 st = false := by
  unfold placeBad
  simp
  omega
theorem parse_pad {bs : List UInt8} {z : Nat} {st : Int} (hz : z ≤ 255) (hs : 1 ≤ st) :
    parseS 0 9 st (padB bs z) = ⟨(0, false), { bareS 0 st (padB bs z).length with e := true }, bs, []⟩ := by
  have hr : readS 0 9 st (padB bs z) = ⟨(0, false), { bareS 0 st (padB bs z).length with e := true }, bs, []⟩ := by
    unfold readS
    rw [if_pos (by decide), padS_pad hz, show hasF 9 1 = true by decide]
    rfl
  unfold parseS
  rw [place_ok hs, if_neg (by decide), if_pos (by rfl), hr, if_pos (by rfl)]
theorem parse_bare {bs : List UInt8} {st : Int} (hs : 1 ≤ st) :
    parseS 0 1 st bs = ⟨(0, false), { bareS 0 st bs.length with e := true }, bs, []⟩ := by
  have hp : ∀ x, padS 0 1 x bs = ((0, false), x, bs) := by
    intro x
    unfold padS
    rw [if_neg (by decide)]
    unfold padW
    rw [show ((0 : Int) == 1) = false from rfl, Bool.false_and, if_neg (by decide)]
    unfold padE
    rw [if_neg (by simp)]
    simp
  have hr : readS 0 1 st bs = ⟨(0, false), { bareS 0 st bs.length with e := true }, bs, []⟩ := by
    unfold readS
    rw [if_pos (by decide), hp, show hasF 1 1 = true by decide]
    rfl
  unfold parseS
  rw [place_ok hs, if_neg (by decide), if_pos (by rfl), hr, if_pos (by rfl)]
theorem parse_short {z : Nat} {st : Int} (hz : z ≤ 255) (h0 : 0 < z) (hs : 1 ≤ st) :
    (parseS 0 9 st ((padB [] z).take z)).f = (101, true) := by
  obtain ⟨n, rfl⟩ : ∃ n, z = n + 1 := ⟨z - 1, by omega⟩
  have hb : (UInt8.ofNat (n + 1)).toNat = n + 1 := by rw [UInt8.toNat_ofNat']; simp; omega
  have e : (padB [] (n + 1)).take (n + 1) = UInt8.ofNat (n + 1) :: List.replicate n 0 := by
    simp [padB, List.take_replicate]
  rw [e]
  have hp : ∀ x, (padS 0 9 x (UInt8.ofNat (n + 1) :: List.replicate n 0)).1 = (101, true) := by
    intro x
    unfold padS
    rw [if_pos (by decide)]
    simp only [hb]
    unfold padW
    rw [show ((0 : Int) == 1) = false from rfl, Bool.false_and, if_neg (by decide)]
    unfold padE
    rw [if_pos (by simp)]
  have hr : (readS 0 9 st (UInt8.ofNat (n + 1) :: List.replicate n 0)).f = (101, true) := by
    unfold readS
    rw [if_pos (by decide)]
    unfold readP
    rw [if_neg (by rw [hp]; decide)]
    exact hp _
  unfold parseS
  rw [place_ok hs, if_neg (by decide)]
  by_cases hl : ((lenF 0 9 (UInt8.ofNat (n + 1) :: List.replicate n 0).length).1 == 0 && !(lenF 0 9 (UInt8.ofNat (n + 1) :: List.replicate n 0).length).2) = true
  · rw [if_pos hl, if_neg (by rw [hr]; decide)]
    exact hr
  · exact absurd (by rfl) hl
end Go.Proofs.Ytdfdcenbpanegaa

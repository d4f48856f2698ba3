/- slices.Backward: its closure gives the fields, the last first. -/
import Derived.Test.YtkjkekhhhbopcaaSam
import Derived.Test.YtkjkekhhhbopcaaSeq
import Derived.Shelf.Abstract
import Derived.WalkKit
import Derived.OwnWalkIn
import Derived.TacticsInMore
import Derived.LoopNIn
import Derived.LoopIn
set_option linter.unusedSimpArgs false
set_option linter.unusedVariables false
namespace Go.Proofs.Ytkjkekhhhbopcaa
open Go.RowKit Go.Shelf
attribute [local go_sem] Oper.semAt_some

def bwd (F : List Fd) : List (Nat × Fd) := (F.zipIdx.map fun p => (p.2, p.1)).reverse
theorem bwd_get {F : List Fd} {j k : Nat} {x : Fd} (hn : j + k + 1 = F.length) (hx : F[j]? = some x) : (bwd F)[k]? = some (j, x) := by
  unfold bwd
  rw [List.getElem?_reverse (by simp; omega)]
  simp only [List.length_map, List.length_zipIdx, List.getElem?_map, List.getElem?_zipIdx]
  rw [show F.length - 1 - k = j by omega, hx]
  simp
theorem bwd_len (F : List Fd) : (bwd F).length = F.length := by simp [bwd]
theorem bwd_snd (F : List Fd) : (bwd F).map (·.2) = F.reverse := by
  unfold bwd
  rw [List.map_reverse, List.map_map]
  congr 1
  rw [show ((fun x : Nat × Fd => x.2) ∘ fun p : Fd × Nat => (p.2, p.1)) = Prod.fst from rfl]
  simp
theorem take_succ' {α : Type} {L : List α} {k : Nat} {x : α} (h : L[k]? = some x) : L.take (k + 1) = L.take k ++ [x] := by
  rw [List.take_add_one, h]; rfl
def bencs (p : Nat × Fd) : Array Value := #[.int .i64 p.1, .agg #[.string (bstr p.2.1), .string (bstr p.2.2)]]
set_option maxHeartbeats 4000000 in
set_option maxRecDepth 100000 in
theorem back_gives {b : Nat} {v : Value} {F : List Fd} {R : List Asrt} (hv : ∀ G W l, Sat G W (R ++ l) → RF W.cell? v F) (hn : F.length ≤ 100000) :
    Gives Try.prog 33 #[.pointer (some ⟨b, 0, none⟩)] bencs (bwd F) (blk b #[v] 58 :: R) := by
  intro l G B Bx W hY S
  obtain ⟨A, c, rfl, hlc, hc, -, -⟩ := hv G W (B []) (Sat.drop S)
  have HV := Lib.hid fun G W l (S : Sat G W (R ++ l)) i x (hx : F[i]? = some x) => by
    obtain ⟨A', c', e, -, -, -, hel⟩ := hv G W l S
    obtain ⟨e1, e2, e3⟩ := Value.slice.inj e
    subst e1
    exact hel i x hx
  obtain ⟨nl, hnl⟩ : ∃ nl, nl = F.length := ⟨_, rfl⟩
  have HNL := Lib.hid hnl
  rw [← hnl] at S hlc hn hv ⊢
  have hcb : W.cell? ⟨b, 0, none⟩ = some (.slice A nl c) := Sat.cell S 0
  have hw1 : IntKind.i64.wrap ((nl : Int) - 1) = (nl : Int) - 1 := IntWalk.i64_in _ (by omega)
  clear hnl hv
  change Calls _ _ #[.func (.yield l) #[] #[], .pointer (some ⟨b, 0, none⟩)] W _
  refine callsIn_wide (n := 0).1 (callsIn_of_wp Try.func33 rfl trivial ?_ rfl)
  simp only [Try.ntmps33, List.size_toArray, List.length_cons, List.length_nil, Nat.reduceAdd, Nat.reduceSub, Array.replicate_succ, Array.replicate_zero, List.push_toArray, List.append_toArray, List.nil_append, List.cons_append]
  gi_wp2
  gi_loopw [3] (fun i wr => ∃ (k : Nat) (G1 : Gnd), k ≤ nl ∧ i = .int .i64 ((nl : Int) - 1 - k) ∧ G.le G1 ∧ Sat G1 wr ((blk b #[.slice A nl c] 58 :: R) ++ B ((bwd F).take k))) (fun i _ => (intOf i + 1).toNat)
  case atStart => exact ⟨0, G, Nat.zero_le _, by simp, Gnd.le.rfl', S⟩
  case round =>
    obtain ⟨k, G1, hk, rfl, hG1, S1⟩ := hrel
    clear hcb S
    have hcb : wr.cell? ⟨b, 0, none⟩ = some (.slice A nl c) := Sat.cell S1 0
    by_cases hlt : k < nl
    · obtain ⟨j, hj⟩ : ∃ j, j + k + 1 = nl := ⟨nl - 1 - k, by omega⟩
      have hx := List.getElem?_eq_getElem (l := F) (i := j) (by rw [← HNL.out]; omega)
      obtain ⟨g, o, rfl, hcl⟩ := HV.out G1 wr (B ((bwd F).take k)) (Sat.drop S1) j _ hx
      have hbk := bwd_get (hj.trans HNL.out) hx
      generalize F[j]'(by rw [← HNL.out]; omega) = x at *
      have d0 : wr.cell? ⟨g, o + j * 2, none⟩ = _ := hcl 0 _ rfl
      have d1 : wr.cell? ⟨g, o + j * 2 + 1, none⟩ = _ := hcl 1 _ rfl
      have htk := take_succ' hbk
      obtain ⟨fn, tmps, assign, body, hy, hR⟩ := hY ((bwd F).take k) (j, x) wr (blk b #[.slice (some ⟨g, o, none⟩) nl c] 58 :: R) G1 0 (by rw [← htk]; exact List.take_prefix _ _) hG1 S1
      rw [← htk] at hR
      unfold bencs at hy
      have hi : ((nl : Int) - 1 - k) = (j : Int) := by omega
      rw [hi]
      have hjn : (j : Int) < nl := by omega
      have hjn2 : j < nl := by omega
      have hwj : IntKind.i64.wrap ((j : Int) - 1) = (j : Int) - 1 := IntWalk.i64_in _ (by omega)
      have HJ := Lib.hid hj
      clear hcl hx hbk S1 hj hi htk
      gi_wp2
      refine ⟨rfl, hR.mono ?_⟩
      rintro e W3 ⟨G2, hG2, ⟨rfl, S3⟩ | ⟨rfl, S3⟩⟩
      · gi_wp2
        go_roundw
        case rel => exact ⟨k + 1, G2, by omega, by have := HJ.out; congr 1; omega, hG1.trans hG2, S3⟩
        case measure => simp [intOf]
      · gi_wp2
        refine bodyPost_ret (results_none rfl _ _ _) rfl ?_
        exact ⟨⟨_, rfl⟩, G2, hG1.trans hG2, .inr ⟨_, List.take_prefix _ _, S3⟩⟩
    · have hk2 : k = nl := by omega
      have htk : (bwd F).take k = bwd F := List.take_of_length_le (by rw [bwd_len, ← HNL.out]; omega)
      rw [htk] at S1
      have hlt0 : ¬ (0 ≤ (nl : Int) - 1 - k) := by omega
      have HS := Lib.hid S1
      clear S1 htk hk2
      gi_wp2
      go_end0
      exact ⟨⟨_, rfl⟩, G1, hG1, .inl HS.out⟩
end Go.Proofs.Ytkjkekhhhbopcaa

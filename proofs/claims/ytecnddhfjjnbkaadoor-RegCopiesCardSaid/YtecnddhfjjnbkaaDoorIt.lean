/- reg: All's closure gives the live streams, the first first. -/
import Derived.Test.YtecnddhfjjnbkaaDoorEnt
import Derived.Test.YtecnddhfjjnbkaaDoorSeq
import Derived.Shelf.Abstract
import Derived.WalkKit
import Derived.OwnWalkIn
import Derived.TacticsInMore
import Derived.LoopNIn
import Derived.LoopIn
set_option linter.unusedSimpArgs false
set_option linter.unusedVariables false
namespace Go.Proofs.YtecnddhfjjnbkaaDoor
open Go.RowKit Go.Shelf
attribute [local go_sem] Oper.semAt_some

def eencs (x : Int × Int × Int) : Array Value := #[.agg (eenc x)]
section
variable {G : Gnd} {w : World} {l : List Asrt} {g : Nat} {ten quo last : Int} {F : List Ent} {L : List Int}
theorem rg_all (H : Sat G w l) (v : Value) (hv : v.oneCell' = true) : Calls Tryd.prog 33 #[v] w fun e w' => ∃ b, e = .returned (.func (.func 47) #[] #[.pointer (some ⟨b, 0, none⟩)]) ∧ Sat G w' (blk b #[v] 31 :: l) := by
  refine calls_any fun K hK => ?_
  have HS := Lib.hid (H.newBlk #[v] 31)
  clear H
  have hc := cells_one hv
  go_enter Tryd.func33, Tryd.ntmps33
  go_wp2_with fail
  exact hK.out _ _ ⟨_, rfl, HS.out⟩
theorem take_succ' {α : Type} {L : List α} {k : Nat} {x : α} (h : L[k]? = some x) : L.take (k + 1) = L.take k ++ [x] := by
  rw [List.take_add_one, h]; rfl
set_option maxHeartbeats 8000000 in
set_option maxRecDepth 100000 in
theorem all_gives (b : Nat) (hf : F.length ≤ 10000) : Gives Tryd.prog 47 #[.pointer (some ⟨b, 0, none⟩)] eencs (F.map (absF ten)) [blk b #[.pointer (some ⟨g, 0, none⟩)] 31, rgA g ten quo F L last] := by
  intro l G B Bx W hY S
  have S0 : Sat G W (rgA g ten quo F L last :: blk b #[.pointer (some ⟨g, 0, none⟩)] 31 :: B []) := Sat.swap S
  obtain ⟨v, u, S1⟩ := rg_iff.1 S0
  clear S S0
  obtain ⟨A, c, rfl, hnc, hcm, -⟩ := S1.swap.ownSlice
  obtain ⟨N, hN⟩ : ∃ N, N = F.length := ⟨_, rfl⟩
  rw [← hN] at S1 hnc hf
  have HCL : Hid (∀ (G : Gnd) (W : World) (E : List Asrt), Sat G W (blk g #[.int .i64 ten, .int .i64 quo, .slice A N c, u, .int .i64 last] 67 :: ownS 72 11 (.slice A N c) N (encs Ent.enc F) :: ownS 3 1 u L.length (encs lenc L) :: blk b #[.pointer (some ⟨g, 0, none⟩)] 31 :: E) → Sat G W (blk b #[.pointer (some ⟨g, 0, none⟩)] 31 :: rgA g ten quo F L last :: E)) := Lib.hid fun G W E S => by
    rw [hN] at S
    exact Sat.swap (rg_iff.2 ⟨_, _, S⟩)
  have HCE : Hid (∀ (G : Gnd) (W : World) (E : List Asrt), Sat G W (blk g #[.int .i64 ten, .int .i64 quo, .slice A N c, u, .int .i64 last] 67 :: ownS 72 11 (.slice A N c) N (encs Ent.enc F) :: ownS 3 1 u L.length (encs lenc L) :: blk b #[.pointer (some ⟨g, 0, none⟩)] 31 :: E) → ∀ k x, F[k]? = some x → ∃ bb, A = some ⟨bb, 0, none⟩ ∧ ∀ j u, x.enc[j]? = some u → W.cell? ⟨bb, k * 11 + j, none⟩ = some u) := Lib.hid fun G W E S k x hx => by
    rw [hN] at S
    have hi := (List.getElem?_eq_some_iff.1 hx).1
    obtain ⟨bb, cap, cur, e, -, La, S2⟩ := Sat.layOpen (S.re [1, 0, 2, 3]) ent_len (by omega)
    obtain ⟨rfl, -, -⟩ := Value.slice.inj e
    refine ⟨bb, rfl, fun j u hj => ?_⟩
    have hj2 : j < 11 := by have := (List.getElem?_eq_some_iff.1 hj).1; rwa [ent_len] at this
    rw [S2.cell, La.get hx hj2]
    exact hj
  have HN := Lib.hid hN
  have hcm2 : c ≤ 9223372036854775807 := hcm
  clear hN hcm
  have S2 : Sat G W ([blk g #[.int .i64 ten, .int .i64 quo, .slice A N c, u, .int .i64 last] 67, ownS 72 11 (.slice A N c) N (encs Ent.enc F), ownS 3 1 u L.length (encs lenc L), blk b #[.pointer (some ⟨g, 0, none⟩)] 31] ++ B ((F.map (absF ten)).take 0)) := S1
  have c0 : W.cell? ⟨b, 0, none⟩ = some (.pointer (some ⟨g, 0, none⟩)) := (Sat.re S1 [3, 0, 1, 2]).cell 0
  have c2 : W.cell? ⟨g, 2, none⟩ = some (.slice A N c) := S1.cell 2
  clear S1
  change Calls _ _ #[.func (.yield l) #[] #[], .pointer (some ⟨b, 0, none⟩)] W _
  refine callsIn_wide (n := 0).1 (callsIn_of_wp Tryd.func47 rfl trivial ?_ rfl)
  simp only [Tryd.ntmps47, List.size_toArray, List.length_cons, List.length_nil, Nat.reduceAdd, Nat.reduceSub, Array.replicate_succ, Array.replicate_zero, List.push_toArray, List.append_toArray, List.nil_append, List.cons_append]
  gi_wp2
  gi_loopw [10] (fun i wr => ∃ (k : Nat) (G1 : Gnd), k ≤ N ∧ i = .int .i64 k ∧ G.le G1 ∧ Sat G1 wr ([blk g #[.int .i64 ten, .int .i64 quo, .slice A N c, u, .int .i64 last] 67, ownS 72 11 (.slice A N c) N (encs Ent.enc F), ownS 3 1 u L.length (encs lenc L), blk b #[.pointer (some ⟨g, 0, none⟩)] 31] ++ B ((F.map (absF ten)).take k))) (fun i _ => N - (intOf i).toNat)
  case atStart => exact ⟨0, G, Nat.zero_le _, rfl, Gnd.le.rfl', S2⟩
  case round =>
    obtain ⟨k, G1, hk, rfl, hG1, S3⟩ := hrel
    clear S2 c0 c2
    have c0 : wr.cell? ⟨b, 0, none⟩ = some (.pointer (some ⟨g, 0, none⟩)) := (Sat.re (L := blk g #[.int .i64 ten, .int .i64 quo, .slice A N c, u, .int .i64 last] 67 :: ownS 72 11 (.slice A N c) N (encs Ent.enc F) :: ownS 3 1 u L.length (encs lenc L) :: blk b #[.pointer (some ⟨g, 0, none⟩)] 31 :: B ((F.map (absF ten)).take k)) S3 [3, 0, 1, 2]).cell 0
    by_cases hlt : k < N
    · obtain ⟨x, hx⟩ : ∃ x, F[k]? = some x := ⟨_, List.getElem?_eq_getElem (by rw [← HN.out]; exact hlt)⟩
      obtain ⟨bb, rfl, hcl⟩ := HCE.out G1 wr (B ((F.map (absF ten)).take k)) S3 k x hx
      have hbk : (F.map (absF ten))[k]? = some (absF ten x) := by rw [List.getElem?_map, hx]; rfl
      have htk := take_succ' hbk
      have hpx : (F.map (absF ten)).take k ++ [absF ten x] <+: F.map (absF ten) := by rw [← htk]; exact List.take_prefix _ _
      obtain ⟨e0, e1, e2, e3, e4, e5, e6, e7, e8, hC⟩ := nine x.hC
      have hxe : x.enc = [.int .i64 x.id, .int .i64 x.n, .int .i64 e0, .int .i64 e1, .int .i64 e2, .int .i64 e3, .int .i64 e4, .int .i64 e5, .int .i64 e6, .int .i64 e7, .int .i64 e8] := by simp [Ent.enc, ints, hC]
      rw [hxe] at hcl
      have d0 : wr.cell? ⟨bb, k * 11, none⟩ = _ := hcl 0 _ rfl
      have d1 : wr.cell? ⟨bb, k * 11 + 1, none⟩ = _ := hcl 1 _ rfl
      have d2 : wr.cell? ⟨bb, k * 11 + 2, none⟩ = _ := hcl 2 _ rfl
      have d3 : wr.cell? ⟨bb, k * 11 + 3, none⟩ = _ := hcl 3 _ rfl
      have d4 : wr.cell? ⟨bb, k * 11 + 4, none⟩ = _ := hcl 4 _ rfl
      have d5 : wr.cell? ⟨bb, k * 11 + 5, none⟩ = _ := hcl 5 _ rfl
      have d6 : wr.cell? ⟨bb, k * 11 + 6, none⟩ = _ := hcl 6 _ rfl
      have d7 : wr.cell? ⟨bb, k * 11 + 7, none⟩ = _ := hcl 7 _ rfl
      have d8 : wr.cell? ⟨bb, k * 11 + 8, none⟩ = _ := hcl 8 _ rfl
      have d9 : wr.cell? ⟨bb, k * 11 + 9, none⟩ = _ := hcl 9 _ rfl
      have d10 : wr.cell? ⟨bb, k * 11 + 10, none⟩ = _ := hcl 10 _ rfl
      obtain ⟨tail, htail⟩ : ∃ tail, tail = B ((F.map (absF ten)).take k) := ⟨_, rfl⟩
      rw [← htail] at S3
      have S4 : Sat G1 _ (blk wr.heap.size #[.int .i64 x.id, .int .i64 x.n, .int .i64 e0, .int .i64 e1, .int .i64 e2, .int .i64 e3, .int .i64 e4, .int .i64 e5, .int .i64 e6, .int .i64 e7, .int .i64 e8] 72 :: blk g #[.int .i64 ten, .int .i64 quo, .slice (some ⟨bb, 0, none⟩) N c, u, .int .i64 last] 67 :: ownS 72 11 (.slice (some ⟨bb, 0, none⟩) N c) N (encs Ent.enc F) :: ownS 3 1 u L.length (encs lenc L) :: blk b #[.pointer (some ⟨g, 0, none⟩)] 31 :: tail) := Sat.newBlk S3 #[.int .i64 x.id, .int .i64 x.n, .int .i64 e0, .int .i64 e1, .int .i64 e2, .int .i64 e3, .int .i64 e4, .int .i64 e5, .int .i64 e6, .int .i64 e7, .int .i64 e8] 72
      have cb : (wr.alloc (.cells #[.int .i64 x.id, .int .i64 x.n, .int .i64 e0, .int .i64 e1, .int .i64 e2, .int .i64 e3, .int .i64 e4, .int .i64 e5, .int .i64 e6, .int .i64 e7, .int .i64 e8] 72)).cell? ⟨b, 0, none⟩ = some (.pointer (some ⟨g, 0, none⟩)) := (S4.re [4, 0, 1, 2, 3]).cell 0
      have hent := rg_entry (ten := ten) (g := g) S4 (fun W S => (S.re [1, 0]).cell 0) x
      rw [hxe] at hent
      have HT := Lib.hid htail
      have HPX := Lib.hid hpx
      have HTK := Lib.hid htk
      have HH := Lib.hid (hY ((F.map (absF ten)).take k) (absF ten x))
      have hlt2 : (k : Int) < (N : Int) := by omega
      have hwk : IntKind.i64.wrap ((k : Int) + 1) = ((k + 1 : Nat) : Int) := by rw [IntWalk.i64_in _ (by omega)]; omega
      clear hcl hxe hC hbk htk htail hpx hx S4
      gi_wp2
      refine ⟨trivial, rfl, callsIn_wide.2 (hent.mono ?_)⟩
      clear hent d0 d1 d2 d3 d4 d5 d6 d7 d8 d9 d10
      rintro e W2 ⟨rfl, S5⟩
      obtain ⟨fn, tmps, assign, body, hy, hR⟩ := HH.out W2 (blk wr.heap.size #[.int .i64 x.id, .int .i64 x.n, .int .i64 e0, .int .i64 e1, .int .i64 e2, .int .i64 e3, .int .i64 e4, .int .i64 e5, .int .i64 e6, .int .i64 e7, .int .i64 e8] 72 :: blk g #[.int .i64 ten, .int .i64 quo, .slice (some ⟨bb, 0, none⟩) N c, u, .int .i64 last] 67 :: ownS 72 11 (.slice (some ⟨bb, 0, none⟩) N c) N (encs Ent.enc F) :: ownS 3 1 u L.length (encs lenc L) :: blk b #[.pointer (some ⟨g, 0, none⟩)] 31 :: []) G1 0 HPX.out hG1 (by rw [← HT.out]; exact S5)
      unfold eencs at hy
      have HR := Lib.hid hR
      clear S3 S5 cb hR
      gi_wp2
      refine ⟨rfl, HR.out.mono ?_⟩
      rintro e W3 ⟨G2, hG2, ⟨rfl, S6⟩ | ⟨rfl, S6⟩⟩
      · gi_wp2
        go_roundw
        case rel => exact ⟨k + 1, G2, by omega, rfl, hG1.trans hG2, by rw [HTK.out]; exact Sat.drop S6⟩
        case measure => simp [intOf]; omega
      · gi_wp2
        refine bodyPost_ret (results_none rfl _ _ _) rfl ?_
        exact ⟨⟨_, rfl⟩, G2, hG1.trans hG2, .inr ⟨_, HPX.out, HCL.out _ _ _ (Sat.drop S6)⟩⟩
    · obtain rfl : k = N := by omega
      have htk : (F.map (absF ten)).take k = F.map (absF ten) := List.take_of_length_le (by rw [List.length_map, ← HN.out]; omega)
      rw [htk] at S3
      have HS := Lib.hid S3
      clear S3 htk
      gi_wp2
      go_end0
      exact ⟨⟨_, rfl⟩, G1, hG1, .inl (HCL.out _ _ _ HS.out)⟩
end
end Go.Proofs.YtecnddhfjjnbkaaDoor

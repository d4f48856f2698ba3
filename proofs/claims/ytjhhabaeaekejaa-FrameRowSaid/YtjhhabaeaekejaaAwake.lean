/- The walk over awake of chapter 9. -/
import Derived.Test.YtjhhabaeaekejaaParse
import Derived.Test.YtjhhabaeaekejaaApp2
set_option linter.unusedSimpArgs false
set_option linter.unusedVariables false
namespace Go.Proofs.Ytjhhabaeaekejaa
open Go.RowKit

theorem slb_ro {G : Gnd} {q : Nat} {bs : List UInt8} {t : TypeId} {fr : Nat × Nat} (h : G.ro q = some (.cells (bs.map byteV).toArray t fr)) (hl : bs.length ≤ maxLen) : SlB (cellR G.ro) (.slice (some ⟨q, 0, none⟩) bs.length bs.length) bs := by
  refine ⟨⟨_, _, rfl, Nat.le_refl _, hl, fun j u hj => ⟨_, rfl, ?_⟩⟩, fun n c e => by cases e⟩
  have e : (⟨q, 0, none⟩ : Addr).add j = ⟨q, j, none⟩ := by unfold Addr.add; split <;> simp_all
  rw [e]
  simp only [cellR, h]
  simpa using hj
set_option maxHeartbeats 4000000 in
set_option maxRecDepth 100000 in
theorem law_awake {G : Gnd} {w : World} {l : List Asrt} (H : Sat G w l) :
    Calls Try.prog 9 #[] w fun e w' => e = .returned (.bool true) ∧ ∃ G', G.le G' ∧ Sat G' w' l := by
  refine calls_any fun K hK => ?_
  have hcv := Go.Lib.run_convert_bytes_const (P := Try.prog) w 22 5 (([49, 50, 51, 52, 53, 54, 55, 56] : List UInt8).map byteV).toArray 8 8 Try.underlying22 Try.underlying5
  change _ = Result.ok _ (w.alloc (.cells (([49, 50, 51, 52, 53, 54, 55, 56] : List UInt8).map byteV).toArray 5 (8, 9))) at hcv
  obtain ⟨G1, hG1, hq, S1⟩ := (H.new (.cells (([49, 50, 51, 52, 53, 54, 55, 56] : List UInt8).map byteV).toArray 5 (8, 9))).freeze
  have hb8 := slb_ro hq (by decide)
  clear hq H
  change Sat _ (w.alloc (.cells #[.int .u8 49, .int .u8 50, .int .u8 51, .int .u8 52, .int .u8 53, .int .u8 54, .int .u8 55, .int .u8 56] 5 (8, 9))) _ at S1
  change Sem.run _ _ (w.alloc (.cells #[.int .u8 49, .int .u8 50, .int .u8 51, .int .u8 52, .int .u8 53, .int .u8 54, .int .u8 55, .int .u8 56] 5)) = Result.ok _ (w.alloc (.cells #[.int .u8 49, .int .u8 50, .int .u8 51, .int .u8 52, .int .u8 53, .int .u8 54, .int .u8 55, .int .u8 56] 5 (8, 9))) at hcv
  change SlB _ (.slice _ 8 8) _ at hb8
  have S2 := S1.newBlk #[.int .i64 6, .int .i64 0, .int .i64 0, .slice (some ⟨w.heap.size, 0, none⟩) 8 8] 24
  have e0 : ∀ o, (w.alloc o).heap.size = w.heap.size + 1 := fun o => by simp
  rw [e0] at S2
  have hfb := frame_bytes S2 6 0 0 (.slice (some ⟨w.heap.size, 0, none⟩) 8 8) ([49, 50, 51, 52, 53, 54, 55, 56] : List UInt8) (fun W SW => hb8.sat SW) (by decide) (by decide) (by decide) (by decide)
  rw [show frBytes 6 0 0 ([49, 50, 51, 52, 53, 54, 55, 56] : List UInt8) = ([0, 0, 8, 6, 0, 0, 0, 0, 0, 49, 50, 51, 52, 53, 54, 55, 56] : List UInt8) by decide] at hfb
  change Calls _ _ #[.agg #[.int .i64 6, .int .i64 0, .int .i64 0, _]] _ _ at hfb
  clear S1
  go_enter Try.func9, Try.ntmps9
  go_wp2_with fail
  (with_reducible refine hfb.mono ?_)
  clear hfb S2 hcv
  rintro e w1 ⟨u, rfl, S1⟩
  obtain ⟨B, cp, rfl, -, -, -⟩ := S1.ownForm
  have S2 := S1.alloc (.cells #[.int .u8 1] 5)
  change Sat _ _ (ownS 5 1 (.slice B 17 cp) 17 _ :: blk (w.heap.size + 1) _ _ :: _) at S2
  generalize w.heap.size = q at *
  have hnew := slv_new w1 [1] (by decide) _ rfl 5
  clear S1
  go_wp2_with (at_builtin; refine st_app2 (bs0 := ([0, 0, 8, 6, 0, 0, 0, 0, 0, 49, 50, 51, 52, 53, 54, 55, 56] : List UInt8)) (bs := [1]) S2 rfl _ _ rfl rfl rfl hnew (by decide) (by decide) ?_; intro A' c' w' L S' hL)
  have S3 := Sat.mid L S'
  have hp1 := frame_parse S' (.slice A' 18 c') (([0, 0, 8, 6, 0, 0, 0, 0, 0, 49, 50, 51, 52, 53, 54, 55, 56] : List UInt8) ++ [1]) 100 (fun W SW => (hL _ W SW).1) (by decide)
  rw [show headE (([0, 0, 8, 6, 0, 0, 0, 0, 0, 49, 50, 51, 52, 53, 54, 55, 56] : List UInt8) ++ [1]) 100 = 0 by decide, show hdT (([0, 0, 8, 6, 0, 0, 0, 0, 0, 49, 50, 51, 52, 53, 54, 55, 56] : List UInt8) ++ [1]) = 6 by decide, show hdF (([0, 0, 8, 6, 0, 0, 0, 0, 0, 49, 50, 51, 52, 53, 54, 55, 56] : List UInt8) ++ [1]) = 0 by decide, show hdS (([0, 0, 8, 6, 0, 0, 0, 0, 0, 49, 50, 51, 52, 53, 54, 55, 56] : List UInt8) ++ [1]) = 0 by decide, show hdN (([0, 0, 8, 6, 0, 0, 0, 0, 0, 49, 50, 51, 52, 53, 54, 55, 56] : List UInt8) ++ [1]) = 8 by decide, show List.take 8 (List.drop 9 (([0, 0, 8, 6, 0, 0, 0, 0, 0, 49, 50, 51, 52, 53, 54, 55, 56] : List UInt8) ++ [1])) = ([49, 50, 51, 52, 53, 54, 55, 56] : List UInt8) by decide] at hp1
  clear S' S2 hnew
  go_wp2_with fail
  (with_reducible refine hp1.mono ?_)
  clear hp1
  rintro e w2 ⟨G2, x, hG2, S4, ⟨h, -⟩ | ⟨-, rfl, hx⟩⟩
  · exact absurd rfl h
  obtain ⟨X, cx, rfl, -, -, -⟩ := hx.form
  change SlB _ (.slice X 8 cx) _ at hx
  have S5 := S4.newBlk #[.int .i64 6, .int .i64 0, .int .i64 0, .slice X 8 cx] 24
  have hp2 := frame_parse S5 (.slice B 17 cp) ([0, 0, 8, 6, 0, 0, 0, 0, 0, 49, 50, 51, 52, 53, 54, 55, 56] : List UInt8) 7 (fun W SW => (hL _ W SW.drop).2) (by decide)
  rw [show headE ([0, 0, 8, 6, 0, 0, 0, 0, 0, 49, 50, 51, 52, 53, 54, 55, 56] : List UInt8) 7 = 106 by decide] at hp2
  clear S3 S4 e0
  go_wp2_with fail
  generalize w2.heap.size = g at *
  (with_reducible refine hp2.mono ?_)
  clear hp2
  rintro e w3 ⟨G3, y, hG3, S6, ⟨-, rfl⟩ | ⟨h, -⟩⟩
  rotate_left
  · exact absurd h (by decide)
  unfold zeroFr
  have S7 := S6.alloc (.cells #[.int .i64 0, .int .i64 0, .int .i64 0, .slice none 0 0] 24)
  clear S5 S6
  go_upto_region 5 with fail
  refine wp_world S7 fun W S8 => ?_
  clear S7
  have hL8 := (hL _ W S8.drop).2.1
  have S9 := Sat.mid (_ :: L) S8
  have a0 : W.cell? ⟨g, 0, none⟩ = some (.int .i64 6) := S8.cell 0
  have a1 : W.cell? ⟨g, 1, none⟩ = some (.int .i64 0) := S8.cell 1
  have a2 : W.cell? ⟨g, 2, none⟩ = some (.int .i64 0) := S8.cell 2
  have a3 : W.cell? ⟨g, 3, none⟩ = some (.slice X 8 cx) := S8.cell 3
  have b0 : W.cell? ⟨q + 1, 0, none⟩ = some (.int .i64 6) := S9.cell 0
  have b1 : W.cell? ⟨q + 1, 1, none⟩ = some (.int .i64 0) := S9.cell 1
  have b2 : W.cell? ⟨q + 1, 2, none⟩ = some (.int .i64 0) := S9.cell 2
  have b3 : W.cell? ⟨q + 1, 3, none⟩ = some (.slice (some ⟨q, 0, none⟩) 8 8) := S9.cell 3
  have hcu := conv_bytes (.slice B 17 cp) ([0, 0, 8, 6, 0, 0, 0, 0, 0, 49, 50, 51, 52, 53, 54, 55, 56] : List UInt8) W hL8
  rw [show bstr ([0, 0, 8, 6, 0, 0, 0, 0, 0, 49, 50, 51, 52, 53, 54, 55, 56] : List UInt8) = ⟨#[0, 0, 8, 6, 0, 0, 0, 0, 0, 49, 50, 51, 52, 53, 54, 55, 56]⟩ from rfl] at hcu
  have heq := frame_equal S8 6 0 0 6 0 0 (.slice X 8 cx) (.slice (some ⟨q, 0, none⟩) 8 8) ([49, 50, 51, 52, 53, 54, 55, 56] : List UInt8) ([49, 50, 51, 52, 53, 54, 55, 56] : List UInt8) (fun W SW => ((hx.mono hG3).sat SW).1) (fun W SW => ((hb8.mono (hG2.trans hG3)).sat SW).1)
  rw [decide_eq_true ⟨rfl, rfl, rfl, rfl⟩] at heq
  clear S8 S9 hL hL8
  go_wp2_with fail
  (with_reducible refine heq.mono ?_)
  clear heq hcu a0 a1 a2 a3 b0 b1 b2 b3
  rintro e w5 ⟨rfl, S10⟩
  have S9 := Sat.mid (_ :: L) S10
  have b0 : w5.cell? ⟨q + 1, 0, none⟩ = some (.int .i64 6) := S9.cell 0
  have b1 : w5.cell? ⟨q + 1, 1, none⟩ = some (.int .i64 0) := S9.cell 1
  have b2 : w5.cell? ⟨q + 1, 2, none⟩ = some (.int .i64 0) := S9.cell 2
  have b3 : w5.cell? ⟨q + 1, 3, none⟩ = some (.slice (some ⟨q, 0, none⟩) 8 8) := S9.cell 3
  have hln := frame_len S10 6 0 0 (some ⟨q, 0, none⟩) 8 8 (by decide)
  change Calls _ _ _ _ (fun e w' => e = .returned (.int .i64 17) ∧ _) at hln
  clear S10 S9
  go_wp2_with fail
  (with_reducible refine hln.mono ?_)
  clear hln b0 b1 b2 b3
  rintro e w6 ⟨rfl, S11⟩
  go_wp2_with fail
  exact hK.out _ _ ⟨rfl, G3, (hG1.trans hG2).trans hG3, (Sat.dropL L S11.drop).drop⟩
end Go.Proofs.Ytjhhabaeaekejaa

/- The walk over cell.Frames. -/
import Derived.Test.YthenpoammpkjeaaOpen
import Derived.Test.YthenpoammpkjeaaFrs
set_option linter.unusedSimpArgs false
set_option linter.unusedVariables false
namespace Go.Proofs.Ythenpoammpkjeaa
open Go.RowKit

def AllR (fl : List FrD) : Prop := ∀ d ∈ fl, frRight d.t d.f d.s d.bs.length = true
def FillRes (R : Hp) (b : List UInt8) (n : Int) (e : Ending) : Prop :=
  (clRight n = false ∧ e = .returned (.tuple #[.slice none 0 0, .int .i64 11])) ∨ (clRight n = true ∧ n + 9 < b.length ∧ e = .returned (.tuple #[.slice none 0 0, .int .i64 15])) ∨
       (clRight n = true ∧ ∃ z : Nat, n + 9 = b.length + z ∧ ∃ u, e = .returned (.tuple #[u, .int .i64 0]) ∧ SlB (cellR R) u (fillB b z))
set_option maxHeartbeats 4000000 in
set_option maxRecDepth 100000 in
theorem cell_frames {G : Gnd} {w : World} {l : List Asrt} (H : Sat G w l) (v : Value) (fl : List FrD) (n : Int) (hv : RFrs G.ro v fl) (hl : (flat fl).length ≤ 100000) :
    Calls Try.prog 20 #[v, .int .i64 n] w fun e w' => ∃ G', G.le G' ∧ Sat G' w' l ∧
      ((¬ AllR fl ∧ e = .returned (.tuple #[.slice none 0 0, .int .i64 10])) ∨ (AllR fl ∧ FillRes G'.ro (flat fl) n e)) := by
  refine calls_any fun K hK => ?_
  obtain ⟨A, c, rfl, hfl, hel⟩ := hv
  have HEL := Lib.hid hel
  clear hel
  have S0 := H.ownNil 5 1
  clear H
  go_enter Try.func20, Try.ntmps20
  go_wp2_with fail
  go_loopw [6, 13] (fun x i wr => ∃ (k : Nat) (G1 : Gnd), k ≤ fl.length ∧ i = .int .i64 k ∧ G.le G1 ∧ AllR (fl.take k) ∧ Sat G1 wr (ownS 5 1 x (flat (fl.take k)).length ((flat (fl.take k)).map byteV) :: l)) (fun _ i _ => fl.length - (intOf i).toNat)
  case atStart => exact ⟨0, _, Nat.zero_le _, rfl, Gnd.le.rfl', fun d hd => by simp at hd, by simpa [flat] using S0⟩
  case round =>
    obtain ⟨k, G1, hk, rfl, hG, hR, S1⟩ := hrel
    clear S0
    obtain ⟨O, co, rfl, hco1, hco2, -⟩ := S1.ownForm
    by_cases hlt : k < fl.length
    · have hdk := List.getElem?_eq_getElem hlt
      obtain ⟨a, b, off, rfl, ha, p0, p1, p2, p3, hs, hbl⟩ := HEL.out k fl[k] hdk
      have q0 := S1.cellR (cellR_mono hG.ro p0)
      have q1 := S1.cellR (cellR_mono hG.ro p1)
      have q2 := S1.cellR (cellR_mono hG.ro p2)
      have q3 := S1.cellR (cellR_mono hG.ro p3)
      have HSN := Lib.hid (take_snoc hdk)
      have HFT := Lib.hid (flat_take hdk)
      have HME := Lib.hid (List.getElem_mem hlt)
      have HRR := Lib.hid hR
      have hs1 := hs.mono hG
      have hle := flat_take_le fl (k + 1)
      rw [HFT.out, List.length_append, bytes_len] at hle
      clear p0 p1 p2 p3 hs hR hdk
      generalize fl[k] = d at *
      obtain ⟨dt, df, ds, dv, db⟩ := d
      simp only at q0 q1 q2 q3 hs1 hbl hle
      obtain ⟨X, cx, rfl, -, -, -⟩ := hs1.form
      have S2 := S1.newBlk #[.int .i64 dt, .int .i64 df, .int .i64 ds, .slice X db.length cx] 40
      have hfb := frame_bytes_any S2 dt df ds _ db hs1
      clear S1
      go_wp2_with fail
      (with_reducible refine hfb.mono ?_)
      clear hfb q0 q1 q2 q3 S2
      rintro e w4 ⟨G2, u, er, hG2, S4, rfl, hor⟩
      rcases hor with ⟨hfr, rfl, rfl⟩ | ⟨hfr, rfl, hu⟩
      · have HF := Lib.hid hfr
        clear hfr
        go_wp2_with fail
        exact hK.out _ _ ⟨G2, hG.trans hG2, S4.drop.drop, .inl ⟨(fun hall => by have := hall _ HME.out; rw [HF.out] at this; cases this), rfl⟩⟩
      · have HF := Lib.hid hfr
        obtain ⟨U, cu, rfl, -, -, hU⟩ := hu.form
        have hbl2 := frBytes_length dt.toNat df.toNat ds.toNat db
        have S5 := S4.drop
        have hb2 := (hu.sat S5).1
        have HBY := Lib.hid (show FrD.bytes ⟨dt, df, ds, .slice X db.length cx, db⟩ = frBytes dt.toNat df.toNat ds.toNat db from rfl)
        generalize frBytes dt.toNat df.toNat ds.toNat db = fb at *
        have hb3 : (flat (fl.take k)).length + fb.length ≤ 140737488355328 := by omega
        clear hfr S4 hu hbl2 hle
        go_wp2_with (at_builtin; refine st_app S5 rfl _ _ rfl rfl rfl hb2 hU hb3 ?_; intro v' w' S')
        go_roundw
        case rel => exact ⟨k + 1, G2, by omega, by go_num, hG.trans hG2, fun d hd => by
          rw [HSN.out] at hd
          rcases List.mem_append.1 hd with hd | hd
          · exact HRR.out d hd
          · rw [List.mem_singleton.1 hd]; exact HF.out, by rw [HFT.out, HBY.out]; simpa using S'⟩
        case measure => simp [intOf]; omega
    · obtain rfl : k = fl.length := by omega
      rw [List.take_length] at hR S1
      obtain ⟨G3, hG3, S3, hout⟩ := S1.ownFrz
      have hf := cell_fill S3 _ (flat fl) n hout (by omega)
      rw [List.take_length]
      have HR := Lib.hid hR
      clear hR S1 hout
      go_wp2_with fail
      (with_reducible refine hf.mono ?_)
      clear hf S3
      rintro e w5 ⟨G4, hG4, S5, hres⟩
      have HRES : Hid (FillRes G4.ro (flat fl) n e) := Lib.hid hres
      obtain ⟨x, y, rfl⟩ : ∃ x y, e = .returned (.tuple #[x, y]) := by
        rcases hres with ⟨-, rfl⟩ | ⟨-, -, rfl⟩ | ⟨-, z, -, u, rfl, -⟩ <;> exact ⟨_, _, rfl⟩
      clear hres
      go_wp2_with fail
      exact hK.out _ _ ⟨G4, (hG.trans hG3).trans hG4, S5, .inr ⟨HR.out, HRES.out⟩⟩
end Go.Proofs.Ythenpoammpkjeaa

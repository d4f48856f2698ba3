/- slices.Clone of fields; shrink. -/
import Derived.Test.YtkjkekhhhbopcaaShr
import Derived.Deep.RegionHeld
set_option linter.unusedSimpArgs false
set_option linter.unusedVariables false
namespace Go.Proofs.Ytkjkekhhhbopcaa
open Go.RowKit

theorem shrF_lt {most : Int} : ∀ {F : List Fd} {k : Nat}, k < (shrF most F).2 → k < F.length ∧ most < (fsz (F.drop k) : Int)
  | [], k, h => by simp [shrF] at h
  | f :: F, k, h => by
    by_cases hm : most < (fsz (f :: F) : Int)
    · rw [shrF_go hm] at h
      cases k with
      | zero => exact ⟨by simp, hm⟩
      | succ k =>
        obtain ⟨h1, h2⟩ := shrF_lt (F := F) (k := k) (by simpa using h)
        exact ⟨by simpa using h1, by simpa using h2⟩
    · rw [shrF_stop (.inr (by omega))] at h
      simp at h
theorem shrF_end (most : Int) : ∀ F : List Fd, (shrF most F).2 = F.length ∨ (fsz (F.drop (shrF most F).2) : Int) ≤ most
  | [] => .inl rfl
  | f :: F => by
    by_cases hm : most < (fsz (f :: F) : Int)
    · rw [shrF_go hm]
      rcases shrF_end most F with h | h
      · exact .inl (by simp [h])
      · exact .inr (by simpa using h)
    · rw [shrF_stop (.inr (by omega))]
      exact .inr (by simpa using (show (fsz (f :: F) : Int) ≤ most by omega))
theorem info_fd : (Try.prog.info? 23).map (fun i => (i.zero, i.size, i.bytes)) = some (some (.agg #[.string { data := #[] }, .string { data := #[] }]), 2, 32) := by kernel_rfl
theorem fslice_is_nil (A : Option Addr) (n c : Nat) (w : World) : (binOp .eql 58 (.slice A n c) (.slice none 0 0)).run Try.prog w = .ok (.bool A.isNone) w := by
  simp [binOp, run_equal_slice_nil w 58 23 A n c Try.underlying58]
section
variable {G : Gnd} {w : World} {l : List Asrt} {p : Nat} {Z F : List Fd} {lim : Int}
theorem fenc_one (F : List Fd) : (encs fenc F).all (·.oneCell') = true := by
  rw [List.all_eq_true]
  intro u hu
  obtain ⟨x, -, hx⟩ := List.mem_flatMap.1 hu
  simp only [fenc, List.mem_cons, List.not_mem_nil, or_false] at hx
  rcases hx with rfl | rfl <;> rfl
theorem fd_clone {g o n c : Nat} (H : Sat G w l) (hn : F.length = n) (h1 : n ≤ 100000) (hc : ∀ k u, (encs fenc F)[k]? = some u → w.cell? ⟨g, o + k, none⟩ = some u) :
    Calls Try.prog 30 #[.slice (some ⟨g, o, none⟩) n c] w fun e w' => ∃ A c', e = .returned (.slice A n c') ∧ Sat G w' (ownS 23 2 (.slice A n c') n (encs fenc F) :: l) := by
  refine calls_any fun K hK => ?_
  have S0 := (H.newBlk #[] 23).ownBlk (size := 2) 0 rfl (Nat.zero_le _)
  have hw : Hid (∀ j u, (encs fenc F)[j]? = some u → (w.alloc (.cells #[] 23)).cell? ((⟨g, o, none⟩ : Addr).add j) = some u) := Lib.hid fun j u hj => by
    have e : (⟨g, o, none⟩ : Addr).add j = ⟨g, o + j, none⟩ := by unfold Addr.add; split <;> simp_all
    rw [e, World.cell?_alloc_some _ _ _ (by rw [hc j u hj]; rfl)]
    exact hc j u hj
  have HL1 : Hid ((encs fenc F).length = n * 2) := Lib.hid (by rw [encs_length fd_len, hn])
  have HL3 := Lib.hid (fenc_one F)
  have hnil := fslice_is_nil (some ⟨g, o, none⟩) n c w
  generalize encs fenc F = E at *
  clear hc H hn
  go_enter Try.func30, Try.ntmps30
  go_wp2_with (at_builtin; refine st_append rfl _ _ 58 rfl 23 (.agg #[.string { data := #[] }, .string { data := #[] }]) 2 32 Try.underlying58 info_fd rfl (by omega) _ 0 [] rfl S0 ⟨g, o, none⟩ n c E rfl HL1.out hw.out HL3.out (Nat.le_trans (show 0 + n ≤ 100000 by omega) (by decide)) (by omega) ?_; intro v' w' S')
  have S2 : Sat G w' (ownS 23 2 v' n E :: l) := by simpa using S'
  obtain ⟨A, c', rfl, -⟩ := S2.ownSlice
  exact hK.out _ _ ⟨A, c', rfl, S2⟩
end
end Go.Proofs.Ytkjkekhhhbopcaa

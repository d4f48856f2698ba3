/- The walks over slices.Concat of bytes, and bytes.Equal. -/
import Derived.Test.YtdfdcenbpanegaaSlv
import Derived.Lib.AppendZeros
set_option linter.unusedSimpArgs false
set_option linter.unusedVariables false
namespace Go.Proofs.Ytdfdcenbpanegaa
open Go.RowKit
theorem bstr_list (a : List UInt8) : (bstr a).toList = a := ByteArray.toList_mk _
theorem bytes_equal {w : World} (v1 v2 : Value) (a b : List UInt8) (h1 : SlV w.cell? v1 a.length (a.map byteV)) (h2 : SlV w.cell? v2 b.length (b.map byteV)) :
    Calls Try.prog 25 #[v1, v2] w fun e w' => e = .returned (.bool (a == b)) ∧ w = w' := by
  refine calls_any fun K hK => ?_
  have c1 := conv_bytes v1 a w h1
  have c2 := conv_bytes v2 b w h2
  have e1 := bstr_list a
  have e2 := bstr_list b
  go_enter Try.func25, Try.ntmps25
  go_wp2_with fail
  exact hK.out _ _ ⟨rfl, rfl⟩
end Go.Proofs.Ytdfdcenbpanegaa

/- The walks over slices.Concat of bytes, and bytes.Equal. -/
import Derived.Test.YtkjkekhhhbopcaaSlv
import Derived.Lib.AppendZeros
set_option linter.unusedSimpArgs false
set_option linter.unusedVariables false
namespace Go.Proofs.Ytkjkekhhhbopcaa
open Go.RowKit
theorem bstr_list (a : List UInt8) : (bstr a).toList = a := ByteArray.toList_mk _
end Go.Proofs.Ytkjkekhhhbopcaa

/- Slices of ints: the laws' copy of an argument (toIntS) and their comparison (eqIntS). -/
import Derived.Test.YtheifhjnbpbkhaaDoorCommon
set_option linter.unusedSimpArgs false
set_option linter.unusedVariables false
namespace Go.Proofs.YtheifhjnbpbkhaaDoor
open Go.RowKit Go.ChangeShapes Go.WideShapes Go.ChangeAt Go.Joins Go.Deep
open Go.ChangeMaps (open_string shut_string)

theorem getI_lt {zs : List Int} {i : Nat} (h : i < zs.length) : (zs.map (Value.int .i64))[i]? = some (.int .i64 (zs[i])) := by simp [h]

theorem info_int : (Tryd.prog.info? 3).map (fun i => (i.zero, i.size, i.bytes)) = some (some (.int .i64 0), 1, 8) := by kernel_rfl

end Go.Proofs.YtheifhjnbpbkhaaDoor

/- Whether a drain's limits are well formed: the program's answer and the reference's. -/
import Derived.Test.YtahfbhfmhccgoaaCommon
set_option linter.unusedSimpArgs false
set_option linter.unusedVariables false
namespace Go.Proofs.Ytahfbhfmhccgoaa
open Go.RowKit Go.ChangeShapes Go.WideShapes Go.ChangeAt Go.Joins Go.Deep
open Go.ChangeMaps (open_string shut_string)

def drainOkB (lo hi : Int) : Bool := decide (0 ≤ lo) && (decide (lo < hi) && decide (hi ≤ 12))

end Go.Proofs.Ytahfbhfmhccgoaa

/- Closed facts of the row of ScriptLong, each by the kernel. -/
import Derived.Test.YtjgnkfhnefbeoaaGreatDoorRows
import Derived.ProofKit
namespace Go.Proofs.YtjgnkfhnefbeoaaGreatDoor
open Go Go.ChangeShapes Go.WideShapes Go.ChangeAt Go.RowKit
set_option maxRecDepth 100000
theorem long_k11 : ((Rows.scriptLongRow.recurses == Tryz.prog.recurses 3)) = true := by kernel_rfl
theorem long_k12 : ((Rows.scriptLongRow.named == Tryz.prog.varsNamed 3)) = true := by kernel_rfl
end Go.Proofs.YtjgnkfhnefbeoaaGreatDoor

/- Closed facts of the card of ScriptLong, each by the kernel. -/
import Derived.Test.YtjgnkfhnefbeoaaGreatDoorCards
import Derived.ProofKit
import Derived.SevenTiedAt
namespace Go.Proofs.YtjgnkfhnefbeoaaGreatDoor
open Go Go.ChangeShapes Go.WideShapes Go.ChangeAt Go.RowKit
set_option maxRecDepth 100000
theorem long_c1 : Rows.scriptLongRow.wfByText (OpenSpec.ofChange Rows.scriptLongSpec) = true := by kernel_rfl
theorem long_c2 : Tryz.pinned.checked.prog.mainIs = some (true, ("2b56cba8883c3b4b60508039af3e23965861340960ac6129f1408bf729eef01a" : String).toList) := by kernel_rfl
theorem long_c3 : true = Tryz.pinned.checked.prog.looks [] := by kernel_rfl
theorem long_c4 : false = Rows.scriptLongRow.goesBy Tryz.pinned.checked.prog := by kernel_rfl
theorem long_c5 : Tryz.prog.funcNamed "greffier/greffierlaw28.ScriptLong" = some 3 := by kernel_rfl
theorem long_c6 : ([4, 22].all fun u => !Tryz.prog.wantsStandIn u) = true := by kernel_rfl
theorem long_c7 : Tryz.f3.isInstance Tryz.pinned.checked.prog Rows.scriptLongRow.origin Rows.scriptLongRow.targs := of_decide_eq_true (by kernel_rfl)
theorem long_c8 : Tryz.f3.isWrapper Tryz.pinned.checked.prog Rows.scriptLongRow.wrapper Rows.scriptLongRow.mainSum := by unfold Func.isWrapper; first | (rw [if_pos (by decide +kernel)]; kernel_rfl) | (rw [if_neg (by decide +kernel)]; exact ⟨rfl, rfl⟩)
end Go.Proofs.YtjgnkfhnefbeoaaGreatDoor

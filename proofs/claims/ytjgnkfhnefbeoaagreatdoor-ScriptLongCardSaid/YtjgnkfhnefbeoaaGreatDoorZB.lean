/- Closed facts of the row of ScriptLong, each by the kernel. -/
import Derived.Test.YtjgnkfhnefbeoaaGreatDoorRows
import Derived.ProofKit
namespace Go.Proofs.YtjgnkfhnefbeoaaGreatDoor
open Go Go.ChangeShapes Go.WideShapes Go.ChangeAt Go.RowKit
set_option maxRecDepth 100000
theorem long_k0 : (Rows.scriptLongRow.wf (OpenSpec.ofChange Rows.scriptLongSpec)) = true := by kernel_rfl
theorem long_k1 : (laidOutB Tryz.prog) = true := by kernel_rfl
theorem long_k2 : (mapsRowed Tryz.prog) = true := by kernel_rfl
theorem long_k3 : (Tryz.f3.params.all (Tryz.prog.readableRec ·)) = true := by kernel_rfl
theorem long_k4 : (namedTie Tryz.prog Rows.scriptLongRow.named Rows.scriptLongSpec.vars) = true := by kernel_rfl
theorem long_k5 : ((Rows.scriptLongRow.stops == [])) = true := by kernel_rfl
theorem long_k6 : ((Tryz.prog.stops == [])) = true := by kernel_rfl
theorem long_k7 : ((Rows.scriptLongRow.knobs == [])) = true := by kernel_rfl
theorem long_k8 : ((Tryz.prog.stopKnobs == [])) = true := by kernel_rfl
theorem long_k13 : ((Rows.scriptLongRow.maps == (Tryz.f3.params.toList ++ Rows.scriptLongSpec.plain.varTypes Tryz.prog).any (Tryz.prog.mapsRec ·))) = true := by kernel_rfl
theorem long_k14 : ((Rows.scriptLongRow.ifaces == (Tryz.f3.params.toList ++ Rows.scriptLongSpec.plain.varTypes Tryz.prog).any (Tryz.prog.ifacesRec ·))) = true := by kernel_rfl
theorem long_k15 : ((Rows.scriptLongRow.mapsOut == Tryz.prog.mapsAmong Tryz.f3.resultTypes.toList)) = true := by kernel_rfl
theorem long_k16 : ((Rows.scriptLongRow.loops == (Tryz.f3.params.toList ++ Rows.scriptLongSpec.plain.varTypes Tryz.prog).any (Tryz.prog.loopsFrom ·))) = true := by kernel_rfl
theorem long_k17 : ((Rows.scriptLongRow.wideKeys == (Tryz.f3.params.toList ++ Rows.scriptLongSpec.plain.varTypes Tryz.prog ++ Tryz.f3.resultTypes.toList).any (Tryz.prog.wideKeysFrom ·))) = true := by kernel_rfl
theorem long_k18 : (Rows.scriptLongSpec.vars.all (Tryz.prog.varReadable ·)) = true := by kernel_rfl
theorem long_k19 : (Tryz.f3.resultTypes.all (fun t => Tryz.prog.readableRec t && decide (t < Tryz.prog.types.size))) = true := by kernel_rfl
theorem long_k20 : ((Rows.scriptLongRow.ifacesOut == Tryz.f3.resultTypes.toList.any (Tryz.prog.ifacesRec ·))) = true := by kernel_rfl
theorem long_k21 : ((Rows.scriptLongRow.loopsOut == Tryz.f3.resultTypes.toList.any (Tryz.prog.loopsFrom ·))) = true := by kernel_rfl
theorem long_k22 : ((Rows.scriptLongRow.plainKeys == Tryz.prog.plainKeys)) = true := by kernel_rfl
theorem long_k23 : (Rows.scriptLongRow.shortTexts.isNone) = true := by kernel_rfl
theorem long_k24 : (Tryz.prog.stopsHeard) = true := by kernel_rfl
theorem long_k25 : (Tryz.prog.mayEnter) = true := by kernel_rfl
theorem long_k26 : ((Rows.scriptLongRow.lifted == Tryz.prog.liftsFinal)) = true := by kernel_rfl
theorem long_k27 : ((Tryz.prog.make == some Rows.scriptLongRow.make)) = true := by kernel_rfl
theorem long_k28 : ((Rows.scriptLongRow.kinds == (if Rows.scriptLongRow.domain.isEmpty then [] else Tryz.f3.params.toList.map fun t => match Tryz.prog.underlying t with | some (.int k) => some k | _ => none))) = true := by kernel_rfl
theorem long_k29 : ((Rows.scriptLongRow.pinned == Rows.scriptLongRow.pinnedBy)) = true := by kernel_rfl
theorem long_k30 : ((Rows.scriptLongRow.veiled == (Tryz.f3.params.toList ++ Rows.scriptLongSpec.plain.varTypes Tryz.prog ++ Tryz.f3.resultTypes.toList).any (Tryz.prog.veiledRec ·))) = true := by kernel_rfl
theorem long_k31 : (Rows.scriptLongRow.veiledFits Tryz.prog Tryz.f3.params.toList (Tryz.f3.params.toList ++ Rows.scriptLongSpec.plain.varTypes Tryz.prog ++ Tryz.f3.resultTypes.toList)) = true := by kernel_rfl
end Go.Proofs.YtjgnkfhnefbeoaaGreatDoor

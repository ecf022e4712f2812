/- For every input greffierlaw28.ScriptLong returns true, and its arguments read behind the call as they read before: as many lines as may be are played, one more are not; nor a text of too many bytes. Conditions: the listed tables of Go's library start as the program's text lays them (the card ties them). -/
import Derived.Test.YtjgnkfhnefbeoaaGreatDoorZA
import Derived.Test.YtjgnkfhnefbeoaaGreatDoorZB
import Derived.Test.YtjgnkfhnefbeoaaGreatDoorZC
import Derived.Test.YtjgnkfhnefbeoaaGreatDoorZD
import Derived.Test.YtjgnkfhnefbeoaaGreatDoorZE
import Derived.Test.YtjgnkfhnefbeoaaGreatDoorTie
namespace Go.Proofs.YtjgnkfhnefbeoaaGreatDoor
open Go Go.ChangeShapes Go.WideShapes Go.ChangeAt Go.RowKit
set_option maxRecDepth 100000 in
theorem long_closed : joinedFacts Tryz.prog 3 Tryz.f3 Rows.scriptLongSpec Rows.scriptLongRow = true := by
  unfold joinedFacts
  simp only [Bool.and_eq_true]
  exact ⟨⟨⟨⟨⟨⟨⟨⟨⟨⟨⟨⟨⟨⟨⟨⟨⟨⟨⟨⟨⟨⟨⟨⟨⟨⟨⟨⟨⟨⟨⟨long_k0, long_k1⟩, long_k2⟩, long_k3⟩, long_k4⟩, long_k5⟩, long_k6⟩, long_k7⟩, long_k8⟩, long_k9⟩, long_k10⟩, long_k11⟩, long_k12⟩, long_k13⟩, long_k14⟩, long_k15⟩, long_k16⟩, long_k17⟩, long_k18⟩, long_k19⟩, long_k20⟩, long_k21⟩, long_k22⟩, long_k23⟩, long_k24⟩, long_k25⟩, long_k26⟩, long_k27⟩, long_k28⟩, long_k29⟩, long_k30⟩, long_k31⟩

theorem long_holds : Rows.ScriptLongSaid :=
  OpenClaim.holds_of_wide 3 Tryz.f3 rfl rfl rfl rfl rfl rfl rfl ⟨rfl, rfl, rfl, rfl, rfl⟩ rfl rfl rfl rfl rfl long_c5 Tryz.func3 long_closed
    long_c7 long_c8
    (fun os started H enc _ => long_lifted os started H enc)

theorem scriptLong_card : Rows.ScriptLongCardSaid :=
  Claim7.holds_tied_plain_at .later [] [.data, .data, .data, .data, .pinned] true (true, "2b56cba8883c3b4b60508039af3e23965861340960ac6129f1408bf729eef01a") true
    long_holds (fun _ h => by cases h) long_c1 (fun _ h => by cases h) scriptLong_row_tie rfl ⟨rfl, rfl⟩ long_c2 rfl
    (fun f fn hf hfn => by
      obtain rfl : f = 3 := Option.some.inj (long_c5.symm.trans hf) |>.symm
      obtain rfl : fn = Tryz.f3 := (Option.some.inj (Tryz.func3.symm.trans hfn)).symm
      exact ⟨long_c3, fun j t ht => by
        rw [Tryz.params3] at ht
        have hm : t ∈ [4, 22] := by simpa using Array.mem_of_getElem? ht
        exact (show Tryz.prog.wantsStandIn t = false by simpa using List.all_eq_true.1 long_c6 t hm)⟩)
    long_c4
#print axioms scriptLong_card
end Go.Proofs.YtjgnkfhnefbeoaaGreatDoor

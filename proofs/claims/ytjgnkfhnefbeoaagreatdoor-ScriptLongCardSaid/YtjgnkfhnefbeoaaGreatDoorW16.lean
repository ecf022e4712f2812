import Derived.Test.YtjgnkfhnefbeoaaGreatDoorW15
namespace Go.Proofs
open Go.RowKit Go.Lib

set_option maxHeartbeats 1000000
set_option maxRecDepth 100000

theorem Tryz.size_none (a g : Nat) (w : World) :
    Calls Tryz.prog 56 #[.agg #[.slice (some ⟨a, 0, none⟩) 7 7, .slice none 0 0, .slice none 0 0, .slice none 0 0, .slice (some ⟨g, 0, none⟩) 2 2, .int .i64 0]] w fun e w' => e = .returned (.int .i64 9) ∧ Below w.heap.size w w' := by
  go_enter Tryz.func56, Tryz.ntmps56
  go_wp2_with (go_at_call 87; refine (Tryz.concat_none (w.heap.size + 1) _ (by simp) (by simp)).mono ?_; rintro e w' ⟨rfl, rfl⟩)
  go_loop [3, 20] (fun n i => n = .int .i64 9 ∧ i = .int .i64 0) (fun _ _ => 0)
  case atStart => exact ⟨rfl, rfl⟩
  case round =>
    obtain ⟨rfl, rfl⟩ := hrel
    go_wp2
    go_ret
    exact ⟨rfl, ((Below.refl _ w).alloc (by simp) _).alloc (by simp) _⟩
end Go.Proofs

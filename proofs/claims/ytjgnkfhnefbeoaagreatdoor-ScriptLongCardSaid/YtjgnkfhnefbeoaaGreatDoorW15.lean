import Derived.Test.YtjgnkfhnefbeoaaGreatDoorW14
namespace Go.Proofs
open Go.RowKit Go.Lib

set_option maxHeartbeats 1000000
set_option maxRecDepth 100000

theorem Tryz.grow_none (w : World) : Calls Tryz.prog 129 #[.slice none 0 0, .int .i64 0] w fun e w' => e = .returned (.slice none 0 0) ∧ w = w' := by
  go_enter Tryz.func129, Tryz.ntmps129
  go_wp2
  go_ret
  exact ⟨rfl, rfl⟩

theorem Tryz.concat_none (g : Nat) (w : World) (h0 : w.cell? ⟨g, 0, none⟩ = some (.slice none 0 0)) (h1 : w.cell? ⟨g, 1, none⟩ = some (.slice none 0 0)) :
    Calls Tryz.prog 87 #[.slice (some ⟨g, 0, none⟩) 2 2] w fun e w' => e = .returned (.slice none 0 0) ∧ w = w' := by
  go_enter Tryz.func87, Tryz.ntmps87
  go_wp2
  go_loop [3, 11] (fun n i => n = .int .i64 0 ∧ (i = .int .i64 0 ∨ i = .int .i64 1 ∨ i = .int .i64 2)) (fun _ i => 2 - (Go.RowKit.intOf i).toNat)
  case atStart => exact ⟨rfl, .inl rfl⟩
  case round =>
    obtain ⟨rfl, rfl | rfl | rfl⟩ := hrel
    · go_wp2
      go_round
      case rel => exact ⟨rfl, .inr (.inl rfl)⟩
      case measure => simp [Go.RowKit.intOf]
    · go_wp2
      go_round
      case rel => exact ⟨rfl, .inr (.inr rfl)⟩
      case measure => simp [Go.RowKit.intOf]
    · go_wp2_with (go_at_call 129; refine (Tryz.grow_none _).mono ?_; rintro e w' ⟨rfl, rfl⟩)
      go_loop [6, 27] (fun n i => n = .slice none 0 0 ∧ (i = .int .i64 0 ∨ i = .int .i64 1 ∨ i = .int .i64 2)) (fun _ i => 2 - (Go.RowKit.intOf i).toNat)
      case atStart => exact ⟨rfl, .inl rfl⟩
      case round =>
        obtain ⟨rfl, rfl | rfl | rfl⟩ := hrel
        · go_wp2
          go_round
          case rel => exact ⟨rfl, .inr (.inl rfl)⟩
          case measure => simp [Go.RowKit.intOf]
        · go_wp2
          go_round
          case rel => exact ⟨rfl, .inr (.inr rfl)⟩
          case measure => simp [Go.RowKit.intOf]
        · go_wp2
          go_ret
          exact ⟨rfl, rfl⟩
end Go.Proofs

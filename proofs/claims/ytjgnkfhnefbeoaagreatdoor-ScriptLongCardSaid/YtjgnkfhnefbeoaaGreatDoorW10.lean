import Derived.Test.YtjgnkfhnefbeoaaGreatDoorW9
import Derived.BigRegion
import Derived.RegionCalls
import Derived.StillTailTactics
import Derived.BigQuiet
namespace Go.Proofs
open Go.RowKit Go.Lib

set_option maxHeartbeats 1000000
set_option maxRecDepth 100000

/-- The reader of "0:". -/
def Tryz.Rdr (rb g : Nat) (i n : Int) (W : World) : Prop :=
  W.heap[rb]? = some (.cells #[.slice (some ⟨g, 0, none⟩) 2 2, .int .i64 i, .int .i64 n, .slice none 0 0] 186) ∧ W.heap[g]? = some (.cells #[.int .u8 48, .int .u8 58] 5 (2, 3)) ∧ rb ≠ g

theorem Tryz.Rdr.cells {rb g : Nat} {i n : Int} {W : World} (h : Tryz.Rdr rb g i n W) :
    W.cell? ⟨rb, 0, none⟩ = some (.slice (some ⟨g, 0, none⟩) 2 2) ∧ W.cell? ⟨rb, 1, none⟩ = some (.int .i64 i) ∧ W.cell? ⟨rb, 2, none⟩ = some (.int .i64 n) ∧ W.cell? ⟨rb, 3, none⟩ = some (.slice none 0 0) ∧
    W.cell? ⟨g, 0, none⟩ = some (.int .u8 48) ∧ W.cell? ⟨g, 1, none⟩ = some (.int .u8 58) ∧ W.frozen? ⟨rb, 1, none⟩ = false ∧ W.frozen? ⟨rb, 2, none⟩ = false := by
  obtain ⟨h1, h2, _⟩ := h
  refine ⟨Tryz.cell_of h1 0, Tryz.cell_of h1 1, Tryz.cell_of h1 2, Tryz.cell_of h1 3, ?_, ?_, Tryz.frozen_of h1 1, Tryz.frozen_of h1 2⟩ <;> simp [World.cell?, h2]

theorem Tryz.Rdr.turn {rb g : Nat} {i n : Int} {W W' : World} (h : Tryz.Rdr rb g i n W) (hh : W'.heap = W.heap) : Tryz.Rdr rb g i n W' := by
  unfold Tryz.Rdr; rw [hh]; exact h
theorem Tryz.Rdr.at {rb g : Nat} {i n j : Int} {W : World} (h : Tryz.Rdr rb g i n W) : Tryz.Rdr rb g j n (W.setCell ⟨rb, 1, none⟩ (.int .i64 j)) :=
  ⟨by rw [Tryz.set_of h.1 1]; rfl, (Below.heap_setCell W ⟨rb, 1, none⟩ _ g (fun e => h.2.2 e.symm)).trans h.2.1, h.2.2⟩
theorem Tryz.Rdr.node {rb g : Nat} {i n j : Int} {W : World} (h : Tryz.Rdr rb g i n W) : Tryz.Rdr rb g i j (W.setCell ⟨rb, 2, none⟩ (.int .i64 j)) :=
  ⟨by rw [Tryz.set_of h.1 2]; rfl, (Below.heap_setCell W ⟨rb, 2, none⟩ _ g (fun e => h.2.2 e.symm)).trans h.2.1, h.2.2⟩
theorem Tryz.Turn.drew (B b : Nat) (w : World) : Tryz.Turn B b w w.drew := ⟨rfl, rfl, rfl, Nat.le_refl _, fun _ _ _ => rfl⟩

theorem Tryz.getLen_0 (g : Nat) (w : World) (h0 : w.cell? ⟨g, 0, none⟩ = some (.int .u8 48)) :
    Calls Tryz.prog 215 #[.slice (some ⟨g, 0, none⟩) 2 2, .int .i64 0, .int .i64 4096] w fun e w' => e = .returned (.tuple #[.int .i64 0, .int .i64 1, .int .i64 0]) ∧ w = w' := by
  go_enter Tryz.func215, Tryz.ntmps215
  go_wp2
  go_ret3
  exact ⟨rfl, rfl⟩

theorem Tryz.sign_58 (rb g : Nat) (n : Int) (w : World) (h : Tryz.Rdr rb g 1 n w) :
    Calls Tryz.prog 222 #[.pointer (some ⟨rb, 0, none⟩), .int .u8 58] w fun e w' => e = .returned (.tuple #[]) ∧ Tryz.Rdr rb g 2 n w' ∧ Tryz.Turn w.heap.size rb w w' := by
  obtain ⟨c0, c1, c2, c3, c4, c5, f1, f2⟩ := h.cells
  go_enter Tryz.func222, Tryz.ntmps222
  go_wp2
  go_region
  go_wp2
  go_region
  go_wp2
  go_end0
  exact ⟨rfl, h.at.turn rfl, ((Tryz.Turn.set _ _ _ _ _).trans (Tryz.Turn.drew _ _ _)).trans (Tryz.Turn.drew _ _ _)⟩

theorem Tryz.begins_no (rb g : Nat) (w : World) (h : Tryz.Rdr rb g 0 0 w) :
    Calls Tryz.prog 178 #[.pointer (some ⟨rb, 0, none⟩), .bool false] w fun e w' => e = .returned (.tuple #[]) ∧ Tryz.Rdr rb g 0 1 w' ∧ Tryz.Turn w.heap.size rb w w' := by
  obtain ⟨c0, c1, c2, c3, c4, c5, f1, f2⟩ := h.cells
  go_enter Tryz.func178, Tryz.ntmps178
  go_wp2
  go_end0
  exact ⟨rfl, h.node, Tryz.Turn.set _ _ _ _ _⟩

theorem Tryz.eql27 (g n c : Nat) (w : World) : (binOp .eql 27 (.slice (some ⟨g, 0, none⟩) n c) (.slice none 0 0)).run Tryz.prog w = .ok (.bool false) w := by
  have h : ∀ d : Nat, (Op.equalIn (d + 1) 27 (.slice (some ⟨g, 0, none⟩) n c) (.slice none 0 0)).run Tryz.prog w = .ok false w := fun d => by
    simp [Op.equalIn, run_underlying Tryz.underlying27]
  simp only [binOp]
  simp [Op.equal, Op.maxDepth, h 9999]

theorem Tryz.clone_none (g : Nat) (w : World) :
    Calls Tryz.prog 58 #[.slice (some ⟨g, 0, none⟩) 0 0] w fun e w' => e = .returned (.slice (some ⟨w.heap.size, 0, none⟩) 0 0) ∧ w' = w.alloc (.cells #[] 5) := by
  have heq := Tryz.eql27
  go_enter Tryz.func58, Tryz.ntmps58
  go_wp2
  go_ret
  exact ⟨rfl, rfl⟩

theorem Tryz.bytes_0 (rb g : Nat) (w : World) (h : Tryz.Rdr rb g 0 1 w) :
    Calls Tryz.prog 221 #[.pointer (some ⟨rb, 0, none⟩)] w fun e w' => (∃ p c, e = .returned (.slice p 0 c)) ∧ Tryz.Rdr rb g 2 1 w' ∧ Tryz.Turn w.heap.size rb w w' := by
  obtain ⟨c0, c1, c2, c3, c4, c5, f1, f2⟩ := h.cells
  go_enter Tryz.func221, Tryz.ntmps221
  go_wp2_with fail
  refine wp_region_still_lit (by kernel_rfl) (by kernel_rfl) ?_
  repeat still_step
  still_call ((Tryz.getLen_0 g w.drew c4).mono fun _ _ h => ⟨h.1, h.2.symm⟩)
  repeat still_step
  refine wpStill_nil ?_
  have hS := Tryz.sign_58 rb g 1 (w.drew.setCell ⟨rb, 1, none⟩ (.int .i64 1)) ((h.turn rfl).at)
  go_wp2_with (go_at_call 222; refine hS.mono ?_; clear hS; rintro e w2 ⟨rfl, h2, ht2⟩)
  obtain ⟨b0, b1, b2, b3, b4, b5, e1, e2⟩ := h2.cells
  go_region
  go_wp2_with fail
  obtain ⟨w3, hw3⟩ : ∃ w3, (w2.setCell ⟨rb, 1, none⟩ (.int .i64 2)).drew = w3 := ⟨_, rfl⟩
  have h3 : Tryz.Rdr rb g 2 1 w3 := by rw [← hw3]; exact h2.at.turn rfl
  have hT3 : Tryz.Turn w.heap.size rb w w3 := by
    rw [← hw3]
    refine (((Tryz.Turn.drew _ _ w).trans (Tryz.Turn.set _ rb 1 _ (.int .i64 1))).trans ?_).trans ((Tryz.Turn.set _ rb 1 _ (.int .i64 2)).trans (Tryz.Turn.drew _ _ _))
    have hz : (w.drew.setCell ⟨rb, 1, none⟩ (.int .i64 1)).heap.size = w.heap.size := by simp
    rw [hz] at ht2; exact ht2
  rw [hw3]
  obtain ⟨g0, g1, g2, g3, g4, g5, k1, k2⟩ := h3.cells
  clear hw3 b0 b1 b2 b3 b4 b5 e1 e2 c0 c1 c2 c3 c4 c5 f1 f2 h2 ht2 h
  have hwr : IntKind.i64.wrap 2 = 2 := rfl
  go_still_tail 15, (by kernel_rfl)
  change wpList _ _ _ _ _ w3.drew
  clear hwr
  have hc := Tryz.clone_none g w3.drew
  go_wp2_with (go_at_call 58; refine hc.mono ?_; clear hc; rintro e w4 ⟨rfl, rfl⟩)
  go_ret
  exact ⟨⟨_, _, rfl⟩, ⟨Tryz.alloc_old _ h3.1, Tryz.alloc_old _ h3.2.1, h3.2.2⟩, hT3.trans ((Tryz.Turn.of_grown (row := none) (World.grownBy_alloc w3 _ none) hT3.size (fun k e => by cases e)).trans (Tryz.Turn.drew _ _ _))⟩
end Go.Proofs

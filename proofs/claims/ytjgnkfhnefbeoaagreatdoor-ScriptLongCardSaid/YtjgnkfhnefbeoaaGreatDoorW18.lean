import Derived.Test.YtjgnkfhnefbeoaaGreatDoorW17
namespace Go.Proofs
open Go.RowKit Go.Lib

set_option maxHeartbeats 1000000
set_option maxRecDepth 100000

theorem Tryz.cells6 {W : World} {k : Nat} {v0 v1 v2 v3 v4 v5 : Value} {t : TypeId} (h : W.heap[k]? = some (.cells #[v0, v1, v2, v3, v4, v5] t)) :
    W.cell? ⟨k, 0, none⟩ = some v0 ∧ W.cell? ⟨k, 1, none⟩ = some v1 ∧ W.cell? ⟨k, 2, none⟩ = some v2 ∧ W.cell? ⟨k, 3, none⟩ = some v3 ∧ W.cell? ⟨k, 4, none⟩ = some v4 ∧ W.cell? ⟨k, 5, none⟩ = some v5 ∧
    W.frozen? ⟨k, 0, none⟩ = false ∧ W.frozen? ⟨k, 1, none⟩ = false ∧ W.frozen? ⟨k, 2, none⟩ = false ∧ W.frozen? ⟨k, 3, none⟩ = false ∧ W.frozen? ⟨k, 4, none⟩ = false ∧ W.frozen? ⟨k, 5, none⟩ = false :=
  ⟨Tryz.cell_of h 0, Tryz.cell_of h 1, Tryz.cell_of h 2, Tryz.cell_of h 3, Tryz.cell_of h 4, Tryz.cell_of h 5, Tryz.frozen_of h 0, Tryz.frozen_of h 1, Tryz.frozen_of h 2, Tryz.frozen_of h 3, Tryz.frozen_of h 4, Tryz.frozen_of h 5⟩

theorem Tryz.decide_none (a g : Nat) (w : World) (hg : w.heap[g]? = some (.cells #[.int .u8 48, .int .u8 58] 5 (2, 3))) :
    Calls Tryz.prog 25 #[.agg #[.slice (some ⟨a, 0, none⟩) 7 7, .slice none 0 0, .slice none 0 0, .slice none 0 0, .slice (some ⟨g, 0, none⟩) 2 2, .int .i64 0]] w fun e w' => e = .returned (.agg #[.int .i64 7, .bool false, .slice none 0 0, .int .i64 0, .slice none 0 0, .slice none 0 0]) ∧ Below w.heap.size w w' := by
  have hlt := (Array.getElem?_eq_some_iff.1 hg).1
  go_enter Tryz.func25, Tryz.ntmps25
  go_wp2_with fail
  obtain ⟨w2, hw2⟩ : ∃ w2, (w.alloc (.cells #[.slice (some ⟨a, 0, none⟩) 7 7, .slice none 0 0, .slice none 0 0, .slice none 0 0, .slice (some ⟨g, 0, none⟩) 2 2, .int .i64 0] 33)).alloc (.cells #[.int .i64 0, .bool false, .slice none 0 0, .int .i64 0, .slice none 0 0, .slice none 0 0] 58) = w2 := ⟨_, rfl⟩
  have q1 : w2.heap[w.heap.size + 1]? = some (.cells #[.int .i64 0, .bool false, .slice none 0 0, .int .i64 0, .slice none 0 0, .slice none 0 0] 58) := by rw [← hw2]; exact Tryz.alloc_new _ (by simp)
  have hg2 : w2.heap[g]? = some (.cells #[.int .u8 48, .int .u8 58] 5 (2, 3)) := by rw [← hw2]; exact Tryz.alloc_old _ (Tryz.alloc_old _ hg)
  have b2 : Below w.heap.size w w2 := by rw [← hw2]; exact ((Below.refl _ w).alloc (by simp) _).alloc (by simp) _
  have z2 : w2.heap.size = w.heap.size + 1 + 1 := by rw [← hw2]; simp
  rw [hw2]
  refine (Tryz.open_none a g w2 hg2).mono ?_
  rintro e w3 ⟨rfl, b3⟩
  rw [z2] at b3
  have j1 := (b3.block _ (by omega)).trans q1
  have B3 := b2.trans (b3.mono (by omega))
  have s3 := b3.size
  rw [z2] at s3
  clear hw2 z2 q1 b2 b3
  obtain ⟨d0, d1, d2, d3, d4, d5, m0, m1, m2, m3, m4, m5⟩ := Tryz.cells6 (Tryz.alloc_old (.cells #[.int .i64 0, .slice none 0 0, .slice none 0 0, .slice none 0 0, .slice none 0 0, .slice none 0 0, .bool false, .bool false, .slice none 0 0, .slice none 0 0, .slice none 0 0, .int .i64 0] 78) j1)
  have B4 := B3.alloc (Nat.le_trans (by omega) s3) (.cells #[.int .i64 0, .slice none 0 0, .slice none 0 0, .slice none 0 0, .slice none 0 0, .slice none 0 0, .bool false, .bool false, .slice none 0 0, .slice none 0 0, .slice none 0 0, .int .i64 0] 78)
  go_wp2_with fail
  obtain ⟨Wf, hWf⟩ : ∃ Wf, (World.setCell (World.setCell (World.setCell (World.setCell (World.setCell (World.setCell (w3.alloc (.cells #[.int .i64 0, .slice none 0 0, .slice none 0 0, .slice none 0 0, .slice none 0 0, .slice none 0 0, .bool false, .bool false, .slice none 0 0, .slice none 0 0, .slice none 0 0, .int .i64 0] 78)) ⟨w.heap.size + 1, 0, none⟩ (.int .i64 7)) ⟨w.heap.size + 1, 1, none⟩ (.bool false)) ⟨w.heap.size + 1, 2, none⟩ (.slice none 0 0)) ⟨w.heap.size + 1, 3, none⟩ (.int .i64 0)) ⟨w.heap.size + 1, 4, none⟩ (.slice none 0 0)) ⟨w.heap.size + 1, 5, none⟩ (.slice none 0 0)) = Wf := ⟨_, rfl⟩
  have e1 : Wf.heap[w.heap.size + 1]? = some (.cells #[.int .i64 7, .bool false, .slice none 0 0, .int .i64 0, .slice none 0 0, .slice none 0 0] 58) := by
    rw [← hWf]
    exact (Tryz.set_of (Tryz.set_of (Tryz.set_of (Tryz.set_of (Tryz.set_of (Tryz.set_of (Tryz.alloc_old (.cells #[.int .i64 0, .slice none 0 0, .slice none 0 0, .slice none 0 0, .slice none 0 0, .slice none 0 0, .bool false, .bool false, .slice none 0 0, .slice none 0 0, .slice none 0 0, .int .i64 0] 78) j1) 0 _) 1 _) 2 _) 3 _) 4 _) 5 _)
  have hBf : Below w.heap.size w Wf := by
    rw [← hWf]
    refine ((((((B4.setCell (p := ⟨_, _, none⟩) ?_ _).setCell (p := ⟨_, _, none⟩) ?_ _).setCell (p := ⟨_, _, none⟩) ?_ _).setCell (p := ⟨_, _, none⟩) ?_ _).setCell (p := ⟨_, _, none⟩) ?_ _).setCell (p := ⟨_, _, none⟩) ?_ _) <;> (simp <;> omega)
  rw [hWf]
  clear hWf d0 d1 d2 d3 d4 d5 m0 m1 m2 m3 m4 m5 B4 B3
  obtain ⟨d0, d1, d2, d3, d4, d5, m0, m1, m2, m3, m4, m5⟩ := Tryz.cells6 e1
  refine bodyPost_ret (v := .agg #[.int .i64 7, .bool false, .slice none 0 0, .int .i64 0, .slice none 0 0, .slice none 0 0]) ?_ rfl ⟨rfl, hBf⟩
  simp [results, Tryz.results25, go_sem, d0, d1, d2, d3, d4, d5]
end Go.Proofs

import Derived.Test.YtjgnkfhnefbeoaaGreatDoorW16
namespace Go.Proofs
open Go.RowKit Go.Lib

set_option maxHeartbeats 1000000
set_option maxRecDepth 100000

theorem Tryz.cells12 {W : World} {k : Nat} {v0 v1 v2 v3 v4 v5 v6 v7 v8 v9 v10 v11 : Value} {t : TypeId} (h : W.heap[k]? = some (.cells #[v0, v1, v2, v3, v4, v5, v6, v7, v8, v9, v10, v11] t)) :
    W.cell? ⟨k, 0, none⟩ = some v0 ∧ W.cell? ⟨k, 1, none⟩ = some v1 ∧ W.cell? ⟨k, 2, none⟩ = some v2 ∧ W.cell? ⟨k, 3, none⟩ = some v3 ∧ W.cell? ⟨k, 4, none⟩ = some v4 ∧ W.cell? ⟨k, 5, none⟩ = some v5 ∧ W.cell? ⟨k, 6, none⟩ = some v6 ∧ W.cell? ⟨k, 7, none⟩ = some v7 ∧ W.cell? ⟨k, 8, none⟩ = some v8 ∧ W.cell? ⟨k, 9, none⟩ = some v9 ∧ W.cell? ⟨k, 10, none⟩ = some v10 ∧ W.cell? ⟨k, 11, none⟩ = some v11 ∧
    W.frozen? ⟨k, 0, none⟩ = false ∧ W.frozen? ⟨k, 1, none⟩ = false ∧ W.frozen? ⟨k, 2, none⟩ = false ∧ W.frozen? ⟨k, 3, none⟩ = false ∧ W.frozen? ⟨k, 4, none⟩ = false ∧ W.frozen? ⟨k, 5, none⟩ = false ∧ W.frozen? ⟨k, 6, none⟩ = false ∧ W.frozen? ⟨k, 7, none⟩ = false ∧ W.frozen? ⟨k, 8, none⟩ = false ∧ W.frozen? ⟨k, 9, none⟩ = false ∧ W.frozen? ⟨k, 10, none⟩ = false ∧ W.frozen? ⟨k, 11, none⟩ = false :=
  ⟨Tryz.cell_of h 0, Tryz.cell_of h 1, Tryz.cell_of h 2, Tryz.cell_of h 3, Tryz.cell_of h 4, Tryz.cell_of h 5, Tryz.cell_of h 6, Tryz.cell_of h 7, Tryz.cell_of h 8, Tryz.cell_of h 9, Tryz.cell_of h 10, Tryz.cell_of h 11, Tryz.frozen_of h 0, Tryz.frozen_of h 1, Tryz.frozen_of h 2, Tryz.frozen_of h 3, Tryz.frozen_of h 4, Tryz.frozen_of h 5, Tryz.frozen_of h 6, Tryz.frozen_of h 7, Tryz.frozen_of h 8, Tryz.frozen_of h 9, Tryz.frozen_of h 10, Tryz.frozen_of h 11⟩

theorem Tryz.open_none (a g : Nat) (w : World) (hg : w.heap[g]? = some (.cells #[.int .u8 48, .int .u8 58] 5 (2, 3))) :
    Calls Tryz.prog 37 #[.agg #[.slice (some ⟨a, 0, none⟩) 7 7, .slice none 0 0, .slice none 0 0, .slice none 0 0, .slice (some ⟨g, 0, none⟩) 2 2, .int .i64 0]] w fun e w' => e = .returned (.tuple #[.agg #[.int .i64 0, .slice none 0 0, .slice none 0 0, .slice none 0 0, .slice none 0 0, .slice none 0 0, .bool false, .bool false, .slice none 0 0, .slice none 0 0, .slice none 0 0, .int .i64 0], .int .i64 7]) ∧ Below w.heap.size w w' := by
  have hlt := (Array.getElem?_eq_some_iff.1 hg).1
  go_enter Tryz.func37, Tryz.ntmps37
  go_wp2_with fail
  obtain ⟨w2, hw2⟩ : ∃ w2, (w.alloc (.cells #[.slice (some ⟨a, 0, none⟩) 7 7, .slice none 0 0, .slice none 0 0, .slice none 0 0, .slice (some ⟨g, 0, none⟩) 2 2, .int .i64 0] 33)).alloc (.cells #[.int .i64 0, .slice none 0 0, .slice none 0 0, .slice none 0 0, .slice none 0 0, .slice none 0 0, .bool false, .bool false, .slice none 0 0, .slice none 0 0, .slice none 0 0, .int .i64 0] 78) = w2 := ⟨_, rfl⟩
  have q0 : w2.heap[w.heap.size]? = some (.cells #[.slice (some ⟨a, 0, none⟩) 7 7, .slice none 0 0, .slice none 0 0, .slice none 0 0, .slice (some ⟨g, 0, none⟩) 2 2, .int .i64 0] 33) := by rw [← hw2]; exact Tryz.alloc_old _ (Tryz.alloc_new _ rfl)
  have q1 : w2.heap[w.heap.size + 1]? = some (.cells #[.int .i64 0, .slice none 0 0, .slice none 0 0, .slice none 0 0, .slice none 0 0, .slice none 0 0, .bool false, .bool false, .slice none 0 0, .slice none 0 0, .slice none 0 0, .int .i64 0] 78) := by rw [← hw2]; exact Tryz.alloc_new _ (by simp)
  have hg2 : w2.heap[g]? = some (.cells #[.int .u8 48, .int .u8 58] 5 (2, 3)) := by rw [← hw2]; exact Tryz.alloc_old _ (Tryz.alloc_old _ hg)
  have b2 : Below w.heap.size w w2 := by rw [← hw2]; exact ((Below.refl _ w).alloc (by simp) _).alloc (by simp) _
  have z2 : w2.heap.size = w.heap.size + 1 + 1 := by rw [← hw2]; simp
  rw [hw2]
  refine (Tryz.get_0 g w2 hg2).mono ?_
  rintro e w3 ⟨⟨p, c, rfl⟩, b3⟩
  rw [z2] at b3
  have j0 := (b3.block _ (by omega)).trans q0
  have j1 := (b3.block _ (by omega)).trans q1
  have B3 := b2.trans (b3.mono (by omega))
  have s3 := b3.size
  rw [z2] at s3
  clear hw2 z2 q0 q1 b2 b3
  have hA : ∀ (o : Obj) (i : Nat), (w3.alloc o).cell? ⟨w.heap.size, i, none⟩ = (#[.slice (some ⟨a, 0, none⟩) 7 7, .slice none 0 0, .slice none 0 0, .slice none 0 0, .slice (some ⟨g, 0, none⟩) 2 2, .int .i64 0] : Array Value)[i]? := fun o i => Tryz.cell_of (Tryz.alloc_old o j0) i
  have c0 := fun o => hA o 0; have c1 := fun o => hA o 1; have c2 := fun o => hA o 2; have c3 := fun o => hA o 3; have c4 := fun o => hA o 4; have c5 := fun o => hA o 5
  simp only [List.getElem?_toArray, List.getElem?_cons_zero, List.getElem?_cons_succ] at c0 c1 c2 c3 c4 c5
  clear hA
  go_wp2_with fail
  obtain ⟨w4, hw4⟩ : ∃ w4, w3.alloc (.cells #[.bool false, .bool false, .slice none 0 0, .slice p 0 c, .slice none 0 0] 76) = w4 := ⟨_, rfl⟩
  have r0 : w4.heap[w.heap.size]? = some (.cells #[.slice (some ⟨a, 0, none⟩) 7 7, .slice none 0 0, .slice none 0 0, .slice none 0 0, .slice (some ⟨g, 0, none⟩) 2 2, .int .i64 0] 33) := by rw [← hw4]; exact Tryz.alloc_old _ j0
  have r1 := Tryz.alloc_old (.cells #[.bool false, .bool false, .slice none 0 0, .slice p 0 c, .slice none 0 0] 76) j1
  rw [hw4] at r1
  have B4 : Below w.heap.size w w4 := by rw [← hw4]; exact B3.alloc (by omega) _
  have s4 : w.heap.size + 1 + 1 ≤ w4.heap.size := by rw [← hw4]; simp; omega
  rw [hw4]
  clear hw4 j0 j1 c0 c1 c2 c3 c4 c5 B3
  refine (Tryz.size_none a g w4).mono ?_
  rintro e w5 ⟨rfl, b5⟩
  have k0 := (b5.block _ (by omega)).trans r0
  have k1 := (b5.block _ (by omega)).trans r1
  have B5 := B4.trans (b5.mono (by omega))
  clear r0 r1 B4 b5
  have c3 := Tryz.cell_of k0 3
  simp only [List.getElem?_toArray, List.getElem?_cons_zero, List.getElem?_cons_succ] at c3
  obtain ⟨d0, d1, d2, d3, d4, d5, d6, d7, d8, d9, d10, d11, m0, m1, m2, m3, m4, m5, m6, m7, m8, m9, m10, m11⟩ := Tryz.cells12 k1
  go_wp2_with fail
  obtain ⟨Wf, hWf⟩ : ∃ Wf, (World.setCell (World.setCell (World.setCell (World.setCell (World.setCell (World.setCell (World.setCell (World.setCell (World.setCell (World.setCell (World.setCell (World.setCell w5 ⟨w.heap.size + 1, 0, none⟩ (.int .i64 0)) ⟨w.heap.size + 1, 1, none⟩ (.slice none 0 0)) ⟨w.heap.size + 1, 2, none⟩ (.slice none 0 0)) ⟨w.heap.size + 1, 3, none⟩ (.slice none 0 0)) ⟨w.heap.size + 1, 4, none⟩ (.slice none 0 0)) ⟨w.heap.size + 1, 5, none⟩ (.slice none 0 0)) ⟨w.heap.size + 1, 6, none⟩ (.bool false)) ⟨w.heap.size + 1, 7, none⟩ (.bool false)) ⟨w.heap.size + 1, 8, none⟩ (.slice none 0 0)) ⟨w.heap.size + 1, 9, none⟩ (.slice none 0 0)) ⟨w.heap.size + 1, 10, none⟩ (.slice none 0 0)) ⟨w.heap.size + 1, 11, none⟩ (.int .i64 0)) = Wf := ⟨_, rfl⟩
  have e1 : Wf.heap[w.heap.size + 1]? = some (.cells #[.int .i64 0, .slice none 0 0, .slice none 0 0, .slice none 0 0, .slice none 0 0, .slice none 0 0, .bool false, .bool false, .slice none 0 0, .slice none 0 0, .slice none 0 0, .int .i64 0] 78) := by
    rw [← hWf]
    exact (Tryz.set_of (Tryz.set_of (Tryz.set_of (Tryz.set_of (Tryz.set_of (Tryz.set_of (Tryz.set_of (Tryz.set_of (Tryz.set_of (Tryz.set_of (Tryz.set_of (Tryz.set_of k1 0 _) 1 _) 2 _) 3 _) 4 _) 5 _) 6 _) 7 _) 8 _) 9 _) 10 _) 11 _)
  have hBf : Below w.heap.size w Wf := by
    rw [← hWf]
    refine ((((((((((((B5.setCell (p := ⟨_, _, none⟩) ?_ _).setCell (p := ⟨_, _, none⟩) ?_ _).setCell (p := ⟨_, _, none⟩) ?_ _).setCell (p := ⟨_, _, none⟩) ?_ _).setCell (p := ⟨_, _, none⟩) ?_ _).setCell (p := ⟨_, _, none⟩) ?_ _).setCell (p := ⟨_, _, none⟩) ?_ _).setCell (p := ⟨_, _, none⟩) ?_ _).setCell (p := ⟨_, _, none⟩) ?_ _).setCell (p := ⟨_, _, none⟩) ?_ _).setCell (p := ⟨_, _, none⟩) ?_ _).setCell (p := ⟨_, _, none⟩) ?_ _) <;> (simp <;> omega)
  rw [hWf]
  clear hWf d0 d1 d2 d3 d4 d5 d6 d7 d8 d9 d10 d11 m0 m1 m2 m3 m4 m5 m6 m7 m8 m9 m10 m11 k0 k1 B5 c3
  obtain ⟨d0, d1, d2, d3, d4, d5, d6, d7, d8, d9, d10, d11, m0, m1, m2, m3, m4, m5, m6, m7, m8, m9, m10, m11⟩ := Tryz.cells12 e1
  refine bodyPost_ret (v := .tuple #[.agg #[.int .i64 0, .slice none 0 0, .slice none 0 0, .slice none 0 0, .slice none 0 0, .slice none 0 0, .bool false, .bool false, .slice none 0 0, .slice none 0 0, .slice none 0 0, .int .i64 0], .int .i64 7]) ?_ rfl ⟨rfl, hBf⟩
  simp [results, Tryz.results37, go_sem, d0, d1, d2, d3, d4, d5, d6, d7, d8, d9, d10, d11]
end Go.Proofs

import Derived.Test.YtjgnkfhnefbeoaaGreatDoorW13
namespace Go.Proofs
open Go.RowKit Go.Lib

set_option maxHeartbeats 1000000
set_option maxRecDepth 100000

theorem Tryz.get_idle (p q r : Addr) (w : World) :
    CallsD Tryz.prog 85 #[.pointer (some p), .pointer (some q), .pointer (some r)] .returning w fun e u' w' => e = .returned (.tuple #[]) ∧ u' = .returning ∧ w = w' := by
  refine callsD_of_wpS Tryz.func85 rfl fun c₀ cs hu => ?_
  apply wpS_seq
  apply wpS_region
  simp [wpOpsS, go_sem, recoverD, hu, Tryz.ntmps85, Exit.thenS]
  refine wpS_of_wp ?_
  go_wp2
  cases c₀
  simp_all [bodyPostS, results, Tryz.results85]

theorem Tryz.get_0 (g : Nat) (w : World) (hg : w.heap[g]? = some (.cells #[.int .u8 48, .int .u8 58] 5 (2, 3))) :
    Calls Tryz.prog 55 #[.slice (some ⟨g, 0, none⟩) 2 2] w fun e w' => (∃ p c, e = .returned (.tuple #[.agg #[.bool false, .bool false, .slice none 0 0, .slice p 0 c, .slice none 0 0], .int .i64 0, .int .i64 0])) ∧ Below w.heap.size w w' := by
  have hmf : ∀ (fn : Fn) (first cap : Array Value) (w : World), (Instr.makeFunc fn first cap).run Tryz.prog w = .ok (.func fn first cap) w := fun _ _ _ _ => rfl
  have hlt := (Array.getElem?_eq_some_iff.1 hg).1
  go_enter_defers Tryz.func55, Tryz.ntmps55
  go_wp2_with fail
  obtain ⟨w2, hw2⟩ : ∃ w2, (((w.alloc (.cells #[.bool false, .bool false, .slice none 0 0, .slice none 0 0, .slice none 0 0] 76)).alloc (.cells #[.int .i64 0] 3)).alloc (.cells #[.int .i64 0] 23)).alloc (.cells #[.slice (some ⟨g, 0, none⟩) 2 2, .int .i64 0, .int .i64 0, .slice none 0 0] 186) = w2 := ⟨_, rfl⟩
  have q0 : w2.heap[w.heap.size]? = some (.cells #[.bool false, .bool false, .slice none 0 0, .slice none 0 0, .slice none 0 0] 76) := by rw [← hw2]; exact Tryz.alloc_old _ (Tryz.alloc_old _ (Tryz.alloc_old _ (Tryz.alloc_new _ rfl)))
  have q1 : w2.heap[w.heap.size + 1]? = some (.cells #[.int .i64 0] 3) := by rw [← hw2]; exact Tryz.alloc_old _ (Tryz.alloc_old _ (Tryz.alloc_new _ (by simp)))
  have q2 : w2.heap[w.heap.size + 1 + 1]? = some (.cells #[.int .i64 0] 23) := by rw [← hw2]; exact Tryz.alloc_old _ (Tryz.alloc_new _ (by simp))
  have h2 : Tryz.Rdr (w.heap.size + 1 + 1 + 1) g 0 0 w2 := by
    rw [← hw2]; exact ⟨Tryz.alloc_new _ (by simp), Tryz.alloc_old _ (Tryz.alloc_old _ (Tryz.alloc_old _ (Tryz.alloc_old _ hg))), by omega⟩
  have b2 : Below w.heap.size w w2 := by
    rw [← hw2]; exact ((((Below.refl _ w).alloc (by simp) _).alloc (by simp) _).alloc (by simp <;> omega) _).alloc (by simp <;> omega) _
  have z2 : w2.heap.size = w.heap.size + 1 + 1 + 1 + 1 := by rw [← hw2]; simp
  rw [hw2]
  have hb := Tryz.value_0 (w.heap.size + 1 + 1 + 1) g w2 h2
  rw [z2] at hb
  clear hw2 z2 h2
  refine hb.mono ?_
  clear hb
  rintro e w3 ⟨⟨p, c, rfl⟩, h3, t3⟩
  have j0 := (t3.block _ (by omega) (by omega)).trans q0
  have j1 := (t3.block _ (by omega) (by omega)).trans q1
  have j2 := (t3.block _ (by omega) (by omega)).trans q2
  have B3 : Below w.heap.size w w3 := b2.trans ⟨t3.os, t3.tape, t3.output, t3.size, fun k hk => t3.block k (by omega) (by omega)⟩
  have s3 := t3.size
  clear t3 q0 q1 q2 b2
  obtain ⟨i0, i1, i2, i3, i4, l0, l1, l2, l3, l4⟩ := Tryz.cells5 j0
  obtain ⟨c0, c1, c2, c3, c4, c5, f1, f2⟩ := h3.cells
  have d1 := Tryz.cell_of j1 0; have d2 := Tryz.cell_of j2 0; have m1 := Tryz.frozen_of j1 0; have m2 := Tryz.frozen_of j2 0
  simp only [List.getElem?_toArray, List.getElem?_cons_zero] at d1 d2
  have J0 := Lib.hid j0; have J1 := Lib.hid j1; have J2 := Lib.hid j2
  clear j0 j1 j2
  go_wp2
  have hS : ∀ {W : World} {C : Array Value} {t : TypeId} {k j i : Nat} (v : Value), W.heap[k]? = some (.cells C t) → k ≠ j → (W.setCell ⟨j, i, none⟩ v).heap[k]? = some (.cells C t) := fun {W C t k j i} v h hn => (Below.heap_setCell W ⟨j, i, none⟩ v k hn).trans h
  obtain ⟨Wf, hWf⟩ : ∃ Wf, (World.setCell (World.setCell (World.setCell (World.setCell (World.setCell (World.setCell (World.setCell (World.setCell (World.setCell (World.setCell (World.setCell (World.setCell w3 ⟨w.heap.size, 0, none⟩ (.bool false)) ⟨w.heap.size, 1, none⟩ (.bool false)) ⟨w.heap.size, 2, none⟩ (.slice none 0 0)) ⟨w.heap.size, 3, none⟩ (.slice p 0 c)) ⟨w.heap.size, 4, none⟩ (.slice none 0 0)) ⟨w.heap.size, 0, none⟩ (.bool false)) ⟨w.heap.size, 1, none⟩ (.bool false)) ⟨w.heap.size, 2, none⟩ (.slice none 0 0)) ⟨w.heap.size, 3, none⟩ (.slice p 0 c)) ⟨w.heap.size, 4, none⟩ (.slice none 0 0)) ⟨w.heap.size + 1, 0, none⟩ (.int .i64 0)) ⟨w.heap.size + 1 + 1, 0, none⟩ (.int .i64 0)) = Wf := ⟨_, rfl⟩
  have k0 : Wf.heap[w.heap.size]? = some (.cells #[.bool false, .bool false, .slice none 0 0, .slice p 0 c, .slice none 0 0] 76) := by
    rw [← hWf]
    exact hS _ (hS _ (Tryz.set_of (Tryz.set_of (Tryz.set_of (Tryz.set_of (Tryz.set_of (Tryz.set_of (Tryz.set_of (Tryz.set_of (Tryz.set_of (Tryz.set_of J0.out 0 _) 1 _) 2 _) 3 _) 4 _) 0 _) 1 _) 2 _) 3 _) 4 _) (by omega)) (by omega)
  have k1 : Wf.heap[w.heap.size + 1]? = some (.cells #[.int .i64 0] 3) := by
    rw [← hWf]
    exact hS _ (Tryz.set_of (hS _ (hS _ (hS _ (hS _ (hS _ (hS _ (hS _ (hS _ (hS _ (hS _ J1.out (by omega)) (by omega)) (by omega)) (by omega)) (by omega)) (by omega)) (by omega)) (by omega)) (by omega)) (by omega)) 0 _) (by omega)
  have k2 : Wf.heap[w.heap.size + 1 + 1]? = some (.cells #[.int .i64 0] 23) := by
    rw [← hWf]
    exact Tryz.set_of (hS _ (hS _ (hS _ (hS _ (hS _ (hS _ (hS _ (hS _ (hS _ (hS _ (hS _ J2.out (by omega)) (by omega)) (by omega)) (by omega)) (by omega)) (by omega)) (by omega)) (by omega)) (by omega)) (by omega)) (by omega)) 0 _
  have hBf : Below w.heap.size w Wf := by
    rw [← hWf]
    refine ((((((((((((B3.setCell (p := ⟨_, _, none⟩) ?_ _).setCell (p := ⟨_, _, none⟩) ?_ _).setCell (p := ⟨_, _, none⟩) ?_ _).setCell (p := ⟨_, _, none⟩) ?_ _).setCell (p := ⟨_, _, none⟩) ?_ _).setCell (p := ⟨_, _, none⟩) ?_ _).setCell (p := ⟨_, _, none⟩) ?_ _).setCell (p := ⟨_, _, none⟩) ?_ _).setCell (p := ⟨_, _, none⟩) ?_ _).setCell (p := ⟨_, _, none⟩) ?_ _).setCell (p := ⟨_, _, none⟩) ?_ _).setCell (p := ⟨_, _, none⟩) ?_ _) <;> (simp <;> omega)
  rw [hWf]
  clear hWf hS
  refine leaves_cons (f := 85) (args := #[.pointer (some ⟨w.heap.size, 0, none⟩), .pointer (some ⟨w.heap.size + 1, 0, none⟩), .pointer (some ⟨w.heap.size + 1 + 1, 0, none⟩)]) (by simp) (by simp [go_sem]) ?_
  refine (Tryz.get_idle _ _ _ _).mono ?_
  rintro e u' w'' ⟨rfl, rfl, rfl⟩
  obtain ⟨r0, r1, r2, r3, r4, _⟩ := Tryz.cells5 k0
  have r5 := Tryz.cell_of k1 0; have r6 := Tryz.cell_of k2 0
  simp only [List.getElem?_toArray, List.getElem?_cons_zero] at r5 r6
  exact ⟨.tuple #[.agg #[.bool false, .bool false, .slice none 0 0, .slice p 0 c, .slice none 0 0], .int .i64 0, .int .i64 0], by simp [results, Tryz.results55, go_sem, r0, r1, r2, r3, r4, r5, r6], ⟨_, _, rfl⟩, hBf⟩
end Go.Proofs

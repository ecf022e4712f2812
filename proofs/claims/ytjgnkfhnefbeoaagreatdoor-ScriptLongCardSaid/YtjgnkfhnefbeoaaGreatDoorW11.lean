import Derived.Test.YtjgnkfhnefbeoaaGreatDoorW10
namespace Go.Proofs
open Go.RowKit Go.Lib

set_option maxHeartbeats 1000000
set_option maxRecDepth 100000

theorem Tryz.Rdr.alloc {rb g : Nat} {i n : Int} {W : World} (h : Tryz.Rdr rb g i n W) (o : Obj) : Tryz.Rdr rb g i n (W.alloc o) :=
  ⟨Tryz.alloc_old _ h.1, Tryz.alloc_old _ h.2.1, h.2.2⟩
theorem Tryz.Turn.alloc (B b : Nat) (w : World) (o : Obj) (hB : B ≤ w.heap.size) : Tryz.Turn B b w (w.alloc o) :=
  Tryz.Turn.of_grown (row := none) (World.grownBy_alloc w o none) hB (fun k e => by cases e)
theorem Tryz.Turn.lower {B B' b : Nat} {w w' : World} (h : Tryz.Turn B b w w') (hB : B' ≤ B) : Tryz.Turn B' b w w' :=
  ⟨h.os, h.tape, h.output, h.size, fun k hk hn => h.block k (by omega) hn⟩

theorem Tryz.Rdr.set {rb g : Nat} {i n : Int} {W : World} (h : Tryz.Rdr rb g i n W) (k j : Nat) (v : Value) (h1 : rb ≠ k) (h2 : g ≠ k) : Tryz.Rdr rb g i n (W.setCell ⟨k, j, none⟩ v) :=
  ⟨(Below.heap_setCell W ⟨k, j, none⟩ v rb h1).trans h.1, (Below.heap_setCell W ⟨k, j, none⟩ v g h2).trans h.2.1, h.2.2⟩
theorem Tryz.Turn.high {B b : Nat} {x w : World} (h : Tryz.Turn B b x w) (k j : Nat) (v : Value) (hk : B ≤ k) : Tryz.Turn B b x (w.setCell ⟨k, j, none⟩ v) :=
  h.trans ⟨rfl, rfl, rfl, by simp, fun i hi _ => Below.heap_setCell w ⟨k, j, none⟩ v i (by show i ≠ k; omega)⟩

theorem Tryz.cells5 {W : World} {k : Nat} {v0 v1 v2 v3 v4 : Value} {t : TypeId} (h : W.heap[k]? = some (.cells #[v0, v1, v2, v3, v4] t)) :
    W.cell? ⟨k, 0, none⟩ = some v0 ∧ W.cell? ⟨k, 1, none⟩ = some v1 ∧ W.cell? ⟨k, 2, none⟩ = some v2 ∧ W.cell? ⟨k, 3, none⟩ = some v3 ∧ W.cell? ⟨k, 4, none⟩ = some v4 ∧
    W.frozen? ⟨k, 0, none⟩ = false ∧ W.frozen? ⟨k, 1, none⟩ = false ∧ W.frozen? ⟨k, 2, none⟩ = false ∧ W.frozen? ⟨k, 3, none⟩ = false ∧ W.frozen? ⟨k, 4, none⟩ = false :=
  ⟨Tryz.cell_of h 0, Tryz.cell_of h 1, Tryz.cell_of h 2, Tryz.cell_of h 3, Tryz.cell_of h 4, Tryz.frozen_of h 0, Tryz.frozen_of h 1, Tryz.frozen_of h 2, Tryz.frozen_of h 3, Tryz.frozen_of h 4⟩

theorem Tryz.atom_0 (rb g : Nat) (w : World) (h : Tryz.Rdr rb g 0 1 w) :
    Calls Tryz.prog 179 #[.pointer (some ⟨rb, 0, none⟩)] w fun e w' => (∃ p c, e = .returned (.agg #[.bool false, .bool false, .slice none 0 0, .slice p 0 c, .slice none 0 0])) ∧ Tryz.Rdr rb g 2 1 w' ∧ Tryz.Turn w.heap.size rb w w' := by
  obtain ⟨c0, c1, c2, c3, c4, c5, f1, f2⟩ := h.cells
  have hrb : rb < w.heap.size := (Array.getElem?_eq_some_iff.1 h.1).1
  have hg : g < w.heap.size := (Array.getElem?_eq_some_iff.1 h.2.1).1
  have n1 : ¬ rb = w.heap.size := by omega
  have n2 : ¬ rb = w.heap.size + 1 := by omega
  have n3 : ¬ g = w.heap.size := by omega
  have n4 : ¬ g = w.heap.size + 1 := by omega
  go_enter Tryz.func179, Tryz.ntmps179
  go_wp2
  go_region
  obtain ⟨w2, hw2⟩ : ∃ w2, ((w.alloc (.cells #[.bool false, .bool false, .slice none 0 0, .slice none 0 0, .slice none 0 0] 76)).alloc (.cells #[.bool false, .bool false, .slice none 0 0, .slice none 0 0, .slice none 0 0] 76)).drew = w2 := ⟨_, rfl⟩
  have h2 : Tryz.Rdr rb g 0 1 w2 := by rw [← hw2]; exact ((h.alloc _).alloc _).turn rfl
  have t2 : Tryz.Turn w.heap.size rb w w2 := by
    rw [← hw2]
    exact ((Tryz.Turn.alloc _ _ _ _ (Nat.le_refl _)).trans (Tryz.Turn.alloc _ _ _ _ (by simp))).trans (Tryz.Turn.drew _ _ _)
  have z2 : w2.heap.size = w.heap.size + 1 + 1 := by rw [← hw2]; show ((w.alloc _).alloc _).heap.size = _; simp
  have q0 : w2.heap[w.heap.size]? = some (.cells #[.bool false, .bool false, .slice none 0 0, .slice none 0 0, .slice none 0 0] 76) := by rw [← hw2]; exact Tryz.alloc_old _ (Tryz.alloc_new _ rfl)
  have q1 : w2.heap[w.heap.size + 1]? = some (.cells #[.bool false, .bool false, .slice none 0 0, .slice none 0 0, .slice none 0 0] 76) := by rw [← hw2]; exact Tryz.alloc_new _ (by simp)
  rw [hw2]
  have hb := Tryz.bytes_0 rb g w2 h2
  rw [z2] at hb
  clear hw2 z2 c0 c1 c2 c3 c4 c5 f1 f2 h h2
  go_wp2_with (go_at_call 221; refine hb.mono ?_; clear hb; rintro e w3 ⟨⟨p, c, rfl⟩, h3, t3⟩; have j0 := (t3.block _ (by omega) (fun e => n1 e.symm)).trans q0; have j1 := (t3.block _ (by omega) (fun e => n2 e.symm)).trans q1; have T3 := t2.trans (t3.lower (by omega)); clear t3 t2 q0 q1; obtain ⟨k0, k1, k2, k3, k4, m0, m1, m2, m3, m4⟩ := Tryz.cells5 j1; obtain ⟨i0, i1, i2, i3, i4, l0, l1, l2, l3, l4⟩ := Tryz.cells5 j0; clear j0 j1)
  have hR : Tryz.Rdr rb g 2 1 ((((((w3.setCell ⟨w.heap.size + 1, 3, none⟩ (.slice p 0 c)).setCell ⟨w.heap.size, 0, none⟩ (.bool false)).setCell ⟨w.heap.size, 1, none⟩ (.bool false)).setCell ⟨w.heap.size, 2, none⟩ (.slice none 0 0)).setCell ⟨w.heap.size, 3, none⟩ (.slice p 0 c)).setCell ⟨w.heap.size, 4, none⟩ (.slice none 0 0)) :=
    (((((h3.set _ _ _ n2 n4).set _ _ _ n1 n3).set _ _ _ n1 n3).set _ _ _ n1 n3).set _ _ _ n1 n3).set _ _ _ n1 n3
  have hT := (((((T3.high (w.heap.size + 1) 3 (.slice p 0 c) (by omega)).high w.heap.size 0 (.bool false) (Nat.le_refl _)).high w.heap.size 1 (.bool false) (Nat.le_refl _)).high w.heap.size 2 (.slice none 0 0) (Nat.le_refl _)).high w.heap.size 3 (.slice p 0 c) (Nat.le_refl _)).high w.heap.size 4 (.slice none 0 0) (Nat.le_refl _)
  refine bodyPost_ret (v := .agg #[.bool false, .bool false, .slice none 0 0, .slice p 0 c, .slice none 0 0]) ?_ rfl ⟨⟨_, _, rfl⟩, hR, hT⟩
  simp [results, Tryz.results179, go_sem, i0, i1, i2, i3, i4]
end Go.Proofs

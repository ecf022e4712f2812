import Derived.Test.YtjgnkfhnefbeoaaGreatDoorW11
namespace Go.Proofs
open Go.RowKit Go.Lib

set_option maxHeartbeats 1000000
set_option maxRecDepth 100000

theorem Tryz.next_0 (rb g : Nat) (w : World) (h : Tryz.Rdr rb g 0 0 w) :
    Calls Tryz.prog 128 #[.pointer (some ⟨rb, 0, none⟩)] w fun e w' => (∃ p c, e = .returned (.tuple #[.agg #[.bool false, .bool false, .slice none 0 0, .slice p 0 c, .slice none 0 0], .bool true])) ∧ Tryz.Rdr rb g 2 1 w' ∧ Tryz.Turn w.heap.size rb w w' := by
  obtain ⟨c0, c1, c2, c3, c4, c5, f1, f2⟩ := h.cells
  have hrb : rb < w.heap.size := (Array.getElem?_eq_some_iff.1 h.1).1
  have hg : g < w.heap.size := (Array.getElem?_eq_some_iff.1 h.2.1).1
  have n1 : ¬ rb = w.heap.size := by omega
  have n3 : ¬ g = w.heap.size := by omega
  go_enter Tryz.func128, Tryz.ntmps128
  go_wp2
  go_region
  go_wp2
  go_region
  obtain ⟨w2, hw2⟩ : ∃ w2, (w.alloc (.cells #[.bool false, .bool false, .slice none 0 0, .slice none 0 0, .slice none 0 0] 76)).drew.drew = w2 := ⟨_, rfl⟩
  have h2 : Tryz.Rdr rb g 0 0 w2 := by rw [← hw2]; exact (h.alloc _).turn rfl
  have t2 : Tryz.Turn w.heap.size rb w w2 := by
    rw [← hw2]
    exact ((Tryz.Turn.alloc _ _ _ _ (Nat.le_refl _)).trans (Tryz.Turn.drew _ _ _)).trans (Tryz.Turn.drew _ _ _)
  have z2 : w2.heap.size = w.heap.size + 1 := by rw [← hw2]; show (w.alloc _).heap.size = _; simp
  have q0 : w2.heap[w.heap.size]? = some (.cells #[.bool false, .bool false, .slice none 0 0, .slice none 0 0, .slice none 0 0] 76) := by rw [← hw2]; exact Tryz.alloc_new _ rfl
  rw [hw2]
  have hb := Tryz.begins_no rb g w2 h2
  rw [z2] at hb
  clear hw2 z2 c0 c1 c2 c3 c4 c5 f1 f2 h h2
  go_wp2_with (go_at_call 178; refine hb.mono ?_; clear hb; rintro e w3 ⟨rfl, h3, t3⟩; have j0 := Lib.hid ((t3.block _ (by omega) (fun e => n1 e.symm)).trans q0); have T3 := t2.trans (t3.lower (by omega)); have z3 : w.heap.size + 1 ≤ w3.heap.size := Nat.le_trans (by have := (Array.getElem?_eq_some_iff.1 q0).1; omega) t3.size; clear t3 t2 q0; have ha := Tryz.atom_0 rb g w3 h3)
  go_wp2_with (go_at_call 179; refine ha.mono ?_; clear ha; rintro e w4 ⟨⟨p, c, rfl⟩, h4, t4⟩; obtain ⟨i0, i1, i2, i3, i4, l0, l1, l2, l3, l4⟩ := Tryz.cells5 ((t4.block _ (by omega) (fun e => n1 e.symm)).trans j0.out))
  have T4 := T3.trans (t4.lower (by omega))
  refine bodyPost_ret (v := .tuple #[.agg #[.bool false, .bool false, .slice none 0 0, .slice p 0 c, .slice none 0 0], .bool true]) ?_ rfl ⟨⟨_, _, rfl⟩, ((((h4.set _ _ _ n1 n3).set _ _ _ n1 n3).set _ _ _ n1 n3).set _ _ _ n1 n3).set _ _ _ n1 n3,
    ((((T4.high _ _ _ (Nat.le_refl _)).high _ _ _ (Nat.le_refl _)).high _ _ _ (Nat.le_refl _)).high _ _ _ (Nat.le_refl _)).high _ _ _ (Nat.le_refl _)⟩
  simp [results, Tryz.results128, go_sem, i0, i1, i2, i3, i4]
end Go.Proofs

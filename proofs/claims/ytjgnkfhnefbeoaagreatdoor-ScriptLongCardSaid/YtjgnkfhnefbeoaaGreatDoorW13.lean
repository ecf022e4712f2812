import Derived.Test.YtjgnkfhnefbeoaaGreatDoorW12
namespace Go.Proofs
open Go.RowKit Go.Lib

set_option maxHeartbeats 1000000
set_option maxRecDepth 100000

theorem Tryz.value_0 (rb g : Nat) (w : World) (h : Tryz.Rdr rb g 0 0 w) :
    Calls Tryz.prog 86 #[.pointer (some ⟨rb, 0, none⟩)] w fun e w' => (∃ p c, e = .returned (.agg #[.bool false, .bool false, .slice none 0 0, .slice p 0 c, .slice none 0 0])) ∧ Tryz.Rdr rb g 2 1 w' ∧ Tryz.Turn w.heap.size rb w w' := by
  have hrb : rb < w.heap.size := (Array.getElem?_eq_some_iff.1 h.1).1
  have hg : g < w.heap.size := (Array.getElem?_eq_some_iff.1 h.2.1).1
  have n1 : ¬ rb = w.heap.size := by omega
  have n3 : ¬ g = w.heap.size := by omega
  go_enter Tryz.func86, Tryz.ntmps86
  go_wp2
  obtain ⟨w2, hw2⟩ : ∃ w2, w.alloc (.cells #[.bool false, .bool false, .slice none 0 0, .slice none 0 0, .slice none 0 0] 76) = w2 := ⟨_, rfl⟩
  have h2 : Tryz.Rdr rb g 0 0 w2 := by rw [← hw2]; exact h.alloc _
  have t2 : Tryz.Turn w.heap.size rb w w2 := by rw [← hw2]; exact Tryz.Turn.alloc _ _ _ _ (Nat.le_refl _)
  have z2 : w2.heap.size = w.heap.size + 1 := by rw [← hw2]; simp
  have q0 : w2.heap[w.heap.size]? = some (.cells #[.bool false, .bool false, .slice none 0 0, .slice none 0 0, .slice none 0 0] 76) := by rw [← hw2]; exact Tryz.alloc_new _ rfl
  rw [hw2]
  have hb := Tryz.next_0 rb g w2 h2
  rw [z2] at hb
  clear hw2 z2 h h2
  go_loopw [3] (fun _ wr => wr = w2) (fun _ _ => 0)
  case atStart => rfl
  case round =>
    obtain rfl := hrel
    go_wp2_with fail
    refine hb.mono ?_
    clear hb
    rintro e w3 ⟨⟨p, c, rfl⟩, h3, t3⟩
    have j0 := (t3.block _ (by omega) (fun e => n1 e.symm)).trans q0
    have hz := (Array.getElem?_eq_some_iff.1 j0).1
    have n5 : ¬ w.heap.size = w3.heap.size := by omega
    have n6 : ¬ rb = w3.heap.size := by omega
    have n7 : ¬ g = w3.heap.size := by omega
    have T3 := t2.trans (t3.lower (by omega))
    clear t3 t2 q0
    obtain ⟨i0, i1, i2, i3, i4, l0, l1, l2, l3, l4⟩ := Tryz.cells5 j0
    obtain ⟨c0, c1, c2, c3, c4, c5, f1, f2⟩ := h3.cells
    have cA : ∀ o, (w3.alloc o).cell? ⟨rb, 3, none⟩ = some (.slice none 0 0) := fun o => (h3.alloc o).cells.2.2.2.1
    have J0 := Lib.hid j0
    clear j0
    go_wp2
    have jf : ((((((w3.setCell ⟨w.heap.size, 0, none⟩ (.bool false)).setCell ⟨w.heap.size, 1, none⟩ (.bool false)).setCell ⟨w.heap.size, 2, none⟩ (.slice none 0 0)).setCell ⟨w.heap.size, 3, none⟩ (.slice p 0 c)).setCell ⟨w.heap.size, 4, none⟩ (.slice none 0 0)).alloc (.cells #[.bool false, .bool false, .slice none 0 0, .slice p 0 c, .slice none 0 0] 76)).heap[w.heap.size]? = some (.cells #[.bool false, .bool false, .slice none 0 0, .slice p 0 c, .slice none 0 0] 76) :=
      Tryz.alloc_old _ (Tryz.set_of (Tryz.set_of (Tryz.set_of (Tryz.set_of (Tryz.set_of J0.out 0 _) 1 _) 2 _) 3 _) 4 _)
    obtain ⟨r0, r1, r2, r3, r4, _⟩ := Tryz.cells5 jf
    refine bodyPost_ret (v := .agg #[.bool false, .bool false, .slice none 0 0, .slice p 0 c, .slice none 0 0]) ?_ rfl ⟨⟨_, _, rfl⟩, (((((h3.set _ _ _ n1 n3).set _ _ _ n1 n3).set _ _ _ n1 n3).set _ _ _ n1 n3).set _ _ _ n1 n3).alloc _,
      (((((T3.high _ _ _ (Nat.le_refl _)).high _ _ _ (Nat.le_refl _)).high _ _ _ (Nat.le_refl _)).high _ _ _ (Nat.le_refl _)).high _ _ _ (Nat.le_refl _)).trans (Tryz.Turn.alloc _ _ _ _ (by simp; omega))⟩
    simp [results, Tryz.results86, go_sem, r0, r1, r2, r3, r4]
end Go.Proofs

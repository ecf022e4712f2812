import Derived.Test.YtjgnkfhnefbeoaaGreatDoorW18
namespace Go.Proofs
open Go.RowKit Go.Lib

set_option maxHeartbeats 1000000
set_option maxRecDepth 100000

theorem Tryz.cells8 {W : World} {k : Nat} {v0 v1 v2 v3 v4 v5 v6 v7 : Value} {t : TypeId} (h : W.heap[k]? = some (.cells #[v0, v1, v2, v3, v4, v5, v6, v7] t)) :
    W.cell? ⟨k, 0, none⟩ = some v0 ∧ W.cell? ⟨k, 1, none⟩ = some v1 ∧ W.cell? ⟨k, 2, none⟩ = some v2 ∧ W.cell? ⟨k, 3, none⟩ = some v3 ∧ W.cell? ⟨k, 4, none⟩ = some v4 ∧ W.cell? ⟨k, 5, none⟩ = some v5 ∧ W.cell? ⟨k, 6, none⟩ = some v6 ∧ W.cell? ⟨k, 7, none⟩ = some v7 ∧
    W.frozen? ⟨k, 0, none⟩ = false ∧ W.frozen? ⟨k, 1, none⟩ = false ∧ W.frozen? ⟨k, 2, none⟩ = false ∧ W.frozen? ⟨k, 3, none⟩ = false ∧ W.frozen? ⟨k, 4, none⟩ = false ∧ W.frozen? ⟨k, 5, none⟩ = false ∧ W.frozen? ⟨k, 6, none⟩ = false ∧ W.frozen? ⟨k, 7, none⟩ = false :=
  ⟨Tryz.cell_of h 0, Tryz.cell_of h 1, Tryz.cell_of h 2, Tryz.cell_of h 3, Tryz.cell_of h 4, Tryz.cell_of h 5, Tryz.cell_of h 6, Tryz.cell_of h 7, Tryz.frozen_of h 0, Tryz.frozen_of h 1, Tryz.frozen_of h 2, Tryz.frozen_of h 3, Tryz.frozen_of h 4, Tryz.frozen_of h 5, Tryz.frozen_of h 6, Tryz.frozen_of h 7⟩

theorem Tryz.Pay.lower {B B' b : Nat} {bs : List Value} {W : World} (h : Tryz.Pay B b bs W) (hB : B' ≤ B) : Tryz.Pay B' b bs W := by
  obtain ⟨x0, x1, x2, x3, x4, x5, ad, v, h1, h2, h3⟩ := h
  refine ⟨x0, x1, x2, x3, x4, x5, ad, v, h1, h2, h3.1, ?_⟩
  rcases h3.2 with h | ⟨g, cap, cur, e, hg, r⟩
  · exact .inl h
  · exact .inr ⟨g, cap, cur, e, by omega, r⟩

/-- The player's row as it begins. -/
def Tryz.Fresh (b a g : Nat) (W : World) : Prop :=
  W.heap[b]? = some (.cells #[.slice (some ⟨a, 0, none⟩) 7 7, .slice none 0 0, .slice none 0 0, .slice none 0 0, .slice (some ⟨g, 0, none⟩) 2 2, .int .i64 0, .pointer none, .slice none 0 0] 38) ∧
  W.heap[g]? = some (.cells #[.int .u8 48, .int .u8 58] 5 (2, 3))

theorem Tryz.results_none {fn : Func} (h : fn.results = #[]) (tmps : Array Value) (P : Program) (w : World) : (results fn tmps).run P w = .ok (.tuple #[]) w := by
  simp [results, h]

theorem Tryz.tell_none (b a g : Nat) (w : World) (h : Tryz.Fresh b a g w) :
    Calls Tryz.prog 19 #[.pointer (some ⟨b, 0, none⟩)] w fun e w' => e = .returned (.tuple #[]) ∧ Tryz.Pay w.heap.size b (Tryz.bytesV [101, 114, 114, 32, 55, 10]) w' ∧ Tryz.Turn w.heap.size b w w' := by
  obtain ⟨hb, hg⟩ := h
  have hblt := (Array.getElem?_eq_some_iff.1 hb).1
  obtain ⟨d0, d1, d2, d3, d4, d5, d6, d7, m0, m1, m2, m3, m4, m5, m6, m7⟩ := Tryz.cells8 hb
  go_enter Tryz.func19, Tryz.ntmps19
  go_wp2_with fail
  refine (Tryz.decide_none a g w hg).mono ?_
  rintro e w2 ⟨rfl, b2⟩
  have hb2 := (b2.block _ hblt).trans hb
  have s2 := b2.size
  have t2 : Tryz.Turn w.heap.size b w w2 := ⟨b2.os, b2.tape, b2.output, b2.size, fun k hk _ => b2.block k hk⟩
  clear b2 d0 d1 d2 d3 d4 d5 d6 d7 m0 m1 m2 m3 m4 m5 m6 m7 hb
  go_wp2_with fail
  obtain ⟨w3, hw3⟩ : ∃ w3, (w2.alloc (.cells #[.int .i64 7, .bool false, .slice none 0 0, .int .i64 0, .slice none 0 0, .slice none 0 0] 58)).alloc (.cells #[.int .i64 7] 23) = w3 := ⟨_, rfl⟩
  have hb3 := Tryz.alloc_old (.cells #[.int .i64 7] 23) (Tryz.alloc_old (.cells #[.int .i64 7, .bool false, .slice none 0 0, .int .i64 0, .slice none 0 0, .slice none 0 0] 58) hb2)
  rw [hw3] at hb3
  have z3 : w3.heap.size = w2.heap.size + 1 + 1 := by rw [← hw3]; simp
  have c3 : w3.cell? ⟨w2.heap.size + 1, 0, none⟩ = some (.int .i64 7) := by rw [← hw3]; exact Tryz.cell_of (Tryz.alloc_new _ (by simp)) 0
  have t3 : Tryz.Turn w.heap.size b w w3 := by rw [← hw3]; exact (t2.trans (Tryz.Turn.alloc _ _ _ _ s2)).trans (Tryz.Turn.alloc _ _ _ _ (by simp; omega))
  have p3 : Tryz.Pay w3.heap.size b (Tryz.bytesV []) w3 := ⟨_, _, _, _, _, _, _, _, hb3, .inl rfl, ⟨rfl, .inl ⟨rfl, rfl⟩⟩⟩
  rw [hw3]
  have hz := w3.heap.size
  have n1 : b < w3.heap.size := by omega
  have n2 : w2.heap.size + 1 < w3.heap.size := by omega
  have n3 : w2.heap.size + 1 ≠ b := by omega
  have n4 : w.heap.size ≤ w3.heap.size := by omega
  clear hw3 z3 hb3 hb2
  refine (Tryz.numbers_7 w3.heap.size b (w2.heap.size + 1) w3 n1 (Nat.le_refl _) n2 n3 c3 p3).mono ?_
  rintro e w4 ⟨rfl, p4, t4⟩
  have s4 : w3.heap.size ≤ w4.heap.size := t4.size
  have T4 := t3.trans (t4.lower n4)
  clear t3 t4 p3 c3
  go_wp2_with fail
  refine (Tryz.write_at w3.heap.size b [101, 114, 114, 32, 55] ⟨#[10]⟩ w4 n1 s4 (by decide) p4).mono ?_
  rintro e w5 ⟨rfl, p5, t5⟩
  have T5 := T4.trans (t5.lower n4)
  have P5 := p5.lower n4
  clear p4 p5 t5 T4
  go_wp2_with fail
  exact bodyPost_ret (Tryz.results_none rfl _ _ _) rfl ⟨rfl, P5, T5⟩
end Go.Proofs

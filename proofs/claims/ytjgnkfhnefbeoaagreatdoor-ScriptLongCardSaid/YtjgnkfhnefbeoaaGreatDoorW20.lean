import Derived.Test.YtjgnkfhnefbeoaaGreatDoorW19
namespace Go.Proofs
open Go.RowKit Go.Lib

set_option maxHeartbeats 1000000
set_option maxRecDepth 100000

theorem Tryz.line_decide (b a g : Nat) (w : World) (h : Tryz.Fresh b a g w) :
    Calls Tryz.prog 9 #[.pointer (some ⟨b, 0, none⟩), .string ⟨#[100, 101, 99, 105, 100, 101]⟩] w fun e w' => e = .returned (.int .i64 0) ∧ Tryz.Pay w.heap.size b (Tryz.bytesV [101, 114, 114, 32, 55, 10]) w' ∧ w.grownBy w' (some b) := by
  have hmf : ∀ (fn : Fn) (first cap : Array Value) (w : World), (Instr.makeFunc fn first cap).run Tryz.prog w = .ok (.func fn first cap) w := fun _ _ _ _ => rfl
  have hb := h.1
  have hblt := (Array.getElem?_eq_some_iff.1 h.1).1
  have hF : Tryz.Fresh b a g (w.alloc (.cells #[.int .i64 0] 23)) := ⟨Tryz.alloc_old _ h.1, Tryz.alloc_old _ h.2⟩
  have hT := Tryz.tell_none b a g _ hF
  have hz : (w.alloc (.cells #[.int .i64 0] 23)).heap.size = w.heap.size + 1 := by simp
  have q0 : (w.alloc (.cells #[.int .i64 0] 23)).heap[w.heap.size]? = some (.cells #[.int .i64 0] 23) := Tryz.alloc_new _ rfl
  rw [hz] at hT
  have Hz := Lib.hid hz; have Q0 := Lib.hid q0
  clear hz q0 h hF hb
  go_enter_defers Tryz.func9, Tryz.ntmps9
  go_wp2_with (go_at_call 18; refine (Tryz.cut_no _ _ (by decide) (by decide)).mono ?_; rintro e w' ⟨rfl, rfl⟩)
  go_wp2_with fail
  refine hT.mono ?_
  clear hT
  rintro e w2 ⟨rfl, p2, t2⟩
  have j0 := (t2.block _ (by omega) (by omega)).trans Q0.out
  have s2 := t2.size
  rw [Hz.out] at s2
  have g2 : ∀ i, i < w.heap.size → i ≠ b → w2.heap[i]? = w.heap[i]? := fun i hi hn => (t2.block i (by omega) hn).trans (Below.heap_alloc w _ i hi)
  have os2 := t2.os; have ta2 := t2.tape; have ou2 := t2.output
  have P2 := p2
  have OS := Lib.hid os2; have TA := Lib.hid ta2; have OU := Lib.hid ou2; have G2 := Lib.hid g2
  have c0 := Tryz.cell_of j0 0; have m0 := Tryz.frozen_of j0 0
  simp only [List.getElem?_toArray, List.getElem?_cons_zero] at c0
  have J0 := Lib.hid j0
  clear os2 ta2 ou2 g2 t2 p2 j0 hmf
  go_wp2_with fail
  obtain ⟨w3, hw3⟩ : ∃ w3, World.setCell w2 ⟨w.heap.size, 0, none⟩ (.int .i64 0) = w3 := ⟨_, rfl⟩
  have P3 : Tryz.Pay w.heap.size b (Tryz.bytesV [101, 114, 114, 32, 55, 10]) w3 := by
    obtain ⟨x0, x1, x2, x3, x4, x5, ad, v, h1, h2, h3⟩ := P2
    rw [← hw3]
    exact Tryz.Pay.lower (B := w.heap.size + 1) ⟨x0, x1, x2, x3, x4, x5, ad, v, (Below.heap_setCell w2 ⟨w.heap.size, 0, none⟩ _ b (by show b ≠ w.heap.size; omega)).trans h1, h2, Tryz.owns_set h3 (by omega)⟩ (by omega)
  have K3 : w3.heap[w.heap.size]? = some (.cells #[.int .i64 0] 23) := by rw [← hw3]; exact Tryz.set_of J0.out 0 _
  have g3 : w.grownBy w3 (some b) := by
    rw [← hw3]
    refine ⟨OS.out, TA.out, OU.out, by simp; omega, fun i hi hn => ?_⟩
    exact (Below.heap_setCell w2 ⟨w.heap.size, 0, none⟩ _ i (by show i ≠ w.heap.size; omega)).trans (G2.out i hi (fun e => hn (by rw [e])))
  rw [hw3]
  clear hw3 P2 OS TA OU G2 J0 Hz Q0 m0 c0
  refine leaves_cons (f := 17) (args := #[.pointer (some ⟨w.heap.size, 0, none⟩)]) (by simp) (by simp [go_sem]) ?_
  refine (Tryz.line_idle ⟨w.heap.size, 0, none⟩ _).mono ?_
  rintro e u' w'' ⟨rfl, rfl, rfl⟩
  have r5 := Tryz.cell_of K3 0
  simp only [List.getElem?_toArray, List.getElem?_cons_zero] at r5
  exact ⟨.int .i64 0, by simp [results, Tryz.results9, go_sem, r5], rfl, P3, g3⟩
end Go.Proofs

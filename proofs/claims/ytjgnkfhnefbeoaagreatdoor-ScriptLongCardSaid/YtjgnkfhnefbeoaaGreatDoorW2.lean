import Derived.Test.YtjgnkfhnefbeoaaGreatDoorW1
import Derived.Tactics
import Derived.Tactics2
import Derived.Defers
import Derived.Recover
import Derived.Laws.Pointers
namespace Go.Proofs
open Go.RowKit Go.Lib

set_option maxHeartbeats 1000000
set_option maxRecDepth 100000

theorem Tryz.line_idle (p : Addr) (w : World) :
    CallsD Tryz.prog 17 #[.pointer (some p)] .returning w fun e u' w' => e = .returned (.tuple #[]) ∧ u' = .returning ∧ w = w' := by
  refine callsD_of_wpS Tryz.func17 rfl fun c₀ cs hu => ?_
  apply wpS_seq
  apply wpS_region
  simp [wpOpsS, go_sem, recoverD, hu, Tryz.ntmps17, Exit.thenS]
  refine wpS_of_wp ?_
  go_wp2
  cases c₀
  simp_all [bodyPostS, results, Tryz.results17]

/-- A line that says nothing. -/
theorem Tryz.line_blank (p : Addr) (s : ByteArray) (w : World) (hs : s.size ≤ 9223372036854775807) (hn : Lib.indexByte s.data.toList 32 = -1) (h : s = ⟨#[]⟩ ∨ ∃ l : List UInt8, s = ⟨(35 :: l).toArray⟩) :
    Calls Tryz.prog 9 #[.pointer (some p), .string s] w fun e w' => e = .returned (.int .i64 0) ∧ w' = w.alloc (.cells #[.int .i64 0] 23) := by
  have hmf : ∀ (fn : Fn) (first cap : Array Value) (w : World), (Instr.makeFunc fn first cap).run Tryz.prog w = .ok (.func fn first cap) w := fun _ _ _ _ => rfl
  rcases h with rfl | ⟨l, rfl⟩
  · go_enter_defers Tryz.func9, Tryz.ntmps9
    go_wp2_with (go_at_call 18; refine (Tryz.cut_no _ _ hs hn).mono ?_; rintro e w' ⟨rfl, rfl⟩)
    refine leaves_cons (f := 17) (args := #[.pointer (some ⟨w.heap.size, 0, none⟩)]) (by simp) (by simp [go_sem]) ?_
    refine (Tryz.line_idle ⟨w.heap.size, 0, none⟩ _).mono ?_
    rintro e u' w'' ⟨rfl, rfl, rfl⟩
    simp [Leaves, settle, results, Tryz.results9, go_sem]
  · go_enter_defers Tryz.func9, Tryz.ntmps9
    go_wp2_with (go_at_call 18; refine (Tryz.cut_no _ _ hs hn).mono ?_; rintro e w' ⟨rfl, rfl⟩)
    refine leaves_cons (f := 17) (args := #[.pointer (some ⟨w.heap.size, 0, none⟩)]) (by simp) (by simp [go_sem]) ?_
    refine (Tryz.line_idle ⟨w.heap.size, 0, none⟩ _).mono ?_
    rintro e u' w'' ⟨rfl, rfl, rfl⟩
    simp [Leaves, settle, results, Tryz.results9, go_sem]
end Go.Proofs

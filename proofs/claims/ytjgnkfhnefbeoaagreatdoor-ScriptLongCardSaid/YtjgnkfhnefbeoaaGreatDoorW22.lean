import Derived.Test.YtjgnkfhnefbeoaaGreatDoorW21
import Derived.Laws.IdiomStrings
import Derived.Deep.OwnRows
namespace Go.Proofs
open Go.RowKit Go.Lib

set_option maxHeartbeats 1000000
set_option maxRecDepth 100000

theorem Tryz.awake_any (w : World) : Calls Tryz.prog 5 #[] w fun e w' => e = .returned (.bool true) ∧ Below w.heap.size w w' := by
  go_enter Tryz.func5, Tryz.ntmps5
  go_wp2_with fail
  refine (Tryz.play_decide w).mono ?_
  rintro e w2 ⟨rfl, b2⟩
  have B2 := Lib.hid b2
  clear b2
  go_wp2_with fail
  go_ret
  exact ⟨rfl, B2.out⟩

def Tryz.nls (k : Nat) : ByteArray := ⟨(List.replicate k (10 : UInt8)).toArray⟩

theorem Tryz.nls_succ (k : Nat) : Tryz.nls k ++ (⟨#[10]⟩ : ByteArray) = Tryz.nls (k + 1) := by
  apply ByteArray.ext
  rw [ByteArray.data_append]
  apply Array.toList_inj.1
  simp [Tryz.nls, List.replicate_succ']

theorem Tryz.nls_size (k : Nat) : (Tryz.nls k).size = k := by simp [Tryz.nls, ByteArray.size]

theorem Tryz.count_nls (k : Nat) : Lib.countByte (Tryz.nls k).data.toList 10 = k := by
  show Lib.countByte (List.replicate k 10) 10 = k
  induction k with
  | zero => rfl
  | succ k ih => simp only [List.replicate_succ, Lib.countByte] at ih ⊢; simp_all

theorem Tryz.txt_nls (k : Nat) : Tryz.txt (List.replicate k []) = List.replicate k 10 := by
  induction k with
  | zero => rfl
  | succ k ih => simp only [List.replicate_succ, Tryz.txt, List.flatMap_cons] at ih ⊢; rw [ih]; rfl

theorem Tryz.play_300 (w : World) : Calls Tryz.prog 4 #[.string (Tryz.nls 300)] w fun e w' => e = .returned (.tuple #[.string ⟨#[]⟩, .int .i64 0, .int .i64 0]) ∧ Below w.heap.size w w' :=
  Tryz.play_blank (List.replicate 300 []) (fun x hx => by rw [List.eq_of_mem_replicate hx]; simp) (fun x hx => .inl (List.eq_of_mem_replicate hx)) _ (by rw [Tryz.txt_nls]; rfl) w (by rw [Tryz.nls_size]; omega) (by rw [Tryz.count_nls]; omega)

theorem Tryz.play_301 (w : World) : Calls Tryz.prog 4 #[.string (Tryz.nls 301)] w fun e w' => e = .returned (.tuple #[.string ⟨#[]⟩, .int .i64 0, .int .i64 4]) ∧ Below w.heap.size w w' :=
  Tryz.play_long _ w (.inr (by rw [Tryz.count_nls]; omega))

/-- A great note. -/
def Tryz.note (n : Nat) : List UInt8 := List.replicate n 35 ++ [10]
theorem Tryz.count_note (n : Nat) : Lib.countByte (Tryz.note n) 10 = 1 := by
  induction n with
  | zero => rfl
  | succ n ih => simp only [Tryz.note, List.replicate_succ, List.cons_append, Lib.countByte] at ih ⊢; simp_all

theorem Tryz.play_note (n : Nat) (w : World) (h : n + 1 ≤ 65536) : Calls Tryz.prog 4 #[.string ⟨(Tryz.note n).toArray⟩] w fun e w' => e = .returned (.tuple #[.string ⟨#[]⟩, .int .i64 0, .int .i64 0]) ∧ Below w.heap.size w w' := by
  refine Tryz.play_blank [List.replicate n 35] ?_ ?_ _ ?_ w ?_ ?_
  · intro x hx
    rw [List.mem_singleton] at hx
    rw [hx]
    intro h
    have := List.eq_of_mem_replicate h
    revert this; decide
  · intro x hx
    rw [List.mem_singleton] at hx
    cases n with
    | zero => exact .inl hx
    | succ n =>
      refine .inr ⟨List.replicate n 35, by rw [hx, List.replicate_succ], fun h => ?_⟩
      have := List.eq_of_mem_replicate h
      revert this; decide
  · simp [Tryz.txt, Tryz.note]
  · simp [ByteArray.size, Tryz.note]; omega
  · rw [Tryz.count_note]; omega

theorem Tryz.play_note_long (n : Nat) (w : World) (h : 65536 < n + 1) : Calls Tryz.prog 4 #[.string ⟨(Tryz.note n).toArray⟩] w fun e w' => e = .returned (.tuple #[.string ⟨#[]⟩, .int .i64 0, .int .i64 4]) ∧ Below w.heap.size w w' :=
  Tryz.play_long _ w (.inl (by simp [ByteArray.size, Tryz.note]; omega))
end Go.Proofs

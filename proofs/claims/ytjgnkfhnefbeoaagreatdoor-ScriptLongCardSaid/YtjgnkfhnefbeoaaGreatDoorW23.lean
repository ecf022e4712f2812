import Derived.Test.YtjgnkfhnefbeoaaGreatDoorW22
namespace Go.Proofs
open Go.RowKit Go.Lib

set_option maxHeartbeats 1000000
set_option maxRecDepth 100000

theorem Tryz.long_more (n : Int) (w : World) : Calls Tryz.prog 3 #[.bool true, .int .u32 n] w fun e w' => e = .returned (.bool true) ∧ Below w.heap.size w w' := by
  go_enter Tryz.func3, Tryz.ntmps3
  go_wp2
  go_loop [5, 6] (fun t i => ∃ k : Nat, k ≤ 300 ∧ t = .string (Tryz.nls k) ∧ i = .int .i64 k) (fun _ i => 300 - (Go.RowKit.intOf i).toNat)
  case atStart => exact ⟨0, by omega, rfl, rfl⟩
  case round =>
    obtain ⟨k, hk, rfl, rfl⟩ := hrel
    have hsz : (Tryz.nls k).size ≤ 300 := by rw [Tryz.nls_size]; exact hk
    by_cases hlt : k < 300
    · have hS := Lib.hid (Tryz.nls_succ k)
      go_wp2
      go_round
      case rel => exact ⟨k + 1, by omega, by rw [hS.out], by go_num⟩
      case measure => simp [Go.RowKit.intOf]; omega
    · obtain rfl : k = 300 := by omega
      have hS := Lib.hid (Tryz.nls_succ 300)
      go_wp2_with fail
      rw [hS.out]
      refine (Tryz.play_301 w).mono ?_
      rintro e w2 ⟨rfl, b2⟩
      have B2 := Lib.hid b2
      clear b2 hS
      go_wp2_with fail
      refine (Tryz.awake_any w2).mono ?_
      rintro e w3 ⟨rfl, b3⟩
      have B3 := Lib.hid (B2.out.trans (b3.mono B2.out.size))
      clear b3
      go_wp2_with fail
      go_ret
      exact ⟨rfl, B3.out⟩

theorem Tryz.nmod (n : Int) (h : 0 ≤ n) : n.tmod 12 = ((n.toNat % 12 : Nat) : Int) := by
  rw [Int.tmod_eq_emod_of_nonneg h]
  omega
/-- The row that is filled. -/
def Tryz.fillC (k n : Nat) : Array Value := (List.replicate k (Value.int .u8 35) ++ List.replicate (n - k) (Value.int .u8 0)).toArray

theorem Tryz.fill_size (k n : Nat) (h : k ≤ n) : (Tryz.fillC k n).size = n := by simp [Tryz.fillC]; omega
theorem Tryz.fill_get (k n i : Nat) (h : k ≤ i) (hi : i < n) : (Tryz.fillC k n)[i]? = some (.int .u8 0) := by
  rw [Tryz.fillC, List.getElem?_toArray]
  rw [List.getElem?_append_right (by simp; exact h), List.getElem?_replicate, if_pos (by simp; omega)]
theorem Tryz.fill_set (k n : Nat) (h : k < n) : (Tryz.fillC k n).setIfInBounds k (.int .u8 35) = Tryz.fillC (k + 1) n := by
  apply Array.toList_inj.1
  simp only [Tryz.fillC, Array.toList_setIfInBounds]
  rw [List.set_append_right _ _ (by simp), List.length_replicate, Nat.sub_self]
  have e : n - k = (n - (k + 1)) + 1 := by omega
  rw [e, List.replicate_succ, List.set_cons_zero, List.replicate_succ']
  simp
theorem Tryz.made_fill (n : Nat) : madeCells #[Value.int .u8 0] n = Tryz.fillC 0 n := by
  apply Array.toList_inj.1
  show _ = List.replicate (n - 0) (Value.int .u8 0)
  rw [List.eq_replicate_iff]
  refine ⟨by simp [madeCells], fun b hb => ?_⟩
  simp only [madeCells, Array.toList_map, List.mem_map] at hb
  obtain ⟨j, _, rfl⟩ := hb
  simp [Nat.mod_one]
theorem Tryz.fill_end (n : Nat) : (Tryz.fillC (n + 1) (n + 1)).setIfInBounds n (.int .u8 10) = ((Tryz.note n).map fun b => Value.int .u8 b.toNat).toArray := by
  apply Array.toList_inj.1
  simp only [Tryz.fillC, Array.toList_setIfInBounds, Tryz.note, Nat.sub_self, List.replicate_zero, List.append_nil, List.replicate_succ']
  rw [List.set_append_right _ _ (by simp), List.length_replicate, Nat.sub_self]
  simp
end Go.Proofs

import Derived.Test.YtjgnkfhnefbeoaaGreatDoorW5
import Derived.RegionCalls
import Derived.Lib.UnsafeStr
namespace Go.Proofs
open Go.RowKit Go.Lib

set_option maxHeartbeats 1000000
set_option maxRecDepth 100000

theorem Tryz.string_empty (b : Nat) (W : World) (hc : W.cell? ⟨b, 7, none⟩ = some (.slice none 0 0)) :
    Calls Tryz.prog 10 #[.pointer (some ⟨b, 6, none⟩)] W fun e w' => e = .returned (.string ⟨#[]⟩) ∧ w' = W.drew := by
  have hUS := Lib.run_unsafeString_none (P := Tryz.prog) W.drew 54 3 9
  have hSD : (Builtin.unsafeSliceData_ #[27] 54 #[.slice none 0 0]).run Tryz.prog W.drew = .ok (.pointer none) W.drew := rfl
  go_enter Tryz.func10, Tryz.ntmps10
  go_wp2
  go_region
  go_wp2
  go_ret
  exact ⟨rfl, rfl⟩

/-- Lines that say nothing. -/
def Tryz.blank (x : List UInt8) : Prop := x = [] ∨ ∃ l, x = 35 :: l ∧ (32 : UInt8) ∉ l

theorem Tryz.indexByte_no (x : List UInt8) (c : UInt8) (h : c ∉ x) : Lib.indexByte x c = -1 := by
  induction x with
  | nil => rfl
  | cons b x ih =>
    have hb : (b == c) = false := by simp; intro e; exact h (by simp [e])
    have := ih (fun hh => h (by simp [hh]))
    simp [Lib.indexByte, hb, this]

/-- A script of lines that say nothing. -/
theorem Tryz.play_blank (ls : List (List UInt8)) (hls : ∀ x ∈ ls, (10 : UInt8) ∉ x) (hbl : ∀ x ∈ ls, Tryz.blank x) (s : ByteArray) (hs : s = ⟨(Tryz.txt ls).toArray⟩) (w : World) (h1 : s.size ≤ 65536) (h2 : Lib.countByte s.data.toList 10 ≤ 300) :
    Calls Tryz.prog 4 #[.string s] w fun e w' => e = .returned (.tuple #[.string ⟨#[]⟩, .int .i64 0, .int .i64 0]) ∧ Below w.heap.size w w' := by
  refine Tryz.play_lines ls hls s hs w h1 h2 ⟨#[]⟩ (fun _ W => W.heap[w.heap.size + 1 + 1 + 1 + 1 + 1]? = some (.cells #[.slice (some ⟨w.heap.size + 1 + 1 + 1, 0, none⟩) 7 7, .slice none 0 0, .slice none 0 0, .slice none 0 0,
        .slice (some ⟨w.heap.size + 1 + 1 + 1 + 1, 0, none⟩) 2 2, .int .i64 0, .pointer none, .slice none 0 0] 38)) ?_ ?_ ?_ ?_ ?_
  · intro pre W W' h hk
    exact hk _ _ _ _ (by omega) (by omega) h
  · intro W _ _ h; exact h
  · intro pre W h; exact ⟨_, _, _, h⟩
  · intro pre x rest W hx hsz hSt
    have hxl : x.length ≤ 65536 := by
      have h := h1; rw [hs] at h
      have h' : (Tryz.txt ls).length ≤ 65536 := h
      have h'' := Tryz.txt_le pre x rest
      rw [← hx] at h''
      omega
    have hb := hbl x (by rw [hx]; simp)
    have hno : Lib.indexByte x 32 = -1 := by
      rcases hb with rfl | ⟨l, rfl, hl⟩
      · rfl
      · exact Tryz.indexByte_no _ _ (by simp; exact hl)
    refine (Tryz.line_blank ⟨w.heap.size + 1 + 1 + 1 + 1 + 1, 0, none⟩ ⟨x.toArray⟩ W (by show x.length ≤ _; omega) hno ?_).mono ?_
    · rcases hb with rfl | ⟨l, rfl, hl⟩
      · exact .inl rfl
      · exact .inr ⟨l, rfl⟩
    · rintro e w' ⟨rfl, rfl⟩
      exact ⟨rfl, Tryz.alloc_old _ hSt, World.grownBy_alloc W _ _⟩
  · intro W hSt
    refine (Tryz.string_empty _ W ?_).mono ?_
    · rw [Tryz.cell_of hSt]; rfl
    · rintro e w' ⟨rfl, rfl⟩
      exact ⟨rfl, none, ⟨rfl, rfl, rfl, Nat.le_refl _, fun _ _ _ => rfl⟩, fun k e => by cases e⟩
end Go.Proofs

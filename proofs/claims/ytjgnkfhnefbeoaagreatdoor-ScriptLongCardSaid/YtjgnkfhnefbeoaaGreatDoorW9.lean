import Derived.Test.YtjgnkfhnefbeoaaGreatDoorW8
import Derived.Lib.UnsafeStr
namespace Go.Proofs
open Go.RowKit Go.Lib

set_option maxHeartbeats 1000000
set_option maxRecDepth 100000

theorem Tryz.cellsOf5 : Tryz.prog.cellsOf 5 = 1 := by kernel_rfl
theorem Tryz.und54 : Tryz.prog.underlying 54 = some (.pointer 5) := Tryz.underlying54

theorem Tryz.grown_freeze (w : World) (g k n : Nat) : w.grownBy (w.freeze ⟨g, k, none⟩ n) (some g) := by
  unfold World.freeze
  split
  · exact ⟨rfl, rfl, rfl, Nat.le_refl _, fun _ _ _ => rfl⟩
  · refine ⟨rfl, rfl, rfl, by simp, fun k _ hk => ?_⟩
    simp only [Array.getElem?_modify]
    rw [if_neg (fun e => hk (by rw [e]))]

theorem Tryz.string_pay (B b : Nat) (l : List UInt8) (hl : l ≠ []) (hlen : l.length ≤ 1000) (w : World) (h : Tryz.Pay B b (Tryz.bytesV l) w) :
    Calls Tryz.prog 10 #[.pointer (some ⟨b, 6, none⟩)] w fun e w' => e = .returned (.string ⟨l.toArray⟩) ∧ ∃ row, w.grownBy w' row ∧ ∀ k, row = some k → B ≤ k ∧ ∃ C t f, w.heap[k]? = some (.cells C t f) := by
  obtain ⟨x0, x1, x2, x3, x4, x5, ad, v, hb, had, hown⟩ := h
  have hl0 : l.length ≠ 0 := by simpa using hl
  have hbl : Tryz.bytesV l = Lib.byteCells l := by simp [Tryz.bytesV, Lib.strCells, Lib.byteCells]
  rw [hbl, Lib.byteCells_length] at hown
  obtain ⟨g, cap, cur, rfl, hbg, hg, hnc, hcm, hcs, htake⟩ : ∃ g cap cur, v = .slice (some ⟨g, 0, none⟩) l.length cap ∧ B ≤ g ∧ w.heap[g]? = some (.cells cur 5 (0, 0)) ∧ l.length ≤ cap ∧ cap ≤ maxLen ∧ cur.size = cap * 1 ∧ cur.toList.take (l.length * 1) = Lib.byteCells l := by
    rcases hown.2 with ⟨_, hz⟩ | ⟨g, cap, cur, hv, r⟩
    · exact absurd hz hl0
    · exact ⟨g, cap, cur, hv, r⟩
  have hc1 : w.drew.cell? ⟨b, 7, none⟩ = some (.slice (some ⟨g, 0, none⟩) l.length cap) := by
    show w.cell? ⟨b, 7, none⟩ = _
    rw [Tryz.cell_of hb]; rfl
  have hc0 : w.cell? ⟨b, 7, none⟩ = some (.slice (some ⟨g, 0, none⟩) l.length cap) := hc1
  have hSD : (Builtin.unsafeSliceData_ #[27] 54 #[.slice (some ⟨g, 0, none⟩) l.length cap]).run Tryz.prog w.drew = .ok (.pointer (some ⟨g, 0, none⟩)) w.drew :=
    Lib.run_unsafeSliceData_row _ _ _ _ _ _ (by omega)
  have hUS : (Builtin.unsafeString_ #[54, 3] 9 #[.pointer (some ⟨g, 0, none⟩), .int .i64 l.length]).run Tryz.prog w.drew = .ok (.string ⟨l.toArray⟩) (w.drew.freeze ⟨g, 0, none⟩ l.length) := by
    refine Lib.run_unsafeString_row w.drew 54 3 9 5 Tryz.und54 Tryz.cellsOf5 g cur.size (by have hg' : w.drew.heap[g]? = some (.cells cur 5 (0, 0)) := hg; simp [World.shape?, hg']) l hl (by omega) (by unfold maxLen at hcm; omega) ?_
    intro j x hx
    have := hown.cells (g := g) rfl j (.int .u8 x.toNat) (by simp [Lib.byteCells, hx])
    exact this
  have hgr : w.grownBy (w.drew.freeze ⟨g, 0, none⟩ l.length) (some g) := by
    obtain ⟨h1, h2, h3, h4, h5⟩ := Tryz.grown_freeze w.drew g 0 l.length
    exact ⟨h1, h2, h3, h4, h5⟩
  have hfin : ∀ k, some g = some k → B ≤ k ∧ ∃ C t f, w.heap[k]? = some (.cells C t f) := fun k e => by cases e; exact ⟨hbg, _, _, _, hg⟩
  have hbl' := Lib.hid hbl
  clear hown htake hbl hb had hcs hl0 hg
  go_enter Tryz.func10, Tryz.ntmps10
  go_wp2
  go_region
  go_wp2
  go_ret
  exact ⟨rfl, _, hgr, hfin⟩
end Go.Proofs

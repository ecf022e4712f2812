import Derived.RangeFuncNested
import Derived.RangeFuncBound
import Derived.RangeFuncCalls
import Derived.RangeFuncLeaves
import Derived.Shelf.Abstract
import Derived.Shelf.RegionOpen
import Derived.WalkKit
import Derived.OwnWalkIn
import Derived.TacticsInMore
import Derived.RegionIn
import Derived.LoopNIn
import Derived.LoopIn
import Derived.Test.YtjgnkfhnefbeoaaGreatDoorW2
namespace Go.Proofs
open Go.RowKit Go.Shelf Go.Lib
attribute [local go_sem] Oper.semAt_some

set_option maxHeartbeats 1000000
set_option maxRecDepth 100000

/-- The text of lines. -/
def Tryz.txt (ls : List (List UInt8)) : List UInt8 := ls.flatMap (· ++ [10])
def Tryz.lenAt (B : Nat) (w : World) : Nat := match w.cell? ⟨B, 0, none⟩ with | some (.string s) => s.size | _ => 0

theorem Tryz.indexByte_at (x t : List UInt8) (c : UInt8) (h : c ∉ x) : Lib.indexByte (x ++ c :: t) c = (x.length : Int) := by
  induction x with
  | nil => simp [Lib.indexByte]
  | cons b x ih =>
    have hb : (b == c) = false := by simp; intro e; exact h (by simp [e])
    have := ih (fun hh => h (by simp [hh]))
    simp only [List.cons_append, Lib.indexByte, hb, this]
    simp

theorem Tryz.cut_line (x t : List UInt8) (h : (10 : UInt8) ∉ x) : 0 < (⟨(x ++ 10 :: t).toArray⟩ : ByteArray).size ∧ Lib.indexByte (⟨(x ++ 10 :: t).toArray⟩ : ByteArray).data.toList 10 = (x.length : Int) ∧
    (⟨(x ++ 10 :: t).toArray⟩ : ByteArray).size = x.length + 1 + t.length ∧
    (⟨(x ++ 10 :: t).toArray⟩ : ByteArray).extract 0 (x.length + 1) = ⟨(x ++ [10]).toArray⟩ ∧ (⟨(x ++ 10 :: t).toArray⟩ : ByteArray).extract (x.length + 1) (⟨(x ++ 10 :: t).toArray⟩ : ByteArray).size = ⟨t.toArray⟩ := by
  have hsz : (⟨(x ++ 10 :: t).toArray⟩ : ByteArray).size = x.length + 1 + t.length := by simp [ByteArray.size]; omega
  have e : x ++ 10 :: t = (x ++ [10]) ++ t := by simp
  have el : (x ++ [10]).length = x.length + 1 := by simp
  refine ⟨by omega, Tryz.indexByte_at _ _ _ h, hsz, ?_, ?_⟩
  · rw [Lib.extract_eq]
    show (⟨(List.take (x.length + 1 - 0) (List.drop 0 (x ++ 10 :: t))).toArray⟩ : ByteArray) = _
    rw [List.drop_zero, Nat.sub_zero, e, List.take_append_of_le_length (by omega), List.take_of_length_le (by omega)]
  · rw [Lib.extract_eq, hsz]
    show (⟨(List.take (x.length + 1 + t.length - (x.length + 1)) (List.drop (x.length + 1) (x ++ 10 :: t))).toArray⟩ : ByteArray) = _
    rw [e, List.drop_append, List.drop_of_length_le (by omega), el, Nat.sub_self, List.drop_zero, List.nil_append, List.take_of_length_le (by omega)]

theorem Tryz.lines1_in (n l B : Nat) (hn : 1 ≤ n) (ls : List (List UInt8)) (hls : ∀ x ∈ ls, (10 : UInt8) ∉ x) (htot : (Tryz.txt ls).length ≤ 4611686018427387904)
    (J : List (List UInt8) → World → Prop) (hJ1 : ∀ pre W v, J pre W → J pre (W.setCell ⟨B, 0, none⟩ v)) (hJ2 : ∀ pre W, J pre W → J pre W.drew)
    (hY : ∀ pre x rest W, ls = pre ++ x :: rest → J pre W → YieldAt Fence.wide (n - 1) Tryz.prog l #[.string ⟨(x ++ [10]).toArray⟩] W fun e W' =>
      e = .returned (.bool true) ∧ J (pre ++ [x]) W' ∧ W'.cell? ⟨B, 0, none⟩ = W.cell? ⟨B, 0, none⟩ ∧ W'.frozen? ⟨B, 0, none⟩ = W.frozen? ⟨B, 0, none⟩)
    (W : World) (hB : W.cell? ⟨B, 0, none⟩ = some (.string ⟨(Tryz.txt ls).toArray⟩)) (hf : W.frozen? ⟨B, 0, none⟩ = false) (h0 : J [] W) :
    CallsIn Fence.wide n Tryz.prog 14 #[.func (.yield l) #[] #[], .pointer (some ⟨B, 0, none⟩)] W fun e W' => (∃ v, e = .returned v) ∧ J ls W' := by
  refine callsIn_of_wp Tryz.func14 rfl trivial ?_ rfl
  simp only [Tryz.ntmps14, List.size_toArray, List.length_cons, List.length_nil, Nat.reduceAdd, Nat.reduceSub, Array.replicate_succ, Array.replicate_zero, List.push_toArray, List.append_toArray, List.nil_append, List.cons_append]
  gi_wp2
  gi_loopw [3] (fun _ wr => ∃ (pre rest : List (List UInt8)), ls = pre ++ rest ∧ wr.cell? ⟨B, 0, none⟩ = some (.string ⟨(Tryz.txt rest).toArray⟩) ∧ wr.frozen? ⟨B, 0, none⟩ = false ∧ J pre wr)
    (fun _ wr => Tryz.lenAt B wr)
  case atStart =>
    exact ⟨[], ls, rfl, hB, hf, h0⟩
  case round =>
    obtain ⟨pre, rest, hx, hc, hfr, hJs⟩ := hrel
    cases rest with
    | nil =>
      have hc' : wr.cell? ⟨B, 0, none⟩ = some (.string ⟨#[]⟩) := hc
      clear hc
      gi_wp2
      go_end0
      exact ⟨⟨_, rfl⟩, by simpa [hx] using hJs⟩
    | cons x rest =>
      obtain ⟨s, hs⟩ : ∃ s : ByteArray, s = ⟨(x ++ 10 :: Tryz.txt rest).toArray⟩ := ⟨_, rfl⟩
      have hc' : wr.cell? ⟨B, 0, none⟩ = some (.string s) := by rw [hc, hs]; simp [Tryz.txt]
      obtain ⟨hpos, hix, hsz, e1, e2⟩ := Tryz.cut_line x (Tryz.txt rest) (hls x (by simp [hx]))
      rw [← hs] at hpos hix hsz e1 e2
      have hmax : s.size ≤ 4611686018427387904 := by
        refine Nat.le_trans ?_ htot
        rw [hsz, hx]; simp [Tryz.txt]; omega
      obtain ⟨fn, tmps, assign, body, hy, hR⟩ := hY pre x rest (wr.setCell ⟨B, 0, none⟩ (.string ⟨(Tryz.txt rest).toArray⟩)).drew hx (hJ2 _ _ (hJ1 _ _ _ hJs))
      have hle : x.length + 1 ≤ s.size := by omega
      have hlt0 : (⟨(Tryz.txt rest).toArray⟩ : ByteArray).size < s.size := by rw [hsz]; show (Tryz.txt rest).length < _; omega
      clear hc htot hls hs hsz
      gi_wp2_with (refine ⟨trivial, ?_⟩; gi_at_call 15; refine (callsIn_wide.2 (Tryz.indexByte_any _ _ _)).mono ?_; rintro e w' ⟨rfl, rfl⟩; rw [show (10 : Int).toNat.toUInt8 = 10 from rfl, hix])
      gi_region
      gi_wp2
      refine hR.mono ?_
      rintro e W3 ⟨rfl, hJ3, hb3, hf3⟩
      have hc3 : W3.cell? ⟨B, 0, none⟩ = some (.string ⟨(Tryz.txt rest).toArray⟩) := by rw [hb3]; exact World.cell?_setCell_same' _ _ _ (by rw [hc']; rfl)
      have hfr3 : W3.frozen? ⟨B, 0, none⟩ = false := by rw [hf3]; simp [hfr]
      have hlt : Tryz.lenAt B W3 < Tryz.lenAt B wr := by unfold Tryz.lenAt; rw [hc3, hc']; exact hlt0
      have hx3 : ls = (pre ++ [x]) ++ rest := by rw [hx]; simp
      clear hc' hfr hJs hx
      gi_wp2
      go_roundw
      case rel => exact ⟨_, _, hx3, hc3, hfr3, hJ3⟩
      case measure => exact hlt
end Go.Proofs

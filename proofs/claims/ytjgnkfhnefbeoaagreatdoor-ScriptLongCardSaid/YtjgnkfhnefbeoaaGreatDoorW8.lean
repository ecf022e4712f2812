import Derived.Test.YtjgnkfhnefbeoaaGreatDoorW7
import Derived.RegionCalls
import Derived.StillTailTactics
import Derived.BigQuiet
namespace Go.Proofs
open Go.RowKit Go.Lib

set_option maxHeartbeats 1000000
set_option maxRecDepth 100000

def Tryz.bytesV (l : List UInt8) : List Value := Lib.strCells ⟨l.toArray⟩
theorem Tryz.bytesV_len (l : List UInt8) : (Tryz.bytesV l).length = l.length := by simp [Tryz.bytesV, Lib.strCells]

theorem Tryz.write_at (B b : Nat) (l : List UInt8) (s : ByteArray) (w : World) (hbB : b < B) (hB : B ≤ w.heap.size) (hlen : l.length + s.size ≤ 1000) (h : Tryz.Pay B b (Tryz.bytesV l) w) :
    Calls Tryz.prog 27 #[.pointer (some ⟨b, 6, none⟩), .string s] w fun e w' => e = .returned (.tuple #[.int .i64 (s.size : Int), .nilIface]) ∧ Tryz.Pay B b (Tryz.bytesV (l ++ s.data.toList)) w' ∧ Tryz.Turn B b w w' := by
  refine (Tryz.write_any B b (Tryz.bytesV l) s w hbB hB (by rw [Tryz.bytesV_len]; exact hlen) h).mono ?_
  rintro e w' ⟨rfl, hp, ht⟩
  refine ⟨rfl, ?_, ht⟩
  have e1 : Tryz.bytesV (l ++ s.data.toList) = Tryz.bytesV l ++ Lib.strCells s := by simp [Tryz.bytesV, Lib.strCells]
  rw [e1]; exact hp

theorem Tryz.Turn.cell {B b : Nat} {w w' : World} (h : Tryz.Turn B b w w') {k i : Nat} (hk : k < B) (hn : k ≠ b) : w'.cell? ⟨k, i, none⟩ = w.cell? ⟨k, i, none⟩ := by
  simp [World.cell?, h.block k hk hn]

theorem Tryz.numbers_7 (B b g : Nat) (w : World) (hbB : b < B) (hB : B ≤ w.heap.size) (hg : g < B) (hgb : g ≠ b) (hc : w.cell? ⟨g, 0, none⟩ = some (.int .i64 7)) (h : Tryz.Pay B b (Tryz.bytesV []) w) :
    Calls Tryz.prog 26 #[.pointer (some ⟨b, 0, none⟩), .string ⟨#[101, 114, 114]⟩, .slice (some ⟨g, 0, none⟩) 1 1] w fun e w' => e = .returned (.tuple #[]) ∧ Tryz.Pay B b (Tryz.bytesV [101, 114, 114, 32, 55]) w' ∧ Tryz.Turn B b w w' := by
  go_enter Tryz.func26, Tryz.ntmps26
  go_wp2_with (go_at_call 27; refine (Tryz.write_at B b [] ⟨#[101, 114, 114]⟩ _ hbB hB (by decide) h).mono ?_; rintro e w1 ⟨rfl, hp1, ht1⟩)
  have hc1 : w1.cell? ⟨g, 0, none⟩ = some (.int .i64 7) := (ht1.cell hg hgb).trans hc
  have hB1 : B ≤ w1.heap.size := Nat.le_trans hB ht1.size
  go_loopw [15] (fun i wr => (i = .int .i64 0 ∧ wr = w1) ∨ (i = .int .i64 1 ∧ Tryz.Pay B b (Tryz.bytesV [101, 114, 114, 32, 55]) wr ∧ Tryz.Turn B b w wr)) (fun i wr => 1 - (Go.RowKit.intOf i).toNat)
  case atStart => exact .inl ⟨rfl, rfl⟩
  case round =>
    rcases hrel with ⟨rfl, rfl⟩ | ⟨rfl, hp, ht⟩
    · go_wp2
      go_still_tail 6, (by kernel_rfl)
      still_call ((Tryz.itoa7 _).mono fun _ _ h => ⟨h.1, h.2.symm⟩)
      repeat still_step
      refine wpStill_nil ?_
      change wpList _ _ _ _ _ wr.drew
      obtain ⟨w2, hw2⟩ : ∃ w2, wr.drew = w2 := ⟨_, rfl⟩
      have hp2 : Tryz.Pay B b (Tryz.bytesV [101, 114, 114]) w2 := by rw [← hw2]; exact hp1
      have ht2 : Tryz.Turn B b w w2 := by rw [← hw2]; exact ⟨ht1.os, ht1.tape, ht1.output, ht1.size, ht1.block⟩
      have hB2 : B ≤ w2.heap.size := Nat.le_trans hB ht2.size
      rw [hw2]
      clear hw2 hp1 ht1 hB1 hc1
      go_wp2_with (go_at_call 27; refine (Tryz.write_at B b [101, 114, 114] ⟨#[32, 55]⟩ _ hbB hB2 (by decide) hp2).mono ?_; rintro e w3 ⟨rfl, hp3, ht3⟩)
      have hT := ht2.trans ht3
      go_roundw
      case rel => exact .inr ⟨by go_num, hp3, hT⟩
      case measure => simp [Go.RowKit.intOf]
    · go_wp2
      go_end0
      exact ⟨rfl, hp, ht⟩
end Go.Proofs

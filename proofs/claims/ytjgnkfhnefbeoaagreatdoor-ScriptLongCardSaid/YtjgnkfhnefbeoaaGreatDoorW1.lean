import Derived.Test.YtjgnkfhnefbeoaaGreatDoorProg
import Derived.WalkKit
import Derived.Lib.Walk
import Derived.Lib.Strings
import Derived.Lib.Slices
import Derived.Lib.Bytealg
import Derived.BigCall
import Derived.BigGuard
import Derived.Deep.Draws
import Derived.Laws.Strings3
import Derived.Laws.Externs
import Derived.Shelf.Strings.Search3
import Derived.Lib.CountLaws
namespace Go.Proofs
open Go.RowKit Go.Lib

set_option maxHeartbeats 1000000
set_option maxRecDepth 100000

theorem Tryz.count_nl (s : ByteArray) (w : World) :
    Calls Tryz.prog 6 #[.string s, .string ⟨#[10]⟩] w fun e w' => e = .returned (.int .i64 (Lib.countByte s.data.toList 10)) ∧ w = w' := by
  go_enter Tryz.func6, Tryz.ntmps6
  go_wp2
  rw [run_callFunc_extern Tryz.func12 (by kernel_rfl) (by kernel_rfl) (by kernel_rfl) (e := Extern.BytealgCount.count) (by kernel_rfl), Lib.run_countString]
  simp only [Result.andThen]
  rw [Oper.upon_value]
  go_wp2
  go_ret
  exact ⟨rfl, rfl⟩

theorem Tryz.hasSuffix_any (s p : ByteArray) (w : World) (hs : s.size ≤ 9223372036854775807) :
    Calls Tryz.prog 23 #[.string s, .string p] w fun e w' => e = .returned (.bool (Lib.hasSuffix s.data.toList p.data.toList)) ∧ w = w' := by
  rw [← Lib.hasSuffix_raw]
  have hlo : p.size ≤ s.size → ((s.size : Int) - (p.size : Int) + 9223372036854775808) % 18446744073709551616 - 9223372036854775808 = ((s.size - p.size : Nat) : Int) := fun _ => by omega
  go_enter Tryz.func23, Tryz.ntmps23
  go_wp2
  · have h : p.size ≤ s.size := by assumption
    go_ret
    refine ⟨?_, rfl⟩
    show Ending.returned (Value.bool ((s.extract (s.size - p.size) s.size).toList == p.toList)) = _
    simp [h]
  · have h : ¬ p.size ≤ s.size := by assumption
    go_ret
    refine ⟨?_, rfl⟩
    show Ending.returned (Value.bool false) = _
    simp [h]

theorem Tryz.cutSuffix0_any (s p : ByteArray) (w : World) (hs : s.size ≤ 9223372036854775807) :
    Calls Tryz.prog 16 #[.string s, .string p] w fun e w' => e = .returned (.tuple #[.string ⟨(Lib.trimSuffix s.data.toList p.data.toList).toArray⟩, .bool (Lib.hasSuffix s.data.toList p.data.toList)]) ∧ w = w' := by
  by_cases h1 : p.size ≤ s.size
  · cases h2 : ((s.extract (s.size - p.size) s.size).toList == p.toList)
    · have hh : Lib.hasSuffix s.data.toList p.data.toList = false := by rw [← Lib.hasSuffix_raw, h2]; simp
      go_enter Tryz.func16, Tryz.ntmps16
      go_wp2_with (go_at_call 23; refine (Tryz.hasSuffix_any _ _ _ hs).mono ?_; rintro e w' ⟨rfl, rfl⟩; rw [hh])
      go_ret2
      refine ⟨?_, rfl⟩
      rw [Lib.trimSuffix_miss s p (by rw [h2]; simp), hh]
      rfl
    · have hh : Lib.hasSuffix s.data.toList p.data.toList = true := by rw [← Lib.hasSuffix_raw, h2]; simp [h1]
      go_enter Tryz.func16, Tryz.ntmps16
      go_wp2_with (go_at_call 23; refine (Tryz.hasSuffix_any _ _ _ hs).mono ?_; rintro e w' ⟨rfl, rfl⟩; rw [hh])
      go_ret2
      refine ⟨?_, rfl⟩
      rw [Lib.trimSuffix_hit s p h1 h2, hh]
      rfl
  · have hh : Lib.hasSuffix s.data.toList p.data.toList = false := by rw [← Lib.hasSuffix_raw]; simp [h1]
    go_enter Tryz.func16, Tryz.ntmps16
    go_wp2_with (go_at_call 23; refine (Tryz.hasSuffix_any _ _ _ hs).mono ?_; rintro e w' ⟨rfl, rfl⟩; rw [hh])
    go_ret2
    refine ⟨?_, rfl⟩
    rw [Lib.trimSuffix_miss s p (by simp [h1]), hh]
    rfl

theorem Tryz.cutSuffix_any (s p : ByteArray) (w : World) (hs : s.size ≤ 9223372036854775807) :
    Calls Tryz.prog 8 #[.string s, .string p] w fun e w' => e = .returned (.tuple #[.string ⟨(Lib.trimSuffix s.data.toList p.data.toList).toArray⟩, .bool (Lib.hasSuffix s.data.toList p.data.toList)]) ∧ w = w' := by
  go_enter Tryz.func8, Tryz.ntmps8
  go_wp2_with (go_at_call 16; refine (Tryz.cutSuffix0_any _ _ _ hs).mono ?_; rintro e w' ⟨rfl, rfl⟩)
  go_ret2
  exact ⟨rfl, rfl⟩

theorem Tryz.indexByte0_any (s : ByteArray) (c : Int) (w : World) :
    Calls Tryz.prog 22 #[.string s, .int .u8 c] w fun e w' => e = .returned (.int .i64 (Lib.indexByte s.data.toList c.toNat.toUInt8)) ∧ w = w' := by
  go_enter Tryz.func22, Tryz.ntmps22
  go_wp2
  rw [run_callFunc_extern Tryz.func36 (by kernel_rfl) (by kernel_rfl) (by kernel_rfl) (e := Extern.BytealgIndexByte.indexByte) (by kernel_rfl), Lib.run_indexByteString]
  simp only [Result.andThen]
  rw [Oper.upon_value]
  go_wp2
  go_ret
  exact ⟨rfl, rfl⟩

theorem Tryz.indexByte_any (s : ByteArray) (c : Int) (w : World) :
    Calls Tryz.prog 15 #[.string s, .int .u8 c] w fun e w' => e = .returned (.int .i64 (Lib.indexByte s.data.toList c.toNat.toUInt8)) ∧ w = w' := by
  go_enter Tryz.func15, Tryz.ntmps15
  go_wp2_with (go_at_call 22; refine (Tryz.indexByte0_any _ _ _).mono ?_; rintro e w' ⟨rfl, rfl⟩)
  go_ret
  exact ⟨rfl, rfl⟩

/-- stringslite.Index at one byte. -/
theorem Tryz.index0_sp (s : ByteArray) (w : World) (hs : s.size ≤ 9223372036854775807) :
    Calls Tryz.prog 21 #[.string s, .string ⟨#[32]⟩] w fun e w' => e = .returned (.int .i64 (Lib.indexByte s.data.toList 32)) ∧ w = w' := by
  go_enter Tryz.func21, Tryz.ntmps21
  go_wp2_with (go_at_call 22; refine (Tryz.indexByte0_any _ _ _).mono ?_; rintro e w' ⟨rfl, rfl⟩)
  · have h : ([32] == s.toList) = true := by assumption
    go_ret
    refine ⟨?_, rfl⟩
    have h' : s.data.toList = [32] := by have := eq_of_beq h; rw [Lib.toList_data] at this; exact this.symm
    rw [h']; rfl
  · go_ret
    exact ⟨rfl, rfl⟩

/-- stringslite.Cut at a blank that does not come. -/
theorem Tryz.cut0_no (s : ByteArray) (w : World) (hs : s.size ≤ 9223372036854775807) (hn : Lib.indexByte s.data.toList 32 = -1) :
    Calls Tryz.prog 24 #[.string s, .string ⟨#[32]⟩] w fun e w' => e = .returned (.tuple #[.string s, .string ⟨#[]⟩, .bool false]) ∧ w = w' := by
  go_enter Tryz.func24, Tryz.ntmps24
  go_wp2_with (go_at_call 21; refine (Tryz.index0_sp _ _ hs).mono ?_; rintro e w' ⟨rfl, rfl⟩; rw [hn])
  go_ret3
  exact ⟨rfl, rfl⟩

theorem Tryz.cut_no (s : ByteArray) (w : World) (hs : s.size ≤ 9223372036854775807) (hn : Lib.indexByte s.data.toList 32 = -1) :
    Calls Tryz.prog 18 #[.string s, .string ⟨#[32]⟩] w fun e w' => e = .returned (.tuple #[.string s, .string ⟨#[]⟩, .bool false]) ∧ w = w' := by
  go_enter Tryz.func18, Tryz.ntmps18
  go_wp2_with (go_at_call 24; refine (Tryz.cut0_no _ _ hs hn).mono ?_; rintro e w' ⟨rfl, rfl⟩)
  go_ret3
  exact ⟨rfl, rfl⟩

end Go.Proofs

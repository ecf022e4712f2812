import Derived.Test.YtjgnkfhnefbeoaaGreatDoorW23
namespace Go.Proofs
open Go.RowKit Go.Lib

set_option maxHeartbeats 1000000
set_option maxRecDepth 100000

theorem Tryz.long_less (n : Int) (h0 : 0 ≤ n) (h1 : n ≤ 4294967295) (w : World) : Calls Tryz.prog 3 #[.bool false, .int .u32 n] w fun e w' => e = .returned (.bool true) ∧ Below w.heap.size w w' := by
  go_enter Tryz.func3, Tryz.ntmps3
  go_wp2
  go_loop [5, 6] (fun t i => ∃ k : Nat, k ≤ 300 ∧ t = .string (Tryz.nls k) ∧ i = .int .i64 k) (fun _ i => 300 - (Go.RowKit.intOf i).toNat)
  case atStart => exact ⟨0, by omega, rfl, rfl⟩
  case round =>
    obtain ⟨k, hk, rfl, rfl⟩ := hrel
    have hsz : (Tryz.nls k).size ≤ 300 := by rw [Tryz.nls_size]; exact hk
    by_cases hlt : k < 300
    · have hS := Lib.hid (Tryz.nls_succ k)
      go_wp2
      go_round
      case rel => exact ⟨k + 1, by omega, by rw [hS.out], by go_num⟩
      case measure => simp [Go.RowKit.intOf]; omega
    · obtain rfl : k = 300 := by omega
      go_wp2_with fail
      refine (Tryz.play_300 w).mono ?_
      rintro e w2 ⟨rfl, b2⟩
      have B2 := Lib.hid b2
      clear b2
      go_wp2_with fail
      obtain ⟨L, hL, hL1, hL2⟩ : ∃ L : Nat, 65530 + n % 12 = ((L + 1 : Nat) : Int) ∧ 65529 ≤ L ∧ L ≤ 65540 := ⟨(65529 + n % 12).toNat, by omega, by omega, by omega⟩
      rw [hL, run_make_row' 27 5 (.int .u8 0) 1 Tryz.underlying27 Tryz.info5 rfl .u32 .u32 (L + 1) (by omega) (by omega) w2, Tryz.made_fill]
      clear hL
      obtain ⟨w3, hw3⟩ : ∃ w3, w2.alloc (.cells (Tryz.fillC 0 (L + 1)) 5) = w3 := ⟨_, rfl⟩
      obtain ⟨g, hg⟩ : ∃ g, w2.heap.size = g := ⟨_, rfl⟩
      have q3 : w3.heap[g]? = some (.cells (Tryz.fillC 0 (L + 1)) 5) := by rw [← hw3]; exact Tryz.alloc_new _ hg
      have B3 : Below w.heap.size w w3 := by rw [← hw3]; exact B2.out.alloc B2.out.size _
      have hgb : w.heap.size ≤ g := by rw [← hg]; exact B2.out.size
      rw [hw3, hg]
      clear hw3 hg B2
      simp only [Result.andThen]
      rw [Oper.upon_value]
      have Q3 := Lib.hid q3
      clear q3
      go_wp2_with fail
      go_loopw [11] (fun i wr => ∃ k : Nat, k ≤ L + 1 ∧ i = .int .i64 k ∧ Hid (wr.heap[g]? = some (.cells (Tryz.fillC k (L + 1)) 5)) ∧ Below w.heap.size w wr) (fun i _ => L + 1 - (Go.RowKit.intOf i).toNat)
      case atStart => exact ⟨0, by omega, rfl, Q3, B3⟩
      case round =>
        obtain ⟨k, hk, rfl, Q, B⟩ := hrel
        by_cases hlt : k < L + 1
        · have c0 : wr.cell? ⟨g, k, none⟩ = some (.int .u8 0) := by rw [Tryz.cell_of Q.out k]; exact Tryz.fill_get _ _ _ (Nat.le_refl _) hlt
          have f0 := Tryz.frozen_of Q.out k
          go_wp2
          go_roundw
          case rel =>
            refine ⟨k + 1, by omega, by go_num, ?_, B.setCell (p := ⟨g, k, none⟩) hgb _⟩
            have := Tryz.set_of Q.out k (.int .u8 35)
            rw [Tryz.fill_set _ _ hlt] at this
            exact Lib.hid this
          case measure => simp [Go.RowKit.intOf]; omega
        · obtain rfl : k = L + 1 := by omega
          have c0 : wr.cell? ⟨g, L, none⟩ = some (.int .u8 35) := by rw [Tryz.cell_of Q.out L]; simp [Tryz.fillC]
          have f0 := Tryz.frozen_of Q.out L
          have hw1 : IntKind.i64.wrap (((L + 1 : Nat) : Int) - 1) = (L : Int) := by rw [IntKind.wrap_i64]; omega
          go_wp2
          obtain ⟨w5, hw5⟩ : ∃ w5, wr.setCell ⟨g, L, none⟩ (.int .u8 10) = w5 := ⟨_, rfl⟩
          have hconv : (convert 27 9 (.slice (some ⟨g, 0, none⟩) (L + 1) (L + 1))).run Tryz.prog w5 = .ok (.string ⟨(Tryz.note L).toArray⟩) w5 := by
            have hl : (Tryz.note L).length = L + 1 := by simp [Tryz.note]
            have q5 : w5.heap[g]? = some (.cells ((Tryz.note L).map fun b => Value.int .u8 b.toNat).toArray 5) := by
              rw [← hw5]
              have := Tryz.set_of Q.out L (.int .u8 10)
              rw [Tryz.fill_end] at this
              exact this
            have := run_convert_bytes_back (P := Tryz.prog) w5 27 9 5 ⟨g, 0, none⟩ (L + 1) (Tryz.note L) Tryz.underlying27 Tryz.underlying5 Tryz.underlying9 (fun j hj => by
              have e : (⟨g, 0, none⟩ : Addr).add j = ⟨g, j, none⟩ := by cases j <;> simp [Addr.add]
              rw [e, Tryz.cell_of q5 j]
              simp [List.getElem?_eq_getElem hj])
            rw [hl] at this
            exact this
          have B5 : Below w.heap.size w w5 := by rw [← hw5]; exact B.setCell (p := ⟨g, L, none⟩) hgb _
          rw [hw5, hconv]
          clear hw5 hconv c0 f0 Q B hw1 B3 Q3
          simp only [Result.andThen]
          rw [Oper.upon_value]
          have H5 := Lib.hid B5
          clear B5 hL1 hL2
          by_cases hs : L + 1 ≤ 65536
          · have HS := Lib.hid hs
            clear hs
            go_wp2_with fail
            refine (Tryz.play_note L w5 HS.out).mono ?_
            rintro e w6 ⟨rfl, b6⟩
            have B6 := Lib.hid (H5.out.trans (b6.mono H5.out.size))
            clear b6
            have hd : decide (((L : Int) + 1) ≤ 65536) = true := by have := HS.out; simp; omega
            go_wp2_with fail
            refine (Tryz.awake_any w6).mono ?_
            rintro e w7 ⟨rfl, b7⟩
            have B7 := Lib.hid (B6.out.trans (b7.mono B6.out.size))
            clear b7
            go_wp2_with fail
            go_ret
            exact ⟨rfl, B7.out⟩
          · have HS := Lib.hid hs
            clear hs
            go_wp2_with fail
            refine (Tryz.play_note_long L w5 (by have := HS.out; omega)).mono ?_
            rintro e w6 ⟨rfl, b6⟩
            have B6 := Lib.hid (H5.out.trans (b6.mono H5.out.size))
            clear b6
            have hd : decide (((L : Int) + 1) ≤ 65536) = false := by have := HS.out; simp; omega
            go_wp2_with fail
            refine (Tryz.awake_any w6).mono ?_
            rintro e w7 ⟨rfl, b7⟩
            have B7 := Lib.hid (B6.out.trans (b7.mono B6.out.size))
            clear b7
            go_wp2_with fail
            go_ret
            exact ⟨rfl, B7.out⟩
end Go.Proofs

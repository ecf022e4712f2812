import Derived.Test.YtjgnkfhnefbeoaaGreatDoorW6
import Derived.Lib.Builder
import Derived.Lib.AppendStr
namespace Go.Proofs
open Go.RowKit Go.Lib

set_option maxHeartbeats 1000000
set_option maxRecDepth 100000

theorem Tryz.small7 (w : World) : Calls Tryz.prog 163 #[.int .i64 7] w fun e w' => e = .returned (.string ⟨#[55]⟩) ∧ w = w' := by
  go_enter Tryz.func163, Tryz.ntmps163
  go_wp2
  go_ret
  exact ⟨rfl, rfl⟩

theorem Tryz.format7 (w : World) : Calls Tryz.prog 112 #[.int .i64 7, .int .i64 10] w fun e w' => e = .returned (.string ⟨#[55]⟩) ∧ w = w' := by
  go_enter Tryz.func112, Tryz.ntmps112
  go_wp2_with (go_at_call 163; refine (Tryz.small7 _).mono ?_; rintro e w' ⟨rfl, rfl⟩)
  go_ret
  exact ⟨rfl, rfl⟩

theorem Tryz.itoa0_7 (w : World) : Calls Tryz.prog 72 #[.int .i64 7] w fun e w' => e = .returned (.string ⟨#[55]⟩) ∧ w = w' := by
  go_enter Tryz.func72, Tryz.ntmps72
  go_wp2_with (go_at_call 112; refine (Tryz.format7 _).mono ?_; rintro e w' ⟨rfl, rfl⟩)
  go_ret
  exact ⟨rfl, rfl⟩

theorem Tryz.itoa7 (w : World) : Calls Tryz.prog 40 #[.int .i64 7] w fun e w' => e = .returned (.string ⟨#[55]⟩) ∧ w = w' := by
  go_enter Tryz.func40, Tryz.ntmps40
  go_wp2_with (go_at_call 72; refine (Tryz.itoa0_7 _).mono ?_; rintro e w' ⟨rfl, rfl⟩)
  go_ret
  exact ⟨rfl, rfl⟩

theorem Tryz.info36 : (Tryz.prog.info? 36).map (·.size) = some 2 := by kernel_rfl
theorem Tryz.lies36 : liesAt Tryz.prog Tryz.prog.depth 38 (8 / Tryz.prog.cellsOf 38) 6 36 1 = true := by kernel_rfl

theorem Tryz.copyCheck_used (b : Nat) (w : World) (h0 : w.cell? ⟨b, 6, none⟩ = some (.pointer (some ⟨b, 6, none⟩))) :
    Calls Tryz.prog 41 #[.pointer (some ⟨b, 6, none⟩)] w fun e w' => e = .returned (.tuple #[]) ∧ w = w' := by
  obtain ⟨j, hj, _⟩ := Option.map_eq_some_iff.1 Tryz.info36
  go_enter Tryz.func41, Tryz.ntmps41
  go_wp2
  rw [Lib.run_neq_ptr_same w _ Tryz.underlying34 hj]
  go_wp2
  go_end0
  exact ⟨rfl, rfl⟩

theorem Tryz.copyCheck_fresh (b : Nat) (w : World) (h0 : w.cell? ⟨b, 6, none⟩ = some (.pointer none)) (hsh : w.shape? b = some (38, 8)) (hfz : w.frozen? ⟨b, 6, none⟩ = false) :
    Calls Tryz.prog 41 #[.pointer (some ⟨b, 6, none⟩)] w fun e w' => e = .returned (.tuple #[]) ∧ w' = w.setCell ⟨b, 6, none⟩ (.pointer (some ⟨b, 6, none⟩)) := by
  obtain ⟨j, hj, hjs⟩ := Option.map_eq_some_iff.1 Tryz.info36
  go_enter Tryz.func41, Tryz.ntmps41
  go_wp2
  rw [Lib.run_to_unsafe w ⟨b, 6, none⟩ Tryz.underlying34 Tryz.underlying166 hj (by rw [hjs]; decide) hsh (by show (6 : Nat) < 8; decide)]
  simp only [Result.andThen]
  rw [Oper.upon_value]
  go_wp2
  rw [run_callFunc_extern Tryz.func73 (by kernel_rfl) (by kernel_rfl) (by kernel_rfl) (e := Extern.AbiNoEscape.same) (by kernel_rfl)]
  rw [Lib.run_noEscape]
  simp only [Result.andThen]
  rw [Oper.upon_value]
  go_wp2
  rw [Lib.run_from_unsafe w ⟨b, 6, none⟩ Tryz.underlying166 Tryz.underlying34 hj hsh Tryz.lies36]
  simp only [Result.andThen]
  rw [Oper.upon_value]
  go_wp2
  go_end0
  exact ⟨rfl, rfl⟩
/-- The player's row: what has been written so far. -/
def Tryz.Pay (B b : Nat) (bs : List Value) (W : World) : Prop :=
  ∃ x0 x1 x2 x3 x4 x5 ad v, W.heap[b]? = some (.cells #[x0, x1, x2, x3, x4, x5, ad, v] 38) ∧ (ad = .pointer none ∨ ad = .pointer (some ⟨b, 6, none⟩)) ∧ W.ownsRow B 5 1 v bs.length bs

/-- Nothing below B has changed, the row b aside. -/
structure Tryz.Turn (B b : Nat) (w w' : World) : Prop where
  os : w'.os = w.os
  tape : w'.tape = w.tape
  output : w'.output = w.output
  size : w.heap.size ≤ w'.heap.size
  block : ∀ k, k < B → k ≠ b → w'.heap[k]? = w.heap[k]?

theorem Tryz.Turn.refl (B b : Nat) (w : World) : Tryz.Turn B b w w := ⟨rfl, rfl, rfl, Nat.le_refl _, fun _ _ _ => rfl⟩
theorem Tryz.Turn.trans {B b : Nat} {x y z : World} (h : Tryz.Turn B b x y) (k : Tryz.Turn B b y z) : Tryz.Turn B b x z :=
  ⟨k.os.trans h.os, k.tape.trans h.tape, k.output.trans h.output, Nat.le_trans h.size k.size, fun i hi hn => (k.block i hi hn).trans (h.block i hi hn)⟩
theorem Tryz.Turn.set (B b i : Nat) (w : World) (v : Value) : Tryz.Turn B b w (w.setCell ⟨b, i, none⟩ v) :=
  ⟨rfl, rfl, rfl, by simp, fun k _ hn => Below.heap_setCell w ⟨b, i, none⟩ v k hn⟩
theorem Tryz.Turn.of_grown {B b : Nat} {w w' : World} {row : Option Nat} (h : w.grownBy w' row) (hB : B ≤ w.heap.size) (hr : ∀ k, row = some k → B ≤ k) : Tryz.Turn B b w w' := by
  obtain ⟨h1, h2, h3, h4, h5⟩ := h
  exact ⟨h1, h2, h3, h4, fun k hk _ => h5 k (by omega) (fun e => by have := hr k e.symm; omega)⟩

theorem Tryz.info5 : (Tryz.prog.info? 5).map (fun i => (i.zero, i.size, i.bytes)) = some (some (.int .u8 0), 1, 1) := by kernel_rfl

theorem Tryz.owns_set {B b i n : Nat} {w : World} {v u : Value} {xs : List Value} (ho : w.ownsRow B 5 1 v n xs) (hbB : b < B) : (w.setCell ⟨b, i, none⟩ u).ownsRow B 5 1 v n xs := by
  refine ⟨ho.1, ?_⟩
  rcases ho.2 with h | ⟨g, cap, cur, rfl, hg, hh, r⟩
  · exact .inl h
  · exact .inr ⟨g, cap, cur, rfl, hg, (Below.heap_setCell w ⟨b, i, none⟩ u g (by show g ≠ b; omega)).trans hh, r⟩

theorem Tryz.copyCheck_any (B b : Nat) (bs : List Value) (w : World) (hbB : b < B) (h : Tryz.Pay B b bs w) :
    Calls Tryz.prog 41 #[.pointer (some ⟨b, 6, none⟩)] w fun e w' => e = .returned (.tuple #[]) ∧ (∃ x0 x1 x2 x3 x4 x5 v, w'.heap[b]? = some (.cells #[x0, x1, x2, x3, x4, x5, .pointer (some ⟨b, 6, none⟩), v] 38) ∧ w'.ownsRow B 5 1 v bs.length bs) ∧ Tryz.Turn B b w w' := by
  obtain ⟨x0, x1, x2, x3, x4, x5, ad, v, hb, had, ho⟩ := h
  rcases had with rfl | rfl
  · refine (Tryz.copyCheck_fresh b w (by rw [Tryz.cell_of hb]; rfl) (by simp [World.shape?, hb]) (Tryz.frozen_of hb 6)).mono ?_
    rintro e w' ⟨rfl, rfl⟩
    exact ⟨rfl, ⟨_, _, _, _, _, _, _, (Tryz.set_of hb 6 _), Tryz.owns_set ho hbB⟩, Tryz.Turn.set _ _ _ _ _⟩
  · refine (Tryz.copyCheck_used b w (by rw [Tryz.cell_of hb]; rfl)).mono ?_
    rintro e w' ⟨rfl, rfl⟩
    exact ⟨rfl, ⟨_, _, _, _, _, _, _, hb, ho⟩, Tryz.Turn.refl _ _ _⟩
theorem Tryz.write_any (B b : Nat) (bs : List Value) (s : ByteArray) (w : World) (hbB : b < B) (hB : B ≤ w.heap.size) (hlen : bs.length + s.size ≤ 1000) (h : Tryz.Pay B b bs w) :
    Calls Tryz.prog 27 #[.pointer (some ⟨b, 6, none⟩), .string s] w fun e w' => e = .returned (.tuple #[.int .i64 (s.size : Int), .nilIface]) ∧ Tryz.Pay B b (bs ++ Lib.strCells s) w' ∧ Tryz.Turn B b w w' := by
  obtain ⟨i0, hi, hz0, hz1, hz2⟩ := info_parts Tryz.info5
  go_enter Tryz.func27, Tryz.ntmps27
  go_wp2_with (go_at_call 41; refine (Tryz.copyCheck_any B b bs _ hbB h).mono ?_)
  rintro e w1 ⟨rfl, ⟨x0, x1, x2, x3, x4, x5, v, hbk, hown⟩, ht1⟩
  have c1 : w1.cell? ⟨b, 7, none⟩ = some v := by rw [Tryz.cell_of hbk]; rfl
  go_wp2_with (at_builtin; refine Lib.wpList_append_own_string _ rfl _ _ 27 9 rfl B 5 i0 Tryz.underlying27 Tryz.underlying9 hi hz0 hz1 hz2 _ _ _ rfl hown s rfl ?c3 ?c4 ?c5 ?_)
  case c3 => unfold maxLen; omega
  case c4 => omega
  case c5 => have := ht1.size; omega
  intro v' w2 hown' hgrow _
  have hb2 : w2.heap[b]? = some (.cells #[x0, x1, x2, x3, x4, x5, .pointer (some ⟨b, 6, none⟩), v] 38) := by
    refine Tryz.grown_at hgrow hbk (fun e => ?_)
    have := (hown.lt b e.symm).1
    omega
  have d1 : w2.cell? ⟨b, 7, none⟩ = some v := by rw [Tryz.cell_of hb2]; rfl
  have f1 : w2.frozen? ⟨b, 7, none⟩ = false := Tryz.frozen_of hb2 7
  obtain ⟨ao, n', cap, rfl⟩ : ∃ ao n' cap, v' = .slice ao n' cap := by
    rcases hown'.2 with ⟨hv, _⟩ | ⟨g, cap, cur, hv, _⟩
    · exact ⟨_, _, _, hv⟩
    · exact ⟨_, _, _, hv⟩
  have hT : Tryz.Turn B b w (w2.setCell ⟨b, 7, none⟩ (.slice ao n' cap)) := (ht1.trans (Tryz.Turn.of_grown hgrow (by have := ht1.size; omega) (fun k hk => (hown.lt k hk).1))).trans (Tryz.Turn.set _ _ _ _ _)
  have hP : Tryz.Pay B b (bs ++ Lib.strCells s) (w2.setCell ⟨b, 7, none⟩ (.slice ao n' cap)) :=
    ⟨_, _, _, _, _, _, _, _, Tryz.set_of hb2 7 _, .inr rfl, by rw [List.length_append, Lib.strCells_length]; exact Tryz.owns_set hown' hbB⟩
  go_wp2
  go_ret2
  exact ⟨rfl, hP, hT⟩
end Go.Proofs

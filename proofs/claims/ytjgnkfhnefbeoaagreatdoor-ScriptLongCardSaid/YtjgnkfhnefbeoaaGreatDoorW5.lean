import Derived.Test.YtjgnkfhnefbeoaaGreatDoorW4
import Derived.Lib.SlBytesConst
import Derived.Lib.Hide
namespace Go.Proofs
open Go.RowKit Go.Shelf Go.Lib
attribute [local go_sem] Oper.semAt_some

set_option maxHeartbeats 1000000
set_option maxRecDepth 100000

theorem Tryz.lines_any (s : ByteArray) (w : World) :
    Calls Tryz.prog 7 #[.string s] w fun e w' => e = .returned (.func (.func 14) #[] #[.pointer (some ⟨w.heap.size, 0, none⟩)]) ∧ w' = w.alloc (.cells #[.string s] 9) := by
  have hmf : ∀ (fn : Fn) (first cap : Array Value) (w : World), (Instr.makeFunc fn first cap).run Tryz.prog w = .ok (.func fn first cap) w := fun _ _ _ _ => rfl
  go_enter Tryz.func7, Tryz.ntmps7
  go_wp2
  go_ret
  exact ⟨rfl, rfl⟩

theorem Tryz.play_long (s : ByteArray) (w : World) (h : 65536 < s.size ∨ 300 < Lib.countByte s.data.toList 10) :
    Calls Tryz.prog 4 #[.string s] w fun e w' => e = .returned (.tuple #[.string ⟨#[]⟩, .int .i64 0, .int .i64 4]) ∧ Below w.heap.size w w' := by
  by_cases h1 : 65536 < s.size
  · go_enter Tryz.func4, Tryz.ntmps4
    go_wp2
    exact bodyPost_ret (v := .tuple #[.string ⟨#[]⟩, .int .i64 0, .int .i64 4]) (by simp [results, Tryz.results4, go_sem]) rfl ⟨rfl, (((Below.refl _ _).alloc (Nat.le_refl _) _).alloc (by simp <;> omega) _).alloc (by simp <;> omega) _⟩
  · have h2 : 300 < Lib.countByte s.data.toList 10 := by omega
    have hb1 : decide (65536 < (s.size : Int)) = false := by simp; omega
    have hb2 : decide (300 < (Lib.countByte s.data.toList 10 : Int)) = true := by simp; omega
    go_enter Tryz.func4, Tryz.ntmps4
    go_wp2_with (go_at_call 6; refine (Tryz.count_nl _ _).mono ?_; rintro e w' ⟨rfl, rfl⟩)
    exact bodyPost_ret (v := .tuple #[.string ⟨#[]⟩, .int .i64 0, .int .i64 4]) (by simp [results, Tryz.results4, go_sem]) rfl ⟨rfl, (((Below.refl _ _).alloc (Nat.le_refl _) _).alloc (by simp <;> omega) _).alloc (by simp <;> omega) _⟩

/-- The world in which the loop over the lines begins: what stands in its nine new blocks. -/
theorem Tryz.conv_at (W : World) (b : Nat) (hb : W.heap.size = b) (C : Array Value) (n c : Nat) :
    (convert 27 27 (.slice (some ⟨b, 0, none⟩) n c)).run Tryz.prog (W.alloc (.cells C 5)) = .ok (.slice (some ⟨b, 0, none⟩) n c) (W.alloc (.cells C 5 (C.size, C.size + 1))) := by
  subst hb; exact run_convert_bytes_const W 27 5 C n c Tryz.underlying27 Tryz.underlying5

theorem Tryz.cell_of {W : World} {k : Nat} {C : Array Value} {t : TypeId} (h : W.heap[k]? = some (.cells C t)) (i : Nat) : W.cell? ⟨k, i, none⟩ = C[i]? := by
  simp [World.cell?, h]
theorem Tryz.frozen_of {W : World} {k : Nat} {C : Array Value} {t : TypeId} (h : W.heap[k]? = some (.cells C t)) (i : Nat) : W.frozen? ⟨k, i, none⟩ = false := by
  simp [World.frozen?, h]
theorem Tryz.set_of {W : World} {k : Nat} {C : Array Value} {t : TypeId} (h : W.heap[k]? = some (.cells C t)) (i : Nat) (v : Value) : (W.setCell ⟨k, i, none⟩ v).heap[k]? = some (.cells (C.setIfInBounds i v) t) := by
  have hk : k < W.heap.size := (Array.getElem?_eq_some_iff.1 h).1
  simp [World.setCell, Array.getElem?_modify, h]

/-- What speaks of rows of cells alone, those at x and y aside. -/
def Tryz.Ind (x y : Nat) (S : World → Prop) : Prop := ∀ W W', S W → (∀ i D t f, i ≠ x → i ≠ y → W.heap[i]? = some (.cells D t f) → W'.heap[i]? = some (.cells D t f)) → S W'

/-- What the loop keeps. -/
def Tryz.Inv (w : World) (St : List (List UInt8) → World → Prop) (pre : List (List UInt8)) (W : World) : Prop :=
  Below w.heap.size w W ∧ w.heap.size + 1 + 1 + 1 + 1 + 1 + 1 + 1 + 1 + 1 ≤ W.heap.size ∧ W.heap[w.heap.size + 1 + 1 + 1 + 1 + 1 + 1 + 1]? = some (.cells #[.int .i64 (pre.length : Int)] 3) ∧
  W.heap[w.heap.size]? = some (.cells #[.string ⟨#[]⟩] 9) ∧ W.heap[w.heap.size + 1]? = some (.cells #[.int .i64 0] 3) ∧ W.heap[w.heap.size + 1 + 1]? = some (.cells #[.int .i64 0] 23) ∧
  W.heap[w.heap.size + 1 + 1 + 1 + 1 + 1 + 1]? = some (.cells #[.pointer (some ⟨w.heap.size + 1 + 1 + 1 + 1 + 1, 0, none⟩)] 30) ∧ St pre W

theorem Tryz.Inv.turn {w : World} {St : List (List UInt8) → World → Prop} (hind : ∀ pre, Tryz.Ind (w.heap.size + 1 + 1 + 1 + 1 + 1 + 1 + 1) (w.heap.size + 1 + 1 + 1 + 1 + 1 + 1 + 1 + 1) (St pre)) {pre : List (List UInt8)} {W W' : World} (h : Tryz.Inv w St pre W)
    (hb : Below w.heap.size w W') (hs : W.heap.size ≤ W'.heap.size) (hc : ∀ i D t f, i ≠ w.heap.size + 1 + 1 + 1 + 1 + 1 + 1 + 1 + 1 → W.heap[i]? = some (.cells D t f) → W'.heap[i]? = some (.cells D t f)) : Tryz.Inv w St pre W' := by
  obtain ⟨_, h1, h2, h3, h4, h5, h6, h7⟩ := h
  exact ⟨hb, Nat.le_trans h1 hs, hc _ _ _ _ (by omega) h2, hc _ _ _ _ (by omega) h3, hc _ _ _ _ (by omega) h4, hc _ _ _ _ (by omega) h5, hc _ _ _ _ (by omega) h6, hind _ _ _ h7 fun i D t f _ hy hi => hc i D t f hy hi⟩

/-- The world in which the loop over the lines begins. -/
def Tryz.start (w : World) (s : ByteArray) : World := (((((((((w.alloc (Obj.cells #[Value.string ⟨#[]⟩] 9)).alloc (Obj.cells #[Value.int IntKind.i64 0] 3)).alloc (Obj.cells #[Value.int IntKind.i64 0] 23)).alloc
    (Obj.cells #[Value.int IntKind.u8 40, Value.int IntKind.u8 51, Value.int IntKind.u8 58, Value.int IntKind.u8 97, Value.int IntKind.u8 99, Value.int IntKind.u8 108, Value.int IntKind.u8 41] 5 (7, 8))).alloc
    (Obj.cells #[Value.int IntKind.u8 48, Value.int IntKind.u8 58] 5 (2, 3))).alloc (Obj.cells #[Value.slice (some ⟨w.heap.size + 1 + 1 + 1, 0, none⟩) 7 7, Value.slice none 0 0, Value.slice none 0 0, Value.slice none 0 0, Value.slice (some ⟨w.heap.size + 1 + 1 + 1 + 1, 0, none⟩) 2 2, Value.int IntKind.i64 0, Value.pointer none, Value.slice none 0 0] 38)).alloc
    (Obj.cells #[Value.pointer (some ⟨w.heap.size + 1 + 1 + 1 + 1 + 1, 0, none⟩)] 30)).alloc (Obj.cells #[Value.int IntKind.i64 0] 3)).alloc (Obj.cells #[Value.string s] 9))

theorem Tryz.alloc_new {W : World} {n : Nat} (o : Obj) (h : W.heap.size = n) : (W.alloc o).heap[n]? = some o := by subst h; exact World.alloc_heap_new W o
theorem Tryz.alloc_old {W : World} {n : Nat} {o' : Obj} (o : Obj) (h : W.heap[n]? = some o') : (W.alloc o).heap[n]? = some o' :=
  (Below.heap_alloc W _ n (Array.getElem?_eq_some_iff.1 h).1).trans h

theorem Tryz.start_facts {w : World} {s : ByteArray} {St : List (List UInt8) → World → Prop}
    (h0 : ∀ W, W.heap[w.heap.size + 1 + 1 + 1]? = some (.cells #[.int .u8 40, .int .u8 51, .int .u8 58, .int .u8 97, .int .u8 99, .int .u8 108, .int .u8 41] 5 (7, 8)) →
      W.heap[w.heap.size + 1 + 1 + 1 + 1]? = some (.cells #[.int .u8 48, .int .u8 58] 5 (2, 3)) →
      W.heap[w.heap.size + 1 + 1 + 1 + 1 + 1]? = some (.cells #[.slice (some ⟨w.heap.size + 1 + 1 + 1, 0, none⟩) 7 7, .slice none 0 0, .slice none 0 0, .slice none 0 0,
        .slice (some ⟨w.heap.size + 1 + 1 + 1 + 1, 0, none⟩) 2 2, .int .i64 0, .pointer none, .slice none 0 0] 38) → St [] W) :
    (Tryz.start w s).heap.size = w.heap.size + 1 + 1 + 1 + 1 + 1 + 1 + 1 + 1 + 1 ∧ (Tryz.start w s).heap[w.heap.size + 1 + 1 + 1 + 1 + 1 + 1 + 1 + 1]? = some (.cells #[.string s] 9) ∧ Tryz.Inv w St [] (Tryz.start w s) := by
  have f0 := Tryz.alloc_new (W := w) (Obj.cells #[Value.string ⟨#[]⟩] 9) rfl
  have f1 := Tryz.alloc_new (W := w.alloc (Obj.cells #[Value.string ⟨#[]⟩] 9)) (n := w.heap.size + 1) (Obj.cells #[Value.int IntKind.i64 0] 3) (by simp)
  unfold Tryz.Inv Tryz.start
  refine ⟨by simp, Tryz.alloc_new _ (by simp), ?_, by simp, ?_⟩
  · exact (((((((((Below.refl _ w).alloc (by simp <;> omega) _).alloc (by simp <;> omega) _).alloc (by simp <;> omega) _).alloc (by simp <;> omega) _).alloc (by simp <;> omega) _).alloc (by simp <;> omega) _).alloc (by simp <;> omega) _).alloc (by simp <;> omega) _).alloc (by simp <;> omega) _
  refine ⟨Tryz.alloc_old _ (Tryz.alloc_new _ (by simp)), ?_, ?_, ?_, ?_, ?_⟩
  · exact Tryz.alloc_old _ (Tryz.alloc_old _ (Tryz.alloc_old _ (Tryz.alloc_old _ (Tryz.alloc_old _ (Tryz.alloc_old _ (Tryz.alloc_old _ (Tryz.alloc_old _ (Tryz.alloc_new _ (by simp)))))))))
  · exact Tryz.alloc_old _ (Tryz.alloc_old _ (Tryz.alloc_old _ (Tryz.alloc_old _ (Tryz.alloc_old _ (Tryz.alloc_old _ (Tryz.alloc_old _ (Tryz.alloc_new _ (by simp))))))))
  · exact Tryz.alloc_old _ (Tryz.alloc_old _ (Tryz.alloc_old _ (Tryz.alloc_old _ (Tryz.alloc_old _ (Tryz.alloc_old _ (Tryz.alloc_new _ (by simp)))))))
  · exact Tryz.alloc_old _ (Tryz.alloc_old _ (Tryz.alloc_new _ (by simp)))
  · refine h0 _ ?_ ?_ ?_
    · exact Tryz.alloc_old _ (Tryz.alloc_old _ (Tryz.alloc_old _ (Tryz.alloc_old _ (Tryz.alloc_old _ (Tryz.alloc_new _ (by simp))))))
    · exact Tryz.alloc_old _ (Tryz.alloc_old _ (Tryz.alloc_old _ (Tryz.alloc_old _ (Tryz.alloc_new _ (by simp)))))
    · exact Tryz.alloc_old _ (Tryz.alloc_old _ (Tryz.alloc_old _ (Tryz.alloc_new _ (by simp))))

theorem Tryz.grown_at {W W' : World} {row : Option Nat} (hg : W.grownBy W' row) {i : Nat} {o : Obj} (h : W.heap[i]? = some o) (hr : some i ≠ row) : W'.heap[i]? = some o :=
  by obtain ⟨_, _, _, _, hb⟩ := hg; exact (hb i (Array.getElem?_eq_some_iff.1 h).1 hr).trans h
theorem Tryz.grown_one {W W' : World} {row : Option Nat} (hg : W.grownBy W' row) {k : Nat} {v : Value} {t : TypeId} (h : W.heap[k]? = some (.cells #[v] t)) (hr : some k ≠ row) : W'.cell? ⟨k, 0, none⟩ = some v ∧ W'.frozen? ⟨k, 0, none⟩ = false :=
  ⟨Tryz.cell_of (Tryz.grown_at hg h hr) 0, Tryz.frozen_of (Tryz.grown_at hg h hr) 0⟩

theorem Tryz.txt_le (pre : List (List UInt8)) (x : List UInt8) (rest : List (List UInt8)) : pre.length + x.length + 1 ≤ (Tryz.txt (pre ++ x :: rest)).length := by
  induction pre with
  | nil => simp [Tryz.txt]
  | cons y pre ih => simp [Tryz.txt] at ih ⊢; omega

theorem Tryz.suffix_nl (x : List UInt8) : Lib.hasSuffix (x ++ [10]) [10] = true ∧ Lib.trimSuffix (x ++ [10]) [10] = x := by
  have h : Lib.hasSuffix (x ++ [10]) [10] = true := by
    unfold Lib.hasSuffix
    exact List.isSuffixOf_iff_suffix.2 ⟨x, rfl⟩
  refine ⟨h, ?_⟩
  unfold Lib.trimSuffix
  simp [h]

theorem Tryz.play_lines (ls : List (List UInt8)) (hls : ∀ x ∈ ls, (10 : UInt8) ∉ x) (s : ByteArray) (hs : s = ⟨(Tryz.txt ls).toArray⟩) (w : World) (h1 : s.size ≤ 65536) (h2 : Lib.countByte s.data.toList 10 ≤ 300)
    (out : ByteArray) (St : List (List UInt8) → World → Prop)
    (hind : ∀ pre, Tryz.Ind (w.heap.size + 1 + 1 + 1 + 1 + 1 + 1 + 1) (w.heap.size + 1 + 1 + 1 + 1 + 1 + 1 + 1 + 1) (St pre))
    (h0 : ∀ W, W.heap[w.heap.size + 1 + 1 + 1]? = some (.cells #[.int .u8 40, .int .u8 51, .int .u8 58, .int .u8 97, .int .u8 99, .int .u8 108, .int .u8 41] 5 (7, 8)) →
      W.heap[w.heap.size + 1 + 1 + 1 + 1]? = some (.cells #[.int .u8 48, .int .u8 58] 5 (2, 3)) →
      W.heap[w.heap.size + 1 + 1 + 1 + 1 + 1]? = some (.cells #[.slice (some ⟨w.heap.size + 1 + 1 + 1, 0, none⟩) 7 7, .slice none 0 0, .slice none 0 0, .slice none 0 0,
        .slice (some ⟨w.heap.size + 1 + 1 + 1 + 1, 0, none⟩) 2 2, .int .i64 0, .pointer none, .slice none 0 0] 38) → St [] W)
    (hSc : ∀ pre W, St pre W → ∃ D t f, W.heap[w.heap.size + 1 + 1 + 1 + 1 + 1]? = some (.cells D t f))
    (hline : ∀ pre x rest W, ls = pre ++ x :: rest → w.heap.size + 9 ≤ W.heap.size → St pre W →
      Calls Tryz.prog 9 #[.pointer (some ⟨w.heap.size + 1 + 1 + 1 + 1 + 1, 0, none⟩), .string ⟨x.toArray⟩] W fun e W' => e = .returned (.int .i64 0) ∧ St (pre ++ [x]) W' ∧ W.grownBy W' (some (w.heap.size + 1 + 1 + 1 + 1 + 1)))
    (hout : ∀ W, St ls W → Calls Tryz.prog 10 #[.pointer (some ⟨w.heap.size + 1 + 1 + 1 + 1 + 1, 6, none⟩)] W fun e W' => e = .returned (.string out) ∧ ∃ row, W.grownBy W' row ∧ ∀ k, row = some k → w.heap.size + 9 ≤ k ∧ ∃ C t f, W.heap[k]? = some (.cells C t f)) :
    Calls Tryz.prog 4 #[.string s] w fun e w' => e = .returned (.tuple #[.string out, .int .i64 0, .int .i64 0]) ∧ Below w.heap.size w w' := by
  have hb1 : decide (65536 < (s.size : Int)) = false := by simp; omega
  have hb2 : decide (300 < (Lib.countByte s.data.toList 10 : Int)) = false := by simp; omega
  have Hs := Lib.hid hs
  clear hs
  have hcv1 := fun C => Tryz.conv_at (((w.alloc (.cells #[.string ⟨#[]⟩] 9)).alloc (.cells #[.int .i64 0] 3)).alloc (.cells #[.int .i64 0] 23)) (w.heap.size + 1 + 1 + 1) (by simp) C 7 7
  have hcv2 := fun C C' => Tryz.conv_at ((((w.alloc (.cells #[.string ⟨#[]⟩] 9)).alloc (.cells #[.int .i64 0] 3)).alloc (.cells #[.int .i64 0] 23)).alloc (.cells C' 5 (7, 8))) (w.heap.size + 1 + 1 + 1 + 1) (by simp) C 2 2
  refine callsIn_wide (n := 3).1 ?_
  refine callsIn_of_wp_marks Tryz.func4 rfl trivial ?_ rfl
  simp only [Tryz.ntmps4, List.size_toArray, List.length_cons, List.length_nil, Nat.reduceAdd, Nat.reduceSub, Array.replicate_succ, Array.replicate_zero, List.push_toArray, List.append_toArray, List.nil_append, List.cons_append]
  gi_wp2_with (first | (refine ⟨trivial, ?_⟩; gi_at_call 6; refine (callsIn_wide.2 (Tryz.count_nl _ _)).mono ?_; rintro e w' ⟨rfl, rfl⟩) | (refine ⟨trivial, ?_⟩; gi_at_call 7; refine (callsIn_wide.2 (Tryz.lines_any _ _)).mono ?_; rintro e w' ⟨rfl, rfl⟩))
  clear hcv1 hcv2 hb1 hb2
  obtain ⟨w0, hw0⟩ : ∃ w0 : World, w0 = Tryz.start w s := ⟨_, rfl⟩
  have hw0' := hw0
  unfold Tryz.start at hw0'
  rw [← hw0']
  clear hw0'
  obtain ⟨hz, hlow, hst⟩ := Tryz.start_facts (w := w) (s := s) (St := St) h0
  rw [← hw0] at hz hlow hst
  have hlt : w.heap.size + 1 + 1 + 1 + 1 + 1 + 1 + 1 + 1 < w0.heap.size := by omega
  refine Tryz.range_plain (by decide) (gf := 14) (lb := #[.pointer (some ⟨w.heap.size + 1 + 1 + 1 + 1 + 1 + 1 + 1 + 1, 0, none⟩)]) rfl (enters_of Tryz.func14 (by kernel_rfl) rfl)
    (encs := fun x : List UInt8 => #[.string ⟨(x ++ [10]).toArray⟩]) (fun _ => rfl) ls (w.heap.size + 1 + 1 + 1 + 1 + 1 + 1 + 1 + 1) hlt (Tryz.Inv w St) ?his ?hid ?hip ?h0 ?hseq
    (fun x => { tmps := #[.string s, undef, .pointer (some ⟨w.heap.size, 0, none⟩), .pointer (some ⟨w.heap.size + 1, 0, none⟩), .pointer (some ⟨w.heap.size + 1 + 1, 0, none⟩), .pointer (some ⟨w.heap.size + 1 + 1 + 1 + 1 + 1 + 1, 0, none⟩), .pointer (some ⟨w.heap.size + 1 + 1 + 1 + 1 + 1 + 1 + 1, 0, none⟩), .string ⟨(x ++ [10]).toArray⟩, undef, undef, undef, .string s, .int .i64 (s.size : Int), .bool false, .bool false, .string s, .int .i64 (Lib.countByte s.data.toList 10 : Int), .bool false, .bool false, .slice (some ⟨w.heap.size + 1 + 1 + 1, 0, none⟩) 7 7, .slice (some ⟨w.heap.size + 1 + 1 + 1, 0, none⟩) 7 7, .slice (some ⟨w.heap.size + 1 + 1 + 1 + 1, 0, none⟩) 2 2, .slice (some ⟨w.heap.size + 1 + 1 + 1 + 1, 0, none⟩) 2 2, .agg #[.slice (some ⟨w.heap.size + 1 + 1 + 1, 0, none⟩) 7 7, .slice none 0 0, .slice none 0 0, .slice none 0 0, .slice (some ⟨w.heap.size + 1 + 1 + 1 + 1, 0, none⟩) 2 2, .int .i64 0], .agg #[.slice (some ⟨w.heap.size + 1 + 1 + 1, 0, none⟩) 7 7, .slice none 0 0, .slice none 0 0, .slice none 0 0, .slice (some ⟨w.heap.size + 1 + 1 + 1 + 1, 0, none⟩) 2 2, .int .i64 0, .pointer none, .slice none 0 0], .pointer (some ⟨w.heap.size + 1 + 1 + 1 + 1 + 1, 0, none⟩), .string s, .func (.func 14) #[] #[.pointer (some ⟨w.heap.size + 1 + 1 + 1 + 1 + 1 + 1 + 1 + 1, 0, none⟩)], .string ⟨(x ++ [10]).toArray⟩, undef, undef, undef, undef, undef, undef, undef, undef, undef, undef, undef, undef, undef, undef, undef, undef, undef, undef, undef, undef, undef], defers := [] }) ?assign ?body ?done
  case his =>
    intro pre W v hI
    exact hI.turn hind (hI.1.setCell (p := ⟨_, 0, none⟩) (by simp <;> omega) _) (by simp) (fun i D t f hi h => (Tryz.heap_setCell W _ v i hi).trans h)
  case hid =>
    intro pre W hI
    exact hI.turn hind (hI.1.drew) (Nat.le_refl _) (fun i D t f hi h => h)
  case hip =>
    intro pre W l o o' hI hl ho hc
    refine hI.turn hind (hI.1.grown (grownBy_putObj' W l o') (by have := hI.2.1; omega) (fun k e => by cases e; omega)) (by simp) (fun i D t f hi h => ?_)
    refine (World.putObj_heap_other (fun e => ?_)).trans h
    subst e; rw [ho] at h; cases h; simp [Obj.isCells] at hc
  case h0 =>
    intro o o'
    refine hst.turn hind ((hst.1.alloc (by omega) _).alloc (by simp <;> omega) _) (by simp <;> omega) (fun i D t f hi h => Tryz.alloc_old _ (Tryz.alloc_old _ h))
  case hseq =>
    rintro l J W hJ1 hJ2 hY ⟨o, o', rfl⟩ hJ0
    have hB := Tryz.alloc_old o' (Tryz.alloc_old o hlow)
    refine Tryz.lines1_in 2 l (w.heap.size + 1 + 1 + 1 + 1 + 1 + 1 + 1 + 1) (by decide) ls hls ?_ J hJ1 hJ2 hY _ ?_ (Tryz.frozen_of hB 0) hJ0
    · have h := h1; rw [Hs.out] at h
      have h' : (Tryz.txt ls).length ≤ 65536 := h
      omega
    · rw [Tryz.cell_of hB 0, Hs.out]; rfl
  case assign =>
    intro l x W K hK
    gi_wp2
    exact hK
  case body =>
    rintro l pre x rest W hx hI hW
    obtain ⟨hbel, hsz, k7, k0, k1, k2, k6, hSt⟩ := hI
    have c7 := Tryz.cell_of k7 0; have d7 := Tryz.frozen_of k7 0
    have c6 := Tryz.cell_of k6 0
    simp only [List.getElem?_toArray, List.getElem?_cons_zero] at c7 c6
    have hp0 : (0 : Int) ≤ pre.length := by omega
    have hp1 : (pre.length : Int) ≤ 65536 ∧ (x.length : Int) ≤ 65536 := by
      have h := h1; rw [Hs.out] at h
      have h' : (Tryz.txt ls).length ≤ 65536 := h
      have h'' := Tryz.txt_le pre x rest
      rw [← hx] at h''
      omega
    obtain ⟨hp1, hp2⟩ := hp1
    have hcs := fun W => Tryz.cutSuffix_any ⟨(x ++ [10]).toArray⟩ ⟨#[10]⟩ W (by show (x ++ [10]).length ≤ _; simp; omega)
    have e1 : Lib.trimSuffix (x ++ [10]) [10] = x := (Tryz.suffix_nl x).2
    have e2 : Lib.hasSuffix (x ++ [10]) [10] = true := (Tryz.suffix_nl x).1
    have hSt1 : ∀ v, St pre (W.setCell ⟨w.heap.size + 1 + 1 + 1 + 1 + 1 + 1 + 1, 0, none⟩ v) := fun v => hind pre _ _ hSt fun i D t f hi _ h => (Tryz.heap_setCell W _ v i hi).trans h
    have hL := hline pre x rest _ hx (by simp; omega) (hSt1 (.int .i64 ((pre.length : Int) + 1)))
    have hI' : Tryz.Inv w St pre W := ⟨hbel, hsz, k7, k0, k1, k2, k6, hSt⟩
    clear k7 k6
    gi_wp2_with (first | (refine ⟨trivial, ?_⟩; gi_at_call 8; refine (CallsIn.inRound l (callsIn_wide.2 (hcs _))).mono ?_; rintro e w' ⟨rfl, rfl⟩; dsimp only; rw [e1, e2]) | (refine ⟨trivial, ?_⟩; gi_at_call 9; refine (CallsIn.inRound l (callsIn_wide.2 hL)).mono ?_; clear hL; rintro e W9 ⟨rfl, hSt9, hg9⟩))
    obtain ⟨hbel, hsz, k7, k0, k1, k2, k6, hSt⟩ := hI'
    obtain ⟨C5, t5, f5, h5⟩ := hSc _ _ (hSt1 (.int .i64 ((pre.length : Int) + 1)))
    have hS : ∀ {i : Nat} {o : Obj}, W.heap[i]? = some o → i ≠ w.heap.size + 1 + 1 + 1 + 1 + 1 + 1 + 1 → i ≠ w.heap.size + 1 + 1 + 1 + 1 + 1 → W9.heap[i]? = some o :=
      fun {i o} h h7 h5 => Tryz.grown_at hg9 ((Tryz.heap_setCell W _ _ i h7).trans h) (fun e => h5 (by cases e; rfl))
    have hW9 : W.heap.size ≤ W9.heap.size := by have := hg9.size; simpa using this
    have h8 : W9.heap[w.heap.size + 1 + 1 + 1 + 1 + 1 + 1 + 1 + 1]? = W.heap[w.heap.size + 1 + 1 + 1 + 1 + 1 + 1 + 1 + 1]? := by
      have hlt8 : w.heap.size + 1 + 1 + 1 + 1 + 1 + 1 + 1 + 1 < W.heap.size := by omega
      rw [hS (Array.getElem?_eq_getElem hlt8) (by omega) (by omega), Array.getElem?_eq_getElem hlt8]
    refine ⟨(KeepsOthers.setCell W _ _).trans (KeepsOthers.of_grownBy hg9 (fun j o e h => by cases e; rw [h5] at h; cases h; rfl)), ⟨?_, by omega, ?_, hS k0 (by omega) (by omega), hS k1 (by omega) (by omega), hS k2 (by omega) (by omega), hS k6 (by omega) (by omega), hSt9⟩, ?_, ?_⟩
    · exact (hbel.setCell (p := ⟨_, 0, none⟩) (by simp <;> omega) _).grown hg9 (by simp; omega) (fun k e => by cases e; omega)
    · rw [Tryz.grown_at hg9 (Tryz.set_of k7 0 _) (by simp <;> omega)]; simp
    · simp [World.cell?, h8]
    · simp [World.frozen?, h8]
  case done =>
    rintro D W hD ⟨hbel, hsz, k7, k0, k1, k2, k6, hSt⟩ hK
    have c6 := Tryz.cell_of k6 0
    have K0 := Lib.hid k0; have K1 := Lib.hid k1; have K2 := Lib.hid k2; have KD := Lib.hid hK
    simp only [List.getElem?_toArray, List.getElem?_cons_zero] at c6
    clear k0 k1 k2 k6 k7 hK
    gi_wp2_with (first | (refine ⟨trivial, ?_⟩; gi_at_call 10; refine (callsIn_wide.2 (hout _ hSt)).mono ?_; rintro e W9 ⟨rfl, row, hg9, hrow⟩; obtain ⟨c0, d0⟩ := Tryz.grown_one hg9 K0.out (fun h => by have := (hrow _ h.symm).1; omega); obtain ⟨c1, d1⟩ := Tryz.grown_one hg9 K1.out (fun h => by have := (hrow _ h.symm).1; omega); obtain ⟨c2, d2⟩ := Tryz.grown_one hg9 K2.out (fun h => by have := (hrow _ h.symm).1; omega); have HR := Lib.hid hrow; clear hrow))
    have hD9 := Tryz.grown_at hg9 KD.out (fun h => by obtain ⟨_, C, t, f, hc⟩ := HR.out _ h.symm; rw [KD.out] at hc; cases hc)
    refine ⟨by simp, .inl ⟨_, _, rfl, run_takeDeferred (ds := []) (((KeepsOthers.setCell _ _ _).trans ((KeepsOthers.setCell _ _ _).trans (KeepsOthers.setCell _ _ _))).same D _ hD9 rfl), ?_⟩⟩
    have i0 : ((((W9.setCell ⟨w.heap.size, 0, none⟩ (.string out)).setCell ⟨w.heap.size + 1, 0, none⟩ (.int .i64 0)).setCell ⟨w.heap.size + 1 + 1, 0, none⟩ (.int .i64 0)).putObj D (.deferred none)).heap[w.heap.size]? = some (.cells #[.string out] 9) :=
      (World.putObj_heap_other (by omega)).trans ((Tryz.heap_setCell _ _ _ _ (by omega)).trans ((Tryz.heap_setCell _ _ _ _ (by omega)).trans (Tryz.set_of (Tryz.grown_at hg9 K0.out (fun h => by have := (HR.out _ h.symm).1; omega)) 0 _)))
    have i1 : ((((W9.setCell ⟨w.heap.size, 0, none⟩ (.string out)).setCell ⟨w.heap.size + 1, 0, none⟩ (.int .i64 0)).setCell ⟨w.heap.size + 1 + 1, 0, none⟩ (.int .i64 0)).putObj D (.deferred none)).heap[w.heap.size + 1]? = some (.cells #[.int .i64 0] 3) :=
      (World.putObj_heap_other (by omega)).trans ((Tryz.heap_setCell _ _ _ _ (by omega)).trans (Tryz.set_of ((Tryz.heap_setCell _ _ _ _ (by omega)).trans (Tryz.grown_at hg9 K1.out (fun h => by have := (HR.out _ h.symm).1; omega))) 0 _))
    have i2 : ((((W9.setCell ⟨w.heap.size, 0, none⟩ (.string out)).setCell ⟨w.heap.size + 1, 0, none⟩ (.int .i64 0)).setCell ⟨w.heap.size + 1 + 1, 0, none⟩ (.int .i64 0)).putObj D (.deferred none)).heap[w.heap.size + 1 + 1]? = some (.cells #[.int .i64 0] 23) :=
      (World.putObj_heap_other (by omega)).trans (Tryz.set_of ((Tryz.heap_setCell _ _ _ _ (by omega)).trans ((Tryz.heap_setCell _ _ _ _ (by omega)).trans (Tryz.grown_at hg9 K2.out (fun h => by have := (HR.out _ h.symm).1; omega)))) 0 _)
    have hbf : Below w.heap.size w ((((W9.setCell ⟨w.heap.size, 0, none⟩ (.string out)).setCell ⟨w.heap.size + 1, 0, none⟩ (.int .i64 0)).setCell ⟨w.heap.size + 1 + 1, 0, none⟩ (.int .i64 0)).putObj D (.deferred none)) :=
      ((((hbel.grown hg9 (by omega) (fun k e => by have := (HR.out _ e).1; omega)).setCell (p := ⟨_, 0, none⟩) (by simp <;> omega) _).setCell (p := ⟨_, 0, none⟩) (by simp <;> omega) _).setCell (p := ⟨_, 0, none⟩) (by simp <;> omega) _).grown (grownBy_putObj' _ D _) (by have := hg9.size; simp; omega) (fun k e => by cases e; omega)
    revert i0 i1 i2 hbf
    generalize ((((W9.setCell ⟨w.heap.size, 0, none⟩ (.string out)).setCell ⟨w.heap.size + 1, 0, none⟩ (.int .i64 0)).setCell ⟨w.heap.size + 1 + 1, 0, none⟩ (.int .i64 0)).putObj D (.deferred none)) = Wf
    intro i0 i1 i2 hbf
    have c0 := Tryz.cell_of i0 0; have c1 := Tryz.cell_of i1 0; have c2 := Tryz.cell_of i2 0
    simp only [List.getElem?_toArray, List.getElem?_cons_zero] at c0 c1 c2
    clear i0 i1 i2
    exact ⟨.tuple #[.string out, .int .i64 0, .int .i64 0], by simp [results, Tryz.results4, go_sem, c0, c1, c2], rfl, hbf⟩
end Go.Proofs

import Derived.Test.YtjgnkfhnefbeoaaGreatDoorW20
namespace Go.Proofs
open Go.RowKit Go.Lib

set_option maxHeartbeats 1000000
set_option maxRecDepth 100000

def Tryz.StD (B b a g : Nat) (pre : List (List UInt8)) (W : World) : Prop := match pre with
  | [] => Tryz.Fresh b a g W
  | _ :: _ => Tryz.Pay B b (Tryz.bytesV [101, 114, 114, 32, 55, 10]) W

theorem Tryz.ind_D (x y B b a g : Nat) (hx : x < B) (hy : y < B) (hb1 : b ≠ x) (hb2 : b ≠ y) (hg1 : g ≠ x) (hg2 : g ≠ y) (pre : List (List UInt8)) : Tryz.Ind x y (Tryz.StD B b a g pre) := by
  intro W W' h hk
  cases pre with
  | nil => exact ⟨hk _ _ _ _ hb1 hb2 h.1, hk _ _ _ _ hg1 hg2 h.2⟩
  | cons p pre =>
    obtain ⟨x0, x1, x2, x3, x4, x5, ad, v, h1, h2, h3⟩ := h
    refine ⟨x0, x1, x2, x3, x4, x5, ad, v, hk _ _ _ _ hb1 hb2 h1, h2, h3.1, ?_⟩
    rcases h3.2 with h | ⟨g, cap, cur, e, hg, hh, r⟩
    · exact .inl h
    · exact .inr ⟨g, cap, cur, e, hg, hk _ _ _ _ (by omega) (by omega) hh, r⟩

theorem Tryz.play_decide (w : World) :
    Calls Tryz.prog 4 #[.string ⟨#[100, 101, 99, 105, 100, 101, 10]⟩] w fun e w' => e = .returned (.tuple #[.string ⟨#[101, 114, 114, 32, 55, 10]⟩, .int .i64 0, .int .i64 0]) ∧ Below w.heap.size w w' := by
  refine Tryz.play_lines [[100, 101, 99, 105, 100, 101]] (by decide) ⟨#[100, 101, 99, 105, 100, 101, 10]⟩ (by rfl) w (by decide) (by decide) ⟨#[101, 114, 114, 32, 55, 10]⟩
    (Tryz.StD (w.heap.size + 9) (w.heap.size + 1 + 1 + 1 + 1 + 1) (w.heap.size + 1 + 1 + 1) (w.heap.size + 1 + 1 + 1 + 1)) ?_ ?_ ?_ ?_ ?_
  · intro pre
    exact Tryz.ind_D _ _ _ _ _ _ (by omega) (by omega) (by omega) (by omega) (by omega) (by omega) pre
  · intro W h1 h2 h3
    exact ⟨h3, h2⟩
  · intro pre W h
    cases pre with
    | nil => exact ⟨_, _, _, h.1⟩
    | cons p pre =>
      obtain ⟨x0, x1, x2, x3, x4, x5, ad, v, h1, _⟩ := h
      exact ⟨_, _, _, h1⟩
  · intro pre x rest W hx hs hSt
    obtain ⟨rfl, rfl⟩ : pre = [] ∧ x = [100, 101, 99, 105, 100, 101] := by
      cases pre with
      | nil => simp at hx; exact ⟨rfl, hx.1.symm⟩
      | cons p pre => simp at hx
    refine (Tryz.line_decide _ _ _ W hSt).mono ?_
    rintro e w' ⟨rfl, hp, hg⟩
    exact ⟨rfl, hp.lower hs, hg⟩
  · intro W h
    exact Tryz.string_pay _ _ [101, 114, 114, 32, 55, 10] (by decide) (by decide) W h
end Go.Proofs

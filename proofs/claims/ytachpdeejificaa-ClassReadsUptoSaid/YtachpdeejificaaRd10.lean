/- ClassReads: the walk. -/
import Derived.Test.YtachpdeejificaaRd9
import Derived.Test.YtachpdeejificaaNames
set_option linter.unusedVariables false
set_option linter.unusedSimpArgs false
namespace Go.Proofs.Ytachpdeejificaa
open Go.RowKit
theorem same_c (a b : Nat) (w : World) : Calls Try.prog 33 #[.agg #[.int .i64 (a : Int), .int .i64 (b : Int)], .agg #[.int .i64 (a : Int), .int .i64 (b : Int)]] w fun e w' => e = .returned (.bool true) ∧ Below w.heap.size w w' := by
  go_enter Try.func33, Try.ntmps33
  go_wp2
  go_ret
  exact ⟨rfl, by (repeat (first | with_reducible exact Below.refl _ _ | with_reducible apply below_drewN' | with_reducible apply below_drew | with_reducible apply below_allocs | (with_reducible refine below_set ?_ _ _ (by dsimp only; omega))))⟩
set_option maxRecDepth 100000 in
theorem reads_w (s : ByteArray) (hs : s.size ≤ smallN) (n : Int) (hn : -9223372036854775808 ≤ n ∧ n ≤ 9223372036854775807) (w : World) : Calls Try.prog 7 #[.string s, .int .i64 n] w fun e w' => e = .returned (.bool true) ∧ Below w.heap.size w w' := by
  have hP := parse_c s hs n hn
  have hR := parseR_c s hs n hn
  obtain ⟨c, m, a, k, hr⟩ : ∃ c m a k, parseI s n = (c, m, a, k) := ⟨_, _, _, _, rfl⟩
  rw [hr] at hP hR
  have hq := fun x0 x1 x2 x3 y0 y1 y2 y3 => eqCls x0 x1 x2 x3 y0 y1 y2 y3
  go_enter Try.func7, Try.ntmps7
  go_wp2_with (first
    | (go_at_call 31; refine (hP _).mono ?_; rintro e w1 ⟨rfl, hb1⟩; unfold parseV V4; dsimp only)
    | (go_at_call 32; refine (hR _).mono ?_; rintro e w2 ⟨rfl, hb2⟩; unfold parseV V4; dsimp only; have g1 := heap_same hb2 (heap_keep (o := .cells #[.int .i64 (a : Int), .int .i64 (k : Int)] 49 (0, 0)) (heap_new w1 (.cells #[.int .u64 (c.c0 : Int), .int .u64 (c.c1 : Int), .int .u64 (c.c2 : Int), .int .u64 (c.c3 : Int)] 24 (0, 0)))); have g2 := heap_same hb2 (heap_new1 w1 (.cells #[.int .u64 (c.c0 : Int), .int .u64 (c.c1 : Int), .int .u64 (c.c2 : Int), .int .u64 (c.c3 : Int)] 24 (0, 0)) (.cells #[.int .i64 (a : Int), .int .i64 (k : Int)] 49 (0, 0))); obtain ⟨⟨c0, c1, c2, c3⟩, c4, c5, c6, c7⟩ := four_cells (heap_keep (o := .cells #[.int .i64 (a : Int), .int .i64 (k : Int)] 53 (0, 0)) (heap_keep (o := .cells #[.int .u64 (c.c0 : Int), .int .u64 (c.c1 : Int), .int .u64 (c.c2 : Int), .int .u64 (c.c3 : Int)] 24 (0, 0)) g1)); obtain ⟨d0, d1, d2, d3⟩ := two_cells (heap_keep (o := .cells #[.int .i64 (a : Int), .int .i64 (k : Int)] 53 (0, 0)) (heap_keep (o := .cells #[.int .u64 (c.c0 : Int), .int .u64 (c.c1 : Int), .int .u64 (c.c2 : Int), .int .u64 (c.c3 : Int)] 24 (0, 0)) g2)))
    | (go_at_call 33; refine (same_c a k _).mono ?_; rintro e w3 ⟨rfl, hb3⟩))
  go_ret
  refine ⟨rfl, ?_⟩
  have j1 := below_allocs (below_allocs hb1 (.cells #[.int .u64 (c.c0 : Int), .int .u64 (c.c1 : Int), .int .u64 (c.c2 : Int), .int .u64 (c.c3 : Int)] 24 (0, 0))) (.cells #[.int .i64 (a : Int), .int .i64 (k : Int)] 49 (0, 0))
  have j2 := j1.trans (hb2.mono j1.size)
  have j3 := below_allocs (below_allocs j2 (.cells #[.int .u64 (c.c0 : Int), .int .u64 (c.c1 : Int), .int .u64 (c.c2 : Int), .int .u64 (c.c3 : Int)] 24 (0, 0))) (.cells #[.int .i64 (a : Int), .int .i64 (k : Int)] 53 (0, 0))
  exact j3.trans (hb3.mono j3.size)
end Go.Proofs.Ytachpdeejificaa

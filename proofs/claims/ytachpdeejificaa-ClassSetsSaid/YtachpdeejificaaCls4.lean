/- Classes, the document's way, on: Two. -/
import Derived.Test.YtachpdeejificaaCls3
import Derived.Test.YtachpdeejificaaReg
set_option linter.unusedVariables false
set_option linter.unusedSimpArgs false
namespace Go.Proofs.Ytachpdeejificaa
open Go.RowKit
/-- What stands between two operations of 'x, y := Open(a), Open(b)'. -/
def TwoI (w : World) (k : Value) (a b : Cls) (L : Array Bool) (A : Act) (W : World) : Prop :=
  ∃ v7 v8 v11 v12 v13 v14 : Value, A = { tmps := #[k, V4 a, V4 b, undef, .pointer (some ⟨w.heap.size, 0, none⟩), .pointer (some ⟨w.heap.size + 1, 0, none⟩), .pointer (some ⟨w.heap.size + 1 + 1, 0, none⟩), v7, v8, undef, undef, v11, v12, v13, v14, undef, undef, undef, undef, undef, undef, undef, undef, undef, undef, undef, undef, undef, undef, undef, undef, undef, undef, undef, undef, undef, undef, undef, undef, undef, undef, undef, undef, undef, undef, undef, undef, undef, undef, undef, undef, undef, undef, undef, undef, undef, undef, undef, undef], defers := [] } ∧
    (L.getD 0 false = true → v11 = V4 a) ∧ (L.getD 1 false = true → v12 = setVal a.mem) ∧ (L.getD 2 false = true → v13 = V4 b) ∧ (L.getD 3 false = true → v14 = setVal b.mem) ∧
    (L.getD 4 false = true → ∃ g f, v7 = .pointer (some ⟨g, 0, none⟩) ∧ w.heap.size + 3 ≤ g ∧ W.heap[g]? = some (.cells (setCells f) 62 (0, 0)) ∧ (L.getD 6 false = true → f = a.mem)) ∧
    (L.getD 5 false = true → ∃ g f, v8 = .pointer (some ⟨g, 0, none⟩) ∧ w.heap.size + 3 ≤ g ∧ W.heap[g]? = some (.cells (setCells f) 62 (0, 0)) ∧ (L.getD 7 false = true → f = b.mem)) ∧
    (L.getD 4 false = true → L.getD 5 false = true → v7 ≠ v8) ∧
    (L.getD 6 false = true → L.getD 4 false = true) ∧ (L.getD 7 false = true → L.getD 5 false = true) ∧
    Below w.heap.size w W ∧ W.heap[w.heap.size]? = some (.cells a.cells 24 (0, 0)) ∧ W.heap[w.heap.size + 1]? = some (.cells b.cells 24 (0, 0)) ∧ W.heap[w.heap.size + 1 + 1]? = some (.cells Cls.none.cells 24 (0, 0))
/-- What Two makes of a byte. -/
def twoF (k : Int) (a b : Cls) (j : Nat) : Bool := if k = 1 then a.mem j || b.mem j else if k = 2 then a.mem j && b.mem j else a.mem j && !b.mem j
set_option maxRecDepth 100000 in
theorem two_c (k : Int) (hk3 : k = 1 ∨ k = 2 ∨ k = 3) (a b : Cls) (ha : a.ok) (hb : b.ok) (w : World) : Calls Try.prog 18 #[.int .i64 k, V4 a, V4 b] w fun e w' => e = .returned (V4 (Cls.ofFn (twoF k a b))) ∧ Below w.heap.size w w' := by
  have HA := Lib.hid ha; have HB := Lib.hid hb; clear ha hb
  have hv := zeroSet.1
  go_enter Try.func18, Try.ntmps18
  go_wp2_with fail
  refine wp_region_inv (by kernel_rfl) (by kernel_rfl) (TwoI w (.int .i64 k) a b) ?h0 ?hs ?hd
  case h0 =>
    exact ⟨_, _, _, _, _, _, rfl, (fun h => by simp at h), (fun h => by simp at h), (fun h => by simp at h), (fun h => by simp at h), (fun h => by simp at h), (fun h => by simp at h), (fun h => by simp at h), (fun h => by simp at h), (fun h => by simp at h), ((((Below.refl _ _).alloc (Nat.le_refl _) _).alloc (by simp) _).alloc (by simp; omega) _).drew, heap_drew' (heap_keep (heap_keep (heap_new _ _))), heap_drew' (heap_keep (heap_new1 _ _ _)), heap_drew' (heap_new2 _ _ _ _)⟩
  case hs =>
    intro L A W i hz hI hi
    obtain ⟨hni, o, ho, hdep⟩ := mem_ready.1 hi
    have hi8 : i < 8 := by have := (Array.getElem?_eq_some_iff.1 ho).1; simpa using this
    obtain ⟨v7, v8, v11, v12, v13, v14, rfl, e0, e1, e2, e3, e4, e5, e45, e64, e75, hB, h0, h1, h2⟩ := hI
    have hi' : i = 0 ∨ i = 1 ∨ i = 2 ∨ i = 3 ∨ i = 4 ∨ i = 5 ∨ i = 6 ∨ i = 7 := by omega
    rcases hi' with rfl | rfl | rfl | rfl | rfl | rfl | rfl | rfl
    · exact wpOp_list rfl rfl (wp_load_row 24 _ rfl w.heap.size rfl 24 a.cells (0, 0) _ h0 Try.underlying24 rfl (infoCls _) ⟨_, _, _, _, _, _, rfl, (fun _ => rfl), (fun h => e1 (getD_set h (by decide))), (fun h => e2 (getD_set h (by decide))), (fun h => e3 (getD_set h (by decide))), (fun h => by obtain ⟨g, f, r, hg, hc, hf⟩ := e4 (getD_set h (by decide)); exact ⟨g, f, r, hg, hc, fun h6 => hf (getD_set h6 (by decide))⟩), (fun h => by obtain ⟨g, f, r, hg, hc, hf⟩ := e5 (getD_set h (by decide)); exact ⟨g, f, r, hg, hc, fun h6 => hf (getD_set h6 (by decide))⟩), (fun h h' => e45 (getD_set h (by decide)) (getD_set h' (by decide))), (fun h => getD_set_true (e64 (getD_set h (by decide)))), (fun h => getD_set_true (e75 (getD_set h (by decide)))), hB, h0, h1, h2⟩)
    · have d0 := e0 (hdep ⟨0, .data⟩ (by cases ho; simp) rfl)
      subst d0
      refine wpOp_walk rfl rfl ?_
      go_wp2_with (go_at_call 35; refine (open_c a HA.out _).mono ?_; rintro e w1 ⟨rfl, hb1⟩; unfold setVal)
      exact ⟨_, _, _, _, _, _, rfl, (fun _ => rfl), (fun _ => rfl), (fun h => e2 (getD_set h (by decide))), (fun h => e3 (getD_set h (by decide))), (fun h => by obtain ⟨g, f, r, hg, hc, hf⟩ := e4 (getD_set h (by decide)); exact ⟨g, f, r, hg, heap_same hb1 hc, fun h6 => hf (getD_set h6 (by decide))⟩), (fun h => by obtain ⟨g, f, r, hg, hc, hf⟩ := e5 (getD_set h (by decide)); exact ⟨g, f, r, hg, heap_same hb1 hc, fun h6 => hf (getD_set h6 (by decide))⟩), (fun h h' => e45 (getD_set h (by decide)) (getD_set h' (by decide))), (fun h => getD_set_true (e64 (getD_set h (by decide)))), (fun h => getD_set_true (e75 (getD_set h (by decide)))), hB.trans (hb1.mono hB.size), heap_same hb1 h0, heap_same hb1 h1, heap_same hb1 h2⟩
    · exact wpOp_list rfl rfl (wp_load_row 24 _ rfl (w.heap.size + 1) rfl 24 b.cells (0, 0) _ h1 Try.underlying24 rfl (infoCls _) ⟨_, _, _, _, _, _, rfl, (fun h => e0 (getD_set h (by decide))), (fun h => e1 (getD_set h (by decide))), (fun _ => rfl), (fun h => e3 (getD_set h (by decide))), (fun h => by obtain ⟨g, f, r, hg, hc, hf⟩ := e4 (getD_set h (by decide)); exact ⟨g, f, r, hg, hc, fun h6 => hf (getD_set h6 (by decide))⟩), (fun h => by obtain ⟨g, f, r, hg, hc, hf⟩ := e5 (getD_set h (by decide)); exact ⟨g, f, r, hg, hc, fun h6 => hf (getD_set h6 (by decide))⟩), (fun h h' => e45 (getD_set h (by decide)) (getD_set h' (by decide))), (fun h => getD_set_true (e64 (getD_set h (by decide)))), (fun h => getD_set_true (e75 (getD_set h (by decide)))), hB, h0, h1, h2⟩)
    · have d2 := e2 (hdep ⟨2, .data⟩ (by cases ho; simp) rfl)
      subst d2
      refine wpOp_walk rfl rfl ?_
      go_wp2_with (go_at_call 35; refine (open_c b HB.out _).mono ?_; rintro e w1 ⟨rfl, hb1⟩; unfold setVal)
      exact ⟨_, _, _, _, _, _, rfl, (fun h => e0 (getD_set h (by decide))), (fun h => e1 (getD_set h (by decide))), (fun _ => rfl), (fun _ => rfl), (fun h => by obtain ⟨g, f, r, hg, hc, hf⟩ := e4 (getD_set h (by decide)); exact ⟨g, f, r, hg, heap_same hb1 hc, fun h6 => hf (getD_set h6 (by decide))⟩), (fun h => by obtain ⟨g, f, r, hg, hc, hf⟩ := e5 (getD_set h (by decide)); exact ⟨g, f, r, hg, heap_same hb1 hc, fun h6 => hf (getD_set h6 (by decide))⟩), (fun h h' => e45 (getD_set h (by decide)) (getD_set h' (by decide))), (fun h => getD_set_true (e64 (getD_set h (by decide)))), (fun h => getD_set_true (e75 (getD_set h (by decide)))), hB.trans (hb1.mono hB.size), heap_same hb1 h0, heap_same hb1 h1, heap_same hb1 h2⟩
    · have hn : L.getD 4 false = false := getD_false hz (by decide) hni
      refine wpOp_walk rfl rfl ?_
      go_wp2
      exact ⟨_, _, _, _, _, _, rfl, (fun h => e0 (getD_set h (by decide))), (fun h => e1 (getD_set h (by decide))), (fun h => e2 (getD_set h (by decide))), (fun h => e3 (getD_set h (by decide))), (fun _ => ⟨W.heap.size, fun _ => false, rfl, by have := heap_lt h2; omega, by rw [setCells_false]; exact heap_new _ _, fun h => absurd (e64 (getD_set h (by decide))) (by rw [hn]; simp)⟩), (fun h => by obtain ⟨g, f, r, hg, hc, hf⟩ := e5 (getD_set h (by decide)); exact ⟨g, f, r, hg, heap_keep hc, fun h6 => hf (getD_set h6 (by decide))⟩), (fun _ h => by obtain ⟨g, f, r, hg, hc, hf⟩ := e5 (getD_set h (by decide)); rw [r]; have := heap_lt hc; intro e; first | (simp at e; done) | (simp at e; omega)), (fun h => getD_set_true (e64 (getD_set h (by decide)))), (fun h => getD_set_true (e75 (getD_set h (by decide)))), hB.alloc hB.size _, heap_keep h0, heap_keep h1, heap_keep h2⟩
    · have hn : L.getD 5 false = false := getD_false hz (by decide) hni
      refine wpOp_walk rfl rfl ?_
      go_wp2
      exact ⟨_, _, _, _, _, _, rfl, (fun h => e0 (getD_set h (by decide))), (fun h => e1 (getD_set h (by decide))), (fun h => e2 (getD_set h (by decide))), (fun h => e3 (getD_set h (by decide))), (fun h => by obtain ⟨g, f, r, hg, hc, hf⟩ := e4 (getD_set h (by decide)); exact ⟨g, f, r, hg, heap_keep hc, fun h6 => hf (getD_set h6 (by decide))⟩), (fun _ => ⟨W.heap.size, fun _ => false, rfl, by have := heap_lt h2; omega, by rw [setCells_false]; exact heap_new _ _, fun h => absurd (e75 (getD_set h (by decide))) (by rw [hn]; simp)⟩), (fun h _ => by obtain ⟨g, f, r, hg, hc, hf⟩ := e4 (getD_set h (by decide)); rw [r]; have := heap_lt hc; intro e; first | (simp at e; done) | (simp at e; omega)), (fun h => getD_set_true (e64 (getD_set h (by decide)))), (fun h => getD_set_true (e75 (getD_set h (by decide)))), hB.alloc hB.size _, heap_keep h0, heap_keep h1, heap_keep h2⟩
    · have dv := e1 (hdep ⟨1, .data⟩ (by cases ho; simp) rfl)
      have dd := hdep ⟨4, .data⟩ (by cases ho; simp) rfl
      obtain ⟨g, f, rfl, hg, hc, hf⟩ := e4 dd
      subst dv
      refine wpOp_list rfl rfl (wp_store_row 62 _ _ rfl g (setCells a.mem) rfl rfl 62 _ hc (infoSet _) (by rw [setCells_size, setCells_size]) (setCells_one _) ?_)
      exact ⟨_, _, _, _, _, _, rfl, (fun h => e0 (getD_set h (by decide))), (fun _ => rfl), (fun h => e2 (getD_set h (by decide))), (fun h => e3 (getD_set h (by decide))), (fun _ => ⟨g, a.mem, rfl, hg, setRow_heap _ _ _ _ _ _ hc, fun _ => rfl⟩), (fun h => by obtain ⟨g', f', r, hg', hc', hf'⟩ := e5 (getD_set h (by decide)); exact ⟨g', f', r, hg', heap_row_other (by rintro rfl; exact e45 dd (getD_set h (by decide)) r.symm) hc', fun h6 => hf' (getD_set h6 (by decide))⟩), (fun h h' => e45 (getD_set h (by decide)) (getD_set h' (by decide))), (fun _ => getD_set_true dd), (fun h => getD_set_true (e75 (getD_set h (by decide)))), below_setRow hB (by omega) _, heap_row_other (by omega) h0, heap_row_other (by omega) h1, heap_row_other (by omega) h2⟩
    · have dv := e3 (hdep ⟨3, .data⟩ (by cases ho; simp) rfl)
      have dd := hdep ⟨5, .data⟩ (by cases ho; simp) rfl
      obtain ⟨g, f, rfl, hg, hc, hf⟩ := e5 dd
      subst dv
      refine wpOp_list rfl rfl (wp_store_row 62 _ _ rfl g (setCells b.mem) rfl rfl 62 _ hc (infoSet _) (by rw [setCells_size, setCells_size]) (setCells_one _) ?_)
      exact ⟨_, _, _, _, _, _, rfl, (fun h => e0 (getD_set h (by decide))), (fun h => e1 (getD_set h (by decide))), (fun h => e2 (getD_set h (by decide))), (fun _ => rfl), (fun h => by obtain ⟨g', f', r, hg', hc', hf'⟩ := e4 (getD_set h (by decide)); exact ⟨g', f', r, hg', heap_row_other (by rintro rfl; exact e45 (getD_set h (by decide)) dd r) hc', fun h6 => hf' (getD_set h6 (by decide))⟩), (fun _ => ⟨g, b.mem, rfl, hg, setRow_heap _ _ _ _ _ _ hc, fun _ => rfl⟩), (fun h h' => e45 (getD_set h (by decide)) (getD_set h' (by decide))), (fun h => getD_set_true (e64 (getD_set h (by decide)))), (fun _ => getD_set_true dd), below_setRow hB (by omega) _, heap_row_other (by omega) h0, heap_row_other (by omega) h1, heap_row_other (by omega) h2⟩
  case hd =>
    intro L A W hL hI
    obtain ⟨v7, v8, v11, v12, v13, v14, rfl, e0, e1, e2, e3, e4, e5, e45, _, _, hB, h0, h1, h2⟩ := hI
    have n45 := e45 (hL 4 (by decide)) (hL 5 (by decide))
    obtain ⟨g7, f7, rfl, hg7, hc7, hf7⟩ := e4 (hL 4 (by decide))
    obtain ⟨g8, f8, rfl, hg8, hc8, hf8⟩ := e5 (hL 5 (by decide))
    have q7 := hf7 (hL 6 (by decide)); have q8 := hf8 (hL 7 (by decide)); subst q7 q8
    have hne : g7 ≠ g8 := fun e => n45 (by rw [e])
    have l7 := heap_lt hc7; have l8 := heap_lt hc8; have l2 := heap_lt h2
    have C7 := Lib.hid hc7; have C8 := Lib.hid hc8; have C2 := Lib.hid h2; have HBW := Lib.hid hB
    clear e0 e1 e2 e3 e4 e5 e45 n45 hf7 hf8 hc7 hc8 h0 h1 h2 hL hB
    go_wp2
    go_loopw [10] (fun i wr => ∃ n : Nat, n ≤ 256 ∧ i = .int .i64 n ∧ Below w.heap.size w wr ∧ w.heap.size + 1 + 1 < W.heap.size ∧
      wr.heap[g7]? = some (.cells (setCells a.mem) 62 (0, 0)) ∧ wr.heap[g8]? = some (.cells (setCells b.mem) 62 (0, 0)) ∧
      wr.heap[w.heap.size + 1 + 1]? = some (.cells Cls.none.cells 24 (0, 0)) ∧ wr.heap[W.heap.size]? = some (.cells (setCells fun j => decide (j < n) && twoF k a b j) 62 (0, 0))) (fun i _ => 256 - (intOf i).toNat)
    case atStart =>
      exact ⟨0, by omega, rfl, HBW.out.alloc HBW.out.size _, by omega, heap_keep C7.out, heap_keep C8.out, heap_keep C2.out, by rw [setCells_zero, setCells_false]; exact heap_new _ _⟩
    case round =>
      obtain ⟨n, hk, rfl, hB, hl, h7, h8, h2, h9⟩ := hrel
      by_cases hlt : n < 256
      · have c7 : wr.cell? ⟨g7, n, none⟩ = some (.bool (a.mem n)) := by rw [cell_of_row _ _ _ _ _ _ h7, setCells_at _ _ hlt]
        have c8 : wr.cell? ⟨g8, n, none⟩ = some (.bool (b.mem n)) := by rw [cell_of_row _ _ _ _ _ _ h8, setCells_at _ _ hlt]
        have c9 : wr.cell? ⟨W.heap.size, n, none⟩ = some (.bool (decide (n < n) && twoF k a b n)) := by rw [cell_of_row _ _ _ _ _ _ h9, setCells_at _ _ hlt]
        have f9 : wr.frozen? ⟨W.heap.size, n, none⟩ = false := frozen_of_row _ _ _ _ _ h9
        have H7 := Lib.hid h7; have H8 := Lib.hid h8; have H2 := Lib.hid h2; have H9 := Lib.hid h9; clear h7 h8 h2 h9
        rcases hk3 with rfl | rfl | rfl
        all_goals
          cases hf : a.mem n
          all_goals
            rw [hf] at c7
            have HF := Lib.hid hf; clear hf
            go_wp2
            go_roundw
            case rel =>
              refine ⟨n + 1, by omega, by go_num, hB.setCell (by dsimp only; omega) _, hl, heap_other (by dsimp only; omega) H7.out, heap_other (by dsimp only; omega) H8.out, heap_other (by dsimp only; omega) H2.out, ?_⟩
              rw [heap_put H9.out, setCells_step (f := twoF _ a b) (i := n)]
              first | (simp [twoF, HF.out]; done) | (unfold twoF; rw [HF.out]; rfl)
            case measure => simp [intOf]; omega
      · obtain rfl : n = 256 := by omega
        have H7 := Lib.hid h7; have H8 := Lib.hid h8; have H2 := Lib.hid h2; have H9 := Lib.hid h9; clear h7 h8 h2 h9
        have hc := close_c (fun j => decide (j < 256) && twoF k a b j)
        unfold setVal at hc
        have HC := Lib.hid hc; clear hc
        go_wp2_with (first | (refine wpList_load_row rfl 62 _ rfl _ rfl _ _ _ _ H9.out Try.underlying62 rfl (infoSet _) ?_) | (go_at_call 38; refine (HC.out _).mono ?_; rintro e w2 ⟨rfl, hb2⟩) | (refine wpList_store_row rfl 24 _ _ rfl _ _ rfl rfl _ _ (heap_same hb2 H2.out) (infoCls _) rfl (Cls.cells_one (Cls.ofFn _)) ?_))
        have H3 := Lib.hid (setRow_heap w2 (w.heap.size + 1 + 1) _ (Cls.ofFn fun j => decide (j < 256) && twoF k a b j).cells 24 (0, 0) (heap_same hb2 H2.out))
        refine bodyPost_ret (v := V4 (Cls.ofFn fun j => decide (j < 256) && twoF k a b j)) (results_cell_row Try.results18 _ _ _ _ _ _ _ rfl H3.out Try.underlying24 rfl (infoCls _)) rfl ⟨?_, below_setRow (hB.trans (hb2.mono hB.size)) (by omega) _⟩
        rw [Cls.ofFn_congr (g := twoF k a b) fun i hi => by simp [hi]]
end Go.Proofs.Ytachpdeejificaa

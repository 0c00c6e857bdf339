/- Classes, the document's way, on: Fold. -/
import Derived.Test.YtachpdeejificaaCls3
set_option linter.unusedVariables false
set_option linter.unusedSimpArgs false
namespace Go.Proofs.Ytachpdeejificaa
open Go.RowKit
/-- What Fold has made when the letters below k are done. -/
def foldF (a : Cls) (k j : Nat) : Bool := if (97 ≤ j ∧ j < k) ∨ (65 ≤ j ∧ j + 32 < k) then a.mem j || a.mem (other j) else a.mem j
theorem foldF_step (a : Cls) (k : Nat) (h1 : 97 ≤ k) (h2 : k ≤ 122) (v : Bool) (hv : v = (a.mem k || a.mem (k - 32))) :
    ((setCells (foldF a k)).setIfInBounds k (.bool v)).setIfInBounds (k - 32) (.bool v) = setCells (foldF a (k + 1)) := by
  subst hv
  rw [setCells_set, setCells_set]
  refine setCells_congr fun j _ => ?_
  have o1 : other k = k - 32 := by unfold other; rw [if_neg (by omega), if_pos (by omega)]
  have o2 : other (k - 32) = k := by unfold other; rw [if_pos (by omega)]; omega
  by_cases e : j = k - 32
  · subst e
    rw [if_pos rfl]
    unfold foldF
    rw [if_pos (by omega), o2, Bool.or_comm]
  · rw [if_neg e]
    by_cases e' : j = k
    · subst e'
      rw [if_pos rfl]
      unfold foldF
      rw [if_pos (by omega), o1]
    · rw [if_neg e']
      unfold foldF
      by_cases q : (97 ≤ j ∧ j < k) ∨ (65 ≤ j ∧ j + 32 < k)
      · rw [if_pos q, if_pos (by omega)]
      · rw [if_neg q, if_neg (by omega)]
theorem foldF_done (a : Cls) (j : Nat) : foldF a 123 j = (a.mem j || a.mem (other j)) := by
  unfold foldF
  by_cases q : (97 ≤ j ∧ j < 123) ∨ (65 ≤ j ∧ j + 32 < 123)
  · rw [if_pos q]
  · rw [if_neg q]
    have : other j = j := by unfold other; rw [if_neg (by omega), if_neg (by omega)]
    rw [this, Bool.or_self]
set_option maxRecDepth 100000 in
theorem foldR_c (a : Cls) (ha : a.ok) (w : World) : Calls Try.prog 24 #[V4 a] w fun e w' => e = .returned (V4 a.fold) ∧ Below w.heap.size w w' := by
  have HA := Lib.hid ha; clear ha
  have hv := zeroSet.1
  go_enter Try.func24, Try.ntmps24
  go_wp2_with (first | (go_at_call 35; refine (open_c a HA.out _).mono ?_; rintro e w1 ⟨rfl, hb1⟩; unfold setVal) | (refine wpList_store_row rfl 62 _ _ rfl w1.heap.size (setCells a.mem) rfl rfl _ _ (heap_new _ _) (infoSet _) (by rw [setCells_size]; rfl) (setCells_one _) ?_; rw [World.setRow_alloc_new]) | (refine wpList_load_row rfl 62 _ rfl w1.heap.size rfl _ (setCells a.mem) _ _ (heap_new _ _) Try.underlying62 rfl (infoSet _) ?_) | (refine wpList_store_row rfl 62 _ _ rfl (w1.heap.size + 1) (setCells a.mem) rfl rfl _ _ (heap_new1 _ _ _) (infoSet _) (by rw [setCells_size]; rfl) (setCells_one _) ?_))
  have hz := hb1.size
  have hs1 := heap_same hb1 (heap_new1 _ _ _)
  have hb := (((Below.refl _ _).alloc (Nat.le_refl _) _).alloc (by simp) _).trans (hb1.mono (by simp; omega))
  simp only [World.size_alloc] at hz
  have HB1 := Lib.hid hb; have HS1 := Lib.hid hs1; clear hb1 hb hs1
  go_loopw [5, 6] (fun i _ wr => ∃ k : Nat, 97 ≤ k ∧ k ≤ 123 ∧ i = .int .i32 k ∧ Below w.heap.size w wr ∧ w.heap.size + 1 < w1.heap.size ∧
      wr.heap[w.heap.size + 1]? = some (.cells Cls.none.cells 24 (0, 0)) ∧ wr.heap[w1.heap.size]? = some (.cells (setCells a.mem) 62 (0, 0)) ∧ wr.heap[w1.heap.size + 1]? = some (.cells (setCells (foldF a k)) 62 (0, 0))) (fun i _ _ => 123 - (intOf i).toNat)
  case atStart =>
    exact ⟨97, by omega, by omega, rfl, below_setRow ((HB1.out.alloc (by omega) _).alloc (by simp; omega) _) (by omega) _, by omega, heap_row_other (by omega) (heap_keep (heap_keep HS1.out)), heap_row_other (by omega) (heap_keep (heap_new _ _)), by
      rw [show setCells (foldF a 97) = setCells a.mem from setCells_congr fun i _ => by unfold foldF; rw [if_neg (by omega)]]; exact setRow_heap _ _ _ _ _ _ (heap_new1 _ _ _)⟩
  case round =>
    obtain ⟨k, h97, hk, rfl, hB, hlt1, h1, h2, h3⟩ := hrel
    by_cases hlt : k < 123
    · have c2 : wr.cell? ⟨w1.heap.size, k, none⟩ = some (.bool (a.mem k)) := by rw [cell_of_row _ _ _ _ _ _ h2, setCells_at _ _ (by omega)]
      have c2' : wr.cell? ⟨w1.heap.size, k - 32, none⟩ = some (.bool (a.mem (k - 32))) := by rw [cell_of_row _ _ _ _ _ _ h2, setCells_at _ _ (by omega)]
      have c3 : wr.cell? ⟨w1.heap.size + 1, k, none⟩ = some (.bool (foldF a k k)) := by rw [cell_of_row _ _ _ _ _ _ h3, setCells_at _ _ (by omega)]
      have c3' : wr.cell? ⟨w1.heap.size + 1, k - 32, none⟩ = some (.bool (foldF a k (k - 32))) := by rw [cell_of_row _ _ _ _ _ _ h3, setCells_at _ _ (by omega)]
      have f3 : wr.frozen? ⟨w1.heap.size + 1, k, none⟩ = false := frozen_of_row _ _ _ _ _ h3
      have f3' : wr.frozen? ⟨w1.heap.size + 1, k - 32, none⟩ = false := frozen_of_row _ _ _ _ _ h3
      have H1 := Lib.hid h1; have H2 := Lib.hid h2; have H3 := Lib.hid h3; clear h1 h2 h3
      cases hf : a.mem k
      all_goals
        rw [hf] at c2
        have HF := Lib.hid hf; clear hf
        go_wp2
        go_roundw
        case rel =>
          refine ⟨k + 1, by omega, by omega, by go_num, (hB.setCell (by dsimp only; omega) _).setCell (by dsimp only; omega) _, hlt1, heap_other (by dsimp only; omega) (heap_other (by dsimp only; omega) H1.out), heap_other (by dsimp only; omega) (heap_other (by dsimp only; omega) H2.out), ?_⟩
          rw [heap_put (heap_put H3.out), foldF_step a k h97 (by omega) _ (by rw [HF.out]; rfl)]
        case measure => simp [intOf]; omega
    · obtain rfl : k = 123 := by omega
      have H1 := Lib.hid h1; have H3 := Lib.hid h3; clear h1 h2 h3
      have hc := close_c (foldF a 123)
      unfold setVal at hc
      have HC := Lib.hid hc; clear hc
      go_wp2_with (first | (refine wpList_load_row rfl 62 _ rfl _ rfl _ _ _ _ H3.out Try.underlying62 rfl (infoSet _) ?_) | (go_at_call 38; refine (HC.out _).mono ?_; rintro e w2 ⟨rfl, hb2⟩) | (refine wpList_store_row rfl 24 _ _ rfl _ _ rfl rfl _ _ (heap_same hb2 H1.out) (infoCls _) rfl (Cls.cells_one (Cls.ofFn _)) ?_))
      have H4 := Lib.hid (setRow_heap w2 (w.heap.size + 1) _ (Cls.ofFn (foldF a 123)).cells 24 (0, 0) (heap_same hb2 H1.out))
      refine bodyPost_ret (v := V4 (Cls.ofFn (foldF a 123))) (results_cell_row Try.results24 _ _ _ _ _ _ _ rfl H4.out Try.underlying24 rfl (infoCls _)) rfl ⟨?_, below_setRow (hB.trans (hb2.mono hB.size)) (by omega) _⟩
      rw [← Cls.eq_ofFn (Cls.ok_fold HA.out) fun i hi => by rw [Cls.mem_fold, foldF_done]]
end Go.Proofs.Ytachpdeejificaa

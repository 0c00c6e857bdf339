/- Classes, the document's way, on: Not, Fold. -/
import Derived.Test.YtachpdeejificaaCls2
set_option linter.unusedVariables false
set_option linter.unusedSimpArgs false
namespace Go.Proofs.Ytachpdeejificaa
open Go.RowKit
set_option maxRecDepth 100000 in
theorem notR_c (a : Cls) (ha : a.ok) (w : World) : Calls Try.prog 22 #[V4 a] w fun e w' => e = .returned (V4 a.not) ∧ Below w.heap.size w w' := by
  have HA := Lib.hid ha; clear ha
  have hv := zeroSet.1
  go_enter Try.func22, Try.ntmps22
  go_wp2_with (first | (go_at_call 35; refine (open_c a HA.out _).mono ?_; rintro e w1 ⟨rfl, hb1⟩; unfold setVal) | (refine wpList_store_row rfl 62 _ _ rfl _ _ rfl rfl _ _ (heap_new _ _) (infoSet _) (by rw [setCells_size]; rfl) (setCells_one _) ?_))
  have hz := hb1.size
  have hs1 := heap_same hb1 (heap_new1 _ _ _)
  have hb := (((Below.refl _ _).alloc (Nat.le_refl _) _).alloc (by simp) _).trans (hb1.mono (by simp; omega))
  simp only [World.size_alloc] at hz
  have HB1 := Lib.hid hb; have HS1 := Lib.hid hs1; clear hb1 hb hs1
  go_loopw [4] (fun i wr => ∃ k : Nat, k ≤ 256 ∧ i = .int .i64 k ∧ Below w.heap.size w wr ∧ w.heap.size + 1 < w1.heap.size ∧
      wr.heap[w.heap.size + 1]? = some (.cells Cls.none.cells 24 (0, 0)) ∧ wr.heap[w1.heap.size]? = some (.cells (setCells fun j => if j < k then !a.mem j else a.mem j) 62 (0, 0))) (fun i _ => 256 - (intOf i).toNat)
  case atStart =>
    exact ⟨0, by omega, rfl, below_setRow (HB1.out.alloc (by omega) _) (by omega) _, by omega, heap_row_other (by omega) (heap_keep HS1.out), by
      rw [setCells_congr (g := a.mem) (fun i _ => by simp)]; exact setRow_heap _ _ _ _ _ _ (heap_new _ _)⟩
  case round =>
    obtain ⟨k, hk, rfl, hB, hlt1, h1, h2⟩ := hrel
    by_cases hlt : k < 256
    · have c2 : wr.cell? ⟨w1.heap.size, k, none⟩ = some (.bool (a.mem k)) := by rw [cell_of_row _ _ _ _ _ _ h2, setCells_at _ _ hlt]; simp
      have f2 : wr.frozen? ⟨w1.heap.size, k, none⟩ = false := frozen_of_row _ _ _ _ _ h2
      have H1 := Lib.hid h1; have H2 := Lib.hid h2; clear h1 h2
      go_wp2
      go_roundw
      case rel => exact ⟨k + 1, by omega, by go_num, hB.setCell (by dsimp only; omega) _, hlt1, heap_other (by dsimp only; omega) H1.out, by
        rw [heap_put H2.out, setCells_turn (g := fun j => !a.mem j) (i := k) rfl]⟩
      case measure => simp [intOf]; omega
    · obtain rfl : k = 256 := by omega
      have H1 := Lib.hid h1; have H2 := Lib.hid h2; clear h1 h2
      have hc := close_c (fun j => if j < 256 then !a.mem j else a.mem j)
      unfold setVal at hc
      have HC := Lib.hid hc; clear hc
      go_wp2_with (first | (refine wpList_load_row rfl 62 _ rfl _ rfl _ _ _ _ H2.out Try.underlying62 rfl (infoSet _) ?_) | (go_at_call 38; refine (HC.out _).mono ?_; rintro e w2 ⟨rfl, hb2⟩) | (refine wpList_store_row rfl 24 _ _ rfl _ _ rfl rfl _ _ (heap_same hb2 H1.out) (infoCls _) rfl (Cls.cells_one (Cls.ofFn _)) ?_))
      have H3 := Lib.hid (setRow_heap w2 (w.heap.size + 1) _ (Cls.ofFn fun j => if j < 256 then !a.mem j else a.mem j).cells 24 (0, 0) (heap_same hb2 H1.out))
      refine bodyPost_ret (v := V4 (Cls.ofFn fun j => if j < 256 then !a.mem j else a.mem j)) (results_cell_row Try.results22 _ _ _ _ _ _ _ rfl H3.out Try.underlying24 rfl (infoCls _)) rfl ⟨?_, below_setRow (hB.trans (hb2.mono hB.size)) (by omega) _⟩
      rw [← Cls.eq_ofFn (Cls.ok_not a) fun i hi => by rw [Cls.mem_not HA.out]; simp [hi]]
end Go.Proofs.Ytachpdeejificaa

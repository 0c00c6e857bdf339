/- Classes, the document's way: Open, Close, Two, Not, Fold, Of, Bytes: each walked once. -/
import Derived.Test.YtachpdeejificaaCls1
import Derived.Test.YtachpdeejificaaClsPl2
import Derived.Deep.LoopGhost
import Derived.Deep.WholeRow
import Derived.Laws.ResultCell
set_option linter.unusedVariables false
set_option linter.unusedSimpArgs false
namespace Go.Proofs.Ytachpdeejificaa
open Go.RowKit
theorem zeroSet : (∀ w, (zeroValue 62).run Try.prog w = .ok (.agg (Array.replicate 256 (.bool false))) w) ∧ (Try.prog.info? 62).map (·.size) = some 256 := zero_of_info (by kernel_rfl)
theorem infoSet (f : Nat → Bool) : (Try.prog.info? 62).map (·.size) = some (setCells f).size := by rw [setCells_size]; exact zeroSet.2
theorem infoCls (a : Cls) : (Try.prog.info? 24).map (·.size) = some a.cells.size := by kernel_rfl
set_option maxRecDepth 100000 in
theorem open_c (a : Cls) (ha : a.ok) (w : World) : Calls Try.prog 35 #[V4 a] w fun e w' => e = .returned (setVal a.mem) ∧ Below w.heap.size w w' := by
  have HA := Lib.hid ha; clear ha
  have hv := zeroSet.1
  go_enter Try.func35, Try.ntmps35
  go_wp2
  go_loopw [4] (fun i wr => ∃ k : Nat, k ≤ 256 ∧ i = .int .i64 k ∧ Below w.heap.size w wr ∧ wr.heap[w.heap.size]? = some (.cells a.cells 24 (0, 0)) ∧
      wr.heap[w.heap.size + 1]? = some (.cells (setCells fun _ => false) 62 (0, 0)) ∧ wr.heap[w.heap.size + 1 + 1]? = some (.cells (setCells fun j => decide (j < k) && a.mem j) 62 (0, 0))) (fun i _ => 256 - (intOf i).toNat)
  case atStart =>
    refine ⟨0, by omega, rfl, ((((Below.refl _ _).alloc (Nat.le_refl _) _).alloc (by simp) _).alloc (by simp; omega) _), heap_keep (heap_keep (heap_new _ _)), ?_, ?_⟩
    · rw [setCells_false]; exact heap_keep (heap_new1 _ _ _)
    · rw [setCells_zero, setCells_false]; exact heap_new2 _ _ _ _
  case round =>
    obtain ⟨k, hk, rfl, hB, h0, h1, h2⟩ := hrel
    by_cases hlt : k < 256
    · have c0 : wr.cell? ⟨w.heap.size, k / 64, none⟩ = some (.int .u64 (a.word (k / 64))) := by rw [cell_of_row _ _ _ _ _ _ h0]; exact a.cells_at (k / 64) (by omega)
      have c2 : wr.cell? ⟨w.heap.size + 1 + 1, k, none⟩ = some (.bool (decide (k < k) && a.mem k)) := by rw [cell_of_row _ _ _ _ _ _ h2]; exact setCells_at _ _ hlt
      have f2 : wr.frozen? ⟨w.heap.size + 1 + 1, k, none⟩ = false := frozen_of_row _ _ _ _ _ h2
      have H0 := Lib.hid h0; have H1 := Lib.hid h1; have H2 := Lib.hid h2; clear h0 h1 h2
      go_wp2
      go_roundw
      case rel =>
        refine ⟨k + 1, by omega, by go_num, hB.setCell (by simp; omega) _, heap_other (by dsimp only; omega) H0.out, heap_other (by dsimp only; omega) H1.out, ?_⟩
        rw [heap_put H2.out, mem_bit HA.out, setCells_step (f := a.mem) (i := k) rfl]
      case measure => simp [intOf]; omega
    · obtain rfl : k = 256 := by omega
      have H0 := Lib.hid h0; have H1 := Lib.hid h1; have H2 := Lib.hid h2; clear h0 h1 h2
      go_wp2_with (first | (refine wpList_load_row rfl 62 _ rfl _ rfl _ _ _ _ H2.out Try.underlying62 rfl (infoSet _) ?_) | (refine wpList_store_row rfl 62 _ _ rfl _ _ rfl rfl _ _ H1.out (infoSet _) (by rw [setCells_size, setCells_size]) (setCells_one _) ?_))
      have H3 := Lib.hid (setRow_heap wr (w.heap.size + 1) _ (setCells fun j => decide (j < 256) && a.mem j) 62 (0, 0) H1.out)
      refine bodyPost_ret (v := setVal fun j => decide (j < 256) && a.mem j) (results_cell_row Try.results35 _ _ _ _ _ _ _ rfl H3.out Try.underlying62 rfl (infoSet _)) rfl ⟨?_, below_setRow hB (by omega) _⟩
      unfold setVal
      rw [setCells_full]
set_option maxRecDepth 100000 in
theorem close_c (f : Nat → Bool) (w : World) : Calls Try.prog 38 #[setVal f] w fun e w' => e = .returned (V4 (Cls.ofFn f)) ∧ Below w.heap.size w w' := by
  unfold setVal
  go_enter Try.func38, Try.ntmps38
  go_wp2
  go_loopw [4] (fun i wr => ∃ k : Nat, k ≤ 256 ∧ i = .int .i64 k ∧ Below w.heap.size w wr ∧ wr.heap[w.heap.size]? = some (.cells (setCells f) 62 (0, 0)) ∧
      wr.heap[w.heap.size + 1]? = some (.cells Cls.none.cells 24 (0, 0)) ∧ wr.heap[w.heap.size + 1 + 1]? = some (.cells (Cls.ofFn fun j => decide (j < k) && f j).cells 24 (0, 0))) (fun i _ => 256 - (intOf i).toNat)
  case atStart =>
    refine ⟨0, by omega, rfl, ((((Below.refl _ _).alloc (Nat.le_refl _) _).alloc (by simp) _).alloc (by simp; omega) _), heap_keep (heap_keep (heap_new _ _)), ?_, ?_⟩
    · exact heap_keep (heap_new1 _ _ _)
    · rw [show (Cls.ofFn fun j => decide (j < 0) && f j) = Cls.none by rw [Cls.none_ofFn]; exact Cls.ofFn_congr fun i _ => by simp]; exact heap_new2 _ _ _ _
  case round =>
    obtain ⟨k, hk, rfl, hB, h0, h1, h2⟩ := hrel
    by_cases hlt : k < 256
    · have c0 : wr.cell? ⟨w.heap.size, k, none⟩ = some (.bool (f k)) := by rw [cell_of_row _ _ _ _ _ _ h0]; exact setCells_at _ _ hlt
      have c2 : wr.cell? ⟨w.heap.size + 1 + 1, k / 64, none⟩ = some (.int .u64 ((Cls.ofFn fun j => decide (j < k) && f j).word (k / 64))) := by rw [cell_of_row _ _ _ _ _ _ h2]; exact Cls.cells_at _ (k / 64) (by omega)
      have f2 : wr.frozen? ⟨w.heap.size + 1 + 1, k / 64, none⟩ = false := frozen_of_row _ _ _ _ _ h2
      have H0 := Lib.hid h0; have H1 := Lib.hid h1; have H2 := Lib.hid h2; clear h0 h1 h2
      cases hf : f k
      · rw [hf] at c0
        have HF := Lib.hid hf; clear hf
        go_wp2
        go_roundw
        case rel => exact ⟨k + 1, by omega, by go_num, hB, H0.out, H1.out, by rw [H2.out, Cls.skip_step f k HF.out]⟩
        case measure => simp [intOf]; omega
      · rw [hf] at c0
        have HF := Lib.hid hf; clear hf
        go_wp2
        go_region
        go_wp2
        go_roundw
        case rel =>
          refine ⟨k + 1, by omega, by go_num, (hB.setCell (by simp; omega) _).drew, heap_drew' (heap_other (by dsimp only; omega) H0.out), heap_drew' (heap_other (by dsimp only; omega) H1.out), heap_drew' ?_⟩
          rw [heap_put H2.out, bits_put (Cls.ok_ofFn _), Cls.cells_put hlt, Cls.put_step f k hlt HF.out]
        case measure => simp [intOf]; omega
    · obtain rfl : k = 256 := by omega
      have H0 := Lib.hid h0; have H1 := Lib.hid h1; have H2 := Lib.hid h2; clear h0 h1 h2
      go_wp2_with (first | (refine wpList_load_row rfl 24 _ rfl _ rfl _ _ _ _ H2.out Try.underlying24 rfl (infoCls _) ?_) | (refine wpList_store_row rfl 24 _ _ rfl _ _ rfl rfl _ _ H1.out (infoCls _) rfl (Cls.cells_one _) ?_))
      have H3 := Lib.hid (setRow_heap wr (w.heap.size + 1) _ (Cls.ofFn fun j => decide (j < 256) && f j).cells 24 (0, 0) H1.out)
      refine bodyPost_ret (v := V4 (Cls.ofFn fun j => decide (j < 256) && f j)) (results_cell_row Try.results38 _ _ _ _ _ _ _ rfl H3.out Try.underlying24 rfl (infoCls _)) rfl ⟨?_, below_setRow hB (by omega) _⟩
      rw [Cls.ofFn_congr (g := f) fun i hi => by simp [hi]]
end Go.Proofs.Ytachpdeejificaa

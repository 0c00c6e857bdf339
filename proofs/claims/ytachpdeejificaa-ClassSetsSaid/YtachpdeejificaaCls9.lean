/- Classes, the document's way, on: Of. -/
import Derived.Test.YtachpdeejificaaCls8
set_option linter.unusedVariables false
set_option linter.unusedSimpArgs false
namespace Go.Proofs.Ytachpdeejificaa
open Go.RowKit
theorem srng_none (f : Nat → Bool) (lo : Nat) : (setCells fun j => f j || (decide (lo ≤ j) && decide (j < lo))) = setCells f := setCells_congr fun j _ => by
  have h : (decide (lo ≤ j) && decide (j < lo)) = false := by
    by_cases q : lo ≤ j
    · simp [show ¬ j < lo by omega]
    · simp [q]
  rw [h, Bool.or_false]
theorem srng_put (f : Nat → Bool) (lo m : Nat) (h : lo ≤ m) : (setCells fun j => f j || (decide (lo ≤ j) && decide (j < m))).setIfInBounds m (.bool true) = setCells fun j => f j || (decide (lo ≤ j) && decide (j < m + 1)) := by
  rw [setCells_set]
  refine setCells_congr fun j _ => ?_
  by_cases e : j = m
  · subst e; simp [h]
  · rw [if_neg e, show decide (j < m + 1) = decide (j < m) by by_cases q : j < m <;> simp [q] <;> omega]
theorem srng_done (l : List (Nat × Nat)) (k lo hi m : Nat) (hk : k < l.length) (hp : l.getD k (0, 0) = (lo, hi)) (hle : hi < m) (h3 : m ≤ hi + 1 ∨ m = lo) :
    (setCells fun j => inRanges (l.take k) j || (decide (lo ≤ j) && decide (j < m))) = setCells (inRanges (l.take (k + 1))) := setCells_congr fun j hj => by
  have h1 := Cls.mem_ofFn (fun j => inRanges (l.take k) j || (decide (lo ≤ j) && decide (j < m))) j hj
  rw [rng_done l k lo hi m hk hp hle h3, Cls.mem_ofFn _ _ hj] at h1
  exact h1.symm
set_option maxRecDepth 100000 in
theorem ofR_c (A : Option Addr) (n cap : Nat) (l : List (Nat × Nat)) (w : World) (h : RdRanges w A n l) : Calls Try.prog 14 #[.slice A n cap] w fun e w' => e = .returned (V4 (Cls.ofFn (inRanges l))) ∧ Below w.heap.size w w' := by
  obtain ⟨hl, hn, hr, hc⟩ := h
  have HC := Lib.hid hc; have HR := Lib.hid hr; have HL := Lib.hid hl; clear hc hr hl
  have hv := zeroSet.1
  go_enter Try.func14, Try.ntmps14
  go_wp2
  go_loopw [4, 5] (fun i _ wr => ∃ k : Nat, k ≤ n ∧ i = .int .i64 k ∧ Below w.heap.size w wr ∧ wr.heap[w.heap.size]? = some (.cells Cls.none.cells 24 (0, 0)) ∧
      wr.heap[w.heap.size + 1]? = some (.cells (setCells (inRanges (l.take k))) 62 (0, 0))) (fun i _ _ => n - (intOf i).toNat)
  case atStart =>
    exact ⟨0, by omega, rfl, ((Below.refl _ _).alloc (Nat.le_refl _) _).alloc (by simp) _, heap_keep (heap_new _ _), by
      rw [show setCells (inRanges (l.take 0)) = Array.replicate 256 (.bool false) by rw [← setCells_false]; rfl]; exact heap_new1 _ _ _⟩
  case round =>
    obtain ⟨k, hk, rfl, hB, h0, h1⟩ := hrel
    obtain ⟨wo, rfl⟩ : ∃ wo : World, wo = wr := ⟨_, rfl⟩
    by_cases hlt : k < n
    · obtain ⟨b, off, hA, hcs⟩ := HC.out (by omega)
      obtain ⟨c0, c1⟩ := hcs k hlt
      subst hA
      have hb0 := World.block_lt_of_cell? _ _ c0
      dsimp only at hb0
      have d0 := (hB.cell (p := ⟨b, off + k * 2, none⟩) hb0).trans c0
      obtain ⟨lo, hi, hp⟩ : ∃ lo hi, l.getD k (0, 0) = (lo, hi) := ⟨_, _, rfl⟩
      rw [hp] at d0 c1
      have H0 := Lib.hid h0; have H1 := Lib.hid h1; have HP := Lib.hid hp; clear h0 h1 hp c0 hcs
      have hm : (lo, hi) ∈ l := by rw [← HP.out, List.getD_eq_getElem?_getD, List.getElem?_eq_getElem (by rw [HL.out]; exact hlt)]; exact List.getElem_mem _
      have hlo : lo < 256 := (HR.out _ hm).1
      have hhi : hi < 256 := (HR.out _ hm).2
      clear hm
      go_wp2
      go_loopw [5] (fun i wq => ∃ m : Nat, lo ≤ m ∧ m ≤ 256 ∧ (m ≤ hi + 1 ∨ m = lo) ∧ i = .int .i64 m ∧ Below w.heap.size w wq ∧ wq.heap[w.heap.size]? = some (.cells Cls.none.cells 24 (0, 0)) ∧
        wq.heap[w.heap.size + 1]? = some (.cells (setCells fun j => inRanges (l.take k) j || (decide (lo ≤ j) && decide (j < m))) 62 (0, 0))) (fun i _ => 256 - (intOf i).toNat)
      case atStart =>
        exact ⟨lo, by omega, by omega, .inr rfl, by first | rfl | (go_simp; done), hB, H0.out, by rw [srng_none]; exact H1.out⟩
      case round =>
        obtain ⟨m, hm1, hm2, hm3, rfl, hBq, q0, q1⟩ := hrel
        have e1 := (hBq.cell (p := ⟨b, off + k * 2 + 1, none⟩) hb0).trans c1
        have Q0 := Lib.hid q0; have H3 := Lib.hid hm3; clear q0 hm3
        by_cases hle : m ≤ hi
        · have c2 : wr.cell? ⟨w.heap.size + 1, m, none⟩ = some (.bool (inRanges (l.take k) m || (decide (lo ≤ m) && decide (m < m)))) := by rw [cell_of_row _ _ _ _ _ _ q1, setCells_at _ _ (by omega)]
          have f2 : wr.frozen? ⟨w.heap.size + 1, m, none⟩ = false := frozen_of_row _ _ _ _ _ q1
          have Q1 := Lib.hid q1; clear q1
          go_wp2
          go_roundw
          case rel =>
            refine ⟨m + 1, by omega, by omega, .inl (by omega), by go_num, hBq.setCell (by dsimp only; omega) _, heap_other (by dsimp only; omega) Q0.out, ?_⟩
            rw [heap_put Q1.out, srng_put _ _ _ hm1]
          case measure => simp [intOf]; omega
        · have Q1 := Lib.hid q1; clear q1
          go_wp2
          go_roundw
          case rel =>
            refine ⟨k + 1, by omega, by go_num, hBq, Q0.out, ?_⟩
            rw [Q1.out, srng_done l k lo hi m (by rw [HL.out]; exact hlt) HP.out (by omega) H3.out]
          case measure => simp [intOf]; omega
    · obtain rfl : k = n := by omega
      have H0 := Lib.hid h0; have H1 := Lib.hid h1; clear h0 h1
      have hc := close_c (inRanges (l.take k))
      unfold setVal at hc
      have HK := Lib.hid hc; clear hc
      go_wp2_with (first | (refine wpList_load_row rfl 62 _ rfl (w.heap.size + 1) rfl _ _ _ _ H1.out Try.underlying62 rfl (infoSet _) ?_) | (go_at_call 38; refine (HK.out _).mono ?_; rintro e w2 ⟨rfl, hb2⟩) | (refine wpList_store_row rfl 24 _ _ rfl w.heap.size _ rfl rfl _ _ (heap_same hb2 H0.out) (infoCls _) rfl (Cls.cells_one (Cls.ofFn _)) ?_))
      have H4 := Lib.hid (setRow_heap w2 w.heap.size _ (Cls.ofFn (inRanges (l.take k))).cells 24 (0, 0) (heap_same hb2 H0.out))
      refine bodyPost_ret (v := V4 (Cls.ofFn (inRanges (l.take k)))) (results_cell_row Try.results14 _ _ _ _ _ _ _ rfl H4.out Try.underlying24 rfl (infoCls _)) rfl ⟨?_, below_setRow (hB.trans (hb2.mono hB.size)) (Nat.le_refl _) _⟩
      rw [List.take_of_length_le (by rw [HL.out]; exact Nat.le_refl _)]
end Go.Proofs.Ytachpdeejificaa

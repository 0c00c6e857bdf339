/- Classes: Of. -/
import Derived.Test.YtachpdeejificaaCls7
set_option linter.unusedVariables false
set_option linter.unusedSimpArgs false
namespace Go.Proofs.Ytachpdeejificaa
open Go.RowKit
/-- A slice of ranges that is read. -/
def RdRanges (w : World) (A : Option Addr) (n : Nat) (l : List (Nat × Nat)) : Prop :=
  l.length = n ∧ n * 2 ≤ 140737488351232 ∧ (∀ p ∈ l, p.1 < 256 ∧ p.2 < 256) ∧ (0 < n → ∃ b off, A = some ⟨b, off, none⟩ ∧
    ∀ j, j < n → w.cell? ⟨b, off + j * 2, none⟩ = some (.int .u8 ((l.getD j (0, 0)).1 : Int)) ∧ w.cell? ⟨b, off + j * 2 + 1, none⟩ = some (.int .u8 ((l.getD j (0, 0)).2 : Int)))
/-- Is a byte in one of some ranges? -/
def inRanges (l : List (Nat × Nat)) (i : Nat) : Bool := l.any fun p => decide (p.1 ≤ i) && decide (i ≤ p.2)
theorem rng_none (f : Nat → Bool) (lo : Nat) : (Cls.ofFn fun j => f j || (decide (lo ≤ j) && decide (j < lo))) = Cls.ofFn f := Cls.ofFn_congr fun j _ => by
  have h : (decide (lo ≤ j) && decide (j < lo)) = false := by
    by_cases q : lo ≤ j
    · simp [show ¬ j < lo by omega]
    · simp [q]
  rw [h, Bool.or_false]
theorem rng_put (f : Nat → Bool) (lo m : Nat) (h : lo ≤ m) (hm : m < 256) : (Cls.ofFn fun j => f j || (decide (lo ≤ j) && decide (j < m))).put m = Cls.ofFn fun j => f j || (decide (lo ≤ j) && decide (j < m + 1)) := by
  rw [Cls.put_ofFn _ _ hm]
  refine Cls.ofFn_congr fun j _ => ?_
  by_cases e : j = m
  · subst e; simp [h]
  · rw [show decide (j < m + 1) = decide (j < m) by by_cases q : j < m <;> simp [q] <;> omega]
    simp [e]
theorem rng_done (l : List (Nat × Nat)) (k lo hi m : Nat) (hk : k < l.length) (hp : l.getD k (0, 0) = (lo, hi)) (hle : hi < m) (h3 : m ≤ hi + 1 ∨ m = lo) :
    (Cls.ofFn fun j => inRanges (l.take k) j || (decide (lo ≤ j) && decide (j < m))) = Cls.ofFn (inRanges (l.take (k + 1))) := Cls.ofFn_congr fun j _ => by
  have ht : l.take (k + 1) = l.take k ++ [(lo, hi)] := by
    rw [List.take_succ_eq_append_getElem hk]
    rw [List.getD_eq_getElem?_getD, List.getElem?_eq_getElem hk] at hp
    simp only [Option.getD_some] at hp
    rw [hp]
  rw [ht]
  unfold inRanges
  rw [List.any_append]
  have h : (decide (lo ≤ j) && decide (j < m)) = (decide (lo ≤ j) && decide (j ≤ hi)) := by
    by_cases q : lo ≤ j
    · by_cases q2 : j ≤ hi
      · simp [q, q2, show j < m by omega]
      · simp [q, q2, show ¬ j < m by omega]
    · simp [q]
  rw [h]
  simp
set_option maxRecDepth 100000 in
theorem of_c (A : Option Addr) (n cap : Nat) (l : List (Nat × Nat)) (w : World) (h : RdRanges w A n l) : Calls Try.prog 13 #[.slice A n cap] w fun e w' => e = .returned (V4 (Cls.ofFn (inRanges l))) ∧ Below w.heap.size w w' := by
  obtain ⟨hl, hn, hr, hc⟩ := h
  have HC := Lib.hid hc; have HR := Lib.hid hr; have HL := Lib.hid hl; clear hc hr hl
  go_enter Try.func13, Try.ntmps13
  go_wp2
  go_loopw [9, 5, 6] (fun i _ _ wr => ∃ k : Nat, k ≤ n ∧ i = .int .i64 k ∧ Below w.heap.size w wr ∧ wr.heap[w.heap.size]? = some (.cells Cls.none.cells 24 (0, 0)) ∧
      wr.heap[w.heap.size + 1]? = some (.cells (Cls.ofFn (inRanges (l.take k))).cells 24 (0, 0))) (fun i _ _ _ => n - (intOf i).toNat)
  case atStart =>
    exact ⟨0, by omega, rfl, ((Below.refl _ _).alloc (Nat.le_refl _) _).alloc (by simp) _, heap_keep (heap_new _ _), by
      rw [show Cls.ofFn (inRanges (l.take 0)) = Cls.none by rw [Cls.none_ofFn]; rfl]; exact heap_new1 _ _ _⟩
  case round =>
    obtain ⟨k, hk, rfl, hB, h0, h1⟩ := hrel
    obtain ⟨wo, rfl⟩ : ∃ wo : World, wo = wr := ⟨_, rfl⟩
    by_cases hlt : k < n
    · obtain ⟨b, off, hA, hcs⟩ := HC.out (by omega)
      obtain ⟨c0, c1⟩ := hcs k hlt
      subst hA
      have hb0 := World.block_lt_of_cell? _ _ c0
      dsimp only at hb0
      have d0 := (hB.cell (p := ⟨b, off + k * 2, none⟩) hb0).trans c0
      have d1 := (hB.cell (p := ⟨b, off + k * 2 + 1, none⟩) hb0).trans c1
      obtain ⟨lo, hi, hp⟩ : ∃ lo hi, l.getD k (0, 0) = (lo, hi) := ⟨_, _, rfl⟩
      rw [hp] at d0 d1
      have H0 := Lib.hid h0; have H1 := Lib.hid h1; have HP := Lib.hid hp; clear h0 h1 hp c0 c1 hcs
      have hm : (lo, hi) ∈ l := by rw [← HP.out, List.getD_eq_getElem?_getD, List.getElem?_eq_getElem (by rw [HL.out]; exact hlt)]; exact List.getElem_mem _
      have hlo : lo < 256 := (HR.out _ hm).1
      have hhi : hi < 256 := (HR.out _ hm).2
      clear hm
      go_wp2
      go_loopw [6] (fun i wq => ∃ m : Nat, lo ≤ m ∧ m ≤ 256 ∧ (m ≤ hi + 1 ∨ m = lo) ∧ i = .int .i64 m ∧ Below w.heap.size w wq ∧ w.heap.size + 1 < wo.heap.size ∧ wq.heap[w.heap.size]? = some (.cells Cls.none.cells 24 (0, 0)) ∧
        wq.heap[w.heap.size + 1]? = some (.cells (Cls.ofFn fun j => inRanges (l.take k) j || (decide (lo ≤ j) && decide (j < m))).cells 24 (0, 0)) ∧ wq.heap[wo.heap.size]? = some (.cells #[.int .u8 lo, .int .u8 hi] 34 (0, 0))) (fun i _ => 256 - (intOf i).toNat)
      case atStart =>
        have hsz := heap_lt H1.out
        refine ⟨lo, by omega, by omega, .inr rfl, by first | rfl | (go_simp; done), hB.alloc hB.size _, by omega, heap_keep H0.out, ?_, heap_new _ _⟩
        rw [rng_none]
        exact heap_keep H1.out
      case round =>
        obtain ⟨m, hm1, hm2, hm3, rfl, hBq, hsz, q0, q1, q2⟩ := hrel
        have c0 : wr.cell? ⟨wo.heap.size, 1, none⟩ = some (.int .u8 (hi : Int)) := by rw [cell_of_row _ _ _ _ _ _ q2]; rfl
        have Q0 := Lib.hid q0; have Q1 := Lib.hid q1; have Q2 := Lib.hid q2; have H3 := Lib.hid hm3; clear q0 q1 q2 hm3
        by_cases hle : m ≤ hi
        · go_wp2_with (go_at_call 37; refine (put_c _ (Cls.ok_ofFn _) m (by omega) (w.heap.size + 1) _ Q1.out).mono ?_; rintro e w' ⟨rfl, rfl⟩)
          go_roundw
          case rel =>
            refine ⟨m + 1, by omega, by omega, .inl (by omega), by go_num, (hBq.setCell (by dsimp only; omega) _).drew, hsz, heap_drew' (heap_other (by dsimp only; omega) Q0.out), heap_drew' ?_, heap_drew' (heap_other (by dsimp only; omega) Q2.out)⟩
            rw [heap_put Q1.out, Cls.cells_put (by omega), rng_put _ _ _ hm1 (by omega)]
          case measure => simp [intOf]; omega
        · go_wp2
          go_roundw
          case rel =>
            refine ⟨k + 1, by omega, by go_num, hBq, Q0.out, ?_⟩
            rw [Q1.out, rng_done l k lo hi m (by rw [HL.out]; exact hlt) HP.out (by omega) H3.out]
          case measure => simp [intOf]; omega
    · obtain rfl : k = n := by omega
      have H0 := Lib.hid h0; have H1 := Lib.hid h1; clear h0 h1
      go_wp2_with (first | (refine wpList_load_row rfl 24 _ rfl (w.heap.size + 1) rfl _ _ _ _ H1.out Try.underlying24 rfl (infoCls _) ?_) | (refine wpList_store_row rfl 24 _ _ rfl w.heap.size _ rfl rfl _ _ H0.out (infoCls _) rfl (Cls.cells_one (Cls.ofFn _)) ?_))
      have H4 := Lib.hid (setRow_heap wo w.heap.size _ (Cls.ofFn (inRanges (l.take k))).cells 24 (0, 0) H0.out)
      refine bodyPost_ret (v := V4 (Cls.ofFn (inRanges (l.take k)))) (results_cell_row Try.results13 _ _ _ _ _ _ _ rfl H4.out Try.underlying24 rfl (infoCls _)) rfl ⟨?_, below_setRow hB (Nat.le_refl _) _⟩
      rw [List.take_of_length_le (by rw [HL.out]; exact Nat.le_refl _)]
end Go.Proofs.Ytachpdeejificaa

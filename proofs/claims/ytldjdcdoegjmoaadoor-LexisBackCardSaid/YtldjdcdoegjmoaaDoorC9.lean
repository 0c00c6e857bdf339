import Derived.BigQuiet
import Derived.Lib.BufferOwn
import Derived.Test.YtldjdcdoegjmoaaDoorC7
set_option linter.unusedVariables false
set_option linter.unusedSimpArgs false
namespace Go.Proofs.YtldjdcdoegjmoaaDoor
open Go.RowKit
/-- A text's byte at a place; 0: there is none. -/
def bat (s : ByteArray) (i : Nat) : Nat := (s.data.toList.getD i 0).toNat
theorem bat_lt (s : ByteArray) (i : Nat) : bat s i < 256 := (s.data.toList.getD i 0).toNat_lt
theorem bat_eq (s : ByteArray) (i : Nat) (h : i < s.size) : (s[i]'h).toNat = bat s i := by
  unfold bat
  rw [List.getD_eq_getElem?_getD, List.getElem?_eq_getElem (by simpa using h)]
  rfl
/-- What a hexadecimal digit is worth; -1: it is none. -/
def hexv (c : Nat) : Int := if 48 ≤ c ∧ c ≤ 57 then (c : Int) - 48 else if 97 ≤ c ∧ c ≤ 102 then (c : Int) - 87 else if 65 ≤ c ∧ c ≤ 70 then (c : Int) - 55 else -1
theorem hexv_hi (c : Nat) : hexv c ≤ 15 := by unfold hexv; split <;> (try split) <;> (try split) <;> omega
set_option maxRecDepth 100000 in
theorem or32 : ∀ c : Fin 256, bits .or .u8 ((c.val : Nat) : Int) 32 = if c.val / 32 % 2 = 1 then ((c.val : Nat) : Int) else ((c.val : Nat) : Int) + 32 := by decide +kernel
theorem ret_int {k : IntKind} {a b : Int} (h : a = b) : Ending.returned (.int k a) = .returned (.int k b) := by rw [h]
theorem digit_c (c : Nat) (hc : c < 256) (w : World) : Calls Tryd.prog 105 #[.int .u8 (c : Int)] w fun e w' => e = .returned (.int .i64 (hexv c)) ∧ w' = w := by
  have hx := or32 ⟨c, hc⟩
  dsimp only at hx
  go_enter Tryd.func105, Tryd.ntmps105
  go_wp2
  all_goals go_ret
  all_goals refine ⟨ret_int ?_, rfl⟩
  all_goals unfold hexv
  all_goals split at hx <;> split <;> (try split) <;> (try split) <;> omega
end Go.Proofs.YtldjdcdoegjmoaaDoor
set_option linter.unusedVariables false
set_option linter.unusedSimpArgs false
namespace Go.Proofs.YtldjdcdoegjmoaaDoor
open Go.RowKit
theorem gb_drew {w w' : World} {row : Option Nat} (h : w.grownBy w' row) : w.grownBy w'.drew row := ⟨h.os, h.tape, h.output, h.size, h.block⟩
theorem gb_drewN {w w' : World} {n : Nat} {row : Option Nat} (h : w.grownBy w' row) : w.grownBy (w'.drewN n) row := ⟨h.os, h.tape, h.output, h.size, h.block⟩
theorem gb_refl (w : World) (row : Option Nat) : w.grownBy w row := World.grownBy.refl w row
/-- A class's reader: its cells. -/
def rdCells (s : ByteArray) (b p : Nat) : Array Value := #[.string s, .int .i64 (b : Int), .int .i64 (p : Int)]
def RdAt (w : World) (g : Nat) (s : ByteArray) (b p : Nat) : Prop := w.heap[g]? = some (.cells (rdCells s b p) 96 (0, 0))
def bigN : Nat := 4611686018427387904
theorem RdAt.c0 {w : World} {g : Nat} {s : ByteArray} {b p : Nat} (h : RdAt w g s b p) : w.cell? ⟨g, 0, none⟩ = some (.string s) := by rw [cell_of_row _ _ _ _ _ _ h]; rfl
theorem RdAt.c1 {w : World} {g : Nat} {s : ByteArray} {b p : Nat} (h : RdAt w g s b p) : w.cell? ⟨g, 1, none⟩ = some (.int .i64 (b : Int)) := by rw [cell_of_row _ _ _ _ _ _ h]; rfl
theorem RdAt.c2 {w : World} {g : Nat} {s : ByteArray} {b p : Nat} (h : RdAt w g s b p) : w.cell? ⟨g, 2, none⟩ = some (.int .i64 (p : Int)) := by rw [cell_of_row _ _ _ _ _ _ h]; rfl
theorem RdAt.f2 {w : World} {g : Nat} {s : ByteArray} {b p : Nat} (h : RdAt w g s b p) : w.frozen? ⟨g, 2, none⟩ = false := frozen_of_row _ _ _ _ _ h
theorem RdAt.moved {w : World} {g : Nat} {s : ByteArray} {b p : Nat} (h : RdAt w g s b p) (q : Nat) : RdAt (w.setCell ⟨g, 2, none⟩ (.int .i64 (q : Int))) g s b q := heap_put h
def Skipped (s : ByteArray) (b p g x : Nat) (w : World) (e : Ending) (w' : World) : Prop :=
  e = .returned (.bool (decide (p < s.size ∧ bat s p = x))) ∧ w.grownBy w' (some g) ∧ RdAt w' g s b (if p < s.size ∧ bat s p = x then p + 1 else p)
set_option maxRecDepth 100000 in
theorem skip_c (s : ByteArray) (hs : s.size ≤ bigN) (b p g x : Nat) (hx : x < 256) (hp : p ≤ s.size) (w : World) (H : RdAt w g s b p) : Calls Tryd.prog 77 #[.pointer (some ⟨g, 0, none⟩), .int .u8 (x : Int)] w (Skipped s b p g x w) := by
  have c0 := H.c0; have c2 := H.c2; have f2 := H.f2
  unfold bigN at hs
  go_enter Tryd.func77, Tryd.ntmps77
  by_cases hlt : p < s.size
  · have hb := bat_eq s p hlt
    by_cases he : bat s p = x
    · have hd : decide (((bat s p : Nat) : Int) = (x : Int)) = true := by simp [he]
      rw [← hb] at hd
      go_wp2
      go_quiet (fail)
      go_wp2
      go_ret
      unfold Skipped
      rw [decide_eq_true ⟨hlt, he⟩, if_pos ⟨hlt, he⟩]
      exact ⟨rfl, Go.Lib.grownBy_setB (gb_drewN (gb_refl _ _)) _ _, H.moved _⟩
    · have hd : decide (((bat s p : Nat) : Int) = (x : Int)) = false := by simp; omega
      rw [← hb] at hd
      go_wp2
      go_quiet (fail)
      go_wp2
      go_ret
      unfold Skipped
      rw [decide_eq_false (fun h => he h.2), if_neg (fun h => he h.2)]
      exact ⟨rfl, gb_drewN (gb_refl _ _), H⟩
  · go_wp2
    go_quiet (fail)
    go_wp2
    go_ret
    unfold Skipped
    rw [decide_eq_false (fun h => hlt h.1), if_neg (fun h => hlt h.1)]
    exact ⟨rfl, gb_drewN (gb_refl _ _), H⟩
end Go.Proofs.YtldjdcdoegjmoaaDoor
set_option linter.unusedVariables false
set_option linter.unusedSimpArgs false
namespace Go.Proofs.YtldjdcdoegjmoaaDoor
open Go.RowKit
/-- What an escape says: the byte, the place behind it, what is wrong. -/
def escF (s : ByteArray) (p : Nat) : Nat × Nat × Nat :=
  if p + 1 < s.size then
    if bat s (p + 1) = 116 then (9, p + 2, 0) else if bat s (p + 1) = 110 then (10, p + 2, 0) else if bat s (p + 1) = 114 then (13, p + 2, 0)
    else if bat s (p + 1) = 92 ∨ bat s (p + 1) = 93 ∨ bat s (p + 1) = 45 ∨ bat s (p + 1) = 94 ∨ bat s (p + 1) = 39 ∨ bat s (p + 1) = 34 then (bat s (p + 1), p + 2, 0)
    else if bat s (p + 1) = 120 ∧ p + 3 < s.size ∧ 0 ≤ hexv (bat s (p + 2)) ∧ 0 ≤ hexv (bat s (p + 3)) then ((16 * hexv (bat s (p + 2)) + hexv (bat s (p + 3))).toNat, p + 4, 0)
    else (0, p, 42)
  else (0, p, 42)
/-- A fault at a place, or none. -/
def fv (p c : Nat) : Value := if c = 0 then .agg #[.int .i64 0, .int .i64 0] else .agg #[.int .i64 (p : Int), .int .i64 (c : Int)]
def Escaped (s : ByteArray) (b p g : Nat) (f : Nat × Nat × Nat) (w : World) (e : Ending) (w' : World) : Prop :=
  e = .returned (.tuple #[.int .u8 (f.1 : Int), fv p f.2.2]) ∧ w.grownBy w' (some g) ∧ RdAt w' g s b f.2.1
theorem gb_new {w w' : World} {row : Option Nat} (h : w.grownBy w' row) (a : Addr) (ha : w.heap.size ≤ a.block) (v : Value) : w.grownBy (w'.setCell a v) row :=
  ⟨by simpa [World.setCell] using h.os, by simpa [World.setCell] using h.tape, by simpa [World.setCell] using h.output, by rw [size_setCell]; exact h.size, fun k hk hr => (Below.heap_setCell _ _ _ _ (by omega)).trans (h.block k hk hr)⟩
theorem RdAt.new {w : World} {g : Nat} {s : ByteArray} {b p : Nat} (h : RdAt w g s b p) (a : Addr) (v : Value) (ha : g ≠ a.block) : RdAt (w.setCell a v) g s b p := heap_other ha h
theorem RdAt.drewN {w : World} {g : Nat} {s : ByteArray} {b p n : Nat} (h : RdAt w g s b p) : RdAt (w.drewN n) g s b p := h
theorem RdAt.drew {w : World} {g : Nat} {s : ByteArray} {b p : Nat} (h : RdAt w g s b p) : RdAt w.drew g s b p := h
theorem RdAt.alloc {w : World} {g : Nat} {s : ByteArray} {b p : Nat} (h : RdAt w g s b p) (o : Obj) : RdAt (w.alloc o) g s b p := heap_keep h
theorem RdAt.moved1 {w : World} {g : Nat} {s : ByteArray} {b p : Nat} (h : RdAt w g s b p) : RdAt (w.setCell ⟨g, 2, none⟩ (.int .i64 ((p : Int) + 1))) g s b (p + 1) := h.moved (p + 1)
theorem RdAt.moved2 {w : World} {g : Nat} {s : ByteArray} {b p : Nat} (h : RdAt w g s b p) : RdAt (w.setCell ⟨g, 2, none⟩ (.int .i64 ((p : Int) + 2))) g s b (p + 2) := h.moved (p + 2)
theorem RdAt.moved4 {w : World} {g : Nat} {s : ByteArray} {b p : Nat} (h : RdAt w g s b p) : RdAt (w.setCell ⟨g, 2, none⟩ (.int .i64 ((p : Int) + 4))) g s b (p + 4) := h.moved (p + 4)
theorem esc_ok {s : ByteArray} {b p g x q : Nat} {w w' : World} {X : Value} {f : Nat × Nat × Nat} (hf : f = (x, q, 0)) (hX : X = .int .u8 (x : Int)) (hw : w.grownBy w' (some g)) (h : RdAt w' g s b q) :
    Escaped s b p g f w (.returned (.tuple #[X, .agg #[.int .i64 0, .int .i64 0]])) w' := by subst hf; exact ⟨by rw [hX]; rfl, hw, h⟩
theorem esc_bad {s : ByteArray} {b p g a c : Nat} {w w' : World} {f : Nat × Nat × Nat} (hf : f = (0, p, c)) (hc : c ≠ 0) {C : Int} (hC : C = (c : Int)) (ha : a = p) (hw : w.grownBy w' (some g)) (h : RdAt w' g s b p) :
    Escaped s b a g f w (.returned (.tuple #[.int .u8 0, .agg #[.int .i64 (p : Int), .int .i64 C]])) w' := by subst hf; exact ⟨by unfold fv; rw [if_neg hc, hC, ha]; rfl, hw, h⟩
theorem escF_end {s : ByteArray} {p : Nat} (h : ¬ p + 1 < s.size) : escF s p = (0, p, 42) := by unfold escF; rw [if_neg h]
theorem escF_t {s : ByteArray} {p : Nat} (h : p + 1 < s.size) (hd : bat s (p + 1) = 116) : escF s p = (9, p + 2, 0) := by unfold escF; rw [if_pos h, if_pos hd]
theorem escF_n {s : ByteArray} {p : Nat} (h : p + 1 < s.size) (hd : bat s (p + 1) = 110) : escF s p = (10, p + 2, 0) := by unfold escF; rw [if_pos h, if_neg (by omega), if_pos hd]
theorem escF_r {s : ByteArray} {p : Nat} (h : p + 1 < s.size) (hd : bat s (p + 1) = 114) : escF s p = (13, p + 2, 0) := by unfold escF; rw [if_pos h, if_neg (by omega), if_neg (by omega), if_pos hd]
theorem escF_q {s : ByteArray} {p : Nat} (h : p + 1 < s.size) (hd : bat s (p + 1) = 92 ∨ bat s (p + 1) = 93 ∨ bat s (p + 1) = 45 ∨ bat s (p + 1) = 94 ∨ bat s (p + 1) = 39 ∨ bat s (p + 1) = 34) : escF s p = (bat s (p + 1), p + 2, 0) := by
  unfold escF; rw [if_pos h, if_neg (by omega), if_neg (by omega), if_neg (by omega), if_pos hd]
theorem escF_x {s : ByteArray} {p : Nat} (h : p + 3 < s.size) (hd : bat s (p + 1) = 120) (h0 : 0 ≤ hexv (bat s (p + 2))) (h1 : 0 ≤ hexv (bat s (p + 3))) : escF s p = ((16 * hexv (bat s (p + 2)) + hexv (bat s (p + 3))).toNat, p + 4, 0) := by
  unfold escF; rw [if_pos (by omega), if_neg (by omega), if_neg (by omega), if_neg (by omega), if_neg (by omega), if_pos ⟨hd, h, h0, h1⟩]
theorem escF_no {s : ByteArray} {p : Nat} (h1 : bat s (p + 1) ≠ 116) (h2 : bat s (p + 1) ≠ 110) (h3 : bat s (p + 1) ≠ 114) (h4 : ¬ (bat s (p + 1) = 92 ∨ bat s (p + 1) = 93 ∨ bat s (p + 1) = 45 ∨ bat s (p + 1) = 94 ∨ bat s (p + 1) = 39 ∨ bat s (p + 1) = 34))
    (h5 : bat s (p + 1) = 120 → p + 3 < s.size → 0 ≤ hexv (bat s (p + 2)) → 0 ≤ hexv (bat s (p + 3)) → False) : escF s p = (0, p, 42) := by
  unfold escF; split
  · rw [if_neg (fun h => h5 h.1 h.2.1 h.2.2.1 h.2.2.2)]
  · rfl
theorem qa_same {P : Program} {f : FuncId} {args : Array Value} {w : World} {a n : Nat} {v : Value} (h : Calls P f args (w.drewN (a + n)) fun e w' => e = .returned v ∧ w' = w.drewN (a + n)) :
    Calls P f args (w.drewN (a + n)) fun e w' => e = .returned v ∧ ∃ m, w' = w.drewN (a + m) := h.mono fun _ _ q => ⟨q.1, n, q.2⟩
theorem hex_or : ∀ a b : Fin 16, IntKind.u8.wrap (bits .or .i64 (((a.val : Nat) : Int) * 16) ((b.val : Nat) : Int)) = 16 * ((a.val : Nat) : Int) + ((b.val : Nat) : Int) := by decide +kernel
set_option maxRecDepth 100000 in
set_option maxHeartbeats 1000000 in
theorem escape_c (s : ByteArray) (hs : s.size ≤ bigN) (b p g : Nat) (hp : p < s.size) (w : World) (H : RdAt w g s b p) : Calls Tryd.prog 99 #[.pointer (some ⟨g, 0, none⟩)] w (Escaped s b p g (escF s p) w) := by
  have c0 := H.c0; have c2 := H.c2; have f2 := H.f2; have hg := heap_lt H
  unfold bigN at hs
  go_enter Tryd.func99, Tryd.ntmps99
  by_cases hlt : p + 1 < s.size
  · have hb := bat_eq s (p + 1) hlt
    go_wp2
    go_quiet (fail)
    go_wp2
    go_quiet (fail)
    have HB := Lib.hid hb; clear hb
    by_cases d1 : bat s (p + 1) = 116
    · have hd : (s[p + 1]'hlt).toNat = 116 := HB.out.trans d1
      have HF := Lib.hid (escF_t hlt d1)
      go_wp2
      refine bodyPost_ret (v := .tuple #[.int .u8 9, .agg #[.int .i64 0, .int .i64 0]]) (by simp [results, Tryd.results99, go_sem]) rfl (esc_ok HF.out ?_ ?_ ?_)
      · first | rfl | (simp [*]; done)
      · (repeat (first | with_reducible exact gb_refl _ _ | with_reducible apply gb_drewN | with_reducible apply gb_drew | with_reducible apply Go.Lib.grownBy_allocR | (with_reducible refine gb_new ?_ _ (by dsimp only; omega) _) | with_reducible apply Go.Lib.grownBy_setB))
      · ((repeat (first | with_reducible apply RdAt.drewN | with_reducible apply RdAt.drew | with_reducible apply RdAt.alloc | with_reducible apply RdAt.moved2 | with_reducible apply RdAt.moved4 | with_reducible apply RdAt.moved1 | (with_reducible refine RdAt.new ?_ _ _ (by dsimp only; omega)))); exact H)
    by_cases d2 : bat s (p + 1) = 110
    · have hd : (s[p + 1]'hlt).toNat = 110 := HB.out.trans d2
      have HF := Lib.hid (escF_n hlt d2)
      go_wp2
      refine bodyPost_ret (v := .tuple #[.int .u8 10, .agg #[.int .i64 0, .int .i64 0]]) (by simp [results, Tryd.results99, go_sem]) rfl (esc_ok HF.out ?_ ?_ ?_)
      · first | rfl | (simp [*]; done)
      · (repeat (first | with_reducible exact gb_refl _ _ | with_reducible apply gb_drewN | with_reducible apply gb_drew | with_reducible apply Go.Lib.grownBy_allocR | (with_reducible refine gb_new ?_ _ (by dsimp only; omega) _) | with_reducible apply Go.Lib.grownBy_setB))
      · ((repeat (first | with_reducible apply RdAt.drewN | with_reducible apply RdAt.drew | with_reducible apply RdAt.alloc | with_reducible apply RdAt.moved2 | with_reducible apply RdAt.moved4 | with_reducible apply RdAt.moved1 | (with_reducible refine RdAt.new ?_ _ _ (by dsimp only; omega)))); exact H)
    by_cases d3 : bat s (p + 1) = 114
    · have hd : (s[p + 1]'hlt).toNat = 114 := HB.out.trans d3
      have HF := Lib.hid (escF_r hlt d3)
      go_wp2
      refine bodyPost_ret (v := .tuple #[.int .u8 13, .agg #[.int .i64 0, .int .i64 0]]) (by simp [results, Tryd.results99, go_sem]) rfl (esc_ok HF.out ?_ ?_ ?_)
      · first | rfl | (simp [*]; done)
      · (repeat (first | with_reducible exact gb_refl _ _ | with_reducible apply gb_drewN | with_reducible apply gb_drew | with_reducible apply Go.Lib.grownBy_allocR | (with_reducible refine gb_new ?_ _ (by dsimp only; omega) _) | with_reducible apply Go.Lib.grownBy_setB))
      · ((repeat (first | with_reducible apply RdAt.drewN | with_reducible apply RdAt.drew | with_reducible apply RdAt.alloc | with_reducible apply RdAt.moved2 | with_reducible apply RdAt.moved4 | with_reducible apply RdAt.moved1 | (with_reducible refine RdAt.new ?_ _ _ (by dsimp only; omega)))); exact H)
    have hb := HB.out
    have n1 : ¬ (s[p + 1]'hlt).toNat = 116 := by omega
    have n2 : ¬ (s[p + 1]'hlt).toNat = 110 := by omega
    have n3 : ¬ (s[p + 1]'hlt).toNat = 114 := by omega
    by_cases d4 : bat s (p + 1) = 92 ∨ bat s (p + 1) = 93 ∨ bat s (p + 1) = 45 ∨ bat s (p + 1) = 94 ∨ bat s (p + 1) = 39 ∨ bat s (p + 1) = 34
    · have HF := Lib.hid (escF_q hlt d4)
      rw [← HB.out] at d4
      rcases d4 with d4 | d4 | d4 | d4 | d4 | d4
      all_goals go_wp2
      all_goals
        refine bodyPost_ret (v := .tuple #[.int .u8 ((bat s (p + 1) : Nat) : Int), .agg #[.int .i64 0, .int .i64 0]]) (by simp [results, Tryd.results99, go_sem]) rfl (esc_ok HF.out ?_ ?_ ?_)
        · first | rfl | (simp [*]; done)
        · (repeat (first | with_reducible exact gb_refl _ _ | with_reducible apply gb_drewN | with_reducible apply gb_drew | with_reducible apply Go.Lib.grownBy_allocR | (with_reducible refine gb_new ?_ _ (by dsimp only; omega) _) | with_reducible apply Go.Lib.grownBy_setB))
        · ((repeat (first | with_reducible apply RdAt.drewN | with_reducible apply RdAt.drew | with_reducible apply RdAt.alloc | with_reducible apply RdAt.moved2 | with_reducible apply RdAt.moved4 | with_reducible apply RdAt.moved1 | (with_reducible refine RdAt.new ?_ _ _ (by dsimp only; omega)))); exact H)
    have n4 : ¬ (s[p + 1]'hlt).toNat = 92 := by omega
    have n5 : ¬ (s[p + 1]'hlt).toNat = 93 := by omega
    have n6 : ¬ (s[p + 1]'hlt).toNat = 45 := by omega
    have n7 : ¬ (s[p + 1]'hlt).toNat = 94 := by omega
    have n8 : ¬ (s[p + 1]'hlt).toNat = 39 := by omega
    have n9 : ¬ (s[p + 1]'hlt).toNat = 34 := by omega
    by_cases d5 : bat s (p + 1) = 120
    · have hd : (s[p + 1]'hlt).toNat = 120 := HB.out.trans d5
      by_cases hl3 : p + 3 < s.size
      · have hl2 : p + 2 < s.size := by omega
        have hz2 : (0 : Int) ≤ (p : Int) + 2 ∧ (p : Int) + 2 < (s.size : Int) := ⟨by omega, by omega⟩
        have hz3 : (0 : Int) ≤ (p : Int) + 3 ∧ (p : Int) + 3 < (s.size : Int) := ⟨by omega, by omega⟩
        have hb2 := bat_eq s (p + 2) hl2
        have hb3 := bat_eq s (p + 3) hl3
        go_wp2
        go_quiet (fail)
        go_wp2
        go_quiet ((go_at_call 105; first | exact Calls.quiet_of_same (digit_c _ (bat_lt s _) _) | exact qa_same (digit_c _ (bat_lt s _) _)))
        by_cases h0 : 0 ≤ hexv (bat s (p + 2))
        · obtain ⟨x, hx⟩ := Int.eq_ofNat_of_zero_le h0
          have hx2 := hexv_hi (bat s (p + 2))
          by_cases h1 : 0 ≤ hexv (bat s (p + 3))
          · obtain ⟨y, hy⟩ := Int.eq_ofNat_of_zero_le h1
            have hy2 := hexv_hi (bat s (p + 3))
            have HF := Lib.hid (escF_x hl3 d5 h0 h1)
            rw [hx, hy] at HF
            go_wp2
            refine bodyPost_ret (v := .tuple #[.int .u8 (16 * (x : Int) + (y : Int)), .agg #[.int .i64 0, .int .i64 0]]) (by simp [results, Tryd.results99, go_sem]; exact hex_or ⟨x, by omega⟩ ⟨y, by omega⟩) rfl (esc_ok HF.out ?_ ?_ ?_)
            · congr 1
            · (repeat (first | with_reducible exact gb_refl _ _ | with_reducible apply gb_drewN | with_reducible apply gb_drew | with_reducible apply Go.Lib.grownBy_allocR | (with_reducible refine gb_new ?_ _ (by dsimp only; omega) _) | with_reducible apply Go.Lib.grownBy_setB))
            · ((repeat (first | with_reducible apply RdAt.drewN | with_reducible apply RdAt.drew | with_reducible apply RdAt.alloc | with_reducible apply RdAt.moved2 | with_reducible apply RdAt.moved4 | with_reducible apply RdAt.moved1 | (with_reducible refine RdAt.new ?_ _ _ (by dsimp only; omega)))); exact H)
          · have HF := Lib.hid (escF_no d1 d2 d3 d4 (fun _ _ _ h => absurd h h1))
            go_wp2
            go_region
            go_wp2
            refine bodyPost_ret (v := .tuple #[.int .u8 0, .agg #[.int .i64 (p : Int), .int .i64 42]]) (by simp [results, Tryd.results99, go_sem]) rfl (esc_bad HF.out (by decide) rfl rfl ?_ ?_)
            · (repeat (first | with_reducible exact gb_refl _ _ | with_reducible apply gb_drewN | with_reducible apply gb_drew | with_reducible apply Go.Lib.grownBy_allocR | (with_reducible refine gb_new ?_ _ (by dsimp only; omega) _) | with_reducible apply Go.Lib.grownBy_setB))
            · ((repeat (first | with_reducible apply RdAt.drewN | with_reducible apply RdAt.drew | with_reducible apply RdAt.alloc | with_reducible apply RdAt.moved2 | with_reducible apply RdAt.moved4 | with_reducible apply RdAt.moved1 | (with_reducible refine RdAt.new ?_ _ _ (by dsimp only; omega)))); exact H)
        · have HF := Lib.hid (escF_no d1 d2 d3 d4 (fun _ _ h _ => absurd h h0))
          go_wp2
          go_region
          go_wp2
          refine bodyPost_ret (v := .tuple #[.int .u8 0, .agg #[.int .i64 (p : Int), .int .i64 42]]) (by simp [results, Tryd.results99, go_sem]) rfl (esc_bad HF.out (by decide) rfl rfl ?_ ?_)
          · (repeat (first | with_reducible exact gb_refl _ _ | with_reducible apply gb_drewN | with_reducible apply gb_drew | with_reducible apply Go.Lib.grownBy_allocR | (with_reducible refine gb_new ?_ _ (by dsimp only; omega) _) | with_reducible apply Go.Lib.grownBy_setB))
          · ((repeat (first | with_reducible apply RdAt.drewN | with_reducible apply RdAt.drew | with_reducible apply RdAt.alloc | with_reducible apply RdAt.moved2 | with_reducible apply RdAt.moved4 | with_reducible apply RdAt.moved1 | (with_reducible refine RdAt.new ?_ _ _ (by dsimp only; omega)))); exact H)
      · have HF := Lib.hid (escF_no d1 d2 d3 d4 (fun _ h => absurd h hl3))
        go_wp2
        go_quiet (fail)
        go_wp2
        go_region
        go_wp2
        refine bodyPost_ret (v := .tuple #[.int .u8 0, .agg #[.int .i64 (p : Int), .int .i64 42]]) (by simp [results, Tryd.results99, go_sem]) rfl (esc_bad HF.out (by decide) rfl rfl ?_ ?_)
        · (repeat (first | with_reducible exact gb_refl _ _ | with_reducible apply gb_drewN | with_reducible apply gb_drew | with_reducible apply Go.Lib.grownBy_allocR | (with_reducible refine gb_new ?_ _ (by dsimp only; omega) _) | with_reducible apply Go.Lib.grownBy_setB))
        · ((repeat (first | with_reducible apply RdAt.drewN | with_reducible apply RdAt.drew | with_reducible apply RdAt.alloc | with_reducible apply RdAt.moved2 | with_reducible apply RdAt.moved4 | with_reducible apply RdAt.moved1 | (with_reducible refine RdAt.new ?_ _ _ (by dsimp only; omega)))); exact H)
    · have n0 : ¬ (s[p + 1]'hlt).toNat = 120 := by omega
      have HF := Lib.hid (escF_no d1 d2 d3 d4 (fun h => absurd h d5))
      go_wp2
      go_region
      go_wp2
      refine bodyPost_ret (v := .tuple #[.int .u8 0, .agg #[.int .i64 (p : Int), .int .i64 42]]) (by simp [results, Tryd.results99, go_sem]) rfl (esc_bad HF.out (by decide) rfl rfl ?_ ?_)
      · (repeat (first | with_reducible exact gb_refl _ _ | with_reducible apply gb_drewN | with_reducible apply gb_drew | with_reducible apply Go.Lib.grownBy_allocR | (with_reducible refine gb_new ?_ _ (by dsimp only; omega) _) | with_reducible apply Go.Lib.grownBy_setB))
      · ((repeat (first | with_reducible apply RdAt.drewN | with_reducible apply RdAt.drew | with_reducible apply RdAt.alloc | with_reducible apply RdAt.moved2 | with_reducible apply RdAt.moved4 | with_reducible apply RdAt.moved1 | (with_reducible refine RdAt.new ?_ _ _ (by dsimp only; omega)))); exact H)
  · have HF := Lib.hid (escF_end hlt)
    go_wp2
    go_quiet (fail)
    go_wp2
    go_region
    go_wp2
    refine bodyPost_ret (v := .tuple #[.int .u8 0, .agg #[.int .i64 (p : Int), .int .i64 42]]) (by simp [results, Tryd.results99, go_sem]) rfl (esc_bad HF.out (by decide) rfl rfl ?_ ?_)
    · (repeat (first | with_reducible exact gb_refl _ _ | with_reducible apply gb_drewN | with_reducible apply gb_drew | with_reducible apply Go.Lib.grownBy_allocR | (with_reducible refine gb_new ?_ _ (by dsimp only; omega) _) | with_reducible apply Go.Lib.grownBy_setB))
    · ((repeat (first | with_reducible apply RdAt.drewN | with_reducible apply RdAt.drew | with_reducible apply RdAt.alloc | with_reducible apply RdAt.moved2 | with_reducible apply RdAt.moved4 | with_reducible apply RdAt.moved1 | (with_reducible refine RdAt.new ?_ _ _ (by dsimp only; omega)))); exact H)
end Go.Proofs.YtldjdcdoegjmoaaDoor
set_option linter.unusedVariables false
set_option linter.unusedSimpArgs false
namespace Go.Proofs.YtldjdcdoegjmoaaDoor
open Go.RowKit
/-- What stands for no byte unless it is escaped. -/
def barred (c : Nat) : Prop := c < 32 ∨ 126 < c ∨ c = 93 ∨ c = 45 ∨ c = 94
instance (c : Nat) : Decidable (barred c) := by unfold barred; infer_instance
/-- What is said at a place of a text: the byte, the place behind it, what is wrong. -/
def sayF (s : ByteArray) (p : Nat) : Nat × Nat × Nat := if bat s p = 92 then escF s p else if barred (bat s p) then (0, p, 30) else (bat s p, p + 1, 0)
def byteF (s : ByteArray) (p : Nat) : Nat × Nat × Nat := if p < s.size then sayF s p else (0, p, 41)
/-- A fault, told at a place, at the beginning, or none. -/
def fv2 (b p c : Nat) : Value := if c = 41 then .agg #[.int .i64 (b : Int), .int .i64 41] else fv p c
theorem fv_ex (p c : Nat) : ∃ x y : Int, fv p c = .agg #[.int .i64 x, .int .i64 y] := by
  unfold fv; split
  · exact ⟨_, _, rfl⟩
  · exact ⟨_, _, rfl⟩
theorem escF_42 (s : ByteArray) (p : Nat) : (escF s p).2.2 = 0 ∨ (escF s p).2.2 = 42 := by
  unfold escF
  repeat' (split)
  all_goals first | exact .inl rfl | exact .inr rfl
def Byted (s : ByteArray) (b p g : Nat) (f : Nat × Nat × Nat) (w : World) (e : Ending) (w' : World) : Prop :=
  e = .returned (.tuple #[.int .u8 (f.1 : Int), fv2 b p f.2.2]) ∧ w.grownBy w' (some g) ∧ RdAt w' g s b f.2.1
theorem byt_ok {s : ByteArray} {b p g x q : Nat} {w w' : World} {X : Value} {f : Nat × Nat × Nat} (hf : f = (x, q, 0)) (hX : X = .int .u8 (x : Int)) (hw : w.grownBy w' (some g)) (h : RdAt w' g s b q) :
    Byted s b p g f w (.returned (.tuple #[X, .agg #[.int .i64 0, .int .i64 0]])) w' := by subst hf; exact ⟨by rw [hX]; rfl, hw, h⟩
theorem byt_bad {s : ByteArray} {b p g c : Nat} {w w' : World} {f : Nat × Nat × Nat} (hf : f = (0, p, c)) (hc : c ≠ 0) (hc2 : c ≠ 41) {C : Int} (hC : C = (c : Int)) (hw : w.grownBy w' (some g)) (h : RdAt w' g s b p) :
    Byted s b p g f w (.returned (.tuple #[.int .u8 0, .agg #[.int .i64 (p : Int), .int .i64 C]])) w' := by subst hf; exact ⟨by unfold fv2 fv; rw [if_neg hc2, if_neg hc, hC]; rfl, hw, h⟩
theorem byt_end {s : ByteArray} {b p g : Nat} {w w' : World} {f : Nat × Nat × Nat} (hf : f = (0, p, 41)) (hw : w.grownBy w' (some g)) (h : RdAt w' g s b p) :
    Byted s b p g f w (.returned (.tuple #[.int .u8 0, .agg #[.int .i64 (b : Int), .int .i64 41]])) w' := by subst hf; exact ⟨rfl, hw, h⟩
theorem sayF_bar {s : ByteArray} {p : Nat} (h : ¬ bat s p = 92) (h2 : barred (bat s p)) : sayF s p = (0, p, 30) := by unfold sayF; rw [if_neg h, if_pos h2]
theorem sayF_ok {s : ByteArray} {p : Nat} (h : ¬ bat s p = 92) (h2 : ¬ barred (bat s p)) : sayF s p = (bat s p, p + 1, 0) := by unfold sayF; rw [if_neg h, if_neg h2]
theorem byt_esc {s : ByteArray} {b p g : Nat} {w w' : World} {f q : Nat × Nat × Nat} {X Y : Int} (hf : f = q) (hX : fv p q.2.2 = .agg #[.int .i64 X, .int .i64 Y]) (hc : q.2.2 ≠ 41) (hw : w.grownBy w' (some g)) (h : RdAt w' g s b q.2.1) :
    Byted s b p g f w (.returned (.tuple #[.int .u8 (q.1 : Int), .agg #[.int .i64 X, .int .i64 Y]])) w' := by subst hf; exact ⟨by unfold fv2; rw [if_neg hc, hX], hw, h⟩
theorem set_two {w : World} {k : Nat} {u v x y : Value} {t : TypeId} (h : w.heap[k]? = some (.cells #[u, v] t (0, 0))) : (w.setCell ⟨k, 0, none⟩ x).cell? ⟨k, 0, none⟩ = some x ∧ ((w.setCell ⟨k, 0, none⟩ x).setCell ⟨k, 1, none⟩ y).cell? ⟨k, 1, none⟩ = some y ∧ ((w.setCell ⟨k, 0, none⟩ x).setCell ⟨k, 1, none⟩ y).heap[k]? = some (.cells #[x, y] t (0, 0)) :=
  ⟨by rw [cell_of_row _ _ _ _ _ _ (heap_put h)]; rfl, by rw [cell_of_row _ _ _ _ _ _ (heap_put (heap_put h))]; rfl, heap_put (heap_put h)⟩
theorem gb_heap {w w' : World} {g k : Nat} {o : Obj} (h : w.grownBy w' (some g)) (hk : w.heap[k]? = some o) (hne : k ≠ g) : w'.heap[k]? = some o := (h.block k (heap_lt hk) (fun e => hne (by cases e; rfl))).trans hk
theorem two_cells {w : World} {k : Nat} {u v : Value} {t : TypeId} (h : w.heap[k]? = some (.cells #[u, v] t (0, 0))) : w.cell? ⟨k, 0, none⟩ = some u ∧ w.cell? ⟨k, 1, none⟩ = some v ∧ w.frozen? ⟨k, 0, none⟩ = false ∧ w.frozen? ⟨k, 1, none⟩ = false :=
  ⟨by rw [cell_of_row _ _ _ _ _ _ h]; rfl, by rw [cell_of_row _ _ _ _ _ _ h]; rfl, frozen_of_row _ _ _ _ _ h, frozen_of_row _ _ _ _ _ h⟩
set_option maxRecDepth 100000 in
set_option maxHeartbeats 1000000 in
theorem byte_c (s : ByteArray) (hs : s.size ≤ bigN) (b p g : Nat) (hp : p ≤ s.size) (w : World) (H : RdAt w g s b p) : Calls Tryd.prog 90 #[.pointer (some ⟨g, 0, none⟩)] w (Byted s b p g (byteF s p) w) := by
  have c0 := H.c0; have c1 := H.c1; have c2 := H.c2; have f2 := H.f2; have hg := heap_lt H
  unfold bigN at hs
  go_enter Tryd.func90, Tryd.ntmps90
  by_cases hlt : p < s.size
  · have hb := bat_eq s p hlt
    have hF : byteF s p = sayF s p := if_pos hlt
    go_wp2
    go_quiet (fail)
    go_wp2
    go_quiet (fail)
    by_cases d1 : bat s p = 92
    · have HF : Hid (byteF s p = escF s p) := Lib.hid (by rw [hF]; unfold sayF; rw [if_pos d1])
      go_wp2_with (go_at_call 99; refine (escape_c s (by unfold bigN; exact hs) b p g hlt _ (by (repeat (first | with_reducible apply RdAt.drewN | with_reducible apply RdAt.drew | with_reducible apply RdAt.alloc | with_reducible apply RdAt.moved2 | with_reducible apply RdAt.moved4 | with_reducible apply RdAt.moved1 | (with_reducible refine RdAt.new ?_ _ _ (by dsimp only; omega)))); exact H)).mono ?_; rintro e w' ⟨he, hgb, hr⟩; obtain ⟨X, Y, hf⟩ := fv_ex p (escF s p).2.2; rw [hf] at he; subst he; have h3 := gb_heap (k := w.heap.size) (o := .cells #[.int .i64 0, .int .i64 0] 41 (0, 0)) hgb (heap_new _ _) (by omega); obtain ⟨k0, k1, k2, k3⟩ := two_cells h3; have c2' := hr.c2)
      have H42 := escF_42 s p
      have HQ := Lib.hid hf; clear hf
      obtain ⟨r0, r1, _⟩ := set_two (x := .int .i64 X) (y := .int .i64 Y) h3
      refine bodyPost_ret (v := .tuple #[.int .u8 ((escF s p).1 : Int), .agg #[.int .i64 X, .int .i64 Y]]) (by simp [results, Tryd.results90, go_sem, r0, r1]) rfl (byt_esc HF.out HQ.out (by omega) ?_ ?_)
      · refine gb_new (gb_new (Go.Lib.grownBy_trans ?_ hgb) _ (Nat.le_refl _) _) _ (Nat.le_refl _) _
        (repeat (first | with_reducible exact gb_refl _ _ | with_reducible apply gb_drewN | with_reducible apply gb_drew | with_reducible apply Go.Lib.grownBy_allocR | (with_reducible refine gb_new ?_ _ (by dsimp only; omega) _) | with_reducible apply Go.Lib.grownBy_setB))
      · exact (hr.new _ _ (by dsimp only; omega)).new _ _ (by dsimp only; omega)
    · have HB := Lib.hid hb; have HF := Lib.hid hF; clear hF
      go_wp2
      all_goals first
        | (go_region
           go_wp2
           refine bodyPost_ret (v := .tuple #[.int .u8 0, .agg #[.int .i64 (p : Int), .int .i64 30]]) (by simp [results, Tryd.results90, go_sem]) rfl (byt_bad (HF.out.trans (sayF_bar d1 ?_)) (by decide) (by decide) rfl ?_ ?_)
           · (simp only [beq_iff_eq, beq_eq_false_iff_ne, ne_eq] at *; unfold barred; omega)
           · (repeat (first | with_reducible exact gb_refl _ _ | with_reducible apply gb_drewN | with_reducible apply gb_drew | with_reducible apply Go.Lib.grownBy_allocR | (with_reducible refine gb_new ?_ _ (by dsimp only; omega) _) | with_reducible apply Go.Lib.grownBy_setB))
           · ((repeat (first | with_reducible apply RdAt.drewN | with_reducible apply RdAt.drew | with_reducible apply RdAt.alloc | with_reducible apply RdAt.moved2 | with_reducible apply RdAt.moved4 | with_reducible apply RdAt.moved1 | (with_reducible refine RdAt.new ?_ _ _ (by dsimp only; omega)))); exact H))
        | (refine bodyPost_ret (v := .tuple #[.int .u8 ((bat s p : Nat) : Int), .agg #[.int .i64 0, .int .i64 0]]) (by simp [results, Tryd.results90, go_sem]) rfl (byt_ok (HF.out.trans (sayF_ok d1 ?_)) rfl ?_ ?_)
           · (simp only [beq_iff_eq, beq_eq_false_iff_ne, ne_eq] at *; unfold barred; omega)
           · (repeat (first | with_reducible exact gb_refl _ _ | with_reducible apply gb_drewN | with_reducible apply gb_drew | with_reducible apply Go.Lib.grownBy_allocR | (with_reducible refine gb_new ?_ _ (by dsimp only; omega) _) | with_reducible apply Go.Lib.grownBy_setB))
           · ((repeat (first | with_reducible apply RdAt.drewN | with_reducible apply RdAt.drew | with_reducible apply RdAt.alloc | with_reducible apply RdAt.moved2 | with_reducible apply RdAt.moved4 | with_reducible apply RdAt.moved1 | (with_reducible refine RdAt.new ?_ _ _ (by dsimp only; omega)))); exact H))
  · have HF : Hid (byteF s p = (0, p, 41)) := Lib.hid (if_neg hlt)
    go_wp2
    go_quiet (fail)
    go_wp2
    go_region
    go_wp2
    refine bodyPost_ret (v := .tuple #[.int .u8 0, .agg #[.int .i64 (b : Int), .int .i64 41]]) (by simp [results, Tryd.results90, go_sem]) rfl (byt_end HF.out ?_ ?_)
    · (repeat (first | with_reducible exact gb_refl _ _ | with_reducible apply gb_drewN | with_reducible apply gb_drew | with_reducible apply Go.Lib.grownBy_allocR | (with_reducible refine gb_new ?_ _ (by dsimp only; omega) _) | with_reducible apply Go.Lib.grownBy_setB))
    · ((repeat (first | with_reducible apply RdAt.drewN | with_reducible apply RdAt.drew | with_reducible apply RdAt.alloc | with_reducible apply RdAt.moved2 | with_reducible apply RdAt.moved4 | with_reducible apply RdAt.moved1 | (with_reducible refine RdAt.new ?_ _ _ (by dsimp only; omega)))); exact H)
end Go.Proofs.YtldjdcdoegjmoaaDoor
set_option linter.unusedVariables false
set_option linter.unusedSimpArgs false
namespace Go.Proofs.YtldjdcdoegjmoaaDoor
open Go.RowKit
/-- Where a fault is told: nowhere, at the class's beginning, at a place. -/
def plc (b p c : Nat) : Nat := if c = 0 then 0 else if c = 41 then b else p
def fval (p c : Nat) : Value := .agg #[.int .i64 (p : Int), .int .i64 (c : Int)]
theorem fv2_eq (b p c : Nat) : fv2 b p c = fval (plc b p c) c := by
  unfold fv2 fv fval plc
  by_cases h : c = 41
  · subst h; rfl
  · rw [if_neg h]
    by_cases h0 : c = 0
    · subst h0; rfl
    · rw [if_neg h0, if_neg h0, if_neg h]
/-- An item: its two bytes, the place behind it, where what is wrong is told, what is wrong. -/
def itemF (s : ByteArray) (b p : Nat) : Nat × Nat × Nat × Nat × Nat :=
  if (byteF s p).2.2 = 0 then
    if (byteF s p).2.1 < s.size ∧ bat s (byteF s p).2.1 = 45 then
      if (byteF s ((byteF s p).2.1 + 1)).2.2 = 0 ∧ (byteF s ((byteF s p).2.1 + 1)).1 < (byteF s p).1 then ((byteF s p).1, (byteF s ((byteF s p).2.1 + 1)).1, (byteF s ((byteF s p).2.1 + 1)).2.1, p, 30)
      else ((byteF s p).1, (byteF s ((byteF s p).2.1 + 1)).1, (byteF s ((byteF s p).2.1 + 1)).2.1, plc b ((byteF s p).2.1 + 1) (byteF s ((byteF s p).2.1 + 1)).2.2, (byteF s ((byteF s p).2.1 + 1)).2.2)
    else ((byteF s p).1, (byteF s p).1, (byteF s p).2.1, 0, 0)
  else ((byteF s p).1, (byteF s p).1, (byteF s p).2.1, plc b p (byteF s p).2.2, (byteF s p).2.2)
theorem escF_next (s : ByteArray) (p : Nat) (h : p < s.size) : p ≤ (escF s p).2.1 ∧ (escF s p).2.1 ≤ s.size := by
  unfold escF
  repeat' (split)
  all_goals (dsimp only; omega)
theorem byteF_next (s : ByteArray) (p : Nat) (h : p ≤ s.size) : p ≤ (byteF s p).2.1 ∧ (byteF s p).2.1 ≤ s.size := by
  unfold byteF
  split
  · next q =>
    unfold sayF
    split
    · exact escF_next s p q
    · split <;> (dsimp only; omega)
  · dsimp only; omega
theorem escF_on (s : ByteArray) (p : Nat) (h0 : (escF s p).2.2 = 0) : p < (escF s p).2.1 := by
  revert h0
  unfold escF
  repeat' (split)
  all_goals (intro h0; dsimp only at h0 ⊢; omega)
theorem byteF_on (s : ByteArray) (p : Nat) (h0 : (byteF s p).2.2 = 0) : p < (byteF s p).2.1 := by
  revert h0
  unfold byteF
  split
  · unfold sayF
    split
    · exact escF_on s p
    · split <;> (intro h0; dsimp only at h0 ⊢; omega)
  · intro h0; dsimp only at h0; omega
theorem escF_byte (s : ByteArray) (p : Nat) : (escF s p).1 < 256 := by
  have h1 := hexv_hi (bat s (p + 2)); have h2 := hexv_hi (bat s (p + 3)); have h3 := bat_lt s (p + 1)
  unfold escF
  repeat' (split)
  all_goals (dsimp only; omega)
theorem byteF_byte (s : ByteArray) (p : Nat) : (byteF s p).1 < 256 := by
  unfold byteF
  split
  · unfold sayF
    split
    · exact escF_byte s p
    · split
      · dsimp only; omega
      · exact bat_lt s p
  · dsimp only; omega
theorem byte_f (s : ByteArray) (hs : s.size ≤ bigN) (b p g : Nat) (hp : p ≤ s.size) (w : World) (H : RdAt w g s b p) : Calls Tryd.prog 90 #[.pointer (some ⟨g, 0, none⟩)] w fun e w' =>
    e = .returned (.tuple #[.int .u8 ((byteF s p).1 : Int), .agg #[.int .i64 (plc b p (byteF s p).2.2 : Int), .int .i64 ((byteF s p).2.2 : Int)]]) ∧ w.grownBy w' (some g) ∧ RdAt w' g s b (byteF s p).2.1 :=
  (byte_c s hs b p g hp w H).mono fun _ _ h => ⟨by rw [h.1, fv2_eq]; rfl, h.2.1, h.2.2⟩
def Itemed (s : ByteArray) (b p g : Nat) (f : Nat × Nat × Nat × Nat × Nat) (w : World) (e : Ending) (w' : World) : Prop :=
  e = .returned (.tuple #[.agg #[.int .u8 (f.1 : Int), .int .u8 (f.2.1 : Int)], .agg #[.int .i64 (f.2.2.2.1 : Int), .int .i64 (f.2.2.2.2 : Int)]]) ∧ w.grownBy w' (some g) ∧ RdAt w' g s b f.2.2.1
theorem itm_mk {s : ByteArray} {b p g : Nat} {f q : Nat × Nat × Nat × Nat × Nat} {w w' : World} (hf : f = q) (hw : w.grownBy w' (some g)) (h : RdAt w' g s b q.2.2.1) :
    Itemed s b p g f w (.returned (.tuple #[.agg #[.int .u8 (q.1 : Int), .int .u8 (q.2.1 : Int)], .agg #[.int .i64 (q.2.2.2.1 : Int), .int .i64 (q.2.2.2.2 : Int)]])) w' := by subst hf; exact ⟨rfl, hw, h⟩
set_option maxRecDepth 100000 in
set_option maxHeartbeats 1000000 in
theorem item_c (s : ByteArray) (hs : s.size ≤ bigN) (b p g : Nat) (hp : p ≤ s.size) (w : World) (H : RdAt w g s b p) : Calls Tryd.prog 78 #[.pointer (some ⟨g, 0, none⟩)] w (Itemed s b p g (itemF s b p) w) := by
  have c0 := H.c0; have c1 := H.c1; have c2 := H.c2; have f2 := H.f2; have hg := heap_lt H
  obtain ⟨x, q, c, hF⟩ : ∃ x q c, byteF s p = (x, q, c) := ⟨_, _, _, rfl⟩
  have hq := byteF_next s p hp
  rw [hF] at hq
  dsimp only at hq
  obtain ⟨hq1, hq2⟩ := hq
  go_enter Tryd.func78, Tryd.ntmps78
  by_cases h0 : c = 0
  · subst h0
    by_cases d : q < s.size ∧ bat s q = 45
    · obtain ⟨y, r, c', hG⟩ : ∃ y r c', byteF s (q + 1) = (y, r, c') := ⟨_, _, _, rfl⟩
      have hy : itemF s b p = if c' = 0 ∧ y < x then (x, y, r, p, 30) else (x, y, r, plc b (q + 1) c', c') := by unfold itemF; rw [hF]; dsimp only; rw [if_pos rfl, if_pos d, hG]
      have HY := Lib.hid hy; clear hy
      by_cases hc : c' = 0
      · subst hc
        by_cases hlt : y < x
        · have HI : Hid (itemF s b p = (x, y, r, p, 30)) := Lib.hid (by rw [HY.out, if_pos ⟨rfl, hlt⟩])
          go_wp2_with (first | (go_at_call 90; refine (byte_f s hs b (q + 1) g (by omega) _ (by (repeat (first | with_reducible apply RdAt.drewN | with_reducible apply RdAt.drew | with_reducible apply RdAt.alloc | with_reducible apply RdAt.moved2 | with_reducible apply RdAt.moved4 | with_reducible apply RdAt.moved1 | (with_reducible refine RdAt.new ?_ _ _ (by dsimp only; omega)))); exact hr2)).mono ?_; rintro e w3 ⟨rfl, hgb3, hr3⟩; rw [hG] at hr3 ⊢; dsimp only at hr3 ⊢; have hsz3 := hgb3.size; have hc0 := gb_heap (k := w.heap.size) (o := .cells #[.int .u8 0, .int .u8 0] 83 (0, 0)) hgb3 (hb0) (by omega); obtain ⟨kc00, kc01, kc02, kc03⟩ := two_cells hc0; have hc1 := gb_heap (k := w.heap.size + 1) (o := .cells #[.int .i64 0, .int .i64 0] 41 (0, 0)) hgb3 (hb1) (by omega); obtain ⟨kc10, kc11, kc12, kc13⟩ := two_cells hc1; have hc2 := gb_heap (k := w1.heap.size) (o := .cells #[.int .i64 (plc b p 0 : Int), .int .i64 0] 41 (0, 0)) hgb3 (hb2) (by omega); obtain ⟨kc20, kc21, kc22, kc23⟩ := two_cells hc2; skip) | (go_at_call 77; refine (skip_c s hs b q g 45 (by decide) hq2 _ (by (repeat (first | with_reducible apply RdAt.drewN | with_reducible apply RdAt.drew | with_reducible apply RdAt.alloc | with_reducible apply RdAt.moved2 | with_reducible apply RdAt.moved4 | with_reducible apply RdAt.moved1 | (with_reducible refine RdAt.new ?_ _ _ (by dsimp only; omega)))); exact hr)).mono ?_; rintro e w2 ⟨he, hgb2, hr2⟩; rw [decide_eq_true d] at he; rw [if_pos d] at hr2; subst he; have hsz2 := hgb2.size; simp only [World.size_alloc] at hsz2; have hb0 := gb_heap (k := w.heap.size) (o := .cells #[.int .u8 0, .int .u8 0] 83 (0, 0)) hgb2 (heap_keep ha0) (by omega); obtain ⟨kb00, kb01, kb02, kb03⟩ := two_cells hb0; have hb1 := gb_heap (k := w.heap.size + 1) (o := .cells #[.int .i64 0, .int .i64 0] 41 (0, 0)) hgb2 (heap_keep ha1) (by omega); obtain ⟨kb10, kb11, kb12, kb13⟩ := two_cells hb1; have hb2 := gb_heap (k := w1.heap.size) (o := .cells #[.int .i64 (plc b p 0 : Int), .int .i64 0] 41 (0, 0)) hgb2 (heap_new _ _) (by omega); obtain ⟨kb20, kb21, kb22, kb23⟩ := two_cells hb2; skip) | (go_at_call 90; refine (byte_f s hs b p g hp _ (by (repeat (first | with_reducible apply RdAt.drewN | with_reducible apply RdAt.drew | with_reducible apply RdAt.alloc | with_reducible apply RdAt.moved2 | with_reducible apply RdAt.moved4 | with_reducible apply RdAt.moved1 | (with_reducible refine RdAt.new ?_ _ _ (by dsimp only; omega)))); exact H)).mono ?_; rintro e w1 ⟨rfl, hgb, hr⟩; rw [hF] at hr ⊢; dsimp only at hr ⊢; have hsz := hgb.size; simp only [World.size_alloc] at hsz; have ha0 := gb_heap (k := w.heap.size) (o := .cells #[.int .u8 0, .int .u8 0] 83 (0, 0)) hgb (heap_keep (heap_new _ _)) (by omega); obtain ⟨ka00, ka01, ka02, ka03⟩ := two_cells ha0; have ha1 := gb_heap (k := w.heap.size + 1) (o := .cells #[.int .i64 0, .int .i64 0] 41 (0, 0)) hgb (heap_new1 _ _ _) (by omega); obtain ⟨ka10, ka11, ka12, ka13⟩ := two_cells ha1; skip))
          obtain ⟨_, _, hd⟩ := set_two (x := .int .i64 (plc b (q + 1) 0 : Int)) (y := .int .i64 0) hc2
          obtain ⟨_, _, hd'⟩ := set_two (x := .int .i64 (p : Int)) (y := .int .i64 30) hd
          obtain ⟨kd0, kd1, kd2, kd3⟩ := two_cells hd'
          go_region
          go_wp2
          refine bodyPost_ret (v := .tuple #[.agg #[.int .u8 (x : Int), .int .u8 (y : Int)], .agg #[.int .i64 (p : Int), .int .i64 (30 : Int)]]) (by simp [results, Tryd.results78, go_sem, kc00, kc01, kc10, kc11, kc20, kc21]) rfl (itm_mk HI.out ?_ ?_)
          · (repeat (first | with_reducible exact gb_refl _ _ | with_reducible apply gb_drewN | with_reducible apply gb_drew | with_reducible apply Go.Lib.grownBy_allocR | (with_reducible refine gb_new ?_ _ (by dsimp only; omega) _) | with_reducible apply Go.Lib.grownBy_setB))
            refine Go.Lib.grownBy_trans (Go.Lib.grownBy_trans (Go.Lib.grownBy_trans ?_ hgb) (Go.Lib.grownBy_trans ?_ hgb2)) hgb3 <;> (repeat (first | with_reducible exact gb_refl _ _ | with_reducible apply gb_drewN | with_reducible apply gb_drew | with_reducible apply Go.Lib.grownBy_allocR | (with_reducible refine gb_new ?_ _ (by dsimp only; omega) _) | with_reducible apply Go.Lib.grownBy_setB))
          · (repeat (first | with_reducible apply RdAt.drewN | with_reducible apply RdAt.drew | with_reducible apply RdAt.alloc | with_reducible apply RdAt.moved2 | with_reducible apply RdAt.moved4 | with_reducible apply RdAt.moved1 | (with_reducible refine RdAt.new ?_ _ _ (by dsimp only; omega)))); exact hr3
        · have HI : Hid (itemF s b p = (x, y, r, plc b (q + 1) 0, 0)) := Lib.hid (by rw [HY.out, if_neg (fun h => hlt h.2)])
          go_wp2_with (first | (go_at_call 90; refine (byte_f s hs b (q + 1) g (by omega) _ (by (repeat (first | with_reducible apply RdAt.drewN | with_reducible apply RdAt.drew | with_reducible apply RdAt.alloc | with_reducible apply RdAt.moved2 | with_reducible apply RdAt.moved4 | with_reducible apply RdAt.moved1 | (with_reducible refine RdAt.new ?_ _ _ (by dsimp only; omega)))); exact hr2)).mono ?_; rintro e w3 ⟨rfl, hgb3, hr3⟩; rw [hG] at hr3 ⊢; dsimp only at hr3 ⊢; have hsz3 := hgb3.size; have hc0 := gb_heap (k := w.heap.size) (o := .cells #[.int .u8 0, .int .u8 0] 83 (0, 0)) hgb3 (hb0) (by omega); obtain ⟨kc00, kc01, kc02, kc03⟩ := two_cells hc0; have hc1 := gb_heap (k := w.heap.size + 1) (o := .cells #[.int .i64 0, .int .i64 0] 41 (0, 0)) hgb3 (hb1) (by omega); obtain ⟨kc10, kc11, kc12, kc13⟩ := two_cells hc1; have hc2 := gb_heap (k := w1.heap.size) (o := .cells #[.int .i64 (plc b p 0 : Int), .int .i64 0] 41 (0, 0)) hgb3 (hb2) (by omega); obtain ⟨kc20, kc21, kc22, kc23⟩ := two_cells hc2; skip) | (go_at_call 77; refine (skip_c s hs b q g 45 (by decide) hq2 _ (by (repeat (first | with_reducible apply RdAt.drewN | with_reducible apply RdAt.drew | with_reducible apply RdAt.alloc | with_reducible apply RdAt.moved2 | with_reducible apply RdAt.moved4 | with_reducible apply RdAt.moved1 | (with_reducible refine RdAt.new ?_ _ _ (by dsimp only; omega)))); exact hr)).mono ?_; rintro e w2 ⟨he, hgb2, hr2⟩; rw [decide_eq_true d] at he; rw [if_pos d] at hr2; subst he; have hsz2 := hgb2.size; simp only [World.size_alloc] at hsz2; have hb0 := gb_heap (k := w.heap.size) (o := .cells #[.int .u8 0, .int .u8 0] 83 (0, 0)) hgb2 (heap_keep ha0) (by omega); obtain ⟨kb00, kb01, kb02, kb03⟩ := two_cells hb0; have hb1 := gb_heap (k := w.heap.size + 1) (o := .cells #[.int .i64 0, .int .i64 0] 41 (0, 0)) hgb2 (heap_keep ha1) (by omega); obtain ⟨kb10, kb11, kb12, kb13⟩ := two_cells hb1; have hb2 := gb_heap (k := w1.heap.size) (o := .cells #[.int .i64 (plc b p 0 : Int), .int .i64 0] 41 (0, 0)) hgb2 (heap_new _ _) (by omega); obtain ⟨kb20, kb21, kb22, kb23⟩ := two_cells hb2; skip) | (go_at_call 90; refine (byte_f s hs b p g hp _ (by (repeat (first | with_reducible apply RdAt.drewN | with_reducible apply RdAt.drew | with_reducible apply RdAt.alloc | with_reducible apply RdAt.moved2 | with_reducible apply RdAt.moved4 | with_reducible apply RdAt.moved1 | (with_reducible refine RdAt.new ?_ _ _ (by dsimp only; omega)))); exact H)).mono ?_; rintro e w1 ⟨rfl, hgb, hr⟩; rw [hF] at hr ⊢; dsimp only at hr ⊢; have hsz := hgb.size; simp only [World.size_alloc] at hsz; have ha0 := gb_heap (k := w.heap.size) (o := .cells #[.int .u8 0, .int .u8 0] 83 (0, 0)) hgb (heap_keep (heap_new _ _)) (by omega); obtain ⟨ka00, ka01, ka02, ka03⟩ := two_cells ha0; have ha1 := gb_heap (k := w.heap.size + 1) (o := .cells #[.int .i64 0, .int .i64 0] 41 (0, 0)) hgb (heap_new1 _ _ _) (by omega); obtain ⟨ka10, ka11, ka12, ka13⟩ := two_cells ha1; skip))
          go_region
          go_wp2
          refine bodyPost_ret (v := .tuple #[.agg #[.int .u8 (x : Int), .int .u8 (y : Int)], .agg #[.int .i64 (plc b (q + 1) 0 : Int), .int .i64 (0 : Int)]]) (by simp [results, Tryd.results78, go_sem, kc00, kc01, kc10, kc11, kc20, kc21]) rfl (itm_mk HI.out ?_ ?_)
          · (repeat (first | with_reducible exact gb_refl _ _ | with_reducible apply gb_drewN | with_reducible apply gb_drew | with_reducible apply Go.Lib.grownBy_allocR | (with_reducible refine gb_new ?_ _ (by dsimp only; omega) _) | with_reducible apply Go.Lib.grownBy_setB))
            refine Go.Lib.grownBy_trans (Go.Lib.grownBy_trans (Go.Lib.grownBy_trans ?_ hgb) (Go.Lib.grownBy_trans ?_ hgb2)) hgb3 <;> (repeat (first | with_reducible exact gb_refl _ _ | with_reducible apply gb_drewN | with_reducible apply gb_drew | with_reducible apply Go.Lib.grownBy_allocR | (with_reducible refine gb_new ?_ _ (by dsimp only; omega) _) | with_reducible apply Go.Lib.grownBy_setB))
          · (repeat (first | with_reducible apply RdAt.drewN | with_reducible apply RdAt.drew | with_reducible apply RdAt.alloc | with_reducible apply RdAt.moved2 | with_reducible apply RdAt.moved4 | with_reducible apply RdAt.moved1 | (with_reducible refine RdAt.new ?_ _ _ (by dsimp only; omega)))); exact hr3
      · have HI : Hid (itemF s b p = (x, y, r, plc b (q + 1) c', c')) := Lib.hid (by rw [HY.out, if_neg (fun h => hc h.1)])
        go_wp2_with (first | (go_at_call 90; refine (byte_f s hs b (q + 1) g (by omega) _ (by (repeat (first | with_reducible apply RdAt.drewN | with_reducible apply RdAt.drew | with_reducible apply RdAt.alloc | with_reducible apply RdAt.moved2 | with_reducible apply RdAt.moved4 | with_reducible apply RdAt.moved1 | (with_reducible refine RdAt.new ?_ _ _ (by dsimp only; omega)))); exact hr2)).mono ?_; rintro e w3 ⟨rfl, hgb3, hr3⟩; rw [hG] at hr3 ⊢; dsimp only at hr3 ⊢; have hsz3 := hgb3.size; have hc0 := gb_heap (k := w.heap.size) (o := .cells #[.int .u8 0, .int .u8 0] 83 (0, 0)) hgb3 (hb0) (by omega); obtain ⟨kc00, kc01, kc02, kc03⟩ := two_cells hc0; have hc1 := gb_heap (k := w.heap.size + 1) (o := .cells #[.int .i64 0, .int .i64 0] 41 (0, 0)) hgb3 (hb1) (by omega); obtain ⟨kc10, kc11, kc12, kc13⟩ := two_cells hc1; have hc2 := gb_heap (k := w1.heap.size) (o := .cells #[.int .i64 (plc b p 0 : Int), .int .i64 0] 41 (0, 0)) hgb3 (hb2) (by omega); obtain ⟨kc20, kc21, kc22, kc23⟩ := two_cells hc2; skip) | (go_at_call 77; refine (skip_c s hs b q g 45 (by decide) hq2 _ (by (repeat (first | with_reducible apply RdAt.drewN | with_reducible apply RdAt.drew | with_reducible apply RdAt.alloc | with_reducible apply RdAt.moved2 | with_reducible apply RdAt.moved4 | with_reducible apply RdAt.moved1 | (with_reducible refine RdAt.new ?_ _ _ (by dsimp only; omega)))); exact hr)).mono ?_; rintro e w2 ⟨he, hgb2, hr2⟩; rw [decide_eq_true d] at he; rw [if_pos d] at hr2; subst he; have hsz2 := hgb2.size; simp only [World.size_alloc] at hsz2; have hb0 := gb_heap (k := w.heap.size) (o := .cells #[.int .u8 0, .int .u8 0] 83 (0, 0)) hgb2 (heap_keep ha0) (by omega); obtain ⟨kb00, kb01, kb02, kb03⟩ := two_cells hb0; have hb1 := gb_heap (k := w.heap.size + 1) (o := .cells #[.int .i64 0, .int .i64 0] 41 (0, 0)) hgb2 (heap_keep ha1) (by omega); obtain ⟨kb10, kb11, kb12, kb13⟩ := two_cells hb1; have hb2 := gb_heap (k := w1.heap.size) (o := .cells #[.int .i64 (plc b p 0 : Int), .int .i64 0] 41 (0, 0)) hgb2 (heap_new _ _) (by omega); obtain ⟨kb20, kb21, kb22, kb23⟩ := two_cells hb2; skip) | (go_at_call 90; refine (byte_f s hs b p g hp _ (by (repeat (first | with_reducible apply RdAt.drewN | with_reducible apply RdAt.drew | with_reducible apply RdAt.alloc | with_reducible apply RdAt.moved2 | with_reducible apply RdAt.moved4 | with_reducible apply RdAt.moved1 | (with_reducible refine RdAt.new ?_ _ _ (by dsimp only; omega)))); exact H)).mono ?_; rintro e w1 ⟨rfl, hgb, hr⟩; rw [hF] at hr ⊢; dsimp only at hr ⊢; have hsz := hgb.size; simp only [World.size_alloc] at hsz; have ha0 := gb_heap (k := w.heap.size) (o := .cells #[.int .u8 0, .int .u8 0] 83 (0, 0)) hgb (heap_keep (heap_new _ _)) (by omega); obtain ⟨ka00, ka01, ka02, ka03⟩ := two_cells ha0; have ha1 := gb_heap (k := w.heap.size + 1) (o := .cells #[.int .i64 0, .int .i64 0] 41 (0, 0)) hgb (heap_new1 _ _ _) (by omega); obtain ⟨ka10, ka11, ka12, ka13⟩ := two_cells ha1; skip))
        go_region
        go_wp2
        refine bodyPost_ret (v := .tuple #[.agg #[.int .u8 (x : Int), .int .u8 (y : Int)], .agg #[.int .i64 (plc b (q + 1) c' : Int), .int .i64 (c' : Int)]]) (by simp [results, Tryd.results78, go_sem, kc00, kc01, kc10, kc11, kc20, kc21]) rfl (itm_mk HI.out ?_ ?_)
        · (repeat (first | with_reducible exact gb_refl _ _ | with_reducible apply gb_drewN | with_reducible apply gb_drew | with_reducible apply Go.Lib.grownBy_allocR | (with_reducible refine gb_new ?_ _ (by dsimp only; omega) _) | with_reducible apply Go.Lib.grownBy_setB))
          refine Go.Lib.grownBy_trans (Go.Lib.grownBy_trans (Go.Lib.grownBy_trans ?_ hgb) (Go.Lib.grownBy_trans ?_ hgb2)) hgb3 <;> (repeat (first | with_reducible exact gb_refl _ _ | with_reducible apply gb_drewN | with_reducible apply gb_drew | with_reducible apply Go.Lib.grownBy_allocR | (with_reducible refine gb_new ?_ _ (by dsimp only; omega) _) | with_reducible apply Go.Lib.grownBy_setB))
        · (repeat (first | with_reducible apply RdAt.drewN | with_reducible apply RdAt.drew | with_reducible apply RdAt.alloc | with_reducible apply RdAt.moved2 | with_reducible apply RdAt.moved4 | with_reducible apply RdAt.moved1 | (with_reducible refine RdAt.new ?_ _ _ (by dsimp only; omega)))); exact hr3
    · have HI : Hid (itemF s b p = (x, x, q, plc b p 0, 0)) := Lib.hid (by unfold itemF; rw [hF]; dsimp only; rw [if_pos rfl, if_neg d]; rfl)
      go_wp2_with (first | (go_at_call 90; refine (byte_f s hs b p g hp _ (by (repeat (first | with_reducible apply RdAt.drewN | with_reducible apply RdAt.drew | with_reducible apply RdAt.alloc | with_reducible apply RdAt.moved2 | with_reducible apply RdAt.moved4 | with_reducible apply RdAt.moved1 | (with_reducible refine RdAt.new ?_ _ _ (by dsimp only; omega)))); exact H)).mono ?_; rintro e w1 ⟨rfl, hgb, hr⟩; rw [hF] at hr ⊢; dsimp only at hr ⊢; have hsz := hgb.size; simp only [World.size_alloc] at hsz; have ha0 := gb_heap (k := w.heap.size) (o := .cells #[.int .u8 0, .int .u8 0] 83 (0, 0)) hgb (heap_keep (heap_new _ _)) (by omega); obtain ⟨ka00, ka01, ka02, ka03⟩ := two_cells ha0; have ha1 := gb_heap (k := w.heap.size + 1) (o := .cells #[.int .i64 0, .int .i64 0] 41 (0, 0)) hgb (heap_new1 _ _ _) (by omega); obtain ⟨ka10, ka11, ka12, ka13⟩ := two_cells ha1; skip) | (go_at_call 77; refine (skip_c s hs b q g 45 (by decide) hq2 _ (by (repeat (first | with_reducible apply RdAt.drewN | with_reducible apply RdAt.drew | with_reducible apply RdAt.alloc | with_reducible apply RdAt.moved2 | with_reducible apply RdAt.moved4 | with_reducible apply RdAt.moved1 | (with_reducible refine RdAt.new ?_ _ _ (by dsimp only; omega)))); exact hr)).mono ?_; rintro e w2 ⟨he, hgb2, hr2⟩; rw [decide_eq_false d] at he; rw [if_neg d] at hr2; subst he; have hsz2 := hgb2.size; simp only [World.size_alloc] at hsz2; have hb0 := gb_heap (k := w.heap.size) (o := .cells #[.int .u8 0, .int .u8 0] 83 (0, 0)) hgb2 (heap_keep ha0) (by omega); obtain ⟨kb00, kb01, kb02, kb03⟩ := two_cells hb0; have hb1 := gb_heap (k := w.heap.size + 1) (o := .cells #[.int .i64 0, .int .i64 0] 41 (0, 0)) hgb2 (heap_keep ha1) (by omega); obtain ⟨kb10, kb11, kb12, kb13⟩ := two_cells hb1; have hb2 := gb_heap (k := w1.heap.size) (o := .cells #[.int .i64 (plc b p 0 : Int), .int .i64 0] 41 (0, 0)) hgb2 (heap_new _ _) (by omega); obtain ⟨kb20, kb21, kb22, kb23⟩ := two_cells hb2; skip))
      go_region
      go_wp2
      refine bodyPost_ret (v := .tuple #[.agg #[.int .u8 (x : Int), .int .u8 (x : Int)], .agg #[.int .i64 (plc b p 0 : Int), .int .i64 (0 : Int)]]) (by simp [results, Tryd.results78, go_sem, kb00, kb01, kb10, kb11]) rfl (itm_mk HI.out ?_ ?_)
      · (repeat (first | with_reducible exact gb_refl _ _ | with_reducible apply gb_drewN | with_reducible apply gb_drew | with_reducible apply Go.Lib.grownBy_allocR | (with_reducible refine gb_new ?_ _ (by dsimp only; omega) _) | with_reducible apply Go.Lib.grownBy_setB))
        refine Go.Lib.grownBy_trans (Go.Lib.grownBy_trans ?_ hgb) (Go.Lib.grownBy_trans ?_ hgb2) <;> (repeat (first | with_reducible exact gb_refl _ _ | with_reducible apply gb_drewN | with_reducible apply gb_drew | with_reducible apply Go.Lib.grownBy_allocR | (with_reducible refine gb_new ?_ _ (by dsimp only; omega) _) | with_reducible apply Go.Lib.grownBy_setB))
      · (repeat (first | with_reducible apply RdAt.drewN | with_reducible apply RdAt.drew | with_reducible apply RdAt.alloc | with_reducible apply RdAt.moved2 | with_reducible apply RdAt.moved4 | with_reducible apply RdAt.moved1 | (with_reducible refine RdAt.new ?_ _ _ (by dsimp only; omega)))); exact hr2
  · have HI : Hid (itemF s b p = (x, x, q, plc b p c, c)) := Lib.hid (by unfold itemF; rw [hF]; dsimp only; rw [if_neg h0])
    go_wp2_with (go_at_call 90; refine (byte_f s hs b p g hp _ (by (repeat (first | with_reducible apply RdAt.drewN | with_reducible apply RdAt.drew | with_reducible apply RdAt.alloc | with_reducible apply RdAt.moved2 | with_reducible apply RdAt.moved4 | with_reducible apply RdAt.moved1 | (with_reducible refine RdAt.new ?_ _ _ (by dsimp only; omega)))); exact H)).mono ?_; rintro e w1 ⟨rfl, hgb, hr⟩; rw [hF] at hr ⊢; dsimp only at hr ⊢; have hsz := hgb.size; simp only [World.size_alloc] at hsz; have ha0 := gb_heap (k := w.heap.size) (o := .cells #[.int .u8 0, .int .u8 0] 83 (0, 0)) hgb (heap_keep (heap_new _ _)) (by omega); obtain ⟨ka00, ka01, ka02, ka03⟩ := two_cells ha0; have ha1 := gb_heap (k := w.heap.size + 1) (o := .cells #[.int .i64 0, .int .i64 0] 41 (0, 0)) hgb (heap_new1 _ _ _) (by omega); obtain ⟨ka10, ka11, ka12, ka13⟩ := two_cells ha1; skip)
    have hb0 := heap_keep (o := .cells #[.int .i64 (plc b p c : Int), .int .i64 (c : Int)] 41 (0, 0)) ha0
    have hb1 := heap_keep (o := .cells #[.int .i64 (plc b p c : Int), .int .i64 (c : Int)] 41 (0, 0)) ha1
    obtain ⟨kb00, kb01, kb02, kb03⟩ := two_cells hb0
    obtain ⟨kb10, kb11, kb12, kb13⟩ := two_cells hb1
    go_region
    go_wp2
    refine bodyPost_ret (v := .tuple #[.agg #[.int .u8 (x : Int), .int .u8 (x : Int)], .agg #[.int .i64 (plc b p c : Int), .int .i64 (c : Int)]]) (by simp [results, Tryd.results78, go_sem, kb00, kb01, kb10, kb11]) rfl (itm_mk HI.out ?_ ?_)
    · (repeat (first | with_reducible exact gb_refl _ _ | with_reducible apply gb_drewN | with_reducible apply gb_drew | with_reducible apply Go.Lib.grownBy_allocR | (with_reducible refine gb_new ?_ _ (by dsimp only; omega) _) | with_reducible apply Go.Lib.grownBy_setB))
      refine Go.Lib.grownBy_trans ?_ hgb
      (repeat (first | with_reducible exact gb_refl _ _ | with_reducible apply gb_drewN | with_reducible apply gb_drew | with_reducible apply Go.Lib.grownBy_allocR | (with_reducible refine gb_new ?_ _ (by dsimp only; omega) _) | with_reducible apply Go.Lib.grownBy_setB))
    · (repeat (first | with_reducible apply RdAt.drewN | with_reducible apply RdAt.drew | with_reducible apply RdAt.alloc | with_reducible apply RdAt.moved2 | with_reducible apply RdAt.moved4 | with_reducible apply RdAt.moved1 | (with_reducible refine RdAt.new ?_ _ _ (by dsimp only; omega)))); exact hr
end Go.Proofs.YtldjdcdoegjmoaaDoor
set_option linter.unusedVariables false
set_option linter.unusedSimpArgs false
namespace Go.Proofs.YtldjdcdoegjmoaaDoor
open Go.RowKit
/-- A slice of ranges that is read. -/
def RdRanges (w : World) (A : Option Addr) (n : Nat) (l : List (Nat × Nat)) : Prop :=
  l.length = n ∧ n * 2 ≤ 140737488351232 ∧ (∀ p ∈ l, p.1 < 256 ∧ p.2 < 256) ∧ (0 < n → ∃ b off, A = some ⟨b, off, none⟩ ∧
    ∀ j, j < n → w.cell? ⟨b, off + j * 2, none⟩ = some (.int .u8 ((l.getD j (0, 0)).1 : Int)) ∧ w.cell? ⟨b, off + j * 2 + 1, none⟩ = some (.int .u8 ((l.getD j (0, 0)).2 : Int)))
/-- Is a byte in one of some ranges? -/
def inRanges (l : List (Nat × Nat)) (i : Nat) : Bool := l.any fun p => decide (p.1 ≤ i) && decide (i ≤ p.2)
theorem rng_none (f : Nat → Bool) (lo : Nat) : (Cls.ofFn fun j => f j || (decide (lo ≤ j) && decide (j < lo))) = Cls.ofFn f := Cls.ofFn_congr fun j _ => by
  have h : (decide (lo ≤ j) && decide (j < lo)) = false := by
    by_cases q : lo ≤ j
    · simp [show ¬ j < lo by omega]
    · simp [q]
  rw [h, Bool.or_false]
theorem rng_put (f : Nat → Bool) (lo m : Nat) (h : lo ≤ m) (hm : m < 256) : (Cls.ofFn fun j => f j || (decide (lo ≤ j) && decide (j < m))).put m = Cls.ofFn fun j => f j || (decide (lo ≤ j) && decide (j < m + 1)) := by
  rw [Cls.put_ofFn _ _ hm]
  refine Cls.ofFn_congr fun j _ => ?_
  by_cases e : j = m
  · subst e; simp [h]
  · rw [show decide (j < m + 1) = decide (j < m) by by_cases q : j < m <;> simp [q] <;> omega]
    simp [e]
theorem rng_done (l : List (Nat × Nat)) (k lo hi m : Nat) (hk : k < l.length) (hp : l.getD k (0, 0) = (lo, hi)) (hle : hi < m) (h3 : m ≤ hi + 1 ∨ m = lo) :
    (Cls.ofFn fun j => inRanges (l.take k) j || (decide (lo ≤ j) && decide (j < m))) = Cls.ofFn (inRanges (l.take (k + 1))) := Cls.ofFn_congr fun j _ => by
  have ht : l.take (k + 1) = l.take k ++ [(lo, hi)] := by
    rw [List.take_succ_eq_append_getElem hk]
    rw [List.getD_eq_getElem?_getD, List.getElem?_eq_getElem hk] at hp
    simp only [Option.getD_some] at hp
    rw [hp]
  rw [ht]
  unfold inRanges
  rw [List.any_append]
  have h : (decide (lo ≤ j) && decide (j < m)) = (decide (lo ≤ j) && decide (j ≤ hi)) := by
    by_cases q : lo ≤ j
    · by_cases q2 : j ≤ hi
      · simp [q, q2, show j < m by omega]
      · simp [q, q2, show ¬ j < m by omega]
    · simp [q]
  rw [h]
  simp
set_option maxRecDepth 100000 in
theorem of_c (A : Option Addr) (n cap : Nat) (l : List (Nat × Nat)) (w : World) (h : RdRanges w A n l) : Calls Tryd.prog 79 #[.slice A n cap] w fun e w' => e = .returned (V4 (Cls.ofFn (inRanges l))) ∧ Below w.heap.size w w' := by
  obtain ⟨hl, hn, hr, hc⟩ := h
  have HC := Lib.hid hc; have HR := Lib.hid hr; have HL := Lib.hid hl; clear hc hr hl
  go_enter Tryd.func79, Tryd.ntmps79
  go_wp2
  go_loopw [9, 5, 6] (fun i _ _ wr => ∃ k : Nat, k ≤ n ∧ i = .int .i64 k ∧ Below w.heap.size w wr ∧ wr.heap[w.heap.size]? = some (.cells Cls.none.cells 24 (0, 0)) ∧
      wr.heap[w.heap.size + 1]? = some (.cells (Cls.ofFn (inRanges (l.take k))).cells 24 (0, 0))) (fun i _ _ _ => n - (intOf i).toNat)
  case atStart =>
    exact ⟨0, by omega, rfl, ((Below.refl _ _).alloc (Nat.le_refl _) _).alloc (by simp) _, heap_keep (heap_new _ _), by
      rw [show Cls.ofFn (inRanges (l.take 0)) = Cls.none by rw [Cls.none_ofFn]; rfl]; exact heap_new1 _ _ _⟩
  case round =>
    obtain ⟨k, hk, rfl, hB, h0, h1⟩ := hrel
    obtain ⟨wo, rfl⟩ : ∃ wo : World, wo = wr := ⟨_, rfl⟩
    by_cases hlt : k < n
    · obtain ⟨b, off, hA, hcs⟩ := HC.out (by omega)
      obtain ⟨c0, c1⟩ := hcs k hlt
      subst hA
      have hb0 := World.block_lt_of_cell? _ _ c0
      dsimp only at hb0
      have d0 := (hB.cell (p := ⟨b, off + k * 2, none⟩) hb0).trans c0
      have d1 := (hB.cell (p := ⟨b, off + k * 2 + 1, none⟩) hb0).trans c1
      obtain ⟨lo, hi, hp⟩ : ∃ lo hi, l.getD k (0, 0) = (lo, hi) := ⟨_, _, rfl⟩
      rw [hp] at d0 d1
      have H0 := Lib.hid h0; have H1 := Lib.hid h1; have HP := Lib.hid hp; clear h0 h1 hp c0 c1 hcs
      have hm : (lo, hi) ∈ l := by rw [← HP.out, List.getD_eq_getElem?_getD, List.getElem?_eq_getElem (by rw [HL.out]; exact hlt)]; exact List.getElem_mem _
      have hlo : lo < 256 := (HR.out _ hm).1
      have hhi : hi < 256 := (HR.out _ hm).2
      clear hm
      go_wp2
      go_loopw [6] (fun i wq => ∃ m : Nat, lo ≤ m ∧ m ≤ 256 ∧ (m ≤ hi + 1 ∨ m = lo) ∧ i = .int .i64 m ∧ Below w.heap.size w wq ∧ w.heap.size + 1 < wo.heap.size ∧ wq.heap[w.heap.size]? = some (.cells Cls.none.cells 24 (0, 0)) ∧
        wq.heap[w.heap.size + 1]? = some (.cells (Cls.ofFn fun j => inRanges (l.take k) j || (decide (lo ≤ j) && decide (j < m))).cells 24 (0, 0)) ∧ wq.heap[wo.heap.size]? = some (.cells #[.int .u8 lo, .int .u8 hi] 83 (0, 0))) (fun i _ => 256 - (intOf i).toNat)
      case atStart =>
        have hsz := heap_lt H1.out
        refine ⟨lo, by omega, by omega, .inr rfl, by first | rfl | (go_simp; done), hB.alloc hB.size _, by omega, heap_keep H0.out, ?_, heap_new _ _⟩
        rw [rng_none]
        exact heap_keep H1.out
      case round =>
        obtain ⟨m, hm1, hm2, hm3, rfl, hBq, hsz, q0, q1, q2⟩ := hrel
        have c0 : wr.cell? ⟨wo.heap.size, 1, none⟩ = some (.int .u8 (hi : Int)) := by rw [cell_of_row _ _ _ _ _ _ q2]; rfl
        have Q0 := Lib.hid q0; have Q1 := Lib.hid q1; have Q2 := Lib.hid q2; have H3 := Lib.hid hm3; clear q0 q1 q2 hm3
        by_cases hle : m ≤ hi
        · go_wp2_with (go_at_call 91; refine (put_c _ (Cls.ok_ofFn _) m (by omega) (w.heap.size + 1) _ Q1.out).mono ?_; rintro e w' ⟨rfl, rfl⟩)
          go_roundw
          case rel =>
            refine ⟨m + 1, by omega, by omega, .inl (by omega), by go_num, (hBq.setCell (by dsimp only; omega) _).drew, hsz, heap_drew' (heap_other (by dsimp only; omega) Q0.out), heap_drew' ?_, heap_drew' (heap_other (by dsimp only; omega) Q2.out)⟩
            rw [heap_put Q1.out, Cls.cells_put (by omega), rng_put _ _ _ hm1 (by omega)]
          case measure => simp [intOf]; omega
        · go_wp2
          go_roundw
          case rel =>
            refine ⟨k + 1, by omega, by go_num, hBq, Q0.out, ?_⟩
            rw [Q1.out, rng_done l k lo hi m (by rw [HL.out]; exact hlt) HP.out (by omega) H3.out]
          case measure => simp [intOf]; omega
    · obtain rfl : k = n := by omega
      have H0 := Lib.hid h0; have H1 := Lib.hid h1; clear h0 h1
      go_wp2_with (first | (refine wpList_load_row rfl 24 _ rfl (w.heap.size + 1) rfl _ _ _ _ H1.out Tryd.underlying24 rfl (infoCls _) ?_) | (refine wpList_store_row rfl 24 _ _ rfl w.heap.size _ rfl rfl _ _ H0.out (infoCls _) rfl (Cls.cells_one (Cls.ofFn _)) ?_))
      have H4 := Lib.hid (setRow_heap wo w.heap.size _ (Cls.ofFn (inRanges (l.take k))).cells 24 (0, 0) H0.out)
      refine bodyPost_ret (v := V4 (Cls.ofFn (inRanges (l.take k)))) (results_cell_row Tryd.results79 _ _ _ _ _ _ _ rfl H4.out Tryd.underlying24 rfl (infoCls _)) rfl ⟨?_, below_setRow hB (Nat.le_refl _) _⟩
      rw [List.take_of_length_le (by rw [HL.out]; exact Nat.le_refl _)]
end Go.Proofs.YtldjdcdoegjmoaaDoor
set_option linter.unusedVariables false
set_option linter.unusedSimpArgs false
namespace Go.Proofs.YtldjdcdoegjmoaaDoor
open Go.RowKit
/-- The items up to the ]: the ranges, the place behind it, where what is wrong is told, what is wrong. -/
def itemsF (s : ByteArray) (b : Nat) : Nat → Nat → List (Nat × Nat) → List (Nat × Nat) × Nat × Nat × Nat
  | 0, _, _ => ([], 0, 0, 1)
  | k + 1, p, l =>
    if p < s.size ∧ bat s p = 93 then (l, p + 1, 0, 0)
    else if (itemF s b p).2.2.2.2 = 0 then itemsF s b k (itemF s b p).2.2.1 (l ++ [((itemF s b p).1, (itemF s b p).2.1)])
    else ([], 0, (itemF s b p).2.2.2.1, (itemF s b p).2.2.2.2)
theorem itemF_next (s : ByteArray) (b p : Nat) (h : p ≤ s.size) : p ≤ (itemF s b p).2.2.1 ∧ (itemF s b p).2.2.1 ≤ s.size := by
  have h1 := byteF_next s p h
  unfold itemF
  split
  · split
    · next q =>
      have h2 := byteF_next s ((byteF s p).2.1 + 1) (by omega)
      split <;> (dsimp only; omega)
    · exact h1
  · exact h1
theorem itemF_on (s : ByteArray) (b p : Nat) (h : p ≤ s.size) (h0 : (itemF s b p).2.2.2.2 = 0) : p < (itemF s b p).2.2.1 := by
  revert h0
  have h1 := byteF_next s p h
  have h3 := byteF_on s p
  unfold itemF
  split
  · next q0 =>
    split
    · next q =>
      have h2 := byteF_next s ((byteF s p).2.1 + 1) (by omega)
      split <;> (intro _; dsimp only; have := h3 q0; omega)
    · intro _; exact h3 q0
  · next q0 => intro h; exact absurd h q0
theorem itemF_bytes (s : ByteArray) (b p : Nat) : (itemF s b p).1 < 256 ∧ (itemF s b p).2.1 < 256 := by
  have h1 := byteF_byte s p
  have h2 := byteF_byte s ((byteF s p).2.1 + 1)
  unfold itemF
  split
  · split
    · split <;> exact ⟨h1, h2⟩
    · exact ⟨h1, h1⟩
  · exact ⟨h1, h1⟩
/-- A list of ranges: its cells. -/
def rcells (l : List (Nat × Nat)) : List Value := l.flatMap fun p => [.int .u8 (p.1 : Int), .int .u8 (p.2 : Int)]
theorem rcells_snoc (l : List (Nat × Nat)) (a b : Nat) : rcells (l ++ [(a, b)]) = rcells l ++ [.int .u8 (a : Int), .int .u8 (b : Int)] := by unfold rcells; simp
theorem rcells_at : ∀ (l : List (Nat × Nat)) (j : Nat), j < l.length → (rcells l)[j * 2]? = some (.int .u8 ((l.getD j (0, 0)).1 : Int)) ∧ (rcells l)[j * 2 + 1]? = some (.int .u8 ((l.getD j (0, 0)).2 : Int))
  | [], j, h => by simp at h
  | p :: l, 0, _ => ⟨rfl, rfl⟩
  | p :: l, j + 1, h => by
    have ih := rcells_at l j (by simpa using h)
    have e : rcells (p :: l) = .int .u8 (p.1 : Int) :: .int .u8 (p.2 : Int) :: rcells l := by simp [rcells]
    rw [e, show (j + 1) * 2 = j * 2 + 1 + 1 by omega]
    exact ih
theorem infoRng : (Tryd.prog.info? 83).map (fun i => (i.zero, i.size, i.bytes)) = some (some (.agg #[.int .u8 0, .int .u8 0]), 2, 2) := by kernel_rfl
/-- A slice of ranges of the call's own is read. -/
theorem own_ranges {w : World} {base : Nat} {v : Value} {l : List (Nat × Nat)} (h : w.ownsRow base 83 2 v l.length (rcells l)) (hn : l.length * 2 ≤ 140737488351232) (hb : ∀ p ∈ l, p.1 < 256 ∧ p.2 < 256) :
    ∃ A c, v = .slice A l.length c ∧ RdRanges w A l.length l := by
  rcases h.2 with ⟨rfl, h0⟩ | ⟨g, cap, cur, rfl, _⟩
  · exact ⟨none, 0, by rw [h0], rfl, hn, hb, fun q => by omega⟩
  · refine ⟨_, cap, rfl, rfl, hn, hb, fun _ => ⟨g, 0, rfl, fun j hj => ?_⟩⟩
    have e := rcells_at l j hj
    constructor
    · rw [Nat.zero_add, World.ownsRow.cellAt h (j * 2) (by omega)]; exact e.1
    · rw [Nat.zero_add, World.ownsRow.cellAt h (j * 2 + 1) (by omega)]; exact e.2
def lenOf (v : Value) : Nat := match v with | .slice _ n _ => n | _ => 0
def parseF (s : ByteArray) (p : Nat) : Cls × Nat × Nat × Nat :=
  if p < s.size ∧ bat s p = 91 then
    let o := p + 1 < s.size ∧ bat s (p + 1) = 94
    let r := itemsF s p (s.size + 1) (if o then p + 2 else p + 1) []
    if r.2.2.2 = 0 then (if o then (Cls.ofFn (inRanges r.1)).not else Cls.ofFn (inRanges r.1), r.2.1, 0, 0) else (Cls.none, 0, r.2.2.1, r.2.2.2)
  else (Cls.none, 0, p, 30)
def parseV (r : Cls × Nat × Nat × Nat) : Value := .tuple #[V4 r.1, .int .i64 (r.2.1 : Int), .agg #[.int .i64 (r.2.2.1 : Int), .int .i64 (r.2.2.2 : Int)]]
/-- What is read at a place that may be none. -/
def parseI (s : ByteArray) (n : Int) : Cls × Nat × Nat × Nat := if n < 0 ∨ (s.size : Int) < n then (Cls.none, 0, 0, 5) else parseF s n.toNat
end Go.Proofs.YtldjdcdoegjmoaaDoor

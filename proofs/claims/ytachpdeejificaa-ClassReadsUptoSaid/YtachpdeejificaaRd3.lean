/- Reading a class, the program's way: escape. -/
import Derived.Test.YtachpdeejificaaRd2
import Derived.BigQuiet
set_option linter.unusedVariables false
set_option linter.unusedSimpArgs false
namespace Go.Proofs.Ytachpdeejificaa
open Go.RowKit
/-- What an escape says: the byte, the place behind it, what is wrong. -/
def escF (s : ByteArray) (p : Nat) : Nat × Nat × Nat :=
  if p + 1 < s.size then
    if bat s (p + 1) = 116 then (9, p + 2, 0) else if bat s (p + 1) = 110 then (10, p + 2, 0) else if bat s (p + 1) = 114 then (13, p + 2, 0)
    else if bat s (p + 1) = 92 ∨ bat s (p + 1) = 93 ∨ bat s (p + 1) = 45 ∨ bat s (p + 1) = 94 ∨ bat s (p + 1) = 39 ∨ bat s (p + 1) = 34 then (bat s (p + 1), p + 2, 0)
    else if bat s (p + 1) = 120 ∧ p + 3 < s.size ∧ 0 ≤ hexv (bat s (p + 2)) ∧ 0 ≤ hexv (bat s (p + 3)) then ((16 * hexv (bat s (p + 2)) + hexv (bat s (p + 3))).toNat, p + 4, 0)
    else (0, p, 42)
  else (0, p, 42)
/-- A fault at a place, or none. -/
def fv (p c : Nat) : Value := if c = 0 then .agg #[.int .i64 0, .int .i64 0] else .agg #[.int .i64 (p : Int), .int .i64 (c : Int)]
def Escaped (s : ByteArray) (b p g : Nat) (f : Nat × Nat × Nat) (w : World) (e : Ending) (w' : World) : Prop :=
  e = .returned (.tuple #[.int .u8 (f.1 : Int), fv p f.2.2]) ∧ w.grownBy w' (some g) ∧ RdAt w' g s b f.2.1
theorem gb_new {w w' : World} {row : Option Nat} (h : w.grownBy w' row) (a : Addr) (ha : w.heap.size ≤ a.block) (v : Value) : w.grownBy (w'.setCell a v) row :=
  ⟨by simpa [World.setCell] using h.os, by simpa [World.setCell] using h.tape, by simpa [World.setCell] using h.output, by rw [size_setCell]; exact h.size, fun k hk hr => (Below.heap_setCell _ _ _ _ (by omega)).trans (h.block k hk hr)⟩
theorem RdAt.new {w : World} {g : Nat} {s : ByteArray} {b p : Nat} (h : RdAt w g s b p) (a : Addr) (v : Value) (ha : g ≠ a.block) : RdAt (w.setCell a v) g s b p := heap_other ha h
theorem RdAt.drewN {w : World} {g : Nat} {s : ByteArray} {b p n : Nat} (h : RdAt w g s b p) : RdAt (w.drewN n) g s b p := h
theorem RdAt.drew {w : World} {g : Nat} {s : ByteArray} {b p : Nat} (h : RdAt w g s b p) : RdAt w.drew g s b p := h
theorem RdAt.alloc {w : World} {g : Nat} {s : ByteArray} {b p : Nat} (h : RdAt w g s b p) (o : Obj) : RdAt (w.alloc o) g s b p := heap_keep h
theorem RdAt.movedX {w : World} {g : Nat} {s : ByteArray} {b p : Nat} (h : RdAt w g s b p) (q : Nat) (v : Value) (hv : v = .int .i64 (q : Int)) : RdAt (w.setCell ⟨g, 2, none⟩ v) g s b q := by rw [hv]; exact h.moved q
theorem RdAt.moved1 {w : World} {g : Nat} {s : ByteArray} {b p : Nat} (h : RdAt w g s b p) : RdAt (w.setCell ⟨g, 2, none⟩ (.int .i64 ((p : Int) + 1))) g s b (p + 1) := h.moved (p + 1)
theorem RdAt.moved2 {w : World} {g : Nat} {s : ByteArray} {b p : Nat} (h : RdAt w g s b p) : RdAt (w.setCell ⟨g, 2, none⟩ (.int .i64 ((p : Int) + 2))) g s b (p + 2) := h.moved (p + 2)
theorem RdAt.moved4 {w : World} {g : Nat} {s : ByteArray} {b p : Nat} (h : RdAt w g s b p) : RdAt (w.setCell ⟨g, 2, none⟩ (.int .i64 ((p : Int) + 4))) g s b (p + 4) := h.moved (p + 4)
theorem esc_ok {s : ByteArray} {b p g x q : Nat} {w w' : World} {X : Value} {f : Nat × Nat × Nat} (hf : f = (x, q, 0)) (hX : X = .int .u8 (x : Int)) (hw : w.grownBy w' (some g)) (h : RdAt w' g s b q) :
    Escaped s b p g f w (.returned (.tuple #[X, .agg #[.int .i64 0, .int .i64 0]])) w' := by subst hf; exact ⟨by rw [hX]; rfl, hw, h⟩
theorem esc_bad {s : ByteArray} {b p g a c : Nat} {w w' : World} {f : Nat × Nat × Nat} (hf : f = (0, p, c)) (hc : c ≠ 0) {C : Int} (hC : C = (c : Int)) (ha : a = p) (hw : w.grownBy w' (some g)) (h : RdAt w' g s b p) :
    Escaped s b a g f w (.returned (.tuple #[.int .u8 0, .agg #[.int .i64 (p : Int), .int .i64 C]])) w' := by subst hf; exact ⟨by unfold fv; rw [if_neg hc, hC, ha]; rfl, hw, h⟩
theorem escF_end {s : ByteArray} {p : Nat} (h : ¬ p + 1 < s.size) : escF s p = (0, p, 42) := by unfold escF; rw [if_neg h]
theorem escF_t {s : ByteArray} {p : Nat} (h : p + 1 < s.size) (hd : bat s (p + 1) = 116) : escF s p = (9, p + 2, 0) := by unfold escF; rw [if_pos h, if_pos hd]
theorem escF_n {s : ByteArray} {p : Nat} (h : p + 1 < s.size) (hd : bat s (p + 1) = 110) : escF s p = (10, p + 2, 0) := by unfold escF; rw [if_pos h, if_neg (by omega), if_pos hd]
theorem escF_r {s : ByteArray} {p : Nat} (h : p + 1 < s.size) (hd : bat s (p + 1) = 114) : escF s p = (13, p + 2, 0) := by unfold escF; rw [if_pos h, if_neg (by omega), if_neg (by omega), if_pos hd]
theorem escF_q {s : ByteArray} {p : Nat} (h : p + 1 < s.size) (hd : bat s (p + 1) = 92 ∨ bat s (p + 1) = 93 ∨ bat s (p + 1) = 45 ∨ bat s (p + 1) = 94 ∨ bat s (p + 1) = 39 ∨ bat s (p + 1) = 34) : escF s p = (bat s (p + 1), p + 2, 0) := by
  unfold escF; rw [if_pos h, if_neg (by omega), if_neg (by omega), if_neg (by omega), if_pos hd]
theorem escF_x {s : ByteArray} {p : Nat} (h : p + 3 < s.size) (hd : bat s (p + 1) = 120) (h0 : 0 ≤ hexv (bat s (p + 2))) (h1 : 0 ≤ hexv (bat s (p + 3))) : escF s p = ((16 * hexv (bat s (p + 2)) + hexv (bat s (p + 3))).toNat, p + 4, 0) := by
  unfold escF; rw [if_pos (by omega), if_neg (by omega), if_neg (by omega), if_neg (by omega), if_neg (by omega), if_pos ⟨hd, h, h0, h1⟩]
theorem escF_no {s : ByteArray} {p : Nat} (h1 : bat s (p + 1) ≠ 116) (h2 : bat s (p + 1) ≠ 110) (h3 : bat s (p + 1) ≠ 114) (h4 : ¬ (bat s (p + 1) = 92 ∨ bat s (p + 1) = 93 ∨ bat s (p + 1) = 45 ∨ bat s (p + 1) = 94 ∨ bat s (p + 1) = 39 ∨ bat s (p + 1) = 34))
    (h5 : bat s (p + 1) = 120 → p + 3 < s.size → 0 ≤ hexv (bat s (p + 2)) → 0 ≤ hexv (bat s (p + 3)) → False) : escF s p = (0, p, 42) := by
  unfold escF; split
  · rw [if_neg (fun h => h5 h.1 h.2.1 h.2.2.1 h.2.2.2)]
  · rfl
theorem qa_same {P : Program} {f : FuncId} {args : Array Value} {w : World} {a n : Nat} {v : Value} (h : Calls P f args (w.drewN (a + n)) fun e w' => e = .returned v ∧ w' = w.drewN (a + n)) :
    Calls P f args (w.drewN (a + n)) fun e w' => e = .returned v ∧ ∃ m, w' = w.drewN (a + m) := h.mono fun _ _ q => ⟨q.1, n, q.2⟩
theorem hex_or : ∀ a b : Fin 16, IntKind.u8.wrap (bits .or .i64 (((a.val : Nat) : Int) * 16) ((b.val : Nat) : Int)) = 16 * ((a.val : Nat) : Int) + ((b.val : Nat) : Int) := by decide +kernel
set_option maxRecDepth 100000 in
set_option maxHeartbeats 1000000 in
theorem escape_c (s : ByteArray) (hs : s.size ≤ bigN) (b p g : Nat) (hp : p < s.size) (w : World) (H : RdAt w g s b p) : Calls Try.prog 48 #[.pointer (some ⟨g, 0, none⟩)] w (Escaped s b p g (escF s p) w) := by
  have c0 := H.c0; have c2 := H.c2; have f2 := H.f2; have hg := heap_lt H
  unfold bigN at hs
  go_enter Try.func48, Try.ntmps48
  by_cases hlt : p + 1 < s.size
  · have hb := bat_eq s (p + 1) hlt
    go_wp2
    go_quiet (fail)
    go_wp2
    go_quiet (fail)
    have HB := Lib.hid hb; clear hb
    by_cases d1 : bat s (p + 1) = 116
    · have hd : (s[p + 1]'hlt).toNat = 116 := HB.out.trans d1
      have HF := Lib.hid (escF_t hlt d1)
      go_wp2
      refine bodyPost_ret (v := .tuple #[.int .u8 9, .agg #[.int .i64 0, .int .i64 0]]) (by simp [results, Try.results48, go_sem]) rfl (esc_ok HF.out ?_ ?_ ?_)
      · first | rfl | (simp [*]; done)
      · (repeat (first | with_reducible exact gb_refl _ _ | with_reducible apply gb_drewN | with_reducible apply gb_drew | with_reducible apply Go.Lib.grownBy_allocR | (with_reducible refine gb_new ?_ _ (by dsimp only; omega) _) | with_reducible apply Go.Lib.grownBy_setB))
      · ((repeat (first | with_reducible apply RdAt.drewN | with_reducible apply RdAt.drew | with_reducible apply RdAt.alloc | with_reducible apply RdAt.moved2 | with_reducible apply RdAt.moved4 | with_reducible apply RdAt.moved1 | (with_reducible refine RdAt.new ?_ _ _ (by dsimp only; omega)))); exact H)
    by_cases d2 : bat s (p + 1) = 110
    · have hd : (s[p + 1]'hlt).toNat = 110 := HB.out.trans d2
      have HF := Lib.hid (escF_n hlt d2)
      go_wp2
      refine bodyPost_ret (v := .tuple #[.int .u8 10, .agg #[.int .i64 0, .int .i64 0]]) (by simp [results, Try.results48, go_sem]) rfl (esc_ok HF.out ?_ ?_ ?_)
      · first | rfl | (simp [*]; done)
      · (repeat (first | with_reducible exact gb_refl _ _ | with_reducible apply gb_drewN | with_reducible apply gb_drew | with_reducible apply Go.Lib.grownBy_allocR | (with_reducible refine gb_new ?_ _ (by dsimp only; omega) _) | with_reducible apply Go.Lib.grownBy_setB))
      · ((repeat (first | with_reducible apply RdAt.drewN | with_reducible apply RdAt.drew | with_reducible apply RdAt.alloc | with_reducible apply RdAt.moved2 | with_reducible apply RdAt.moved4 | with_reducible apply RdAt.moved1 | (with_reducible refine RdAt.new ?_ _ _ (by dsimp only; omega)))); exact H)
    by_cases d3 : bat s (p + 1) = 114
    · have hd : (s[p + 1]'hlt).toNat = 114 := HB.out.trans d3
      have HF := Lib.hid (escF_r hlt d3)
      go_wp2
      refine bodyPost_ret (v := .tuple #[.int .u8 13, .agg #[.int .i64 0, .int .i64 0]]) (by simp [results, Try.results48, go_sem]) rfl (esc_ok HF.out ?_ ?_ ?_)
      · first | rfl | (simp [*]; done)
      · (repeat (first | with_reducible exact gb_refl _ _ | with_reducible apply gb_drewN | with_reducible apply gb_drew | with_reducible apply Go.Lib.grownBy_allocR | (with_reducible refine gb_new ?_ _ (by dsimp only; omega) _) | with_reducible apply Go.Lib.grownBy_setB))
      · ((repeat (first | with_reducible apply RdAt.drewN | with_reducible apply RdAt.drew | with_reducible apply RdAt.alloc | with_reducible apply RdAt.moved2 | with_reducible apply RdAt.moved4 | with_reducible apply RdAt.moved1 | (with_reducible refine RdAt.new ?_ _ _ (by dsimp only; omega)))); exact H)
    have hb := HB.out
    have n1 : ¬ (s[p + 1]'hlt).toNat = 116 := by omega
    have n2 : ¬ (s[p + 1]'hlt).toNat = 110 := by omega
    have n3 : ¬ (s[p + 1]'hlt).toNat = 114 := by omega
    by_cases d4 : bat s (p + 1) = 92 ∨ bat s (p + 1) = 93 ∨ bat s (p + 1) = 45 ∨ bat s (p + 1) = 94 ∨ bat s (p + 1) = 39 ∨ bat s (p + 1) = 34
    · have HF := Lib.hid (escF_q hlt d4)
      rw [← HB.out] at d4
      rcases d4 with d4 | d4 | d4 | d4 | d4 | d4
      all_goals go_wp2
      all_goals
        refine bodyPost_ret (v := .tuple #[.int .u8 ((bat s (p + 1) : Nat) : Int), .agg #[.int .i64 0, .int .i64 0]]) (by simp [results, Try.results48, go_sem]) rfl (esc_ok HF.out ?_ ?_ ?_)
        · first | rfl | (simp [*]; done)
        · (repeat (first | with_reducible exact gb_refl _ _ | with_reducible apply gb_drewN | with_reducible apply gb_drew | with_reducible apply Go.Lib.grownBy_allocR | (with_reducible refine gb_new ?_ _ (by dsimp only; omega) _) | with_reducible apply Go.Lib.grownBy_setB))
        · ((repeat (first | with_reducible apply RdAt.drewN | with_reducible apply RdAt.drew | with_reducible apply RdAt.alloc | with_reducible apply RdAt.moved2 | with_reducible apply RdAt.moved4 | with_reducible apply RdAt.moved1 | (with_reducible refine RdAt.new ?_ _ _ (by dsimp only; omega)))); exact H)
    have n4 : ¬ (s[p + 1]'hlt).toNat = 92 := by omega
    have n5 : ¬ (s[p + 1]'hlt).toNat = 93 := by omega
    have n6 : ¬ (s[p + 1]'hlt).toNat = 45 := by omega
    have n7 : ¬ (s[p + 1]'hlt).toNat = 94 := by omega
    have n8 : ¬ (s[p + 1]'hlt).toNat = 39 := by omega
    have n9 : ¬ (s[p + 1]'hlt).toNat = 34 := by omega
    by_cases d5 : bat s (p + 1) = 120
    · have hd : (s[p + 1]'hlt).toNat = 120 := HB.out.trans d5
      by_cases hl3 : p + 3 < s.size
      · have hl2 : p + 2 < s.size := by omega
        have hz2 : (0 : Int) ≤ (p : Int) + 2 ∧ (p : Int) + 2 < (s.size : Int) := ⟨by omega, by omega⟩
        have hz3 : (0 : Int) ≤ (p : Int) + 3 ∧ (p : Int) + 3 < (s.size : Int) := ⟨by omega, by omega⟩
        have hb2 := bat_eq s (p + 2) hl2
        have hb3 := bat_eq s (p + 3) hl3
        go_wp2
        go_quiet (fail)
        go_wp2
        go_quiet ((go_at_call 49; first | exact Calls.quiet_of_same (digit_c _ (bat_lt s _) _) | exact qa_same (digit_c _ (bat_lt s _) _)))
        by_cases h0 : 0 ≤ hexv (bat s (p + 2))
        · obtain ⟨x, hx⟩ := Int.eq_ofNat_of_zero_le h0
          have hx2 := hexv_hi (bat s (p + 2))
          by_cases h1 : 0 ≤ hexv (bat s (p + 3))
          · obtain ⟨y, hy⟩ := Int.eq_ofNat_of_zero_le h1
            have hy2 := hexv_hi (bat s (p + 3))
            have HF := Lib.hid (escF_x hl3 d5 h0 h1)
            rw [hx, hy] at HF
            go_wp2
            refine bodyPost_ret (v := .tuple #[.int .u8 (16 * (x : Int) + (y : Int)), .agg #[.int .i64 0, .int .i64 0]]) (by simp [results, Try.results48, go_sem]; exact hex_or ⟨x, by omega⟩ ⟨y, by omega⟩) rfl (esc_ok HF.out ?_ ?_ ?_)
            · congr 1
            · (repeat (first | with_reducible exact gb_refl _ _ | with_reducible apply gb_drewN | with_reducible apply gb_drew | with_reducible apply Go.Lib.grownBy_allocR | (with_reducible refine gb_new ?_ _ (by dsimp only; omega) _) | with_reducible apply Go.Lib.grownBy_setB))
            · ((repeat (first | with_reducible apply RdAt.drewN | with_reducible apply RdAt.drew | with_reducible apply RdAt.alloc | with_reducible apply RdAt.moved2 | with_reducible apply RdAt.moved4 | with_reducible apply RdAt.moved1 | (with_reducible refine RdAt.new ?_ _ _ (by dsimp only; omega)))); exact H)
          · have HF := Lib.hid (escF_no d1 d2 d3 d4 (fun _ _ _ h => absurd h h1))
            go_wp2
            go_region
            go_wp2
            refine bodyPost_ret (v := .tuple #[.int .u8 0, .agg #[.int .i64 (p : Int), .int .i64 42]]) (by simp [results, Try.results48, go_sem]) rfl (esc_bad HF.out (by decide) rfl rfl ?_ ?_)
            · (repeat (first | with_reducible exact gb_refl _ _ | with_reducible apply gb_drewN | with_reducible apply gb_drew | with_reducible apply Go.Lib.grownBy_allocR | (with_reducible refine gb_new ?_ _ (by dsimp only; omega) _) | with_reducible apply Go.Lib.grownBy_setB))
            · ((repeat (first | with_reducible apply RdAt.drewN | with_reducible apply RdAt.drew | with_reducible apply RdAt.alloc | with_reducible apply RdAt.moved2 | with_reducible apply RdAt.moved4 | with_reducible apply RdAt.moved1 | (with_reducible refine RdAt.new ?_ _ _ (by dsimp only; omega)))); exact H)
        · have HF := Lib.hid (escF_no d1 d2 d3 d4 (fun _ _ h _ => absurd h h0))
          go_wp2
          go_region
          go_wp2
          refine bodyPost_ret (v := .tuple #[.int .u8 0, .agg #[.int .i64 (p : Int), .int .i64 42]]) (by simp [results, Try.results48, go_sem]) rfl (esc_bad HF.out (by decide) rfl rfl ?_ ?_)
          · (repeat (first | with_reducible exact gb_refl _ _ | with_reducible apply gb_drewN | with_reducible apply gb_drew | with_reducible apply Go.Lib.grownBy_allocR | (with_reducible refine gb_new ?_ _ (by dsimp only; omega) _) | with_reducible apply Go.Lib.grownBy_setB))
          · ((repeat (first | with_reducible apply RdAt.drewN | with_reducible apply RdAt.drew | with_reducible apply RdAt.alloc | with_reducible apply RdAt.moved2 | with_reducible apply RdAt.moved4 | with_reducible apply RdAt.moved1 | (with_reducible refine RdAt.new ?_ _ _ (by dsimp only; omega)))); exact H)
      · have HF := Lib.hid (escF_no d1 d2 d3 d4 (fun _ h => absurd h hl3))
        go_wp2
        go_quiet (fail)
        go_wp2
        go_region
        go_wp2
        refine bodyPost_ret (v := .tuple #[.int .u8 0, .agg #[.int .i64 (p : Int), .int .i64 42]]) (by simp [results, Try.results48, go_sem]) rfl (esc_bad HF.out (by decide) rfl rfl ?_ ?_)
        · (repeat (first | with_reducible exact gb_refl _ _ | with_reducible apply gb_drewN | with_reducible apply gb_drew | with_reducible apply Go.Lib.grownBy_allocR | (with_reducible refine gb_new ?_ _ (by dsimp only; omega) _) | with_reducible apply Go.Lib.grownBy_setB))
        · ((repeat (first | with_reducible apply RdAt.drewN | with_reducible apply RdAt.drew | with_reducible apply RdAt.alloc | with_reducible apply RdAt.moved2 | with_reducible apply RdAt.moved4 | with_reducible apply RdAt.moved1 | (with_reducible refine RdAt.new ?_ _ _ (by dsimp only; omega)))); exact H)
    · have n0 : ¬ (s[p + 1]'hlt).toNat = 120 := by omega
      have HF := Lib.hid (escF_no d1 d2 d3 d4 (fun h => absurd h d5))
      go_wp2
      go_region
      go_wp2
      refine bodyPost_ret (v := .tuple #[.int .u8 0, .agg #[.int .i64 (p : Int), .int .i64 42]]) (by simp [results, Try.results48, go_sem]) rfl (esc_bad HF.out (by decide) rfl rfl ?_ ?_)
      · (repeat (first | with_reducible exact gb_refl _ _ | with_reducible apply gb_drewN | with_reducible apply gb_drew | with_reducible apply Go.Lib.grownBy_allocR | (with_reducible refine gb_new ?_ _ (by dsimp only; omega) _) | with_reducible apply Go.Lib.grownBy_setB))
      · ((repeat (first | with_reducible apply RdAt.drewN | with_reducible apply RdAt.drew | with_reducible apply RdAt.alloc | with_reducible apply RdAt.moved2 | with_reducible apply RdAt.moved4 | with_reducible apply RdAt.moved1 | (with_reducible refine RdAt.new ?_ _ _ (by dsimp only; omega)))); exact H)
  · have HF := Lib.hid (escF_end hlt)
    go_wp2
    go_quiet (fail)
    go_wp2
    go_region
    go_wp2
    refine bodyPost_ret (v := .tuple #[.int .u8 0, .agg #[.int .i64 (p : Int), .int .i64 42]]) (by simp [results, Try.results48, go_sem]) rfl (esc_bad HF.out (by decide) rfl rfl ?_ ?_)
    · (repeat (first | with_reducible exact gb_refl _ _ | with_reducible apply gb_drewN | with_reducible apply gb_drew | with_reducible apply Go.Lib.grownBy_allocR | (with_reducible refine gb_new ?_ _ (by dsimp only; omega) _) | with_reducible apply Go.Lib.grownBy_setB))
    · ((repeat (first | with_reducible apply RdAt.drewN | with_reducible apply RdAt.drew | with_reducible apply RdAt.alloc | with_reducible apply RdAt.moved2 | with_reducible apply RdAt.moved4 | with_reducible apply RdAt.moved1 | (with_reducible refine RdAt.new ?_ _ _ (by dsimp only; omega)))); exact H)
end Go.Proofs.Ytachpdeejificaa

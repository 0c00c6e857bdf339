/- Reading a class, the program's way: byte. -/
import Derived.Test.YtachpdeejificaaRd3
set_option linter.unusedVariables false
set_option linter.unusedSimpArgs false
namespace Go.Proofs.Ytachpdeejificaa
open Go.RowKit
/-- What stands for no byte unless it is escaped. -/
def barred (c : Nat) : Prop := c < 32 ∨ 126 < c ∨ c = 93 ∨ c = 45 ∨ c = 94
instance (c : Nat) : Decidable (barred c) := by unfold barred; infer_instance
/-- What is said at a place of a text: the byte, the place behind it, what is wrong. -/
def sayF (s : ByteArray) (p : Nat) : Nat × Nat × Nat := if bat s p = 92 then escF s p else if barred (bat s p) then (0, p, 30) else (bat s p, p + 1, 0)
def byteF (s : ByteArray) (p : Nat) : Nat × Nat × Nat := if p < s.size then sayF s p else (0, p, 41)
/-- A fault, told at a place, at the beginning, or none. -/
def fv2 (b p c : Nat) : Value := if c = 41 then .agg #[.int .i64 (b : Int), .int .i64 41] else fv p c
theorem fv_ex (p c : Nat) : ∃ x y : Int, fv p c = .agg #[.int .i64 x, .int .i64 y] := by
  unfold fv; split
  · exact ⟨_, _, rfl⟩
  · exact ⟨_, _, rfl⟩
theorem escF_42 (s : ByteArray) (p : Nat) : (escF s p).2.2 = 0 ∨ (escF s p).2.2 = 42 := by
  unfold escF
  repeat' (split)
  all_goals first | exact .inl rfl | exact .inr rfl
def Byted (s : ByteArray) (b p g : Nat) (f : Nat × Nat × Nat) (w : World) (e : Ending) (w' : World) : Prop :=
  e = .returned (.tuple #[.int .u8 (f.1 : Int), fv2 b p f.2.2]) ∧ w.grownBy w' (some g) ∧ RdAt w' g s b f.2.1
theorem byt_ok {s : ByteArray} {b p g x q : Nat} {w w' : World} {X : Value} {f : Nat × Nat × Nat} (hf : f = (x, q, 0)) (hX : X = .int .u8 (x : Int)) (hw : w.grownBy w' (some g)) (h : RdAt w' g s b q) :
    Byted s b p g f w (.returned (.tuple #[X, .agg #[.int .i64 0, .int .i64 0]])) w' := by subst hf; exact ⟨by rw [hX]; rfl, hw, h⟩
theorem byt_bad {s : ByteArray} {b p g c : Nat} {w w' : World} {f : Nat × Nat × Nat} (hf : f = (0, p, c)) (hc : c ≠ 0) (hc2 : c ≠ 41) {C : Int} (hC : C = (c : Int)) (hw : w.grownBy w' (some g)) (h : RdAt w' g s b p) :
    Byted s b p g f w (.returned (.tuple #[.int .u8 0, .agg #[.int .i64 (p : Int), .int .i64 C]])) w' := by subst hf; exact ⟨by unfold fv2 fv; rw [if_neg hc2, if_neg hc, hC]; rfl, hw, h⟩
theorem byt_end {s : ByteArray} {b p g : Nat} {w w' : World} {f : Nat × Nat × Nat} (hf : f = (0, p, 41)) (hw : w.grownBy w' (some g)) (h : RdAt w' g s b p) :
    Byted s b p g f w (.returned (.tuple #[.int .u8 0, .agg #[.int .i64 (b : Int), .int .i64 41]])) w' := by subst hf; exact ⟨rfl, hw, h⟩
theorem sayF_bar {s : ByteArray} {p : Nat} (h : ¬ bat s p = 92) (h2 : barred (bat s p)) : sayF s p = (0, p, 30) := by unfold sayF; rw [if_neg h, if_pos h2]
theorem sayF_ok {s : ByteArray} {p : Nat} (h : ¬ bat s p = 92) (h2 : ¬ barred (bat s p)) : sayF s p = (bat s p, p + 1, 0) := by unfold sayF; rw [if_neg h, if_neg h2]
theorem byt_esc {s : ByteArray} {b p g : Nat} {w w' : World} {f q : Nat × Nat × Nat} {X Y : Int} (hf : f = q) (hX : fv p q.2.2 = .agg #[.int .i64 X, .int .i64 Y]) (hc : q.2.2 ≠ 41) (hw : w.grownBy w' (some g)) (h : RdAt w' g s b q.2.1) :
    Byted s b p g f w (.returned (.tuple #[.int .u8 (q.1 : Int), .agg #[.int .i64 X, .int .i64 Y]])) w' := by subst hf; exact ⟨by unfold fv2; rw [if_neg hc, hX], hw, h⟩
theorem set_two {w : World} {k : Nat} {u v x y : Value} {t : TypeId} (h : w.heap[k]? = some (.cells #[u, v] t (0, 0))) : (w.setCell ⟨k, 0, none⟩ x).cell? ⟨k, 0, none⟩ = some x ∧ ((w.setCell ⟨k, 0, none⟩ x).setCell ⟨k, 1, none⟩ y).cell? ⟨k, 1, none⟩ = some y ∧ ((w.setCell ⟨k, 0, none⟩ x).setCell ⟨k, 1, none⟩ y).heap[k]? = some (.cells #[x, y] t (0, 0)) :=
  ⟨by rw [cell_of_row _ _ _ _ _ _ (heap_put h)]; rfl, by rw [cell_of_row _ _ _ _ _ _ (heap_put (heap_put h))]; rfl, heap_put (heap_put h)⟩
theorem gb_heap {w w' : World} {g k : Nat} {o : Obj} (h : w.grownBy w' (some g)) (hk : w.heap[k]? = some o) (hne : k ≠ g) : w'.heap[k]? = some o := (h.block k (heap_lt hk) (fun e => hne (by cases e; rfl))).trans hk
theorem two_cells {w : World} {k : Nat} {u v : Value} {t : TypeId} (h : w.heap[k]? = some (.cells #[u, v] t (0, 0))) : w.cell? ⟨k, 0, none⟩ = some u ∧ w.cell? ⟨k, 1, none⟩ = some v ∧ w.frozen? ⟨k, 0, none⟩ = false ∧ w.frozen? ⟨k, 1, none⟩ = false :=
  ⟨by rw [cell_of_row _ _ _ _ _ _ h]; rfl, by rw [cell_of_row _ _ _ _ _ _ h]; rfl, frozen_of_row _ _ _ _ _ h, frozen_of_row _ _ _ _ _ h⟩
set_option maxRecDepth 100000 in
set_option maxHeartbeats 1000000 in
theorem byte_c (s : ByteArray) (hs : s.size ≤ bigN) (b p g : Nat) (hp : p ≤ s.size) (w : World) (H : RdAt w g s b p) : Calls Try.prog 46 #[.pointer (some ⟨g, 0, none⟩)] w (Byted s b p g (byteF s p) w) := by
  have c0 := H.c0; have c1 := H.c1; have c2 := H.c2; have f2 := H.f2; have hg := heap_lt H
  unfold bigN at hs
  go_enter Try.func46, Try.ntmps46
  by_cases hlt : p < s.size
  · have hb := bat_eq s p hlt
    have hF : byteF s p = sayF s p := if_pos hlt
    go_wp2
    go_quiet (fail)
    go_wp2
    go_quiet (fail)
    by_cases d1 : bat s p = 92
    · have HF : Hid (byteF s p = escF s p) := Lib.hid (by rw [hF]; unfold sayF; rw [if_pos d1])
      go_wp2_with (go_at_call 48; refine (escape_c s (by unfold bigN; exact hs) b p g hlt _ (by (repeat (first | with_reducible apply RdAt.drewN | with_reducible apply RdAt.drew | with_reducible apply RdAt.alloc | with_reducible apply RdAt.moved2 | with_reducible apply RdAt.moved4 | with_reducible apply RdAt.moved1 | (with_reducible refine RdAt.new ?_ _ _ (by dsimp only; omega)))); exact H)).mono ?_; rintro e w' ⟨he, hgb, hr⟩; obtain ⟨X, Y, hf⟩ := fv_ex p (escF s p).2.2; rw [hf] at he; subst he; have h3 := gb_heap (k := w.heap.size) (o := .cells #[.int .i64 0, .int .i64 0] 49 (0, 0)) hgb (heap_new _ _) (by omega); obtain ⟨k0, k1, k2, k3⟩ := two_cells h3; have c2' := hr.c2)
      have H42 := escF_42 s p
      have HQ := Lib.hid hf; clear hf
      obtain ⟨r0, r1, _⟩ := set_two (x := .int .i64 X) (y := .int .i64 Y) h3
      refine bodyPost_ret (v := .tuple #[.int .u8 ((escF s p).1 : Int), .agg #[.int .i64 X, .int .i64 Y]]) (by simp [results, Try.results46, go_sem, r0, r1]) rfl (byt_esc HF.out HQ.out (by omega) ?_ ?_)
      · refine gb_new (gb_new (Go.Lib.grownBy_trans ?_ hgb) _ (Nat.le_refl _) _) _ (Nat.le_refl _) _
        (repeat (first | with_reducible exact gb_refl _ _ | with_reducible apply gb_drewN | with_reducible apply gb_drew | with_reducible apply Go.Lib.grownBy_allocR | (with_reducible refine gb_new ?_ _ (by dsimp only; omega) _) | with_reducible apply Go.Lib.grownBy_setB))
      · exact (hr.new _ _ (by dsimp only; omega)).new _ _ (by dsimp only; omega)
    · have HB := Lib.hid hb; have HF := Lib.hid hF; clear hF
      go_wp2
      all_goals first
        | (go_region
           go_wp2
           refine bodyPost_ret (v := .tuple #[.int .u8 0, .agg #[.int .i64 (p : Int), .int .i64 30]]) (by simp [results, Try.results46, go_sem]) rfl (byt_bad (HF.out.trans (sayF_bar d1 ?_)) (by decide) (by decide) rfl ?_ ?_)
           · (simp only [beq_iff_eq, beq_eq_false_iff_ne, ne_eq] at *; unfold barred; omega)
           · (repeat (first | with_reducible exact gb_refl _ _ | with_reducible apply gb_drewN | with_reducible apply gb_drew | with_reducible apply Go.Lib.grownBy_allocR | (with_reducible refine gb_new ?_ _ (by dsimp only; omega) _) | with_reducible apply Go.Lib.grownBy_setB))
           · ((repeat (first | with_reducible apply RdAt.drewN | with_reducible apply RdAt.drew | with_reducible apply RdAt.alloc | with_reducible apply RdAt.moved2 | with_reducible apply RdAt.moved4 | with_reducible apply RdAt.moved1 | (with_reducible refine RdAt.new ?_ _ _ (by dsimp only; omega)))); exact H))
        | (refine bodyPost_ret (v := .tuple #[.int .u8 ((bat s p : Nat) : Int), .agg #[.int .i64 0, .int .i64 0]]) (by simp [results, Try.results46, go_sem]) rfl (byt_ok (HF.out.trans (sayF_ok d1 ?_)) rfl ?_ ?_)
           · (simp only [beq_iff_eq, beq_eq_false_iff_ne, ne_eq] at *; unfold barred; omega)
           · (repeat (first | with_reducible exact gb_refl _ _ | with_reducible apply gb_drewN | with_reducible apply gb_drew | with_reducible apply Go.Lib.grownBy_allocR | (with_reducible refine gb_new ?_ _ (by dsimp only; omega) _) | with_reducible apply Go.Lib.grownBy_setB))
           · ((repeat (first | with_reducible apply RdAt.drewN | with_reducible apply RdAt.drew | with_reducible apply RdAt.alloc | with_reducible apply RdAt.moved2 | with_reducible apply RdAt.moved4 | with_reducible apply RdAt.moved1 | (with_reducible refine RdAt.new ?_ _ _ (by dsimp only; omega)))); exact H))
  · have HF : Hid (byteF s p = (0, p, 41)) := Lib.hid (if_neg hlt)
    go_wp2
    go_quiet (fail)
    go_wp2
    go_region
    go_wp2
    refine bodyPost_ret (v := .tuple #[.int .u8 0, .agg #[.int .i64 (b : Int), .int .i64 41]]) (by simp [results, Try.results46, go_sem]) rfl (byt_end HF.out ?_ ?_)
    · (repeat (first | with_reducible exact gb_refl _ _ | with_reducible apply gb_drewN | with_reducible apply gb_drew | with_reducible apply Go.Lib.grownBy_allocR | (with_reducible refine gb_new ?_ _ (by dsimp only; omega) _) | with_reducible apply Go.Lib.grownBy_setB))
    · ((repeat (first | with_reducible apply RdAt.drewN | with_reducible apply RdAt.drew | with_reducible apply RdAt.alloc | with_reducible apply RdAt.moved2 | with_reducible apply RdAt.moved4 | with_reducible apply RdAt.moved1 | (with_reducible refine RdAt.new ?_ _ _ (by dsimp only; omega)))); exact H)
end Go.Proofs.Ytachpdeejificaa

/- Reading a class, the program's way: item. -/
import Derived.Test.YtachpdeejificaaRd4
set_option linter.unusedVariables false
set_option linter.unusedSimpArgs false
namespace Go.Proofs.Ytachpdeejificaa
open Go.RowKit
/-- Where a fault is told: nowhere, at the class's beginning, at a place. -/
def plc (b p c : Nat) : Nat := if c = 0 then 0 else if c = 41 then b else p
def fval (p c : Nat) : Value := .agg #[.int .i64 (p : Int), .int .i64 (c : Int)]
theorem fv2_eq (b p c : Nat) : fv2 b p c = fval (plc b p c) c := by
  unfold fv2 fv fval plc
  by_cases h : c = 41
  · subst h; rfl
  · rw [if_neg h]
    by_cases h0 : c = 0
    · subst h0; rfl
    · rw [if_neg h0, if_neg h0, if_neg h]
/-- An item: its two bytes, the place behind it, where what is wrong is told, what is wrong. -/
def itemF (s : ByteArray) (b p : Nat) : Nat × Nat × Nat × Nat × Nat :=
  if (byteF s p).2.2 = 0 then
    if (byteF s p).2.1 < s.size ∧ bat s (byteF s p).2.1 = 45 then
      if (byteF s ((byteF s p).2.1 + 1)).2.2 = 0 ∧ (byteF s ((byteF s p).2.1 + 1)).1 < (byteF s p).1 then ((byteF s p).1, (byteF s ((byteF s p).2.1 + 1)).1, (byteF s ((byteF s p).2.1 + 1)).2.1, p, 30)
      else ((byteF s p).1, (byteF s ((byteF s p).2.1 + 1)).1, (byteF s ((byteF s p).2.1 + 1)).2.1, plc b ((byteF s p).2.1 + 1) (byteF s ((byteF s p).2.1 + 1)).2.2, (byteF s ((byteF s p).2.1 + 1)).2.2)
    else ((byteF s p).1, (byteF s p).1, (byteF s p).2.1, 0, 0)
  else ((byteF s p).1, (byteF s p).1, (byteF s p).2.1, plc b p (byteF s p).2.2, (byteF s p).2.2)
theorem escF_next (s : ByteArray) (p : Nat) (h : p < s.size) : p ≤ (escF s p).2.1 ∧ (escF s p).2.1 ≤ s.size := by
  unfold escF
  repeat' (split)
  all_goals (dsimp only; omega)
theorem byteF_next (s : ByteArray) (p : Nat) (h : p ≤ s.size) : p ≤ (byteF s p).2.1 ∧ (byteF s p).2.1 ≤ s.size := by
  unfold byteF
  split
  · next q =>
    unfold sayF
    split
    · exact escF_next s p q
    · split <;> (dsimp only; omega)
  · dsimp only; omega
theorem escF_on (s : ByteArray) (p : Nat) (h0 : (escF s p).2.2 = 0) : p < (escF s p).2.1 := by
  revert h0
  unfold escF
  repeat' (split)
  all_goals (intro h0; dsimp only at h0 ⊢; omega)
theorem byteF_on (s : ByteArray) (p : Nat) (h0 : (byteF s p).2.2 = 0) : p < (byteF s p).2.1 := by
  revert h0
  unfold byteF
  split
  · unfold sayF
    split
    · exact escF_on s p
    · split <;> (intro h0; dsimp only at h0 ⊢; omega)
  · intro h0; dsimp only at h0; omega
theorem escF_byte (s : ByteArray) (p : Nat) : (escF s p).1 < 256 := by
  have h1 := hexv_hi (bat s (p + 2)); have h2 := hexv_hi (bat s (p + 3)); have h3 := bat_lt s (p + 1)
  unfold escF
  repeat' (split)
  all_goals (dsimp only; omega)
theorem byteF_byte (s : ByteArray) (p : Nat) : (byteF s p).1 < 256 := by
  unfold byteF
  split
  · unfold sayF
    split
    · exact escF_byte s p
    · split
      · dsimp only; omega
      · exact bat_lt s p
  · dsimp only; omega
theorem byte_f (s : ByteArray) (hs : s.size ≤ bigN) (b p g : Nat) (hp : p ≤ s.size) (w : World) (H : RdAt w g s b p) : Calls Try.prog 46 #[.pointer (some ⟨g, 0, none⟩)] w fun e w' =>
    e = .returned (.tuple #[.int .u8 ((byteF s p).1 : Int), .agg #[.int .i64 (plc b p (byteF s p).2.2 : Int), .int .i64 ((byteF s p).2.2 : Int)]]) ∧ w.grownBy w' (some g) ∧ RdAt w' g s b (byteF s p).2.1 :=
  (byte_c s hs b p g hp w H).mono fun _ _ h => ⟨by rw [h.1, fv2_eq]; rfl, h.2.1, h.2.2⟩
def Itemed (s : ByteArray) (b p g : Nat) (f : Nat × Nat × Nat × Nat × Nat) (w : World) (e : Ending) (w' : World) : Prop :=
  e = .returned (.tuple #[.agg #[.int .u8 (f.1 : Int), .int .u8 (f.2.1 : Int)], .agg #[.int .i64 (f.2.2.2.1 : Int), .int .i64 (f.2.2.2.2 : Int)]]) ∧ w.grownBy w' (some g) ∧ RdAt w' g s b f.2.2.1
theorem itm_mk {s : ByteArray} {b p g : Nat} {f q : Nat × Nat × Nat × Nat × Nat} {w w' : World} (hf : f = q) (hw : w.grownBy w' (some g)) (h : RdAt w' g s b q.2.2.1) :
    Itemed s b p g f w (.returned (.tuple #[.agg #[.int .u8 (q.1 : Int), .int .u8 (q.2.1 : Int)], .agg #[.int .i64 (q.2.2.2.1 : Int), .int .i64 (q.2.2.2.2 : Int)]])) w' := by subst hf; exact ⟨rfl, hw, h⟩
set_option maxRecDepth 100000 in
set_option maxHeartbeats 1000000 in
theorem item_c (s : ByteArray) (hs : s.size ≤ bigN) (b p g : Nat) (hp : p ≤ s.size) (w : World) (H : RdAt w g s b p) : Calls Try.prog 43 #[.pointer (some ⟨g, 0, none⟩)] w (Itemed s b p g (itemF s b p) w) := by
  have c0 := H.c0; have c1 := H.c1; have c2 := H.c2; have f2 := H.f2; have hg := heap_lt H
  obtain ⟨x, q, c, hF⟩ : ∃ x q c, byteF s p = (x, q, c) := ⟨_, _, _, rfl⟩
  have hq := byteF_next s p hp
  rw [hF] at hq
  dsimp only at hq
  obtain ⟨hq1, hq2⟩ := hq
  go_enter Try.func43, Try.ntmps43
  by_cases h0 : c = 0
  · subst h0
    by_cases d : q < s.size ∧ bat s q = 45
    · obtain ⟨y, r, c', hG⟩ : ∃ y r c', byteF s (q + 1) = (y, r, c') := ⟨_, _, _, rfl⟩
      have hy : itemF s b p = if c' = 0 ∧ y < x then (x, y, r, p, 30) else (x, y, r, plc b (q + 1) c', c') := by unfold itemF; rw [hF]; dsimp only; rw [if_pos rfl, if_pos d, hG]
      have HY := Lib.hid hy; clear hy
      by_cases hc : c' = 0
      · subst hc
        by_cases hlt : y < x
        · have HI : Hid (itemF s b p = (x, y, r, p, 30)) := Lib.hid (by rw [HY.out, if_pos ⟨rfl, hlt⟩])
          go_wp2_with (first | (go_at_call 46; refine (byte_f s hs b (q + 1) g (by omega) _ (by (repeat (first | with_reducible apply RdAt.drewN | with_reducible apply RdAt.drew | with_reducible apply RdAt.alloc | with_reducible apply RdAt.moved2 | with_reducible apply RdAt.moved4 | with_reducible apply RdAt.moved1 | (with_reducible refine RdAt.new ?_ _ _ (by dsimp only; omega)))); exact hr2)).mono ?_; rintro e w3 ⟨rfl, hgb3, hr3⟩; rw [hG] at hr3 ⊢; dsimp only at hr3 ⊢; have hsz3 := hgb3.size; have hc0 := gb_heap (k := w.heap.size) (o := .cells #[.int .u8 0, .int .u8 0] 34 (0, 0)) hgb3 (hb0) (by omega); obtain ⟨kc00, kc01, kc02, kc03⟩ := two_cells hc0; have hc1 := gb_heap (k := w.heap.size + 1) (o := .cells #[.int .i64 0, .int .i64 0] 49 (0, 0)) hgb3 (hb1) (by omega); obtain ⟨kc10, kc11, kc12, kc13⟩ := two_cells hc1; have hc2 := gb_heap (k := w1.heap.size) (o := .cells #[.int .i64 (plc b p 0 : Int), .int .i64 0] 49 (0, 0)) hgb3 (hb2) (by omega); obtain ⟨kc20, kc21, kc22, kc23⟩ := two_cells hc2; skip) | (go_at_call 42; refine (skip_c s hs b q g 45 (by decide) hq2 _ (by (repeat (first | with_reducible apply RdAt.drewN | with_reducible apply RdAt.drew | with_reducible apply RdAt.alloc | with_reducible apply RdAt.moved2 | with_reducible apply RdAt.moved4 | with_reducible apply RdAt.moved1 | (with_reducible refine RdAt.new ?_ _ _ (by dsimp only; omega)))); exact hr)).mono ?_; rintro e w2 ⟨he, hgb2, hr2⟩; rw [decide_eq_true d] at he; rw [if_pos d] at hr2; subst he; have hsz2 := hgb2.size; simp only [World.size_alloc] at hsz2; have hb0 := gb_heap (k := w.heap.size) (o := .cells #[.int .u8 0, .int .u8 0] 34 (0, 0)) hgb2 (heap_keep ha0) (by omega); obtain ⟨kb00, kb01, kb02, kb03⟩ := two_cells hb0; have hb1 := gb_heap (k := w.heap.size + 1) (o := .cells #[.int .i64 0, .int .i64 0] 49 (0, 0)) hgb2 (heap_keep ha1) (by omega); obtain ⟨kb10, kb11, kb12, kb13⟩ := two_cells hb1; have hb2 := gb_heap (k := w1.heap.size) (o := .cells #[.int .i64 (plc b p 0 : Int), .int .i64 0] 49 (0, 0)) hgb2 (heap_new _ _) (by omega); obtain ⟨kb20, kb21, kb22, kb23⟩ := two_cells hb2; skip) | (go_at_call 46; refine (byte_f s hs b p g hp _ (by (repeat (first | with_reducible apply RdAt.drewN | with_reducible apply RdAt.drew | with_reducible apply RdAt.alloc | with_reducible apply RdAt.moved2 | with_reducible apply RdAt.moved4 | with_reducible apply RdAt.moved1 | (with_reducible refine RdAt.new ?_ _ _ (by dsimp only; omega)))); exact H)).mono ?_; rintro e w1 ⟨rfl, hgb, hr⟩; rw [hF] at hr ⊢; dsimp only at hr ⊢; have hsz := hgb.size; simp only [World.size_alloc] at hsz; have ha0 := gb_heap (k := w.heap.size) (o := .cells #[.int .u8 0, .int .u8 0] 34 (0, 0)) hgb (heap_keep (heap_new _ _)) (by omega); obtain ⟨ka00, ka01, ka02, ka03⟩ := two_cells ha0; have ha1 := gb_heap (k := w.heap.size + 1) (o := .cells #[.int .i64 0, .int .i64 0] 49 (0, 0)) hgb (heap_new1 _ _ _) (by omega); obtain ⟨ka10, ka11, ka12, ka13⟩ := two_cells ha1; skip))
          obtain ⟨_, _, hd⟩ := set_two (x := .int .i64 (plc b (q + 1) 0 : Int)) (y := .int .i64 0) hc2
          obtain ⟨_, _, hd'⟩ := set_two (x := .int .i64 (p : Int)) (y := .int .i64 30) hd
          obtain ⟨kd0, kd1, kd2, kd3⟩ := two_cells hd'
          go_region
          go_wp2
          refine bodyPost_ret (v := .tuple #[.agg #[.int .u8 (x : Int), .int .u8 (y : Int)], .agg #[.int .i64 (p : Int), .int .i64 (30 : Int)]]) (by simp [results, Try.results43, go_sem, kc00, kc01, kc10, kc11, kc20, kc21]) rfl (itm_mk HI.out ?_ ?_)
          · (repeat (first | with_reducible exact gb_refl _ _ | with_reducible apply gb_drewN | with_reducible apply gb_drew | with_reducible apply Go.Lib.grownBy_allocR | (with_reducible refine gb_new ?_ _ (by dsimp only; omega) _) | with_reducible apply Go.Lib.grownBy_setB))
            refine Go.Lib.grownBy_trans (Go.Lib.grownBy_trans (Go.Lib.grownBy_trans ?_ hgb) (Go.Lib.grownBy_trans ?_ hgb2)) hgb3 <;> (repeat (first | with_reducible exact gb_refl _ _ | with_reducible apply gb_drewN | with_reducible apply gb_drew | with_reducible apply Go.Lib.grownBy_allocR | (with_reducible refine gb_new ?_ _ (by dsimp only; omega) _) | with_reducible apply Go.Lib.grownBy_setB))
          · (repeat (first | with_reducible apply RdAt.drewN | with_reducible apply RdAt.drew | with_reducible apply RdAt.alloc | with_reducible apply RdAt.moved2 | with_reducible apply RdAt.moved4 | with_reducible apply RdAt.moved1 | (with_reducible refine RdAt.new ?_ _ _ (by dsimp only; omega)))); exact hr3
        · have HI : Hid (itemF s b p = (x, y, r, plc b (q + 1) 0, 0)) := Lib.hid (by rw [HY.out, if_neg (fun h => hlt h.2)])
          go_wp2_with (first | (go_at_call 46; refine (byte_f s hs b (q + 1) g (by omega) _ (by (repeat (first | with_reducible apply RdAt.drewN | with_reducible apply RdAt.drew | with_reducible apply RdAt.alloc | with_reducible apply RdAt.moved2 | with_reducible apply RdAt.moved4 | with_reducible apply RdAt.moved1 | (with_reducible refine RdAt.new ?_ _ _ (by dsimp only; omega)))); exact hr2)).mono ?_; rintro e w3 ⟨rfl, hgb3, hr3⟩; rw [hG] at hr3 ⊢; dsimp only at hr3 ⊢; have hsz3 := hgb3.size; have hc0 := gb_heap (k := w.heap.size) (o := .cells #[.int .u8 0, .int .u8 0] 34 (0, 0)) hgb3 (hb0) (by omega); obtain ⟨kc00, kc01, kc02, kc03⟩ := two_cells hc0; have hc1 := gb_heap (k := w.heap.size + 1) (o := .cells #[.int .i64 0, .int .i64 0] 49 (0, 0)) hgb3 (hb1) (by omega); obtain ⟨kc10, kc11, kc12, kc13⟩ := two_cells hc1; have hc2 := gb_heap (k := w1.heap.size) (o := .cells #[.int .i64 (plc b p 0 : Int), .int .i64 0] 49 (0, 0)) hgb3 (hb2) (by omega); obtain ⟨kc20, kc21, kc22, kc23⟩ := two_cells hc2; skip) | (go_at_call 42; refine (skip_c s hs b q g 45 (by decide) hq2 _ (by (repeat (first | with_reducible apply RdAt.drewN | with_reducible apply RdAt.drew | with_reducible apply RdAt.alloc | with_reducible apply RdAt.moved2 | with_reducible apply RdAt.moved4 | with_reducible apply RdAt.moved1 | (with_reducible refine RdAt.new ?_ _ _ (by dsimp only; omega)))); exact hr)).mono ?_; rintro e w2 ⟨he, hgb2, hr2⟩; rw [decide_eq_true d] at he; rw [if_pos d] at hr2; subst he; have hsz2 := hgb2.size; simp only [World.size_alloc] at hsz2; have hb0 := gb_heap (k := w.heap.size) (o := .cells #[.int .u8 0, .int .u8 0] 34 (0, 0)) hgb2 (heap_keep ha0) (by omega); obtain ⟨kb00, kb01, kb02, kb03⟩ := two_cells hb0; have hb1 := gb_heap (k := w.heap.size + 1) (o := .cells #[.int .i64 0, .int .i64 0] 49 (0, 0)) hgb2 (heap_keep ha1) (by omega); obtain ⟨kb10, kb11, kb12, kb13⟩ := two_cells hb1; have hb2 := gb_heap (k := w1.heap.size) (o := .cells #[.int .i64 (plc b p 0 : Int), .int .i64 0] 49 (0, 0)) hgb2 (heap_new _ _) (by omega); obtain ⟨kb20, kb21, kb22, kb23⟩ := two_cells hb2; skip) | (go_at_call 46; refine (byte_f s hs b p g hp _ (by (repeat (first | with_reducible apply RdAt.drewN | with_reducible apply RdAt.drew | with_reducible apply RdAt.alloc | with_reducible apply RdAt.moved2 | with_reducible apply RdAt.moved4 | with_reducible apply RdAt.moved1 | (with_reducible refine RdAt.new ?_ _ _ (by dsimp only; omega)))); exact H)).mono ?_; rintro e w1 ⟨rfl, hgb, hr⟩; rw [hF] at hr ⊢; dsimp only at hr ⊢; have hsz := hgb.size; simp only [World.size_alloc] at hsz; have ha0 := gb_heap (k := w.heap.size) (o := .cells #[.int .u8 0, .int .u8 0] 34 (0, 0)) hgb (heap_keep (heap_new _ _)) (by omega); obtain ⟨ka00, ka01, ka02, ka03⟩ := two_cells ha0; have ha1 := gb_heap (k := w.heap.size + 1) (o := .cells #[.int .i64 0, .int .i64 0] 49 (0, 0)) hgb (heap_new1 _ _ _) (by omega); obtain ⟨ka10, ka11, ka12, ka13⟩ := two_cells ha1; skip))
          go_region
          go_wp2
          refine bodyPost_ret (v := .tuple #[.agg #[.int .u8 (x : Int), .int .u8 (y : Int)], .agg #[.int .i64 (plc b (q + 1) 0 : Int), .int .i64 (0 : Int)]]) (by simp [results, Try.results43, go_sem, kc00, kc01, kc10, kc11, kc20, kc21]) rfl (itm_mk HI.out ?_ ?_)
          · (repeat (first | with_reducible exact gb_refl _ _ | with_reducible apply gb_drewN | with_reducible apply gb_drew | with_reducible apply Go.Lib.grownBy_allocR | (with_reducible refine gb_new ?_ _ (by dsimp only; omega) _) | with_reducible apply Go.Lib.grownBy_setB))
            refine Go.Lib.grownBy_trans (Go.Lib.grownBy_trans (Go.Lib.grownBy_trans ?_ hgb) (Go.Lib.grownBy_trans ?_ hgb2)) hgb3 <;> (repeat (first | with_reducible exact gb_refl _ _ | with_reducible apply gb_drewN | with_reducible apply gb_drew | with_reducible apply Go.Lib.grownBy_allocR | (with_reducible refine gb_new ?_ _ (by dsimp only; omega) _) | with_reducible apply Go.Lib.grownBy_setB))
          · (repeat (first | with_reducible apply RdAt.drewN | with_reducible apply RdAt.drew | with_reducible apply RdAt.alloc | with_reducible apply RdAt.moved2 | with_reducible apply RdAt.moved4 | with_reducible apply RdAt.moved1 | (with_reducible refine RdAt.new ?_ _ _ (by dsimp only; omega)))); exact hr3
      · have HI : Hid (itemF s b p = (x, y, r, plc b (q + 1) c', c')) := Lib.hid (by rw [HY.out, if_neg (fun h => hc h.1)])
        go_wp2_with (first | (go_at_call 46; refine (byte_f s hs b (q + 1) g (by omega) _ (by (repeat (first | with_reducible apply RdAt.drewN | with_reducible apply RdAt.drew | with_reducible apply RdAt.alloc | with_reducible apply RdAt.moved2 | with_reducible apply RdAt.moved4 | with_reducible apply RdAt.moved1 | (with_reducible refine RdAt.new ?_ _ _ (by dsimp only; omega)))); exact hr2)).mono ?_; rintro e w3 ⟨rfl, hgb3, hr3⟩; rw [hG] at hr3 ⊢; dsimp only at hr3 ⊢; have hsz3 := hgb3.size; have hc0 := gb_heap (k := w.heap.size) (o := .cells #[.int .u8 0, .int .u8 0] 34 (0, 0)) hgb3 (hb0) (by omega); obtain ⟨kc00, kc01, kc02, kc03⟩ := two_cells hc0; have hc1 := gb_heap (k := w.heap.size + 1) (o := .cells #[.int .i64 0, .int .i64 0] 49 (0, 0)) hgb3 (hb1) (by omega); obtain ⟨kc10, kc11, kc12, kc13⟩ := two_cells hc1; have hc2 := gb_heap (k := w1.heap.size) (o := .cells #[.int .i64 (plc b p 0 : Int), .int .i64 0] 49 (0, 0)) hgb3 (hb2) (by omega); obtain ⟨kc20, kc21, kc22, kc23⟩ := two_cells hc2; skip) | (go_at_call 42; refine (skip_c s hs b q g 45 (by decide) hq2 _ (by (repeat (first | with_reducible apply RdAt.drewN | with_reducible apply RdAt.drew | with_reducible apply RdAt.alloc | with_reducible apply RdAt.moved2 | with_reducible apply RdAt.moved4 | with_reducible apply RdAt.moved1 | (with_reducible refine RdAt.new ?_ _ _ (by dsimp only; omega)))); exact hr)).mono ?_; rintro e w2 ⟨he, hgb2, hr2⟩; rw [decide_eq_true d] at he; rw [if_pos d] at hr2; subst he; have hsz2 := hgb2.size; simp only [World.size_alloc] at hsz2; have hb0 := gb_heap (k := w.heap.size) (o := .cells #[.int .u8 0, .int .u8 0] 34 (0, 0)) hgb2 (heap_keep ha0) (by omega); obtain ⟨kb00, kb01, kb02, kb03⟩ := two_cells hb0; have hb1 := gb_heap (k := w.heap.size + 1) (o := .cells #[.int .i64 0, .int .i64 0] 49 (0, 0)) hgb2 (heap_keep ha1) (by omega); obtain ⟨kb10, kb11, kb12, kb13⟩ := two_cells hb1; have hb2 := gb_heap (k := w1.heap.size) (o := .cells #[.int .i64 (plc b p 0 : Int), .int .i64 0] 49 (0, 0)) hgb2 (heap_new _ _) (by omega); obtain ⟨kb20, kb21, kb22, kb23⟩ := two_cells hb2; skip) | (go_at_call 46; refine (byte_f s hs b p g hp _ (by (repeat (first | with_reducible apply RdAt.drewN | with_reducible apply RdAt.drew | with_reducible apply RdAt.alloc | with_reducible apply RdAt.moved2 | with_reducible apply RdAt.moved4 | with_reducible apply RdAt.moved1 | (with_reducible refine RdAt.new ?_ _ _ (by dsimp only; omega)))); exact H)).mono ?_; rintro e w1 ⟨rfl, hgb, hr⟩; rw [hF] at hr ⊢; dsimp only at hr ⊢; have hsz := hgb.size; simp only [World.size_alloc] at hsz; have ha0 := gb_heap (k := w.heap.size) (o := .cells #[.int .u8 0, .int .u8 0] 34 (0, 0)) hgb (heap_keep (heap_new _ _)) (by omega); obtain ⟨ka00, ka01, ka02, ka03⟩ := two_cells ha0; have ha1 := gb_heap (k := w.heap.size + 1) (o := .cells #[.int .i64 0, .int .i64 0] 49 (0, 0)) hgb (heap_new1 _ _ _) (by omega); obtain ⟨ka10, ka11, ka12, ka13⟩ := two_cells ha1; skip))
        go_region
        go_wp2
        refine bodyPost_ret (v := .tuple #[.agg #[.int .u8 (x : Int), .int .u8 (y : Int)], .agg #[.int .i64 (plc b (q + 1) c' : Int), .int .i64 (c' : Int)]]) (by simp [results, Try.results43, go_sem, kc00, kc01, kc10, kc11, kc20, kc21]) rfl (itm_mk HI.out ?_ ?_)
        · (repeat (first | with_reducible exact gb_refl _ _ | with_reducible apply gb_drewN | with_reducible apply gb_drew | with_reducible apply Go.Lib.grownBy_allocR | (with_reducible refine gb_new ?_ _ (by dsimp only; omega) _) | with_reducible apply Go.Lib.grownBy_setB))
          refine Go.Lib.grownBy_trans (Go.Lib.grownBy_trans (Go.Lib.grownBy_trans ?_ hgb) (Go.Lib.grownBy_trans ?_ hgb2)) hgb3 <;> (repeat (first | with_reducible exact gb_refl _ _ | with_reducible apply gb_drewN | with_reducible apply gb_drew | with_reducible apply Go.Lib.grownBy_allocR | (with_reducible refine gb_new ?_ _ (by dsimp only; omega) _) | with_reducible apply Go.Lib.grownBy_setB))
        · (repeat (first | with_reducible apply RdAt.drewN | with_reducible apply RdAt.drew | with_reducible apply RdAt.alloc | with_reducible apply RdAt.moved2 | with_reducible apply RdAt.moved4 | with_reducible apply RdAt.moved1 | (with_reducible refine RdAt.new ?_ _ _ (by dsimp only; omega)))); exact hr3
    · have HI : Hid (itemF s b p = (x, x, q, plc b p 0, 0)) := Lib.hid (by unfold itemF; rw [hF]; dsimp only; rw [if_pos rfl, if_neg d]; rfl)
      go_wp2_with (first | (go_at_call 46; refine (byte_f s hs b p g hp _ (by (repeat (first | with_reducible apply RdAt.drewN | with_reducible apply RdAt.drew | with_reducible apply RdAt.alloc | with_reducible apply RdAt.moved2 | with_reducible apply RdAt.moved4 | with_reducible apply RdAt.moved1 | (with_reducible refine RdAt.new ?_ _ _ (by dsimp only; omega)))); exact H)).mono ?_; rintro e w1 ⟨rfl, hgb, hr⟩; rw [hF] at hr ⊢; dsimp only at hr ⊢; have hsz := hgb.size; simp only [World.size_alloc] at hsz; have ha0 := gb_heap (k := w.heap.size) (o := .cells #[.int .u8 0, .int .u8 0] 34 (0, 0)) hgb (heap_keep (heap_new _ _)) (by omega); obtain ⟨ka00, ka01, ka02, ka03⟩ := two_cells ha0; have ha1 := gb_heap (k := w.heap.size + 1) (o := .cells #[.int .i64 0, .int .i64 0] 49 (0, 0)) hgb (heap_new1 _ _ _) (by omega); obtain ⟨ka10, ka11, ka12, ka13⟩ := two_cells ha1; skip) | (go_at_call 42; refine (skip_c s hs b q g 45 (by decide) hq2 _ (by (repeat (first | with_reducible apply RdAt.drewN | with_reducible apply RdAt.drew | with_reducible apply RdAt.alloc | with_reducible apply RdAt.moved2 | with_reducible apply RdAt.moved4 | with_reducible apply RdAt.moved1 | (with_reducible refine RdAt.new ?_ _ _ (by dsimp only; omega)))); exact hr)).mono ?_; rintro e w2 ⟨he, hgb2, hr2⟩; rw [decide_eq_false d] at he; rw [if_neg d] at hr2; subst he; have hsz2 := hgb2.size; simp only [World.size_alloc] at hsz2; have hb0 := gb_heap (k := w.heap.size) (o := .cells #[.int .u8 0, .int .u8 0] 34 (0, 0)) hgb2 (heap_keep ha0) (by omega); obtain ⟨kb00, kb01, kb02, kb03⟩ := two_cells hb0; have hb1 := gb_heap (k := w.heap.size + 1) (o := .cells #[.int .i64 0, .int .i64 0] 49 (0, 0)) hgb2 (heap_keep ha1) (by omega); obtain ⟨kb10, kb11, kb12, kb13⟩ := two_cells hb1; have hb2 := gb_heap (k := w1.heap.size) (o := .cells #[.int .i64 (plc b p 0 : Int), .int .i64 0] 49 (0, 0)) hgb2 (heap_new _ _) (by omega); obtain ⟨kb20, kb21, kb22, kb23⟩ := two_cells hb2; skip))
      go_region
      go_wp2
      refine bodyPost_ret (v := .tuple #[.agg #[.int .u8 (x : Int), .int .u8 (x : Int)], .agg #[.int .i64 (plc b p 0 : Int), .int .i64 (0 : Int)]]) (by simp [results, Try.results43, go_sem, kb00, kb01, kb10, kb11]) rfl (itm_mk HI.out ?_ ?_)
      · (repeat (first | with_reducible exact gb_refl _ _ | with_reducible apply gb_drewN | with_reducible apply gb_drew | with_reducible apply Go.Lib.grownBy_allocR | (with_reducible refine gb_new ?_ _ (by dsimp only; omega) _) | with_reducible apply Go.Lib.grownBy_setB))
        refine Go.Lib.grownBy_trans (Go.Lib.grownBy_trans ?_ hgb) (Go.Lib.grownBy_trans ?_ hgb2) <;> (repeat (first | with_reducible exact gb_refl _ _ | with_reducible apply gb_drewN | with_reducible apply gb_drew | with_reducible apply Go.Lib.grownBy_allocR | (with_reducible refine gb_new ?_ _ (by dsimp only; omega) _) | with_reducible apply Go.Lib.grownBy_setB))
      · (repeat (first | with_reducible apply RdAt.drewN | with_reducible apply RdAt.drew | with_reducible apply RdAt.alloc | with_reducible apply RdAt.moved2 | with_reducible apply RdAt.moved4 | with_reducible apply RdAt.moved1 | (with_reducible refine RdAt.new ?_ _ _ (by dsimp only; omega)))); exact hr2
  · have HI : Hid (itemF s b p = (x, x, q, plc b p c, c)) := Lib.hid (by unfold itemF; rw [hF]; dsimp only; rw [if_neg h0])
    go_wp2_with (go_at_call 46; refine (byte_f s hs b p g hp _ (by (repeat (first | with_reducible apply RdAt.drewN | with_reducible apply RdAt.drew | with_reducible apply RdAt.alloc | with_reducible apply RdAt.moved2 | with_reducible apply RdAt.moved4 | with_reducible apply RdAt.moved1 | (with_reducible refine RdAt.new ?_ _ _ (by dsimp only; omega)))); exact H)).mono ?_; rintro e w1 ⟨rfl, hgb, hr⟩; rw [hF] at hr ⊢; dsimp only at hr ⊢; have hsz := hgb.size; simp only [World.size_alloc] at hsz; have ha0 := gb_heap (k := w.heap.size) (o := .cells #[.int .u8 0, .int .u8 0] 34 (0, 0)) hgb (heap_keep (heap_new _ _)) (by omega); obtain ⟨ka00, ka01, ka02, ka03⟩ := two_cells ha0; have ha1 := gb_heap (k := w.heap.size + 1) (o := .cells #[.int .i64 0, .int .i64 0] 49 (0, 0)) hgb (heap_new1 _ _ _) (by omega); obtain ⟨ka10, ka11, ka12, ka13⟩ := two_cells ha1; skip)
    have hb0 := heap_keep (o := .cells #[.int .i64 (plc b p c : Int), .int .i64 (c : Int)] 49 (0, 0)) ha0
    have hb1 := heap_keep (o := .cells #[.int .i64 (plc b p c : Int), .int .i64 (c : Int)] 49 (0, 0)) ha1
    obtain ⟨kb00, kb01, kb02, kb03⟩ := two_cells hb0
    obtain ⟨kb10, kb11, kb12, kb13⟩ := two_cells hb1
    go_region
    go_wp2
    refine bodyPost_ret (v := .tuple #[.agg #[.int .u8 (x : Int), .int .u8 (x : Int)], .agg #[.int .i64 (plc b p c : Int), .int .i64 (c : Int)]]) (by simp [results, Try.results43, go_sem, kb00, kb01, kb10, kb11]) rfl (itm_mk HI.out ?_ ?_)
    · (repeat (first | with_reducible exact gb_refl _ _ | with_reducible apply gb_drewN | with_reducible apply gb_drew | with_reducible apply Go.Lib.grownBy_allocR | (with_reducible refine gb_new ?_ _ (by dsimp only; omega) _) | with_reducible apply Go.Lib.grownBy_setB))
      refine Go.Lib.grownBy_trans ?_ hgb
      (repeat (first | with_reducible exact gb_refl _ _ | with_reducible apply gb_drewN | with_reducible apply gb_drew | with_reducible apply Go.Lib.grownBy_allocR | (with_reducible refine gb_new ?_ _ (by dsimp only; omega) _) | with_reducible apply Go.Lib.grownBy_setB))
    · (repeat (first | with_reducible apply RdAt.drewN | with_reducible apply RdAt.drew | with_reducible apply RdAt.alloc | with_reducible apply RdAt.moved2 | with_reducible apply RdAt.moved4 | with_reducible apply RdAt.moved1 | (with_reducible refine RdAt.new ?_ _ _ (by dsimp only; omega)))); exact hr
end Go.Proofs.Ytachpdeejificaa

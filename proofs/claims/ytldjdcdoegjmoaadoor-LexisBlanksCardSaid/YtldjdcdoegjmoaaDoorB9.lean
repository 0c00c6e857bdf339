import Derived.Laws.AppendOwn
import Derived.Maps.AppendAt
import Derived.OwnWalk
import Derived.WalkKit
import Derived.Test.YtldjdcdoegjmoaaDoorB2
import Derived.Test.YtldjdcdoegjmoaaDoorB8
set_option linter.unusedVariables false
set_option linter.unusedSimpArgs false
namespace Go.Proofs.YtldjdcdoegjmoaaDoor
open Go.RowKit
/-- Where a fault is told: nowhere, at the class's beginning, at a place. -/
def plc (b p c : Nat) : Nat := if c = 0 then 0 else if c = 41 then b else p
def fval (p c : Nat) : Value := .agg #[.int .i64 (p : Int), .int .i64 (c : Int)]
theorem fv2_eq (b p c : Nat) : fv2 b p c = fval (plc b p c) c := by
  unfold fv2 fv fval plc
  by_cases h : c = 41
  · subst h; rfl
  · rw [if_neg h]
    by_cases h0 : c = 0
    · subst h0; rfl
    · rw [if_neg h0, if_neg h0, if_neg h]
/-- An item: its two bytes, the place behind it, where what is wrong is told, what is wrong. -/
def itemF (s : ByteArray) (b p : Nat) : Nat × Nat × Nat × Nat × Nat :=
  if (byteF s p).2.2 = 0 then
    if (byteF s p).2.1 < s.size ∧ bat s (byteF s p).2.1 = 45 then
      if (byteF s ((byteF s p).2.1 + 1)).2.2 = 0 ∧ (byteF s ((byteF s p).2.1 + 1)).1 < (byteF s p).1 then ((byteF s p).1, (byteF s ((byteF s p).2.1 + 1)).1, (byteF s ((byteF s p).2.1 + 1)).2.1, p, 30)
      else ((byteF s p).1, (byteF s ((byteF s p).2.1 + 1)).1, (byteF s ((byteF s p).2.1 + 1)).2.1, plc b ((byteF s p).2.1 + 1) (byteF s ((byteF s p).2.1 + 1)).2.2, (byteF s ((byteF s p).2.1 + 1)).2.2)
    else ((byteF s p).1, (byteF s p).1, (byteF s p).2.1, 0, 0)
  else ((byteF s p).1, (byteF s p).1, (byteF s p).2.1, plc b p (byteF s p).2.2, (byteF s p).2.2)
theorem escF_next (s : ByteArray) (p : Nat) (h : p < s.size) : p ≤ (escF s p).2.1 ∧ (escF s p).2.1 ≤ s.size := by
  unfold escF
  repeat' (split)
  all_goals (dsimp only; omega)
theorem byteF_next (s : ByteArray) (p : Nat) (h : p ≤ s.size) : p ≤ (byteF s p).2.1 ∧ (byteF s p).2.1 ≤ s.size := by
  unfold byteF
  split
  · next q =>
    unfold sayF
    split
    · exact escF_next s p q
    · split <;> (dsimp only; omega)
  · dsimp only; omega
theorem escF_on (s : ByteArray) (p : Nat) (h0 : (escF s p).2.2 = 0) : p < (escF s p).2.1 := by
  revert h0
  unfold escF
  repeat' (split)
  all_goals (intro h0; dsimp only at h0 ⊢; omega)
theorem byteF_on (s : ByteArray) (p : Nat) (h0 : (byteF s p).2.2 = 0) : p < (byteF s p).2.1 := by
  revert h0
  unfold byteF
  split
  · unfold sayF
    split
    · exact escF_on s p
    · split <;> (intro h0; dsimp only at h0 ⊢; omega)
  · intro h0; dsimp only at h0; omega
theorem escF_byte (s : ByteArray) (p : Nat) : (escF s p).1 < 256 := by
  have h1 := hexv_hi (bat s (p + 2)); have h2 := hexv_hi (bat s (p + 3)); have h3 := bat_lt s (p + 1)
  unfold escF
  repeat' (split)
  all_goals (dsimp only; omega)
theorem byteF_byte (s : ByteArray) (p : Nat) : (byteF s p).1 < 256 := by
  unfold byteF
  split
  · unfold sayF
    split
    · exact escF_byte s p
    · split
      · dsimp only; omega
      · exact bat_lt s p
  · dsimp only; omega
theorem byte_f (s : ByteArray) (hs : s.size ≤ bigN) (b p g : Nat) (hp : p ≤ s.size) (w : World) (H : RdAt w g s b p) : Calls Tryd.prog 90 #[.pointer (some ⟨g, 0, none⟩)] w fun e w' =>
    e = .returned (.tuple #[.int .u8 ((byteF s p).1 : Int), .agg #[.int .i64 (plc b p (byteF s p).2.2 : Int), .int .i64 ((byteF s p).2.2 : Int)]]) ∧ w.grownBy w' (some g) ∧ RdAt w' g s b (byteF s p).2.1 :=
  (byte_c s hs b p g hp w H).mono fun _ _ h => ⟨by rw [h.1, fv2_eq]; rfl, h.2.1, h.2.2⟩
def Itemed (s : ByteArray) (b p g : Nat) (f : Nat × Nat × Nat × Nat × Nat) (w : World) (e : Ending) (w' : World) : Prop :=
  e = .returned (.tuple #[.agg #[.int .u8 (f.1 : Int), .int .u8 (f.2.1 : Int)], .agg #[.int .i64 (f.2.2.2.1 : Int), .int .i64 (f.2.2.2.2 : Int)]]) ∧ w.grownBy w' (some g) ∧ RdAt w' g s b f.2.2.1
theorem itm_mk {s : ByteArray} {b p g : Nat} {f q : Nat × Nat × Nat × Nat × Nat} {w w' : World} (hf : f = q) (hw : w.grownBy w' (some g)) (h : RdAt w' g s b q.2.2.1) :
    Itemed s b p g f w (.returned (.tuple #[.agg #[.int .u8 (q.1 : Int), .int .u8 (q.2.1 : Int)], .agg #[.int .i64 (q.2.2.2.1 : Int), .int .i64 (q.2.2.2.2 : Int)]])) w' := by subst hf; exact ⟨rfl, hw, h⟩
set_option maxRecDepth 100000 in
set_option maxHeartbeats 1000000 in
theorem item_c (s : ByteArray) (hs : s.size ≤ bigN) (b p g : Nat) (hp : p ≤ s.size) (w : World) (H : RdAt w g s b p) : Calls Tryd.prog 78 #[.pointer (some ⟨g, 0, none⟩)] w (Itemed s b p g (itemF s b p) w) := by
  have c0 := H.c0; have c1 := H.c1; have c2 := H.c2; have f2 := H.f2; have hg := heap_lt H
  obtain ⟨x, q, c, hF⟩ : ∃ x q c, byteF s p = (x, q, c) := ⟨_, _, _, rfl⟩
  have hq := byteF_next s p hp
  rw [hF] at hq
  dsimp only at hq
  obtain ⟨hq1, hq2⟩ := hq
  go_enter Tryd.func78, Tryd.ntmps78
  by_cases h0 : c = 0
  · subst h0
    by_cases d : q < s.size ∧ bat s q = 45
    · obtain ⟨y, r, c', hG⟩ : ∃ y r c', byteF s (q + 1) = (y, r, c') := ⟨_, _, _, rfl⟩
      have hy : itemF s b p = if c' = 0 ∧ y < x then (x, y, r, p, 30) else (x, y, r, plc b (q + 1) c', c') := by unfold itemF; rw [hF]; dsimp only; rw [if_pos rfl, if_pos d, hG]
      have HY := Lib.hid hy; clear hy
      by_cases hc : c' = 0
      · subst hc
        by_cases hlt : y < x
        · have HI : Hid (itemF s b p = (x, y, r, p, 30)) := Lib.hid (by rw [HY.out, if_pos ⟨rfl, hlt⟩])
          go_wp2_with (first | (go_at_call 90; refine (byte_f s hs b (q + 1) g (by omega) _ (by (repeat (first | with_reducible apply RdAt.drewN | with_reducible apply RdAt.drew | with_reducible apply RdAt.alloc | with_reducible apply RdAt.moved2 | with_reducible apply RdAt.moved4 | with_reducible apply RdAt.moved1 | (with_reducible refine RdAt.new ?_ _ _ (by dsimp only; omega)))); exact hr2)).mono ?_; rintro e w3 ⟨rfl, hgb3, hr3⟩; rw [hG] at hr3 ⊢; dsimp only at hr3 ⊢; have hsz3 := hgb3.size; have hc0 := gb_heap (k := w.heap.size) (o := .cells #[.int .u8 0, .int .u8 0] 83 (0, 0)) hgb3 (hb0) (by omega); obtain ⟨kc00, kc01, kc02, kc03⟩ := two_cells hc0; have hc1 := gb_heap (k := w.heap.size + 1) (o := .cells #[.int .i64 0, .int .i64 0] 41 (0, 0)) hgb3 (hb1) (by omega); obtain ⟨kc10, kc11, kc12, kc13⟩ := two_cells hc1; have hc2 := gb_heap (k := w1.heap.size) (o := .cells #[.int .i64 (plc b p 0 : Int), .int .i64 0] 41 (0, 0)) hgb3 (hb2) (by omega); obtain ⟨kc20, kc21, kc22, kc23⟩ := two_cells hc2; skip) | (go_at_call 77; refine (skip_c s hs b q g 45 (by decide) hq2 _ (by (repeat (first | with_reducible apply RdAt.drewN | with_reducible apply RdAt.drew | with_reducible apply RdAt.alloc | with_reducible apply RdAt.moved2 | with_reducible apply RdAt.moved4 | with_reducible apply RdAt.moved1 | (with_reducible refine RdAt.new ?_ _ _ (by dsimp only; omega)))); exact hr)).mono ?_; rintro e w2 ⟨he, hgb2, hr2⟩; rw [decide_eq_true d] at he; rw [if_pos d] at hr2; subst he; have hsz2 := hgb2.size; simp only [World.size_alloc] at hsz2; have hb0 := gb_heap (k := w.heap.size) (o := .cells #[.int .u8 0, .int .u8 0] 83 (0, 0)) hgb2 (heap_keep ha0) (by omega); obtain ⟨kb00, kb01, kb02, kb03⟩ := two_cells hb0; have hb1 := gb_heap (k := w.heap.size + 1) (o := .cells #[.int .i64 0, .int .i64 0] 41 (0, 0)) hgb2 (heap_keep ha1) (by omega); obtain ⟨kb10, kb11, kb12, kb13⟩ := two_cells hb1; have hb2 := gb_heap (k := w1.heap.size) (o := .cells #[.int .i64 (plc b p 0 : Int), .int .i64 0] 41 (0, 0)) hgb2 (heap_new _ _) (by omega); obtain ⟨kb20, kb21, kb22, kb23⟩ := two_cells hb2; skip) | (go_at_call 90; refine (byte_f s hs b p g hp _ (by (repeat (first | with_reducible apply RdAt.drewN | with_reducible apply RdAt.drew | with_reducible apply RdAt.alloc | with_reducible apply RdAt.moved2 | with_reducible apply RdAt.moved4 | with_reducible apply RdAt.moved1 | (with_reducible refine RdAt.new ?_ _ _ (by dsimp only; omega)))); exact H)).mono ?_; rintro e w1 ⟨rfl, hgb, hr⟩; rw [hF] at hr ⊢; dsimp only at hr ⊢; have hsz := hgb.size; simp only [World.size_alloc] at hsz; have ha0 := gb_heap (k := w.heap.size) (o := .cells #[.int .u8 0, .int .u8 0] 83 (0, 0)) hgb (heap_keep (heap_new _ _)) (by omega); obtain ⟨ka00, ka01, ka02, ka03⟩ := two_cells ha0; have ha1 := gb_heap (k := w.heap.size + 1) (o := .cells #[.int .i64 0, .int .i64 0] 41 (0, 0)) hgb (heap_new1 _ _ _) (by omega); obtain ⟨ka10, ka11, ka12, ka13⟩ := two_cells ha1; skip))
          obtain ⟨_, _, hd⟩ := set_two (x := .int .i64 (plc b (q + 1) 0 : Int)) (y := .int .i64 0) hc2
          obtain ⟨_, _, hd'⟩ := set_two (x := .int .i64 (p : Int)) (y := .int .i64 30) hd
          obtain ⟨kd0, kd1, kd2, kd3⟩ := two_cells hd'
          go_region
          go_wp2
          refine bodyPost_ret (v := .tuple #[.agg #[.int .u8 (x : Int), .int .u8 (y : Int)], .agg #[.int .i64 (p : Int), .int .i64 (30 : Int)]]) (by simp [results, Tryd.results78, go_sem, kc00, kc01, kc10, kc11, kc20, kc21]) rfl (itm_mk HI.out ?_ ?_)
          · (repeat (first | with_reducible exact gb_refl _ _ | with_reducible apply gb_drewN | with_reducible apply gb_drew | with_reducible apply Go.Lib.grownBy_allocR | (with_reducible refine gb_new ?_ _ (by dsimp only; omega) _) | with_reducible apply Go.Lib.grownBy_setB))
            refine Go.Lib.grownBy_trans (Go.Lib.grownBy_trans (Go.Lib.grownBy_trans ?_ hgb) (Go.Lib.grownBy_trans ?_ hgb2)) hgb3 <;> (repeat (first | with_reducible exact gb_refl _ _ | with_reducible apply gb_drewN | with_reducible apply gb_drew | with_reducible apply Go.Lib.grownBy_allocR | (with_reducible refine gb_new ?_ _ (by dsimp only; omega) _) | with_reducible apply Go.Lib.grownBy_setB))
          · (repeat (first | with_reducible apply RdAt.drewN | with_reducible apply RdAt.drew | with_reducible apply RdAt.alloc | with_reducible apply RdAt.moved2 | with_reducible apply RdAt.moved4 | with_reducible apply RdAt.moved1 | (with_reducible refine RdAt.new ?_ _ _ (by dsimp only; omega)))); exact hr3
        · have HI : Hid (itemF s b p = (x, y, r, plc b (q + 1) 0, 0)) := Lib.hid (by rw [HY.out, if_neg (fun h => hlt h.2)])
          go_wp2_with (first | (go_at_call 90; refine (byte_f s hs b (q + 1) g (by omega) _ (by (repeat (first | with_reducible apply RdAt.drewN | with_reducible apply RdAt.drew | with_reducible apply RdAt.alloc | with_reducible apply RdAt.moved2 | with_reducible apply RdAt.moved4 | with_reducible apply RdAt.moved1 | (with_reducible refine RdAt.new ?_ _ _ (by dsimp only; omega)))); exact hr2)).mono ?_; rintro e w3 ⟨rfl, hgb3, hr3⟩; rw [hG] at hr3 ⊢; dsimp only at hr3 ⊢; have hsz3 := hgb3.size; have hc0 := gb_heap (k := w.heap.size) (o := .cells #[.int .u8 0, .int .u8 0] 83 (0, 0)) hgb3 (hb0) (by omega); obtain ⟨kc00, kc01, kc02, kc03⟩ := two_cells hc0; have hc1 := gb_heap (k := w.heap.size + 1) (o := .cells #[.int .i64 0, .int .i64 0] 41 (0, 0)) hgb3 (hb1) (by omega); obtain ⟨kc10, kc11, kc12, kc13⟩ := two_cells hc1; have hc2 := gb_heap (k := w1.heap.size) (o := .cells #[.int .i64 (plc b p 0 : Int), .int .i64 0] 41 (0, 0)) hgb3 (hb2) (by omega); obtain ⟨kc20, kc21, kc22, kc23⟩ := two_cells hc2; skip) | (go_at_call 77; refine (skip_c s hs b q g 45 (by decide) hq2 _ (by (repeat (first | with_reducible apply RdAt.drewN | with_reducible apply RdAt.drew | with_reducible apply RdAt.alloc | with_reducible apply RdAt.moved2 | with_reducible apply RdAt.moved4 | with_reducible apply RdAt.moved1 | (with_reducible refine RdAt.new ?_ _ _ (by dsimp only; omega)))); exact hr)).mono ?_; rintro e w2 ⟨he, hgb2, hr2⟩; rw [decide_eq_true d] at he; rw [if_pos d] at hr2; subst he; have hsz2 := hgb2.size; simp only [World.size_alloc] at hsz2; have hb0 := gb_heap (k := w.heap.size) (o := .cells #[.int .u8 0, .int .u8 0] 83 (0, 0)) hgb2 (heap_keep ha0) (by omega); obtain ⟨kb00, kb01, kb02, kb03⟩ := two_cells hb0; have hb1 := gb_heap (k := w.heap.size + 1) (o := .cells #[.int .i64 0, .int .i64 0] 41 (0, 0)) hgb2 (heap_keep ha1) (by omega); obtain ⟨kb10, kb11, kb12, kb13⟩ := two_cells hb1; have hb2 := gb_heap (k := w1.heap.size) (o := .cells #[.int .i64 (plc b p 0 : Int), .int .i64 0] 41 (0, 0)) hgb2 (heap_new _ _) (by omega); obtain ⟨kb20, kb21, kb22, kb23⟩ := two_cells hb2; skip) | (go_at_call 90; refine (byte_f s hs b p g hp _ (by (repeat (first | with_reducible apply RdAt.drewN | with_reducible apply RdAt.drew | with_reducible apply RdAt.alloc | with_reducible apply RdAt.moved2 | with_reducible apply RdAt.moved4 | with_reducible apply RdAt.moved1 | (with_reducible refine RdAt.new ?_ _ _ (by dsimp only; omega)))); exact H)).mono ?_; rintro e w1 ⟨rfl, hgb, hr⟩; rw [hF] at hr ⊢; dsimp only at hr ⊢; have hsz := hgb.size; simp only [World.size_alloc] at hsz; have ha0 := gb_heap (k := w.heap.size) (o := .cells #[.int .u8 0, .int .u8 0] 83 (0, 0)) hgb (heap_keep (heap_new _ _)) (by omega); obtain ⟨ka00, ka01, ka02, ka03⟩ := two_cells ha0; have ha1 := gb_heap (k := w.heap.size + 1) (o := .cells #[.int .i64 0, .int .i64 0] 41 (0, 0)) hgb (heap_new1 _ _ _) (by omega); obtain ⟨ka10, ka11, ka12, ka13⟩ := two_cells ha1; skip))
          go_region
          go_wp2
          refine bodyPost_ret (v := .tuple #[.agg #[.int .u8 (x : Int), .int .u8 (y : Int)], .agg #[.int .i64 (plc b (q + 1) 0 : Int), .int .i64 (0 : Int)]]) (by simp [results, Tryd.results78, go_sem, kc00, kc01, kc10, kc11, kc20, kc21]) rfl (itm_mk HI.out ?_ ?_)
          · (repeat (first | with_reducible exact gb_refl _ _ | with_reducible apply gb_drewN | with_reducible apply gb_drew | with_reducible apply Go.Lib.grownBy_allocR | (with_reducible refine gb_new ?_ _ (by dsimp only; omega) _) | with_reducible apply Go.Lib.grownBy_setB))
            refine Go.Lib.grownBy_trans (Go.Lib.grownBy_trans (Go.Lib.grownBy_trans ?_ hgb) (Go.Lib.grownBy_trans ?_ hgb2)) hgb3 <;> (repeat (first | with_reducible exact gb_refl _ _ | with_reducible apply gb_drewN | with_reducible apply gb_drew | with_reducible apply Go.Lib.grownBy_allocR | (with_reducible refine gb_new ?_ _ (by dsimp only; omega) _) | with_reducible apply Go.Lib.grownBy_setB))
          · (repeat (first | with_reducible apply RdAt.drewN | with_reducible apply RdAt.drew | with_reducible apply RdAt.alloc | with_reducible apply RdAt.moved2 | with_reducible apply RdAt.moved4 | with_reducible apply RdAt.moved1 | (with_reducible refine RdAt.new ?_ _ _ (by dsimp only; omega)))); exact hr3
      · have HI : Hid (itemF s b p = (x, y, r, plc b (q + 1) c', c')) := Lib.hid (by rw [HY.out, if_neg (fun h => hc h.1)])
        go_wp2_with (first | (go_at_call 90; refine (byte_f s hs b (q + 1) g (by omega) _ (by (repeat (first | with_reducible apply RdAt.drewN | with_reducible apply RdAt.drew | with_reducible apply RdAt.alloc | with_reducible apply RdAt.moved2 | with_reducible apply RdAt.moved4 | with_reducible apply RdAt.moved1 | (with_reducible refine RdAt.new ?_ _ _ (by dsimp only; omega)))); exact hr2)).mono ?_; rintro e w3 ⟨rfl, hgb3, hr3⟩; rw [hG] at hr3 ⊢; dsimp only at hr3 ⊢; have hsz3 := hgb3.size; have hc0 := gb_heap (k := w.heap.size) (o := .cells #[.int .u8 0, .int .u8 0] 83 (0, 0)) hgb3 (hb0) (by omega); obtain ⟨kc00, kc01, kc02, kc03⟩ := two_cells hc0; have hc1 := gb_heap (k := w.heap.size + 1) (o := .cells #[.int .i64 0, .int .i64 0] 41 (0, 0)) hgb3 (hb1) (by omega); obtain ⟨kc10, kc11, kc12, kc13⟩ := two_cells hc1; have hc2 := gb_heap (k := w1.heap.size) (o := .cells #[.int .i64 (plc b p 0 : Int), .int .i64 0] 41 (0, 0)) hgb3 (hb2) (by omega); obtain ⟨kc20, kc21, kc22, kc23⟩ := two_cells hc2; skip) | (go_at_call 77; refine (skip_c s hs b q g 45 (by decide) hq2 _ (by (repeat (first | with_reducible apply RdAt.drewN | with_reducible apply RdAt.drew | with_reducible apply RdAt.alloc | with_reducible apply RdAt.moved2 | with_reducible apply RdAt.moved4 | with_reducible apply RdAt.moved1 | (with_reducible refine RdAt.new ?_ _ _ (by dsimp only; omega)))); exact hr)).mono ?_; rintro e w2 ⟨he, hgb2, hr2⟩; rw [decide_eq_true d] at he; rw [if_pos d] at hr2; subst he; have hsz2 := hgb2.size; simp only [World.size_alloc] at hsz2; have hb0 := gb_heap (k := w.heap.size) (o := .cells #[.int .u8 0, .int .u8 0] 83 (0, 0)) hgb2 (heap_keep ha0) (by omega); obtain ⟨kb00, kb01, kb02, kb03⟩ := two_cells hb0; have hb1 := gb_heap (k := w.heap.size + 1) (o := .cells #[.int .i64 0, .int .i64 0] 41 (0, 0)) hgb2 (heap_keep ha1) (by omega); obtain ⟨kb10, kb11, kb12, kb13⟩ := two_cells hb1; have hb2 := gb_heap (k := w1.heap.size) (o := .cells #[.int .i64 (plc b p 0 : Int), .int .i64 0] 41 (0, 0)) hgb2 (heap_new _ _) (by omega); obtain ⟨kb20, kb21, kb22, kb23⟩ := two_cells hb2; skip) | (go_at_call 90; refine (byte_f s hs b p g hp _ (by (repeat (first | with_reducible apply RdAt.drewN | with_reducible apply RdAt.drew | with_reducible apply RdAt.alloc | with_reducible apply RdAt.moved2 | with_reducible apply RdAt.moved4 | with_reducible apply RdAt.moved1 | (with_reducible refine RdAt.new ?_ _ _ (by dsimp only; omega)))); exact H)).mono ?_; rintro e w1 ⟨rfl, hgb, hr⟩; rw [hF] at hr ⊢; dsimp only at hr ⊢; have hsz := hgb.size; simp only [World.size_alloc] at hsz; have ha0 := gb_heap (k := w.heap.size) (o := .cells #[.int .u8 0, .int .u8 0] 83 (0, 0)) hgb (heap_keep (heap_new _ _)) (by omega); obtain ⟨ka00, ka01, ka02, ka03⟩ := two_cells ha0; have ha1 := gb_heap (k := w.heap.size + 1) (o := .cells #[.int .i64 0, .int .i64 0] 41 (0, 0)) hgb (heap_new1 _ _ _) (by omega); obtain ⟨ka10, ka11, ka12, ka13⟩ := two_cells ha1; skip))
        go_region
        go_wp2
        refine bodyPost_ret (v := .tuple #[.agg #[.int .u8 (x : Int), .int .u8 (y : Int)], .agg #[.int .i64 (plc b (q + 1) c' : Int), .int .i64 (c' : Int)]]) (by simp [results, Tryd.results78, go_sem, kc00, kc01, kc10, kc11, kc20, kc21]) rfl (itm_mk HI.out ?_ ?_)
        · (repeat (first | with_reducible exact gb_refl _ _ | with_reducible apply gb_drewN | with_reducible apply gb_drew | with_reducible apply Go.Lib.grownBy_allocR | (with_reducible refine gb_new ?_ _ (by dsimp only; omega) _) | with_reducible apply Go.Lib.grownBy_setB))
          refine Go.Lib.grownBy_trans (Go.Lib.grownBy_trans (Go.Lib.grownBy_trans ?_ hgb) (Go.Lib.grownBy_trans ?_ hgb2)) hgb3 <;> (repeat (first | with_reducible exact gb_refl _ _ | with_reducible apply gb_drewN | with_reducible apply gb_drew | with_reducible apply Go.Lib.grownBy_allocR | (with_reducible refine gb_new ?_ _ (by dsimp only; omega) _) | with_reducible apply Go.Lib.grownBy_setB))
        · (repeat (first | with_reducible apply RdAt.drewN | with_reducible apply RdAt.drew | with_reducible apply RdAt.alloc | with_reducible apply RdAt.moved2 | with_reducible apply RdAt.moved4 | with_reducible apply RdAt.moved1 | (with_reducible refine RdAt.new ?_ _ _ (by dsimp only; omega)))); exact hr3
    · have HI : Hid (itemF s b p = (x, x, q, plc b p 0, 0)) := Lib.hid (by unfold itemF; rw [hF]; dsimp only; rw [if_pos rfl, if_neg d]; rfl)
      go_wp2_with (first | (go_at_call 90; refine (byte_f s hs b p g hp _ (by (repeat (first | with_reducible apply RdAt.drewN | with_reducible apply RdAt.drew | with_reducible apply RdAt.alloc | with_reducible apply RdAt.moved2 | with_reducible apply RdAt.moved4 | with_reducible apply RdAt.moved1 | (with_reducible refine RdAt.new ?_ _ _ (by dsimp only; omega)))); exact H)).mono ?_; rintro e w1 ⟨rfl, hgb, hr⟩; rw [hF] at hr ⊢; dsimp only at hr ⊢; have hsz := hgb.size; simp only [World.size_alloc] at hsz; have ha0 := gb_heap (k := w.heap.size) (o := .cells #[.int .u8 0, .int .u8 0] 83 (0, 0)) hgb (heap_keep (heap_new _ _)) (by omega); obtain ⟨ka00, ka01, ka02, ka03⟩ := two_cells ha0; have ha1 := gb_heap (k := w.heap.size + 1) (o := .cells #[.int .i64 0, .int .i64 0] 41 (0, 0)) hgb (heap_new1 _ _ _) (by omega); obtain ⟨ka10, ka11, ka12, ka13⟩ := two_cells ha1; skip) | (go_at_call 77; refine (skip_c s hs b q g 45 (by decide) hq2 _ (by (repeat (first | with_reducible apply RdAt.drewN | with_reducible apply RdAt.drew | with_reducible apply RdAt.alloc | with_reducible apply RdAt.moved2 | with_reducible apply RdAt.moved4 | with_reducible apply RdAt.moved1 | (with_reducible refine RdAt.new ?_ _ _ (by dsimp only; omega)))); exact hr)).mono ?_; rintro e w2 ⟨he, hgb2, hr2⟩; rw [decide_eq_false d] at he; rw [if_neg d] at hr2; subst he; have hsz2 := hgb2.size; simp only [World.size_alloc] at hsz2; have hb0 := gb_heap (k := w.heap.size) (o := .cells #[.int .u8 0, .int .u8 0] 83 (0, 0)) hgb2 (heap_keep ha0) (by omega); obtain ⟨kb00, kb01, kb02, kb03⟩ := two_cells hb0; have hb1 := gb_heap (k := w.heap.size + 1) (o := .cells #[.int .i64 0, .int .i64 0] 41 (0, 0)) hgb2 (heap_keep ha1) (by omega); obtain ⟨kb10, kb11, kb12, kb13⟩ := two_cells hb1; have hb2 := gb_heap (k := w1.heap.size) (o := .cells #[.int .i64 (plc b p 0 : Int), .int .i64 0] 41 (0, 0)) hgb2 (heap_new _ _) (by omega); obtain ⟨kb20, kb21, kb22, kb23⟩ := two_cells hb2; skip))
      go_region
      go_wp2
      refine bodyPost_ret (v := .tuple #[.agg #[.int .u8 (x : Int), .int .u8 (x : Int)], .agg #[.int .i64 (plc b p 0 : Int), .int .i64 (0 : Int)]]) (by simp [results, Tryd.results78, go_sem, kb00, kb01, kb10, kb11]) rfl (itm_mk HI.out ?_ ?_)
      · (repeat (first | with_reducible exact gb_refl _ _ | with_reducible apply gb_drewN | with_reducible apply gb_drew | with_reducible apply Go.Lib.grownBy_allocR | (with_reducible refine gb_new ?_ _ (by dsimp only; omega) _) | with_reducible apply Go.Lib.grownBy_setB))
        refine Go.Lib.grownBy_trans (Go.Lib.grownBy_trans ?_ hgb) (Go.Lib.grownBy_trans ?_ hgb2) <;> (repeat (first | with_reducible exact gb_refl _ _ | with_reducible apply gb_drewN | with_reducible apply gb_drew | with_reducible apply Go.Lib.grownBy_allocR | (with_reducible refine gb_new ?_ _ (by dsimp only; omega) _) | with_reducible apply Go.Lib.grownBy_setB))
      · (repeat (first | with_reducible apply RdAt.drewN | with_reducible apply RdAt.drew | with_reducible apply RdAt.alloc | with_reducible apply RdAt.moved2 | with_reducible apply RdAt.moved4 | with_reducible apply RdAt.moved1 | (with_reducible refine RdAt.new ?_ _ _ (by dsimp only; omega)))); exact hr2
  · have HI : Hid (itemF s b p = (x, x, q, plc b p c, c)) := Lib.hid (by unfold itemF; rw [hF]; dsimp only; rw [if_neg h0])
    go_wp2_with (go_at_call 90; refine (byte_f s hs b p g hp _ (by (repeat (first | with_reducible apply RdAt.drewN | with_reducible apply RdAt.drew | with_reducible apply RdAt.alloc | with_reducible apply RdAt.moved2 | with_reducible apply RdAt.moved4 | with_reducible apply RdAt.moved1 | (with_reducible refine RdAt.new ?_ _ _ (by dsimp only; omega)))); exact H)).mono ?_; rintro e w1 ⟨rfl, hgb, hr⟩; rw [hF] at hr ⊢; dsimp only at hr ⊢; have hsz := hgb.size; simp only [World.size_alloc] at hsz; have ha0 := gb_heap (k := w.heap.size) (o := .cells #[.int .u8 0, .int .u8 0] 83 (0, 0)) hgb (heap_keep (heap_new _ _)) (by omega); obtain ⟨ka00, ka01, ka02, ka03⟩ := two_cells ha0; have ha1 := gb_heap (k := w.heap.size + 1) (o := .cells #[.int .i64 0, .int .i64 0] 41 (0, 0)) hgb (heap_new1 _ _ _) (by omega); obtain ⟨ka10, ka11, ka12, ka13⟩ := two_cells ha1; skip)
    have hb0 := heap_keep (o := .cells #[.int .i64 (plc b p c : Int), .int .i64 (c : Int)] 41 (0, 0)) ha0
    have hb1 := heap_keep (o := .cells #[.int .i64 (plc b p c : Int), .int .i64 (c : Int)] 41 (0, 0)) ha1
    obtain ⟨kb00, kb01, kb02, kb03⟩ := two_cells hb0
    obtain ⟨kb10, kb11, kb12, kb13⟩ := two_cells hb1
    go_region
    go_wp2
    refine bodyPost_ret (v := .tuple #[.agg #[.int .u8 (x : Int), .int .u8 (x : Int)], .agg #[.int .i64 (plc b p c : Int), .int .i64 (c : Int)]]) (by simp [results, Tryd.results78, go_sem, kb00, kb01, kb10, kb11]) rfl (itm_mk HI.out ?_ ?_)
    · (repeat (first | with_reducible exact gb_refl _ _ | with_reducible apply gb_drewN | with_reducible apply gb_drew | with_reducible apply Go.Lib.grownBy_allocR | (with_reducible refine gb_new ?_ _ (by dsimp only; omega) _) | with_reducible apply Go.Lib.grownBy_setB))
      refine Go.Lib.grownBy_trans ?_ hgb
      (repeat (first | with_reducible exact gb_refl _ _ | with_reducible apply gb_drewN | with_reducible apply gb_drew | with_reducible apply Go.Lib.grownBy_allocR | (with_reducible refine gb_new ?_ _ (by dsimp only; omega) _) | with_reducible apply Go.Lib.grownBy_setB))
    · (repeat (first | with_reducible apply RdAt.drewN | with_reducible apply RdAt.drew | with_reducible apply RdAt.alloc | with_reducible apply RdAt.moved2 | with_reducible apply RdAt.moved4 | with_reducible apply RdAt.moved1 | (with_reducible refine RdAt.new ?_ _ _ (by dsimp only; omega)))); exact hr
end Go.Proofs.YtldjdcdoegjmoaaDoor
set_option linter.unusedVariables false
set_option linter.unusedSimpArgs false
namespace Go.Proofs.YtldjdcdoegjmoaaDoor
open Go.RowKit
theorem own_base {w : World} {base : Nat} {e : TypeId} {size n : Nat} {v : Value} {xs : List Value} (h : w.ownsRow base e size v n xs) (k : Nat) (hk : v.ownBlock = some k) : base ≤ k := by
  rcases h.2 with ⟨rfl, _⟩ | ⟨g, cap, cur, rfl, hb, _⟩
  · simp [Value.ownBlock] at hk
  · have : g = k := by simpa [Value.ownBlock] using hk
    omega
theorem own_ne {w : World} {base : Nat} {e : TypeId} {size n : Nat} {v : Value} {xs : List Value} (h : w.ownsRow base e size v n xs) {g : Nat} {cs : Array Value} {t : TypeId} {fr : Nat × Nat} (hg : w.heap[g]? = some (.cells cs t fr)) (hne : t ≠ e) : v.ownBlock ≠ some g := by
  rcases h.2 with ⟨rfl, _⟩ | ⟨g', cap, cur, rfl, hb, hh, _⟩
  · simp [Value.ownBlock]
  · intro hk
    have : g' = g := by simpa [Value.ownBlock] using hk
    subst this
    rw [hh] at hg
    injection hg with hg
    injection hg with _ ht
    exact hne ht.symm
theorem own_below {w w1 : World} {base : Nat} {e : TypeId} {size n : Nat} {v : Value} {xs : List Value} (h : w.ownsRow base e size v n xs) (hb : Below w.heap.size w w1) : w1.ownsRow base e size v n xs := by
  obtain ⟨h1, h2⟩ := h
  refine ⟨h1, ?_⟩
  rcases h2 with h2 | ⟨g, cap, cur, hv, hg, hh, r⟩
  · exact .inl h2
  · exact .inr ⟨g, cap, cur, hv, hg, heap_same hb hh, r⟩
theorem own_other {w w1 : World} {base : Nat} {e : TypeId} {size n : Nat} {v : Value} {xs : List Value} (h : w.ownsRow base e size v n xs) (hk : ∀ g o, w.heap[g]? = some o → v.ownBlock = some g → w1.heap[g]? = some o) : w1.ownsRow base e size v n xs := by
  obtain ⟨h1, h2⟩ := h
  refine ⟨h1, ?_⟩
  rcases h2 with h2 | ⟨g, cap, cur, hv, hg, hh, r⟩
  · exact .inl h2
  · exact .inr ⟨g, cap, cur, hv, hg, hk g _ hh (by rw [hv]; rfl), r⟩
section
variable {P : Program} {ops : Array Oper} {rest : List Oper} {o : Oper} {a : Act} {Q : Exit → Act → World → Prop}
/-- append(v, y), y one element: behind the literal's block. -/
theorem app1 {w0 W : World} (base : Nat) (hgd : o.guard = none) (s x : Operand) (t e : TypeId) (z : Value) (size bytes : Nat)
    (ho : o.op = .call { callee := .builtin .append, args := #[s, x], argTypes := #[t, t] })
    (ht : P.underlying t = some (.slice e)) (hinfo : (P.info? e).map (fun i => (i.zero, i.size, i.bytes)) = some (some z, size, bytes)) (hz : z.cells.size = size) (hsz : 0 < size)
    (v : Value) (n : Nat) (xs : List Value) (y : Array Value) (hy : y.size = size) (h1 : ∀ u ∈ y.toList, u.oneCell' = true) (hs : a.eval s = v) (hx : a.eval x = .slice (some ⟨W.heap.size, 0, none⟩) 1 1)
    (HO : W.ownsRow base e size v n xs) (HB : Below base w0 W) (hbase : base ≤ W.heap.size) (hn : n + 1 ≤ 9223372036854775807) (hl : (n + 1) * bytes ≤ 140737488355328)
    (h : ∀ g c w1, w1.ownsRow base e size (.slice (some ⟨g, 0, none⟩) (n + 1) c) (n + 1) (xs ++ y.toList) → Below base w0 w1 → (∀ k b, W.heap[k]? = some b → v.ownBlock ≠ some k → w1.heap[k]? = some b) → W.heap.size ≤ w1.heap.size →
      wpList P ops Q rest (a.put o.dst (.slice (some ⟨g, 0, none⟩) (n + 1) c)) w1) :
    wpList P ops Q (o :: rest) a (W.alloc (.cells y e)) := by
  obtain ⟨i0, hi, hz0, hz1, hz2⟩ := info_parts hinfo
  refine wpList_append_own _ hgd s x t ho base e i0 z size bytes ht hi hz0 hz1 hz2 hz hsz v n xs hs (HO.alloc _) ⟨W.heap.size, 0, none⟩ 1 1 y.toList hx (by simp [hy]) ?_ h1 (by simpa [maxLen] using hn) hl (by simp; omega) ?_
  · intro j u hj
    have ha : (⟨W.heap.size, 0, none⟩ : Addr).add j = ⟨W.heap.size, j, none⟩ := by unfold Addr.add; split <;> simp_all
    rw [ha, cell_of_row _ _ _ _ _ _ (heap_new W _)]
    simpa using hj
  · intro v1 w1 hown hg _
    have hown' := hown
    rcases hown.2 with ⟨rfl, h0⟩ | ⟨g, cap, cur, rfl, _⟩
    · omega
    · refine h g cap w1 hown' ((HB.alloc hbase _).grown hg (by simp; omega) (own_base HO)) ?_ (by have := hg.size; simp at this; omega)
      intro k b hk hne
      rw [hg.block k (by have := heap_lt hk; simp; omega) (fun e => hne e.symm)]
      exact heap_keep hk
theorem own_form {w : World} {base : Nat} {e : TypeId} {size n : Nat} {v : Value} {xs : List Value} (h : w.ownsRow base e size v n xs) : ∃ A c, v = .slice A n c := by
  rcases h.2 with ⟨rfl, rfl⟩ | ⟨g, cap, cur, rfl, _⟩
  · exact ⟨none, 0, rfl⟩
  · exact ⟨_, cap, rfl⟩
end
end Go.Proofs.YtldjdcdoegjmoaaDoor
set_option linter.unusedVariables false
set_option linter.unusedSimpArgs false
namespace Go.Proofs.YtldjdcdoegjmoaaDoor
open Go.RowKit
/-- The bytes below k that are in. -/
def Cls.below (a : Cls) (k : Nat) : List Nat := (List.range k).filter a.mem
def Cls.bytes (a : Cls) : List Nat := a.below 256
end Go.Proofs.YtldjdcdoegjmoaaDoor
namespace Go.Proofs.YtldjdcdoegjmoaaDoor
/-- How many of the first n fit. -/
def cnt (p : Nat → Bool) (n : Nat) : Nat := ((List.range n).filter p).length
theorem cnt_add (p : Nat → Bool) (a b : Nat) : cnt p (a + b) = cnt p a + cnt (fun j => p (a + j)) b := by
  unfold cnt
  rw [List.range_add, List.filter_append, List.length_append, List.filter_map, List.length_map]
  rfl
theorem cnt_congr {p q : Nat → Bool} {n : Nat} (h : ∀ i, i < n → p i = q i) : cnt p n = cnt q n := by
  unfold cnt
  rw [List.filter_congr (fun x hx => h x (by simpa using hx))]
theorem and_split (Q R M m : Nat) (hR : R < 256) (hm : m < 256) : (256 * Q + R) &&& (256 * M + m) = 256 * (Q &&& M) + (R &&& m) := by
  have hRm : R &&& m < 256 := Nat.lt_of_le_of_lt Nat.and_le_left hR
  apply Nat.eq_of_testBit_eq
  intro i
  rw [Nat.testBit_and, show 256 = 2 ^ 8 from rfl, Nat.testBit_two_pow_mul_add _ hR, Nat.testBit_two_pow_mul_add _ hm, Nat.testBit_two_pow_mul_add _ hRm]
  by_cases h : i < 8
  · simp [h]
  · simp [h]
def on1 (x : Nat) : Nat := (x / 2 &&& 6148914691236517205) + (x &&& 6148914691236517205)
def on2 (x : Nat) : Nat := (x / 4 &&& 3689348814741910323) + (x &&& 3689348814741910323)
def on3 (x : Nat) : Nat := (x / 16 + x) &&& 1085102592571150095
def on4 (x : Nat) : Nat := x + x / 256
def on5 (x : Nat) : Nat := x + x / 65536
def on6 (x : Nat) : Nat := x + x / 4294967296
/-- One byte's. -/
def by1 (r : Nat) : Nat := (r / 2 &&& 85) + (r &&& 85)
def by2 (u : Nat) : Nat := (u / 4 &&& 51) + (u &&& 51)
/-- The masks of n bytes. -/
def mask (m : Nat) : Nat → Nat
  | 0 => 0
  | n + 1 => 256 * mask m n + m
def s1 (n x : Nat) : Nat := (x / 2 &&& mask 85 n) + (x &&& mask 85 n)
def s2 (n x : Nat) : Nat := (x / 4 &&& mask 51 n) + (x &&& mask 51 n)
theorem low1 : ∀ (c : Fin 2) (r : Fin 256), (128 * c.val + r.val / 2) &&& 85 = r.val / 2 &&& 85 := by decide +kernel
theorem low2 : ∀ (c : Fin 4) (r : Fin 256), (64 * c.val + r.val / 4) &&& 51 = r.val / 4 &&& 51 := by decide +kernel
theorem s1_step (n q r : Nat) (hr : r < 256) : s1 (n + 1) (256 * q + r) = 256 * s1 n q + by1 r := by
  unfold s1 by1
  rw [show mask 85 (n + 1) = 256 * mask 85 n + 85 from rfl]
  have e : (256 * q + r) / 2 = 256 * (q / 2) + (128 * (q % 2) + r / 2) := by omega
  rw [e, and_split _ _ _ _ (by omega) (by omega), and_split _ _ _ _ hr (by omega)]
  have l := low1 ⟨q % 2, by omega⟩ ⟨r, hr⟩
  simp only at l
  rw [l]
  omega
theorem s2_step (n q r : Nat) (hr : r < 256) : s2 (n + 1) (256 * q + r) = 256 * s2 n q + by2 r := by
  unfold s2 by2
  rw [show mask 51 (n + 1) = 256 * mask 51 n + 51 from rfl]
  have e : (256 * q + r) / 4 = 256 * (q / 4) + (64 * (q % 4) + r / 4) := by omega
  rw [e, and_split _ _ _ _ (by omega) (by omega), and_split _ _ _ _ hr (by omega)]
  have l := low2 ⟨q % 4, by omega⟩ ⟨r, hr⟩
  simp only at l
  rw [l]
  omega
theorem by_facts : ∀ r : Fin 256, by1 r.val < 256 ∧ by2 (by1 r.val) < 256 ∧ by2 (by1 r.val) % 16 ≤ 4 ∧ by2 (by1 r.val) / 16 ≤ 4 ∧ by2 (by1 r.val) / 16 + by2 (by1 r.val) % 16 = cnt r.val.testBit 8 := by decide +kernel
/-- The bytes, the lowest first, put together. -/
def join : List Nat → Nat
  | [] => 0
  | b :: l => 256 * join l + b
theorem s2s1_join : ∀ (l : List Nat), (∀ b ∈ l, b < 256) → s2 l.length (s1 l.length (join l)) = join (l.map fun b => by2 (by1 b))
  | [], _ => by simp [s1, s2, join, mask]
  | b :: l, h => by
    have hb : b < 256 := h b (by simp)
    have ih := s2s1_join l (fun x hx => h x (by simp [hx]))
    rw [List.length_cons, List.map_cons, join, join, s1_step _ _ _ hb, s2_step _ _ _ (by_facts ⟨b, hb⟩).1, ih]
theorem and15 (n : Nat) : n &&& 15 = n % 16 := Nat.and_two_pow_sub_one_eq_mod n 4
theorem s3_join : ∀ (l : List Nat), (∀ c ∈ l, c % 16 ≤ 4 ∧ c / 16 ≤ 4) → (join l / 16 + join l) &&& mask 15 l.length = join (l.map fun c => c / 16 + c % 16) ∧ join l % 16 ≤ 4
  | [], _ => by simp [join, mask]
  | c :: l, h => by
    obtain ⟨h1, h2⟩ := h c (by simp)
    obtain ⟨ih, hl⟩ := s3_join l (fun x hx => h x (by simp [hx]))
    rw [List.length_cons, List.map_cons]
    simp only [join, mask]
    have e : (256 * join l + c) / 16 + (256 * join l + c) = 256 * (join l / 16 + join l) + (16 * (join l % 16) + c / 16 + c) := by omega
    refine ⟨?_, by omega⟩
    rw [e, and_split _ _ _ _ (by omega) (by omega), ih, and15]
    omega
theorem on_sum (c0 c1 c2 c3 c4 c5 c6 c7 : Nat) (h0 : c0 ≤ 8) (h1 : c1 ≤ 8) (h2 : c2 ≤ 8) (h3 : c3 ≤ 8) (h4 : c4 ≤ 8) (h5 : c5 ≤ 8) (h6 : c6 ≤ 8) (h7 : c7 ≤ 8) :
    on6 (on5 (on4 (join [c0, c1, c2, c3, c4, c5, c6, c7]))) % 128 = c0 + c1 + c2 + c3 + c4 + c5 + c6 + c7 := by
  have ej : join [c0, c1, c2, c3, c4, c5, c6, c7] = 256 * (256 * (256 * (256 * (256 * (256 * (256 * c7 + c6) + c5) + c4) + c3) + c2) + c1) + c0 := by simp [join]
  have e4 : on4 (join [c0, c1, c2, c3, c4, c5, c6, c7]) = 256 * (256 * (256 * (256 * (256 * (256 * (256 * c7 + (c6 + c7)) + (c5 + c6)) + (c4 + c5)) + (c3 + c4)) + (c2 + c3)) + (c1 + c2)) + (c0 + c1) := by
    rw [ej]; unfold on4
    rw [Nat.mul_add_div (by omega), Nat.div_eq_of_lt (show c0 < 256 by omega)]
    omega
  have e5 : on5 (on4 (join [c0, c1, c2, c3, c4, c5, c6, c7])) = 65536 * (65536 * (65536 * (256 * c7 + (c6 + c7)) + (256 * (c5 + c6 + c7) + (c4 + c5 + c6 + c7))) + (256 * (c3 + c4 + c5 + c6) + (c2 + c3 + c4 + c5))) + (256 * (c1 + c2 + c3 + c4) + (c0 + c1 + c2 + c3)) := by
    rw [e4]; unfold on5
    have hA : 256 * (256 * (256 * (256 * (256 * (256 * (256 * c7 + (c6 + c7)) + (c5 + c6)) + (c4 + c5)) + (c3 + c4)) + (c2 + c3)) + (c1 + c2)) + (c0 + c1) = 65536 * (256 * (256 * (256 * (256 * (256 * c7 + (c6 + c7)) + (c5 + c6)) + (c4 + c5)) + (c3 + c4)) + (c2 + c3)) + (256 * (c1 + c2) + (c0 + c1)) := by omega
    rw [hA, Nat.mul_add_div (by omega), Nat.div_eq_of_lt (show 256 * (c1 + c2) + (c0 + c1) < 65536 by omega)]
    omega
  rw [e5]
  unfold on6
  have hB : 65536 * (65536 * (65536 * (256 * c7 + (c6 + c7)) + (256 * (c5 + c6 + c7) + (c4 + c5 + c6 + c7))) + (256 * (c3 + c4 + c5 + c6) + (c2 + c3 + c4 + c5))) + (256 * (c1 + c2 + c3 + c4) + (c0 + c1 + c2 + c3)) = 4294967296 * (65536 * (256 * c7 + (c6 + c7)) + (256 * (c5 + c6 + c7) + (c4 + c5 + c6 + c7))) + (65536 * (256 * (c3 + c4 + c5 + c6) + (c2 + c3 + c4 + c5)) + (256 * (c1 + c2 + c3 + c4) + (c0 + c1 + c2 + c3))) := by omega
  rw [hB, Nat.mul_add_div (by omega), Nat.div_eq_of_lt (show 65536 * (256 * (c3 + c4 + c5 + c6) + (c2 + c3 + c4 + c5)) + (256 * (c1 + c2 + c3 + c4) + (c0 + c1 + c2 + c3)) < 4294967296 by omega)]
  omega
theorem mask85 : mask 85 8 = 6148914691236517205 := by simp [mask]
theorem mask51 : mask 51 8 = 3689348814741910323 := by simp [mask]
theorem mask15 : mask 15 8 = 1085102592571150095 := by simp [mask]
theorem on_join (b0 b1 b2 b3 b4 b5 b6 b7 : Nat) (h0 : b0 < 256) (h1 : b1 < 256) (h2 : b2 < 256) (h3 : b3 < 256) (h4 : b4 < 256) (h5 : b5 < 256) (h6 : b6 < 256) (h7 : b7 < 256) :
    on6 (on5 (on4 (on3 (on2 (on1 (join [b0, b1, b2, b3, b4, b5, b6, b7])))))) % 128 =
      cnt b0.testBit 8 + cnt b1.testBit 8 + cnt b2.testBit 8 + cnt b3.testBit 8 + cnt b4.testBit 8 + cnt b5.testBit 8 + cnt b6.testBit 8 + cnt b7.testBit 8 := by
  have hb : ∀ b ∈ [b0, b1, b2, b3, b4, b5, b6, b7], b < 256 := by simp; omega
  have hs := s2s1_join [b0, b1, b2, b3, b4, b5, b6, b7] hb
  have e2 : on2 (on1 (join [b0, b1, b2, b3, b4, b5, b6, b7])) = join ([b0, b1, b2, b3, b4, b5, b6, b7].map fun b => by2 (by1 b)) := by
    rw [← hs]; unfold on2 on1 s2 s1; simp only [List.length_cons, List.length_nil, Nat.reduceAdd, mask85, mask51]
  have h3' := (s3_join ([b0, b1, b2, b3, b4, b5, b6, b7].map fun b => by2 (by1 b)) (fun c hc => by
    obtain ⟨b, hm, rfl⟩ := List.mem_map.1 hc
    have f := by_facts ⟨b, hb b hm⟩
    exact ⟨f.2.2.1, f.2.2.2.1⟩)).1
  have e3 : on3 (on2 (on1 (join [b0, b1, b2, b3, b4, b5, b6, b7]))) = join (([b0, b1, b2, b3, b4, b5, b6, b7].map fun b => by2 (by1 b)).map fun c => c / 16 + c % 16) := by
    rw [e2, ← h3']; unfold on3; simp only [List.length_map, List.length_cons, List.length_nil, Nat.reduceAdd, mask15]
  have hm : ∀ b, b < 256 → by2 (by1 b) / 16 + by2 (by1 b) % 16 = cnt b.testBit 8 ∧ by2 (by1 b) / 16 + by2 (by1 b) % 16 ≤ 8 := fun b h => by
    have f := by_facts ⟨b, h⟩
    exact ⟨f.2.2.2.2, by have := f.2.2.1; have := f.2.2.2.1; simp only at *; omega⟩
  rw [e3]
  simp only [List.map_cons, List.map_nil]
  rw [(hm b0 h0).1, (hm b1 h1).1, (hm b2 h2).1, (hm b3 h3).1, (hm b4 h4).1, (hm b5 h5).1, (hm b6 h6).1, (hm b7 h7).1]
  exact on_sum _ _ _ _ _ _ _ _ ((hm b0 h0).1 ▸ (hm b0 h0).2) ((hm b1 h1).1 ▸ (hm b1 h1).2) ((hm b2 h2).1 ▸ (hm b2 h2).2) ((hm b3 h3).1 ▸ (hm b3 h3).2) ((hm b4 h4).1 ▸ (hm b4 h4).2) ((hm b5 h5).1 ▸ (hm b5 h5).2) ((hm b6 h6).1 ▸ (hm b6 h6).2) ((hm b7 h7).1 ▸ (hm b7 h7).2)
/-- The bytes of a number below 2 to the 64. -/
theorem ones_eq {x : Nat} (hx : x < w64) : on6 (on5 (on4 (on3 (on2 (on1 x))))) % 128 = cnt x.testBit 64 := by
  unfold w64 at hx
  have hj : x = join [x % 256, x / 256 % 256, x / 65536 % 256, x / 16777216 % 256, x / 4294967296 % 256, x / 1099511627776 % 256, x / 281474976710656 % 256, x / 72057594037927936 % 256] := by
    simp only [join]; omega
  have hb : ∀ i j, j < 8 → x.testBit (8 * i + j) = (x / 2 ^ (8 * i) % 256).testBit j := by
    intro i j h
    rw [show 256 = 2 ^ 8 from rfl, Nat.testBit_mod_two_pow, Nat.testBit_div_two_pow]
    simp [h, Nat.add_comm]
  have hc : ∀ i, cnt (fun j => x.testBit (8 * i + j)) 8 = cnt (x / 2 ^ (8 * i) % 256).testBit 8 := fun i => cnt_congr fun j h => hb i j h
  have h64 : cnt x.testBit 64 = cnt (x % 256).testBit 8 + cnt (x / 256 % 256).testBit 8 + cnt (x / 65536 % 256).testBit 8 + cnt (x / 16777216 % 256).testBit 8 + cnt (x / 4294967296 % 256).testBit 8 + cnt (x / 1099511627776 % 256).testBit 8 + cnt (x / 281474976710656 % 256).testBit 8 + cnt (x / 72057594037927936 % 256).testBit 8 := by
    rw [show 64 = 56 + 8 from rfl, cnt_add, show 56 = 48 + 8 from rfl, cnt_add, show 48 = 40 + 8 from rfl, cnt_add, show 40 = 32 + 8 from rfl, cnt_add, show 32 = 24 + 8 from rfl, cnt_add, show 24 = 16 + 8 from rfl, cnt_add, show 16 = 8 + 8 from rfl, cnt_add]
    have g0 := hc 0; have g1 := hc 1; have g2 := hc 2; have g3 := hc 3; have g4 := hc 4; have g5 := hc 5; have g6 := hc 6; have g7 := hc 7
    simp only [Nat.mul_zero, Nat.zero_add, Nat.pow_zero, Nat.div_one, Nat.reduceMul, Nat.reducePow, Nat.reduceAdd] at *
    rw [g0, g1, g2, g3, g4, g5, g6, g7]
  rw [h64]
  conv => lhs; rw [hj]
  exact on_join _ _ _ _ _ _ _ _ (by omega) (by omega) (by omega) (by omega) (by omega) (by omega) (by omega) (by omega)
end Go.Proofs.YtldjdcdoegjmoaaDoor
set_option linter.unusedVariables false
set_option linter.unusedSimpArgs false
namespace Go.Proofs.YtldjdcdoegjmoaaDoor
open Go.RowKit
theorem and_le' (a : Nat) {m : Nat} : a &&& m ≤ m := Nat.and_le_right
theorem o1_int {x : Nat} (hx : x < w64) : IntKind.u64.wrap (bits .and .u64 ((x : Int) / 2) 6148914691236517205 + bits .and .u64 (x : Int) 6148914691236517205) = ((on1 x : Nat) : Int) := by
  have hm : (6148914691236517205 : Nat) < w64 := by unfold w64; omega
  rw [show ((x : Int) / 2) = ((x / 2 : Nat) : Int) by omega, show (6148914691236517205 : Int) = ((6148914691236517205 : Nat) : Int) from rfl, bits_and (Nat.lt_of_le_of_lt (Nat.div_le_self _ _) hx) hm, bits_and hx hm, IntKind.wrap_u64]
  have h1 := and_le' (x / 2) (m := 6148914691236517205); have h2 := and_le' x (m := 6148914691236517205)
  unfold on1
  omega
theorem o2_int {x : Nat} (hx : x < w64) : IntKind.u64.wrap (bits .and .u64 ((x : Int) / 4) 3689348814741910323 + bits .and .u64 (x : Int) 3689348814741910323) = ((on2 x : Nat) : Int) := by
  have hm : (3689348814741910323 : Nat) < w64 := by unfold w64; omega
  rw [show ((x : Int) / 4) = ((x / 4 : Nat) : Int) by omega, show (3689348814741910323 : Int) = ((3689348814741910323 : Nat) : Int) from rfl, bits_and (Nat.lt_of_le_of_lt (Nat.div_le_self _ _) hx) hm, bits_and hx hm, IntKind.wrap_u64]
  have h1 := and_le' (x / 4) (m := 3689348814741910323); have h2 := and_le' x (m := 3689348814741910323)
  unfold on2
  omega
theorem on1_lt (x : Nat) : on1 x < w64 := by
  have h1 := and_le' (x / 2) (m := 6148914691236517205); have h2 := and_le' x (m := 6148914691236517205)
  unfold on1 w64; omega
theorem on2_le (x : Nat) : on2 x ≤ 7378697629483820646 := by
  have h1 := and_le' (x / 4) (m := 3689348814741910323); have h2 := and_le' x (m := 3689348814741910323)
  unfold on2; omega
theorem o3_int {x : Nat} (hx : x ≤ 7378697629483820646) : bits .and .u64 (IntKind.u64.wrap ((x : Int) / 16 + (x : Int))) 1085102592571150095 = ((on3 x : Nat) : Int) := by
  have hm : (1085102592571150095 : Nat) < w64 := by unfold w64; omega
  rw [show IntKind.u64.wrap ((x : Int) / 16 + (x : Int)) = ((x / 16 + x : Nat) : Int) by rw [IntKind.wrap_u64]; omega, show (1085102592571150095 : Int) = ((1085102592571150095 : Nat) : Int) from rfl, bits_and (by unfold w64; omega) hm]
  rfl
theorem on3_le (x : Nat) : on3 x ≤ 1085102592571150095 := and_le' _
theorem o4_int {x : Nat} (hx : x ≤ 1085102592571150095) : IntKind.u64.wrap ((x : Int) + (x : Int) / 256) = ((on4 x : Nat) : Int) := by rw [IntKind.wrap_u64]; unfold on4; omega
theorem on4_le {x : Nat} (hx : x ≤ 1085102592571150095) : on4 x ≤ 1090000000000000000 := by unfold on4; omega
theorem o5_int {x : Nat} (hx : x ≤ 1090000000000000000) : IntKind.u64.wrap ((x : Int) + (x : Int) / 65536) = ((on5 x : Nat) : Int) := by rw [IntKind.wrap_u64]; unfold on5; omega
theorem on5_le {x : Nat} (hx : x ≤ 1090000000000000000) : on5 x ≤ 1100000000000000000 := by unfold on5; omega
theorem o6_int {x : Nat} (hx : x ≤ 1100000000000000000) : IntKind.u64.wrap ((x : Int) + (x : Int) / 4294967296) = ((on6 x : Nat) : Int) := by rw [IntKind.wrap_u64]; unfold on6; omega
theorem on6_le {x : Nat} (hx : x ≤ 1100000000000000000) : on6 x ≤ 1200000000000000000 := by unfold on6; omega
theorem ones_c (x : Nat) (hx : x < w64) (w : World) : Calls Tryd.prog 82 #[.int .u64 x] w fun e w' => e = .returned (.int .i64 (cnt x.testBit 64)) ∧ w = w' := by
  have H := Lib.hid hx; clear hx
  go_enter Tryd.func82, Tryd.ntmps82
  go_wp2
  go_ret
  refine ⟨ret_v ?_, rfl⟩
  rw [← ones_eq H.out]
  have hx := H.out
  simp only [Array.getD_eq_getD_getElem?, List.getElem?_toArray, List.getElem?_cons_succ, List.getElem?_cons_zero, Option.getD_some]
  rw [o1_int hx, o2_int (on1_lt x), o3_int (on2_le _), o4_int (on3_le _), o5_int (on4_le (on3_le _)), o6_int (on5_le (on4_le (on3_le _)))]
  have hl := on6_le (on5_le (on4_le (on3_le (on2 (on1 x)))))
  generalize on6 (on5 (on4 (on3 (on2 (on1 x))))) = n at hl ⊢
  have e1 : wrap64 (n : Int) = (n : Int) := by unfold wrap64; omega
  rw [e1, show (127 : Int) = ((127 : Nat) : Int) from rfl, (bits_nat .i64 62 (by decide) (fun m h0 h1 => by rw [IntKind.wrap_i64]; omega) n 127 (by omega) (by omega)).1]
  exact congrArg (fun z : Nat => Value.int .i64 (z : Int)) (Nat.and_two_pow_sub_one_eq_mod n 7)
theorem Cls.count_eq (a : Cls) : a.bytes.length = cnt a.c0.testBit 64 + cnt a.c1.testBit 64 + cnt a.c2.testBit 64 + cnt a.c3.testBit 64 := by
  show cnt a.mem 256 = _
  have h : ∀ k, k < 4 → cnt (fun j => a.mem (64 * k + j)) 64 = cnt (a.word k).testBit 64 := fun k hk => cnt_congr fun j hj => by
    unfold Cls.mem
    rw [show (64 * k + j) / 64 = k by omega, show (64 * k + j) % 64 = j by omega]
  have h0 := h 0 (by omega); have h1 := h 1 (by omega); have h2 := h 2 (by omega); have h3 := h 3 (by omega)
  rw [show 256 = 192 + 64 from rfl, cnt_add, show 192 = 128 + 64 from rfl, cnt_add, show 128 = 64 + 64 from rfl, cnt_add]
  simp only [Nat.mul_zero, Nat.zero_add, Nat.reduceMul] at h0 h1 h2 h3
  rw [show cnt a.mem 64 = cnt a.c0.testBit 64 from h0]
  have g1 : cnt (fun j => a.mem (64 + j)) 64 = cnt a.c1.testBit 64 := h1
  have g2 : cnt (fun j => a.mem (64 + 64 + j)) 64 = cnt a.c2.testBit 64 := h2
  have g3 : cnt (fun j => a.mem (128 + 64 + j)) 64 = cnt a.c3.testBit 64 := h3
  rw [g1, g2, g3]
set_option maxRecDepth 100000 in
theorem count_c (a : Cls) (ha : a.ok) (w : World) : Calls Tryd.prog 60 #[V4 a] w fun e w' => e = .returned (.int .i64 a.bytes.length) ∧ Below w.heap.size w w' := by
  have HA := Lib.hid ha; clear ha
  have i0 : ∀ w, (Instr.index 24 (V4 a) (.int .i64 0)).run Tryd.prog w = .ok (.int .u64 a.c0) w := fun _ => by kernel_rfl
  have i1 : ∀ w, (Instr.index 24 (V4 a) (.int .i64 1)).run Tryd.prog w = .ok (.int .u64 a.c1) w := fun _ => by kernel_rfl
  have i2 : ∀ w, (Instr.index 24 (V4 a) (.int .i64 2)).run Tryd.prog w = .ok (.int .u64 a.c2) w := fun _ => by kernel_rfl
  have i3 : ∀ w, (Instr.index 24 (V4 a) (.int .i64 3)).run Tryd.prog w = .ok (.int .u64 a.c3) w := fun _ => by kernel_rfl
  have l0 : cnt a.c0.testBit 64 ≤ 64 := Nat.le_trans (List.length_filter_le _ _) (by simp)
  have l1 : cnt a.c1.testBit 64 ≤ 64 := Nat.le_trans (List.length_filter_le _ _) (by simp)
  have l2 : cnt a.c2.testBit 64 ≤ 64 := Nat.le_trans (List.length_filter_le _ _) (by simp)
  have l3 : cnt a.c3.testBit 64 ≤ 64 := Nat.le_trans (List.length_filter_le _ _) (by simp)
  go_enter Tryd.func60, Tryd.ntmps60
  go_wp2_with fail
  refine wp_loop_rounds 5 ?_
  rw [rounds_succ]
  go_wp2_with (go_at_call 82; refine (ones_c a.c0 HA.out.1 _).mono ?_; rintro e w' ⟨rfl, rfl⟩)
  rw [rounds_succ]
  go_wp2_with (go_at_call 82; refine (ones_c a.c1 HA.out.2.1 _).mono ?_; rintro e w' ⟨rfl, rfl⟩)
  rw [rounds_succ]
  go_wp2_with (go_at_call 82; refine (ones_c a.c2 HA.out.2.2.1 _).mono ?_; rintro e w' ⟨rfl, rfl⟩)
  rw [rounds_succ]
  go_wp2_with (go_at_call 82; refine (ones_c a.c3 HA.out.2.2.2 _).mono ?_; rintro e w' ⟨rfl, rfl⟩)
  rw [rounds_succ]
  go_wp2_with fail
  go_ret
  refine ⟨ret_v ?_, (Below.refl _ _).alloc (Nat.le_refl _) _⟩
  rw [Cls.count_eq]
  exact congrArg (Value.int .i64) (by omega)
theorem put_c (a : Cls) (ha : a.ok) (x : Nat) (hx : x < 256) (g : Nat) (w : World) (hc : w.heap[g]? = some (.cells a.cells 24 (0, 0))) :
    Calls Tryd.prog 91 #[.pointer (some ⟨g, 0, none⟩), .int .u8 (x : Int)] w fun e w' => e = .returned (.tuple #[]) ∧ w' = (w.setCell ⟨g, x / 64, none⟩ (.int .u64 ((a.word (x / 64) ||| 2 ^ (x % 64) : Nat) : Int))).drew := by
  have c0 : w.cell? ⟨g, x / 64, none⟩ = some (.int .u64 (a.word (x / 64))) := by rw [cell_of_row _ _ _ _ _ _ hc]; exact a.cells_at (x / 64) (by omega)
  have f0 : w.frozen? ⟨g, x / 64, none⟩ = false := frozen_of_row _ _ _ _ _ hc
  have HC := Lib.hid hc; have HA := Lib.hid ha; clear hc ha
  go_enter Tryd.func91, Tryd.ntmps91
  go_wp2
  go_region
  go_wp2
  go_end0
  exact ⟨rfl, by rw [bits_put HA.out]⟩
end Go.Proofs.YtldjdcdoegjmoaaDoor
set_option linter.unusedVariables false
set_option linter.unusedSimpArgs false
namespace Go.Proofs.YtldjdcdoegjmoaaDoor
open Go.RowKit
/-- A slice of ranges that is read. -/
def RdRanges (w : World) (A : Option Addr) (n : Nat) (l : List (Nat × Nat)) : Prop :=
  l.length = n ∧ n * 2 ≤ 140737488351232 ∧ (∀ p ∈ l, p.1 < 256 ∧ p.2 < 256) ∧ (0 < n → ∃ b off, A = some ⟨b, off, none⟩ ∧
    ∀ j, j < n → w.cell? ⟨b, off + j * 2, none⟩ = some (.int .u8 ((l.getD j (0, 0)).1 : Int)) ∧ w.cell? ⟨b, off + j * 2 + 1, none⟩ = some (.int .u8 ((l.getD j (0, 0)).2 : Int)))
/-- Is a byte in one of some ranges? -/
def inRanges (l : List (Nat × Nat)) (i : Nat) : Bool := l.any fun p => decide (p.1 ≤ i) && decide (i ≤ p.2)
theorem rng_none (f : Nat → Bool) (lo : Nat) : (Cls.ofFn fun j => f j || (decide (lo ≤ j) && decide (j < lo))) = Cls.ofFn f := Cls.ofFn_congr fun j _ => by
  have h : (decide (lo ≤ j) && decide (j < lo)) = false := by
    by_cases q : lo ≤ j
    · simp [show ¬ j < lo by omega]
    · simp [q]
  rw [h, Bool.or_false]
theorem rng_put (f : Nat → Bool) (lo m : Nat) (h : lo ≤ m) (hm : m < 256) : (Cls.ofFn fun j => f j || (decide (lo ≤ j) && decide (j < m))).put m = Cls.ofFn fun j => f j || (decide (lo ≤ j) && decide (j < m + 1)) := by
  rw [Cls.put_ofFn _ _ hm]
  refine Cls.ofFn_congr fun j _ => ?_
  by_cases e : j = m
  · subst e; simp [h]
  · rw [show decide (j < m + 1) = decide (j < m) by by_cases q : j < m <;> simp [q] <;> omega]
    simp [e]
theorem rng_done (l : List (Nat × Nat)) (k lo hi m : Nat) (hk : k < l.length) (hp : l.getD k (0, 0) = (lo, hi)) (hle : hi < m) (h3 : m ≤ hi + 1 ∨ m = lo) :
    (Cls.ofFn fun j => inRanges (l.take k) j || (decide (lo ≤ j) && decide (j < m))) = Cls.ofFn (inRanges (l.take (k + 1))) := Cls.ofFn_congr fun j _ => by
  have ht : l.take (k + 1) = l.take k ++ [(lo, hi)] := by
    rw [List.take_succ_eq_append_getElem hk]
    rw [List.getD_eq_getElem?_getD, List.getElem?_eq_getElem hk] at hp
    simp only [Option.getD_some] at hp
    rw [hp]
  rw [ht]
  unfold inRanges
  rw [List.any_append]
  have h : (decide (lo ≤ j) && decide (j < m)) = (decide (lo ≤ j) && decide (j ≤ hi)) := by
    by_cases q : lo ≤ j
    · by_cases q2 : j ≤ hi
      · simp [q, q2, show j < m by omega]
      · simp [q, q2, show ¬ j < m by omega]
    · simp [q]
  rw [h]
  simp
set_option maxRecDepth 100000 in
theorem of_c (A : Option Addr) (n cap : Nat) (l : List (Nat × Nat)) (w : World) (h : RdRanges w A n l) : Calls Tryd.prog 79 #[.slice A n cap] w fun e w' => e = .returned (V4 (Cls.ofFn (inRanges l))) ∧ Below w.heap.size w w' := by
  obtain ⟨hl, hn, hr, hc⟩ := h
  have HC := Lib.hid hc; have HR := Lib.hid hr; have HL := Lib.hid hl; clear hc hr hl
  go_enter Tryd.func79, Tryd.ntmps79
  go_wp2
  go_loopw [9, 5, 6] (fun i _ _ wr => ∃ k : Nat, k ≤ n ∧ i = .int .i64 k ∧ Below w.heap.size w wr ∧ wr.heap[w.heap.size]? = some (.cells Cls.none.cells 24 (0, 0)) ∧
      wr.heap[w.heap.size + 1]? = some (.cells (Cls.ofFn (inRanges (l.take k))).cells 24 (0, 0))) (fun i _ _ _ => n - (intOf i).toNat)
  case atStart =>
    exact ⟨0, by omega, rfl, ((Below.refl _ _).alloc (Nat.le_refl _) _).alloc (by simp) _, heap_keep (heap_new _ _), by
      rw [show Cls.ofFn (inRanges (l.take 0)) = Cls.none by rw [Cls.none_ofFn]; rfl]; exact heap_new1 _ _ _⟩
  case round =>
    obtain ⟨k, hk, rfl, hB, h0, h1⟩ := hrel
    obtain ⟨wo, rfl⟩ : ∃ wo : World, wo = wr := ⟨_, rfl⟩
    by_cases hlt : k < n
    · obtain ⟨b, off, hA, hcs⟩ := HC.out (by omega)
      obtain ⟨c0, c1⟩ := hcs k hlt
      subst hA
      have hb0 := World.block_lt_of_cell? _ _ c0
      dsimp only at hb0
      have d0 := (hB.cell (p := ⟨b, off + k * 2, none⟩) hb0).trans c0
      have d1 := (hB.cell (p := ⟨b, off + k * 2 + 1, none⟩) hb0).trans c1
      obtain ⟨lo, hi, hp⟩ : ∃ lo hi, l.getD k (0, 0) = (lo, hi) := ⟨_, _, rfl⟩
      rw [hp] at d0 d1
      have H0 := Lib.hid h0; have H1 := Lib.hid h1; have HP := Lib.hid hp; clear h0 h1 hp c0 c1 hcs
      have hm : (lo, hi) ∈ l := by rw [← HP.out, List.getD_eq_getElem?_getD, List.getElem?_eq_getElem (by rw [HL.out]; exact hlt)]; exact List.getElem_mem _
      have hlo : lo < 256 := (HR.out _ hm).1
      have hhi : hi < 256 := (HR.out _ hm).2
      clear hm
      go_wp2
      go_loopw [6] (fun i wq => ∃ m : Nat, lo ≤ m ∧ m ≤ 256 ∧ (m ≤ hi + 1 ∨ m = lo) ∧ i = .int .i64 m ∧ Below w.heap.size w wq ∧ w.heap.size + 1 < wo.heap.size ∧ wq.heap[w.heap.size]? = some (.cells Cls.none.cells 24 (0, 0)) ∧
        wq.heap[w.heap.size + 1]? = some (.cells (Cls.ofFn fun j => inRanges (l.take k) j || (decide (lo ≤ j) && decide (j < m))).cells 24 (0, 0)) ∧ wq.heap[wo.heap.size]? = some (.cells #[.int .u8 lo, .int .u8 hi] 83 (0, 0))) (fun i _ => 256 - (intOf i).toNat)
      case atStart =>
        have hsz := heap_lt H1.out
        refine ⟨lo, by omega, by omega, .inr rfl, by first | rfl | (go_simp; done), hB.alloc hB.size _, by omega, heap_keep H0.out, ?_, heap_new _ _⟩
        rw [rng_none]
        exact heap_keep H1.out
      case round =>
        obtain ⟨m, hm1, hm2, hm3, rfl, hBq, hsz, q0, q1, q2⟩ := hrel
        have c0 : wr.cell? ⟨wo.heap.size, 1, none⟩ = some (.int .u8 (hi : Int)) := by rw [cell_of_row _ _ _ _ _ _ q2]; rfl
        have Q0 := Lib.hid q0; have Q1 := Lib.hid q1; have Q2 := Lib.hid q2; have H3 := Lib.hid hm3; clear q0 q1 q2 hm3
        by_cases hle : m ≤ hi
        · go_wp2_with (go_at_call 91; refine (put_c _ (Cls.ok_ofFn _) m (by omega) (w.heap.size + 1) _ Q1.out).mono ?_; rintro e w' ⟨rfl, rfl⟩)
          go_roundw
          case rel =>
            refine ⟨m + 1, by omega, by omega, .inl (by omega), by go_num, (hBq.setCell (by dsimp only; omega) _).drew, hsz, heap_drew' (heap_other (by dsimp only; omega) Q0.out), heap_drew' ?_, heap_drew' (heap_other (by dsimp only; omega) Q2.out)⟩
            rw [heap_put Q1.out, Cls.cells_put (by omega), rng_put _ _ _ hm1 (by omega)]
          case measure => simp [intOf]; omega
        · go_wp2
          go_roundw
          case rel =>
            refine ⟨k + 1, by omega, by go_num, hBq, Q0.out, ?_⟩
            rw [Q1.out, rng_done l k lo hi m (by rw [HL.out]; exact hlt) HP.out (by omega) H3.out]
          case measure => simp [intOf]; omega
    · obtain rfl : k = n := by omega
      have H0 := Lib.hid h0; have H1 := Lib.hid h1; clear h0 h1
      go_wp2_with (first | (refine wpList_load_row rfl 24 _ rfl (w.heap.size + 1) rfl _ _ _ _ H1.out Tryd.underlying24 rfl (infoCls _) ?_) | (refine wpList_store_row rfl 24 _ _ rfl w.heap.size _ rfl rfl _ _ H0.out (infoCls _) rfl (Cls.cells_one (Cls.ofFn _)) ?_))
      have H4 := Lib.hid (setRow_heap wo w.heap.size _ (Cls.ofFn (inRanges (l.take k))).cells 24 (0, 0) H0.out)
      refine bodyPost_ret (v := V4 (Cls.ofFn (inRanges (l.take k)))) (results_cell_row Tryd.results79 _ _ _ _ _ _ _ rfl H4.out Tryd.underlying24 rfl (infoCls _)) rfl ⟨?_, below_setRow hB (Nat.le_refl _) _⟩
      rw [List.take_of_length_le (by rw [HL.out]; exact Nat.le_refl _)]
end Go.Proofs.YtldjdcdoegjmoaaDoor
set_option linter.unusedVariables false
set_option linter.unusedSimpArgs false
namespace Go.Proofs.YtldjdcdoegjmoaaDoor
open Go.RowKit
/-- The items up to the ]: the ranges, the place behind it, where what is wrong is told, what is wrong. -/
def itemsF (s : ByteArray) (b : Nat) : Nat → Nat → List (Nat × Nat) → List (Nat × Nat) × Nat × Nat × Nat
  | 0, _, _ => ([], 0, 0, 1)
  | k + 1, p, l =>
    if p < s.size ∧ bat s p = 93 then (l, p + 1, 0, 0)
    else if (itemF s b p).2.2.2.2 = 0 then itemsF s b k (itemF s b p).2.2.1 (l ++ [((itemF s b p).1, (itemF s b p).2.1)])
    else ([], 0, (itemF s b p).2.2.2.1, (itemF s b p).2.2.2.2)
theorem itemF_next (s : ByteArray) (b p : Nat) (h : p ≤ s.size) : p ≤ (itemF s b p).2.2.1 ∧ (itemF s b p).2.2.1 ≤ s.size := by
  have h1 := byteF_next s p h
  unfold itemF
  split
  · split
    · next q =>
      have h2 := byteF_next s ((byteF s p).2.1 + 1) (by omega)
      split <;> (dsimp only; omega)
    · exact h1
  · exact h1
theorem itemF_on (s : ByteArray) (b p : Nat) (h : p ≤ s.size) (h0 : (itemF s b p).2.2.2.2 = 0) : p < (itemF s b p).2.2.1 := by
  revert h0
  have h1 := byteF_next s p h
  have h3 := byteF_on s p
  unfold itemF
  split
  · next q0 =>
    split
    · next q =>
      have h2 := byteF_next s ((byteF s p).2.1 + 1) (by omega)
      split <;> (intro _; dsimp only; have := h3 q0; omega)
    · intro _; exact h3 q0
  · next q0 => intro h; exact absurd h q0
theorem itemF_bytes (s : ByteArray) (b p : Nat) : (itemF s b p).1 < 256 ∧ (itemF s b p).2.1 < 256 := by
  have h1 := byteF_byte s p
  have h2 := byteF_byte s ((byteF s p).2.1 + 1)
  unfold itemF
  split
  · split
    · split <;> exact ⟨h1, h2⟩
    · exact ⟨h1, h1⟩
  · exact ⟨h1, h1⟩
/-- A list of ranges: its cells. -/
def rcells (l : List (Nat × Nat)) : List Value := l.flatMap fun p => [.int .u8 (p.1 : Int), .int .u8 (p.2 : Int)]
theorem rcells_snoc (l : List (Nat × Nat)) (a b : Nat) : rcells (l ++ [(a, b)]) = rcells l ++ [.int .u8 (a : Int), .int .u8 (b : Int)] := by unfold rcells; simp
theorem rcells_at : ∀ (l : List (Nat × Nat)) (j : Nat), j < l.length → (rcells l)[j * 2]? = some (.int .u8 ((l.getD j (0, 0)).1 : Int)) ∧ (rcells l)[j * 2 + 1]? = some (.int .u8 ((l.getD j (0, 0)).2 : Int))
  | [], j, h => by simp at h
  | p :: l, 0, _ => ⟨rfl, rfl⟩
  | p :: l, j + 1, h => by
    have ih := rcells_at l j (by simpa using h)
    have e : rcells (p :: l) = .int .u8 (p.1 : Int) :: .int .u8 (p.2 : Int) :: rcells l := by simp [rcells]
    rw [e, show (j + 1) * 2 = j * 2 + 1 + 1 by omega]
    exact ih
theorem infoRng : (Tryd.prog.info? 83).map (fun i => (i.zero, i.size, i.bytes)) = some (some (.agg #[.int .u8 0, .int .u8 0]), 2, 2) := by kernel_rfl
/-- A slice of ranges of the call's own is read. -/
theorem own_ranges {w : World} {base : Nat} {v : Value} {l : List (Nat × Nat)} (h : w.ownsRow base 83 2 v l.length (rcells l)) (hn : l.length * 2 ≤ 140737488351232) (hb : ∀ p ∈ l, p.1 < 256 ∧ p.2 < 256) :
    ∃ A c, v = .slice A l.length c ∧ RdRanges w A l.length l := by
  rcases h.2 with ⟨rfl, h0⟩ | ⟨g, cap, cur, rfl, _⟩
  · exact ⟨none, 0, by rw [h0], rfl, hn, hb, fun q => by omega⟩
  · refine ⟨_, cap, rfl, rfl, hn, hb, fun _ => ⟨g, 0, rfl, fun j hj => ?_⟩⟩
    have e := rcells_at l j hj
    constructor
    · rw [Nat.zero_add, World.ownsRow.cellAt h (j * 2) (by omega)]; exact e.1
    · rw [Nat.zero_add, World.ownsRow.cellAt h (j * 2 + 1) (by omega)]; exact e.2
def lenOf (v : Value) : Nat := match v with | .slice _ n _ => n | _ => 0
def parseF (s : ByteArray) (p : Nat) : Cls × Nat × Nat × Nat :=
  if p < s.size ∧ bat s p = 91 then
    let o := p + 1 < s.size ∧ bat s (p + 1) = 94
    let r := itemsF s p (s.size + 1) (if o then p + 2 else p + 1) []
    if r.2.2.2 = 0 then (if o then (Cls.ofFn (inRanges r.1)).not else Cls.ofFn (inRanges r.1), r.2.1, 0, 0) else (Cls.none, 0, r.2.2.1, r.2.2.2)
  else (Cls.none, 0, p, 30)
def parseV (r : Cls × Nat × Nat × Nat) : Value := .tuple #[V4 r.1, .int .i64 (r.2.1 : Int), .agg #[.int .i64 (r.2.2.1 : Int), .int .i64 (r.2.2.2 : Int)]]
/-- What is read at a place that may be none. -/
def parseI (s : ByteArray) (n : Int) : Cls × Nat × Nat × Nat := if n < 0 ∨ (s.size : Int) < n then (Cls.none, 0, 0, 5) else parseF s n.toNat
end Go.Proofs.YtldjdcdoegjmoaaDoor
set_option linter.unusedVariables false
set_option linter.unusedSimpArgs false
namespace Go.Proofs.YtldjdcdoegjmoaaDoor
def dstOf (ops : Array Oper) (i : Nat) : Option Tmp := (ops[i]?).bind (·.dst)
def written (ops : Array Oper) (t : Tmp) : Bool := (List.range ops.size).any fun i => dstOf ops i == some t
/-- The values laid into their slots, in the text's order. -/
def putAll (ops : Array Oper) (f : Nat → Value) (a : Act) : Nat → Act
  | 0 => a
  | n + 1 => (putAll ops f a n).put (dstOf ops n) (f n)
section
variable {P : Program} {ops : Array Oper} {Q : Exit → Act → World → Prop}
/-- What an operation may lean on: the slots that it waits for, and those that the region leaves alone. -/
def Leans (ops : Array Oper) (V : Nat → Value → Prop) (a0 : Act) (o : Oper) (a : Act) : Prop :=
  (∀ e ∈ o.after, Region.binds .any e = true → ∀ t, dstOf ops e.on = some t → ∃ v, a.tmps[t]? = some v ∧ V e.on v) ∧ (∀ t, written ops t = false → a.tmps[t]? = a0.tmps[t]?)
theorem Leans.free {V : Nat → Value → Prop} {a0 : Act} {o : Oper} {a : Act} (h : Leans ops V a0 o a) (t : Tmp) (ht : written ops t = false) : a.tmps[t]?.getD undef = a0.tmps[t]?.getD undef := by
  rw [h.2 t ht]
theorem Leans.wanted {V : Nat → Value → Prop} {a0 : Act} {o : Oper} {a : Act} (h : Leans ops V a0 o a) (j : Nat) (t : Tmp) (b : Bool) (hg : o.guard = some (j, b)) (hj : (o.after.any fun e => e.on == j && Region.binds .any e) = true) (ht : dstOf ops j = some t) (hv : ∀ v, V j v → v = .bool b) : Region.wanted o (yielded ops a.tmps) = true := by
  rw [← Array.any_toList, List.any_eq_true] at hj
  obtain ⟨e, he, hh⟩ := hj
  have he := Array.mem_toList_iff.1 he
  simp only [Bool.and_eq_true, beq_iff_eq] at hh
  obtain ⟨rfl, hb⟩ := hh
  obtain ⟨v, h1, h2⟩ := h.1 e he hb t ht
  have := hv v h2
  subst this
  unfold Region.wanted yielded
  unfold dstOf at ht
  rw [hg]
  dsimp only
  rw [ht]
  simp [h1]
end
end Go.Proofs.YtldjdcdoegjmoaaDoor
set_option linter.unusedVariables false
set_option linter.unusedSimpArgs false
namespace Go.Proofs.YtldjdcdoegjmoaaDoor
open Go.RowKit
theorem below_setA {B : Nat} {w w' : World} (h : Below B w w') (a : Addr) (v : Value) (ha : B ≤ a.block) : Below B w (w'.setCell a v) := h.setCell ha v
theorem below_drewN' {B : Nat} {w w' : World} {n : Nat} (h : Below B w w') : Below B w (w'.drewN n) := below_drewN h _
theorem below_allocs {w w' : World} (h : Below w.heap.size w w') (o : Obj) : Below w.heap.size w (w'.alloc o) := h.alloc h.size o
end Go.Proofs.YtldjdcdoegjmoaaDoor

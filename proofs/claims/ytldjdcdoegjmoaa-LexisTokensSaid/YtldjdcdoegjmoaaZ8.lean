import Derived.Laws.AppendOwn
import Derived.Maps.AppendAt
import Derived.OwnWalk
import Derived.WalkKit
import Derived.Test.YtldjdcdoegjmoaaZ1
import Derived.Test.YtldjdcdoegjmoaaZ7
set_option linter.unusedVariables false
set_option linter.unusedSimpArgs false
namespace Go.Proofs.Ytldjdcdoegjmoaa
open Go.RowKit
def plc (b p c : Nat) : Nat := if c = 0 then 0 else if c = 41 then b else p
def fval (p c : Nat) : Value := .agg #[.int .i64 (p : Int), .int .i64 (c : Int)]
theorem fv2_eq (b p c : Nat) : fv2 b p c = fval (plc b p c) c := by
 unfold fv2 fv fval plc
 by_cases h : c = 41
 · subst h; rfl
 · rw [if_neg h]
   by_cases h0 : c = 0
   · subst h0; rfl
   · rw [if_neg h0, if_neg h0, if_neg h]
def itemF (s : ByteArray) (b p : Nat) : Nat × Nat × Nat × Nat × Nat :=
 if (byteF s p).2.2 = 0 then
  if (byteF s p).2.1 < s.size ∧ bat s (byteF s p).2.1 = 45 then
   if (byteF s ((byteF s p).2.1 + 1)).2.2 = 0 ∧ (byteF s ((byteF s p).2.1 + 1)).1 < (byteF s p).1 then ((byteF s p).1, (byteF s ((byteF s p).2.1 + 1)).1, (byteF s ((byteF s p).2.1 + 1)).2.1, p, 30)
   else ((byteF s p).1, (byteF s ((byteF s p).2.1 + 1)).1, (byteF s ((byteF s p).2.1 + 1)).2.1, plc b ((byteF s p).2.1 + 1) (byteF s ((byteF s p).2.1 + 1)).2.2, (byteF s ((byteF s p).2.1 + 1)).2.2)
  else ((byteF s p).1, (byteF s p).1, (byteF s p).2.1, 0, 0)
 else ((byteF s p).1, (byteF s p).1, (byteF s p).2.1, plc b p (byteF s p).2.2, (byteF s p).2.2)
theorem escF_next (s : ByteArray) (p : Nat) (h : p < s.size) : p ≤ (escF s p).2.1 ∧ (escF s p).2.1 ≤ s.size := by
 unfold escF
 repeat' (split)
 all_goals (dsimp only; omega)
theorem byteF_next (s : ByteArray) (p : Nat) (h : p ≤ s.size) : p ≤ (byteF s p).2.1 ∧ (byteF s p).2.1 ≤ s.size := by
 unfold byteF
 split
 · next q =>
   unfold sayF
   split
   · exact escF_next s p q
   · split <;> (dsimp only; omega)
 · dsimp only; omega
theorem escF_on (s : ByteArray) (p : Nat) (h0 : (escF s p).2.2 = 0) : p < (escF s p).2.1 := by
 revert h0
 unfold escF
 repeat' (split)
 all_goals (intro h0; dsimp only at h0 ⊢; omega)
theorem byteF_on (s : ByteArray) (p : Nat) (h0 : (byteF s p).2.2 = 0) : p < (byteF s p).2.1 := by
 revert h0
 unfold byteF
 split
 · unfold sayF
   split
   · exact escF_on s p
   · split <;> (intro h0; dsimp only at h0 ⊢; omega)
 · intro h0; dsimp only at h0; omega
theorem escF_byte (s : ByteArray) (p : Nat) : (escF s p).1 < 256 := by
 have h1 := hexv_hi (bat s (p + 2)); have h2 := hexv_hi (bat s (p + 3)); have h3 := bat_lt s (p + 1)
 unfold escF
 repeat' (split)
 all_goals (dsimp only; omega)
theorem byteF_byte (s : ByteArray) (p : Nat) : (byteF s p).1 < 256 := by
 unfold byteF
 split
 · unfold sayF
   split
   · exact escF_byte s p
   · split
     · dsimp only; omega
     · exact bat_lt s p
 · dsimp only; omega
theorem byte_f (s : ByteArray) (hs : s.size ≤ bigN) (b p g : Nat) (hp : p ≤ s.size) (w : World) (H : RdAt w g s b p) : Calls Try.prog 66 #[.pointer (some ⟨g, 0, none⟩)] w fun e w' =>
 e = .returned (.tuple #[.int .u8 ((byteF s p).1 : Int), .agg #[.int .i64 (plc b p (byteF s p).2.2 : Int), .int .i64 ((byteF s p).2.2 : Int)]]) ∧ w.grownBy w' (some g) ∧ RdAt w' g s b (byteF s p).2.1 :=
 (byte_c s hs b p g hp w H).mono fun _ _ h => ⟨by rw [h.1, fv2_eq]; rfl, h.2.1, h.2.2⟩
def Itemed (s : ByteArray) (b p g : Nat) (f : Nat × Nat × Nat × Nat × Nat) (w : World) (e : Ending) (w' : World) : Prop :=
 e = .returned (.tuple #[.agg #[.int .u8 (f.1 : Int), .int .u8 (f.2.1 : Int)], .agg #[.int .i64 (f.2.2.2.1 : Int), .int .i64 (f.2.2.2.2 : Int)]]) ∧ w.grownBy w' (some g) ∧ RdAt w' g s b f.2.2.1
theorem itm_mk {s : ByteArray} {b p g : Nat} {f q : Nat × Nat × Nat × Nat × Nat} {w w' : World} (hf : f = q) (hw : w.grownBy w' (some g)) (h : RdAt w' g s b q.2.2.1) :
 Itemed s b p g f w (.returned (.tuple #[.agg #[.int .u8 (q.1 : Int), .int .u8 (q.2.1 : Int)], .agg #[.int .i64 (q.2.2.2.1 : Int), .int .i64 (q.2.2.2.2 : Int)]])) w' := by subst hf; exact ⟨rfl, hw, h⟩
set_option maxRecDepth 100000 in
set_option maxHeartbeats 1000000 in
theorem item_c (s : ByteArray) (hs : s.size ≤ bigN) (b p g : Nat) (hp : p ≤ s.size) (w : World) (H : RdAt w g s b p) : Calls Try.prog 55 #[.pointer (some ⟨g, 0, none⟩)] w (Itemed s b p g (itemF s b p) w) := by
 have c0 := H.c0; have c1 := H.c1; have c2 := H.c2; have f2 := H.f2; have hg := heap_lt H
 obtain ⟨x, q, c, hF⟩ : ∃ x q c, byteF s p = (x, q, c) := ⟨_, _, _, rfl⟩
 have hq := byteF_next s p hp
 rw [hF] at hq
 dsimp only at hq
 obtain ⟨hq1, hq2⟩ := hq
 go_enter Try.func55, Try.ntmps55
 by_cases h0 : c = 0
 · subst h0
   by_cases d : q < s.size ∧ bat s q = 45
   · obtain ⟨y, r, c', hG⟩ : ∃ y r c', byteF s (q + 1) = (y, r, c') := ⟨_, _, _, rfl⟩
     have hy : itemF s b p = if c' = 0 ∧ y < x then (x, y, r, p, 30) else (x, y, r, plc b (q + 1) c', c') := by unfold itemF; rw [hF]; dsimp only; rw [if_pos rfl, if_pos d, hG]
     have HY := Lib.hid hy; clear hy
     by_cases hc : c' = 0
     · subst hc
       by_cases hlt : y < x
       · have HI : Hid (itemF s b p = (x, y, r, p, 30)) := Lib.hid (by rw [HY.out, if_pos ⟨rfl, hlt⟩])
         go_wp2_with (first | (go_at_call 66; refine (byte_f s hs b (q + 1) g (by omega) _ (by (repeat (first | with_reducible apply RdAt.drewN | with_reducible apply RdAt.drew | with_reducible apply RdAt.alloc | with_reducible apply RdAt.moved2 | with_reducible apply RdAt.moved4 | with_reducible apply RdAt.moved1 | (with_reducible refine RdAt.new ?_ _ _ (by dsimp only; omega)))); exact hr2)).mono ?_; rintro e w3 ⟨rfl, hgb3, hr3⟩; rw [hG] at hr3 ⊢; dsimp only at hr3 ⊢; have hsz3 := hgb3.size; have hc0 := gb_heap (k := w.heap.size) (o := .cells #[.int .u8 0, .int .u8 0] 77 (0, 0)) hgb3 (hb0) (by omega); obtain ⟨kc00, kc01, kc02, kc03⟩ := two_cells hc0; have hc1 := gb_heap (k := w.heap.size + 1) (o := .cells #[.int .i64 0, .int .i64 0] 31 (0, 0)) hgb3 (hb1) (by omega); obtain ⟨kc10, kc11, kc12, kc13⟩ := two_cells hc1; have hc2 := gb_heap (k := w1.heap.size) (o := .cells #[.int .i64 (plc b p 0 : Int), .int .i64 0] 31 (0, 0)) hgb3 (hb2) (by omega); obtain ⟨kc20, kc21, kc22, kc23⟩ := two_cells hc2; skip) | (go_at_call 54; refine (skip_c s hs b q g 45 (by decide) hq2 _ (by (repeat (first | with_reducible apply RdAt.drewN | with_reducible apply RdAt.drew | with_reducible apply RdAt.alloc | with_reducible apply RdAt.moved2 | with_reducible apply RdAt.moved4 | with_reducible apply RdAt.moved1 | (with_reducible refine RdAt.new ?_ _ _ (by dsimp only; omega)))); exact hr)).mono ?_; rintro e w2 ⟨he, hgb2, hr2⟩; rw [decide_eq_true d] at he; rw [if_pos d] at hr2; subst he; have hsz2 := hgb2.size; simp only [World.size_alloc] at hsz2; have hb0 := gb_heap (k := w.heap.size) (o := .cells #[.int .u8 0, .int .u8 0] 77 (0, 0)) hgb2 (heap_keep ha0) (by omega); obtain ⟨kb00, kb01, kb02, kb03⟩ := two_cells hb0; have hb1 := gb_heap (k := w.heap.size + 1) (o := .cells #[.int .i64 0, .int .i64 0] 31 (0, 0)) hgb2 (heap_keep ha1) (by omega); obtain ⟨kb10, kb11, kb12, kb13⟩ := two_cells hb1; have hb2 := gb_heap (k := w1.heap.size) (o := .cells #[.int .i64 (plc b p 0 : Int), .int .i64 0] 31 (0, 0)) hgb2 (heap_new _ _) (by omega); obtain ⟨kb20, kb21, kb22, kb23⟩ := two_cells hb2; skip) | (go_at_call 66; refine (byte_f s hs b p g hp _ (by (repeat (first | with_reducible apply RdAt.drewN | with_reducible apply RdAt.drew | with_reducible apply RdAt.alloc | with_reducible apply RdAt.moved2 | with_reducible apply RdAt.moved4 | with_reducible apply RdAt.moved1 | (with_reducible refine RdAt.new ?_ _ _ (by dsimp only; omega)))); exact H)).mono ?_; rintro e w1 ⟨rfl, hgb, hr⟩; rw [hF] at hr ⊢; dsimp only at hr ⊢; have hsz := hgb.size; simp only [World.size_alloc] at hsz; have ha0 := gb_heap (k := w.heap.size) (o := .cells #[.int .u8 0, .int .u8 0] 77 (0, 0)) hgb (heap_keep (heap_new _ _)) (by omega); obtain ⟨ka00, ka01, ka02, ka03⟩ := two_cells ha0; have ha1 := gb_heap (k := w.heap.size + 1) (o := .cells #[.int .i64 0, .int .i64 0] 31 (0, 0)) hgb (heap_new1 _ _ _) (by omega); obtain ⟨ka10, ka11, ka12, ka13⟩ := two_cells ha1; skip))
         obtain ⟨_, _, hd⟩ := set_two (x := .int .i64 (plc b (q + 1) 0 : Int)) (y := .int .i64 0) hc2
         obtain ⟨_, _, hd'⟩ := set_two (x := .int .i64 (p : Int)) (y := .int .i64 30) hd
         obtain ⟨kd0, kd1, kd2, kd3⟩ := two_cells hd'
         go_region
         go_wp2
         refine bodyPost_ret (v := .tuple #[.agg #[.int .u8 (x : Int), .int .u8 (y : Int)], .agg #[.int .i64 (p : Int), .int .i64 (30 : Int)]]) (by simp [results, Try.results55, go_sem, kc00, kc01, kc10, kc11, kc20, kc21]) rfl (itm_mk HI.out ?_ ?_)
         · (repeat (first | with_reducible exact gb_refl _ _ | with_reducible apply gb_drewN | with_reducible apply gb_drew | with_reducible apply Go.Lib.grownBy_allocR | (with_reducible refine gb_new ?_ _ (by dsimp only; omega) _) | with_reducible apply Go.Lib.grownBy_setB))
           refine Go.Lib.grownBy_trans (Go.Lib.grownBy_trans (Go.Lib.grownBy_trans ?_ hgb) (Go.Lib.grownBy_trans ?_ hgb2)) hgb3 <;> (repeat (first | with_reducible exact gb_refl _ _ | with_reducible apply gb_drewN | with_reducible apply gb_drew | with_reducible apply Go.Lib.grownBy_allocR | (with_reducible refine gb_new ?_ _ (by dsimp only; omega) _) | with_reducible apply Go.Lib.grownBy_setB))
         · (repeat (first | with_reducible apply RdAt.drewN | with_reducible apply RdAt.drew | with_reducible apply RdAt.alloc | with_reducible apply RdAt.moved2 | with_reducible apply RdAt.moved4 | with_reducible apply RdAt.moved1 | (with_reducible refine RdAt.new ?_ _ _ (by dsimp only; omega)))); exact hr3
       · have HI : Hid (itemF s b p = (x, y, r, plc b (q + 1) 0, 0)) := Lib.hid (by rw [HY.out, if_neg (fun h => hlt h.2)])
         go_wp2_with (first | (go_at_call 66; refine (byte_f s hs b (q + 1) g (by omega) _ (by (repeat (first | with_reducible apply RdAt.drewN | with_reducible apply RdAt.drew | with_reducible apply RdAt.alloc | with_reducible apply RdAt.moved2 | with_reducible apply RdAt.moved4 | with_reducible apply RdAt.moved1 | (with_reducible refine RdAt.new ?_ _ _ (by dsimp only; omega)))); exact hr2)).mono ?_; rintro e w3 ⟨rfl, hgb3, hr3⟩; rw [hG] at hr3 ⊢; dsimp only at hr3 ⊢; have hsz3 := hgb3.size; have hc0 := gb_heap (k := w.heap.size) (o := .cells #[.int .u8 0, .int .u8 0] 77 (0, 0)) hgb3 (hb0) (by omega); obtain ⟨kc00, kc01, kc02, kc03⟩ := two_cells hc0; have hc1 := gb_heap (k := w.heap.size + 1) (o := .cells #[.int .i64 0, .int .i64 0] 31 (0, 0)) hgb3 (hb1) (by omega); obtain ⟨kc10, kc11, kc12, kc13⟩ := two_cells hc1; have hc2 := gb_heap (k := w1.heap.size) (o := .cells #[.int .i64 (plc b p 0 : Int), .int .i64 0] 31 (0, 0)) hgb3 (hb2) (by omega); obtain ⟨kc20, kc21, kc22, kc23⟩ := two_cells hc2; skip) | (go_at_call 54; refine (skip_c s hs b q g 45 (by decide) hq2 _ (by (repeat (first | with_reducible apply RdAt.drewN | with_reducible apply RdAt.drew | with_reducible apply RdAt.alloc | with_reducible apply RdAt.moved2 | with_reducible apply RdAt.moved4 | with_reducible apply RdAt.moved1 | (with_reducible refine RdAt.new ?_ _ _ (by dsimp only; omega)))); exact hr)).mono ?_; rintro e w2 ⟨he, hgb2, hr2⟩; rw [decide_eq_true d] at he; rw [if_pos d] at hr2; subst he; have hsz2 := hgb2.size; simp only [World.size_alloc] at hsz2; have hb0 := gb_heap (k := w.heap.size) (o := .cells #[.int .u8 0, .int .u8 0] 77 (0, 0)) hgb2 (heap_keep ha0) (by omega); obtain ⟨kb00, kb01, kb02, kb03⟩ := two_cells hb0; have hb1 := gb_heap (k := w.heap.size + 1) (o := .cells #[.int .i64 0, .int .i64 0] 31 (0, 0)) hgb2 (heap_keep ha1) (by omega); obtain ⟨kb10, kb11, kb12, kb13⟩ := two_cells hb1; have hb2 := gb_heap (k := w1.heap.size) (o := .cells #[.int .i64 (plc b p 0 : Int), .int .i64 0] 31 (0, 0)) hgb2 (heap_new _ _) (by omega); obtain ⟨kb20, kb21, kb22, kb23⟩ := two_cells hb2; skip) | (go_at_call 66; refine (byte_f s hs b p g hp _ (by (repeat (first | with_reducible apply RdAt.drewN | with_reducible apply RdAt.drew | with_reducible apply RdAt.alloc | with_reducible apply RdAt.moved2 | with_reducible apply RdAt.moved4 | with_reducible apply RdAt.moved1 | (with_reducible refine RdAt.new ?_ _ _ (by dsimp only; omega)))); exact H)).mono ?_; rintro e w1 ⟨rfl, hgb, hr⟩; rw [hF] at hr ⊢; dsimp only at hr ⊢; have hsz := hgb.size; simp only [World.size_alloc] at hsz; have ha0 := gb_heap (k := w.heap.size) (o := .cells #[.int .u8 0, .int .u8 0] 77 (0, 0)) hgb (heap_keep (heap_new _ _)) (by omega); obtain ⟨ka00, ka01, ka02, ka03⟩ := two_cells ha0; have ha1 := gb_heap (k := w.heap.size + 1) (o := .cells #[.int .i64 0, .int .i64 0] 31 (0, 0)) hgb (heap_new1 _ _ _) (by omega); obtain ⟨ka10, ka11, ka12, ka13⟩ := two_cells ha1; skip))
         go_region
         go_wp2
         refine bodyPost_ret (v := .tuple #[.agg #[.int .u8 (x : Int), .int .u8 (y : Int)], .agg #[.int .i64 (plc b (q + 1) 0 : Int), .int .i64 (0 : Int)]]) (by simp [results, Try.results55, go_sem, kc00, kc01, kc10, kc11, kc20, kc21]) rfl (itm_mk HI.out ?_ ?_)
         · (repeat (first | with_reducible exact gb_refl _ _ | with_reducible apply gb_drewN | with_reducible apply gb_drew | with_reducible apply Go.Lib.grownBy_allocR | (with_reducible refine gb_new ?_ _ (by dsimp only; omega) _) | with_reducible apply Go.Lib.grownBy_setB))
           refine Go.Lib.grownBy_trans (Go.Lib.grownBy_trans (Go.Lib.grownBy_trans ?_ hgb) (Go.Lib.grownBy_trans ?_ hgb2)) hgb3 <;> (repeat (first | with_reducible exact gb_refl _ _ | with_reducible apply gb_drewN | with_reducible apply gb_drew | with_reducible apply Go.Lib.grownBy_allocR | (with_reducible refine gb_new ?_ _ (by dsimp only; omega) _) | with_reducible apply Go.Lib.grownBy_setB))
         · (repeat (first | with_reducible apply RdAt.drewN | with_reducible apply RdAt.drew | with_reducible apply RdAt.alloc | with_reducible apply RdAt.moved2 | with_reducible apply RdAt.moved4 | with_reducible apply RdAt.moved1 | (with_reducible refine RdAt.new ?_ _ _ (by dsimp only; omega)))); exact hr3
     · have HI : Hid (itemF s b p = (x, y, r, plc b (q + 1) c', c')) := Lib.hid (by rw [HY.out, if_neg (fun h => hc h.1)])
       go_wp2_with (first | (go_at_call 66; refine (byte_f s hs b (q + 1) g (by omega) _ (by (repeat (first | with_reducible apply RdAt.drewN | with_reducible apply RdAt.drew | with_reducible apply RdAt.alloc | with_reducible apply RdAt.moved2 | with_reducible apply RdAt.moved4 | with_reducible apply RdAt.moved1 | (with_reducible refine RdAt.new ?_ _ _ (by dsimp only; omega)))); exact hr2)).mono ?_; rintro e w3 ⟨rfl, hgb3, hr3⟩; rw [hG] at hr3 ⊢; dsimp only at hr3 ⊢; have hsz3 := hgb3.size; have hc0 := gb_heap (k := w.heap.size) (o := .cells #[.int .u8 0, .int .u8 0] 77 (0, 0)) hgb3 (hb0) (by omega); obtain ⟨kc00, kc01, kc02, kc03⟩ := two_cells hc0; have hc1 := gb_heap (k := w.heap.size + 1) (o := .cells #[.int .i64 0, .int .i64 0] 31 (0, 0)) hgb3 (hb1) (by omega); obtain ⟨kc10, kc11, kc12, kc13⟩ := two_cells hc1; have hc2 := gb_heap (k := w1.heap.size) (o := .cells #[.int .i64 (plc b p 0 : Int), .int .i64 0] 31 (0, 0)) hgb3 (hb2) (by omega); obtain ⟨kc20, kc21, kc22, kc23⟩ := two_cells hc2; skip) | (go_at_call 54; refine (skip_c s hs b q g 45 (by decide) hq2 _ (by (repeat (first | with_reducible apply RdAt.drewN | with_reducible apply RdAt.drew | with_reducible apply RdAt.alloc | with_reducible apply RdAt.moved2 | with_reducible apply RdAt.moved4 | with_reducible apply RdAt.moved1 | (with_reducible refine RdAt.new ?_ _ _ (by dsimp only; omega)))); exact hr)).mono ?_; rintro e w2 ⟨he, hgb2, hr2⟩; rw [decide_eq_true d] at he; rw [if_pos d] at hr2; subst he; have hsz2 := hgb2.size; simp only [World.size_alloc] at hsz2; have hb0 := gb_heap (k := w.heap.size) (o := .cells #[.int .u8 0, .int .u8 0] 77 (0, 0)) hgb2 (heap_keep ha0) (by omega); obtain ⟨kb00, kb01, kb02, kb03⟩ := two_cells hb0; have hb1 := gb_heap (k := w.heap.size + 1) (o := .cells #[.int .i64 0, .int .i64 0] 31 (0, 0)) hgb2 (heap_keep ha1) (by omega); obtain ⟨kb10, kb11, kb12, kb13⟩ := two_cells hb1; have hb2 := gb_heap (k := w1.heap.size) (o := .cells #[.int .i64 (plc b p 0 : Int), .int .i64 0] 31 (0, 0)) hgb2 (heap_new _ _) (by omega); obtain ⟨kb20, kb21, kb22, kb23⟩ := two_cells hb2; skip) | (go_at_call 66; refine (byte_f s hs b p g hp _ (by (repeat (first | with_reducible apply RdAt.drewN | with_reducible apply RdAt.drew | with_reducible apply RdAt.alloc | with_reducible apply RdAt.moved2 | with_reducible apply RdAt.moved4 | with_reducible apply RdAt.moved1 | (with_reducible refine RdAt.new ?_ _ _ (by dsimp only; omega)))); exact H)).mono ?_; rintro e w1 ⟨rfl, hgb, hr⟩; rw [hF] at hr ⊢; dsimp only at hr ⊢; have hsz := hgb.size; simp only [World.size_alloc] at hsz; have ha0 := gb_heap (k := w.heap.size) (o := .cells #[.int .u8 0, .int .u8 0] 77 (0, 0)) hgb (heap_keep (heap_new _ _)) (by omega); obtain ⟨ka00, ka01, ka02, ka03⟩ := two_cells ha0; have ha1 := gb_heap (k := w.heap.size + 1) (o := .cells #[.int .i64 0, .int .i64 0] 31 (0, 0)) hgb (heap_new1 _ _ _) (by omega); obtain ⟨ka10, ka11, ka12, ka13⟩ := two_cells ha1; skip))
       go_region
       go_wp2
       refine bodyPost_ret (v := .tuple #[.agg #[.int .u8 (x : Int), .int .u8 (y : Int)], .agg #[.int .i64 (plc b (q + 1) c' : Int), .int .i64 (c' : Int)]]) (by simp [results, Try.results55, go_sem, kc00, kc01, kc10, kc11, kc20, kc21]) rfl (itm_mk HI.out ?_ ?_)
       · (repeat (first | with_reducible exact gb_refl _ _ | with_reducible apply gb_drewN | with_reducible apply gb_drew | with_reducible apply Go.Lib.grownBy_allocR | (with_reducible refine gb_new ?_ _ (by dsimp only; omega) _) | with_reducible apply Go.Lib.grownBy_setB))
         refine Go.Lib.grownBy_trans (Go.Lib.grownBy_trans (Go.Lib.grownBy_trans ?_ hgb) (Go.Lib.grownBy_trans ?_ hgb2)) hgb3 <;> (repeat (first | with_reducible exact gb_refl _ _ | with_reducible apply gb_drewN | with_reducible apply gb_drew | with_reducible apply Go.Lib.grownBy_allocR | (with_reducible refine gb_new ?_ _ (by dsimp only; omega) _) | with_reducible apply Go.Lib.grownBy_setB))
       · (repeat (first | with_reducible apply RdAt.drewN | with_reducible apply RdAt.drew | with_reducible apply RdAt.alloc | with_reducible apply RdAt.moved2 | with_reducible apply RdAt.moved4 | with_reducible apply RdAt.moved1 | (with_reducible refine RdAt.new ?_ _ _ (by dsimp only; omega)))); exact hr3
   · have HI : Hid (itemF s b p = (x, x, q, plc b p 0, 0)) := Lib.hid (by unfold itemF; rw [hF]; dsimp only; rw [if_pos rfl, if_neg d]; rfl)
     go_wp2_with (first | (go_at_call 66; refine (byte_f s hs b p g hp _ (by (repeat (first | with_reducible apply RdAt.drewN | with_reducible apply RdAt.drew | with_reducible apply RdAt.alloc | with_reducible apply RdAt.moved2 | with_reducible apply RdAt.moved4 | with_reducible apply RdAt.moved1 | (with_reducible refine RdAt.new ?_ _ _ (by dsimp only; omega)))); exact H)).mono ?_; rintro e w1 ⟨rfl, hgb, hr⟩; rw [hF] at hr ⊢; dsimp only at hr ⊢; have hsz := hgb.size; simp only [World.size_alloc] at hsz; have ha0 := gb_heap (k := w.heap.size) (o := .cells #[.int .u8 0, .int .u8 0] 77 (0, 0)) hgb (heap_keep (heap_new _ _)) (by omega); obtain ⟨ka00, ka01, ka02, ka03⟩ := two_cells ha0; have ha1 := gb_heap (k := w.heap.size + 1) (o := .cells #[.int .i64 0, .int .i64 0] 31 (0, 0)) hgb (heap_new1 _ _ _) (by omega); obtain ⟨ka10, ka11, ka12, ka13⟩ := two_cells ha1; skip) | (go_at_call 54; refine (skip_c s hs b q g 45 (by decide) hq2 _ (by (repeat (first | with_reducible apply RdAt.drewN | with_reducible apply RdAt.drew | with_reducible apply RdAt.alloc | with_reducible apply RdAt.moved2 | with_reducible apply RdAt.moved4 | with_reducible apply RdAt.moved1 | (with_reducible refine RdAt.new ?_ _ _ (by dsimp only; omega)))); exact hr)).mono ?_; rintro e w2 ⟨he, hgb2, hr2⟩; rw [decide_eq_false d] at he; rw [if_neg d] at hr2; subst he; have hsz2 := hgb2.size; simp only [World.size_alloc] at hsz2; have hb0 := gb_heap (k := w.heap.size) (o := .cells #[.int .u8 0, .int .u8 0] 77 (0, 0)) hgb2 (heap_keep ha0) (by omega); obtain ⟨kb00, kb01, kb02, kb03⟩ := two_cells hb0; have hb1 := gb_heap (k := w.heap.size + 1) (o := .cells #[.int .i64 0, .int .i64 0] 31 (0, 0)) hgb2 (heap_keep ha1) (by omega); obtain ⟨kb10, kb11, kb12, kb13⟩ := two_cells hb1; have hb2 := gb_heap (k := w1.heap.size) (o := .cells #[.int .i64 (plc b p 0 : Int), .int .i64 0] 31 (0, 0)) hgb2 (heap_new _ _) (by omega); obtain ⟨kb20, kb21, kb22, kb23⟩ := two_cells hb2; skip))
     go_region
     go_wp2
     refine bodyPost_ret (v := .tuple #[.agg #[.int .u8 (x : Int), .int .u8 (x : Int)], .agg #[.int .i64 (plc b p 0 : Int), .int .i64 (0 : Int)]]) (by simp [results, Try.results55, go_sem, kb00, kb01, kb10, kb11]) rfl (itm_mk HI.out ?_ ?_)
     · (repeat (first | with_reducible exact gb_refl _ _ | with_reducible apply gb_drewN | with_reducible apply gb_drew | with_reducible apply Go.Lib.grownBy_allocR | (with_reducible refine gb_new ?_ _ (by dsimp only; omega) _) | with_reducible apply Go.Lib.grownBy_setB))
       refine Go.Lib.grownBy_trans (Go.Lib.grownBy_trans ?_ hgb) (Go.Lib.grownBy_trans ?_ hgb2) <;> (repeat (first | with_reducible exact gb_refl _ _ | with_reducible apply gb_drewN | with_reducible apply gb_drew | with_reducible apply Go.Lib.grownBy_allocR | (with_reducible refine gb_new ?_ _ (by dsimp only; omega) _) | with_reducible apply Go.Lib.grownBy_setB))
     · (repeat (first | with_reducible apply RdAt.drewN | with_reducible apply RdAt.drew | with_reducible apply RdAt.alloc | with_reducible apply RdAt.moved2 | with_reducible apply RdAt.moved4 | with_reducible apply RdAt.moved1 | (with_reducible refine RdAt.new ?_ _ _ (by dsimp only; omega)))); exact hr2
 · have HI : Hid (itemF s b p = (x, x, q, plc b p c, c)) := Lib.hid (by unfold itemF; rw [hF]; dsimp only; rw [if_neg h0])
   go_wp2_with (go_at_call 66; refine (byte_f s hs b p g hp _ (by (repeat (first | with_reducible apply RdAt.drewN | with_reducible apply RdAt.drew | with_reducible apply RdAt.alloc | with_reducible apply RdAt.moved2 | with_reducible apply RdAt.moved4 | with_reducible apply RdAt.moved1 | (with_reducible refine RdAt.new ?_ _ _ (by dsimp only; omega)))); exact H)).mono ?_; rintro e w1 ⟨rfl, hgb, hr⟩; rw [hF] at hr ⊢; dsimp only at hr ⊢; have hsz := hgb.size; simp only [World.size_alloc] at hsz; have ha0 := gb_heap (k := w.heap.size) (o := .cells #[.int .u8 0, .int .u8 0] 77 (0, 0)) hgb (heap_keep (heap_new _ _)) (by omega); obtain ⟨ka00, ka01, ka02, ka03⟩ := two_cells ha0; have ha1 := gb_heap (k := w.heap.size + 1) (o := .cells #[.int .i64 0, .int .i64 0] 31 (0, 0)) hgb (heap_new1 _ _ _) (by omega); obtain ⟨ka10, ka11, ka12, ka13⟩ := two_cells ha1; skip)
   have hb0 := heap_keep (o := .cells #[.int .i64 (plc b p c : Int), .int .i64 (c : Int)] 31 (0, 0)) ha0
   have hb1 := heap_keep (o := .cells #[.int .i64 (plc b p c : Int), .int .i64 (c : Int)] 31 (0, 0)) ha1
   obtain ⟨kb00, kb01, kb02, kb03⟩ := two_cells hb0
   obtain ⟨kb10, kb11, kb12, kb13⟩ := two_cells hb1
   go_region
   go_wp2
   refine bodyPost_ret (v := .tuple #[.agg #[.int .u8 (x : Int), .int .u8 (x : Int)], .agg #[.int .i64 (plc b p c : Int), .int .i64 (c : Int)]]) (by simp [results, Try.results55, go_sem, kb00, kb01, kb10, kb11]) rfl (itm_mk HI.out ?_ ?_)
   · (repeat (first | with_reducible exact gb_refl _ _ | with_reducible apply gb_drewN | with_reducible apply gb_drew | with_reducible apply Go.Lib.grownBy_allocR | (with_reducible refine gb_new ?_ _ (by dsimp only; omega) _) | with_reducible apply Go.Lib.grownBy_setB))
     refine Go.Lib.grownBy_trans ?_ hgb
     (repeat (first | with_reducible exact gb_refl _ _ | with_reducible apply gb_drewN | with_reducible apply gb_drew | with_reducible apply Go.Lib.grownBy_allocR | (with_reducible refine gb_new ?_ _ (by dsimp only; omega) _) | with_reducible apply Go.Lib.grownBy_setB))
   · (repeat (first | with_reducible apply RdAt.drewN | with_reducible apply RdAt.drew | with_reducible apply RdAt.alloc | with_reducible apply RdAt.moved2 | with_reducible apply RdAt.moved4 | with_reducible apply RdAt.moved1 | (with_reducible refine RdAt.new ?_ _ _ (by dsimp only; omega)))); exact hr
end Go.Proofs.Ytldjdcdoegjmoaa
set_option linter.unusedVariables false
set_option linter.unusedSimpArgs false
namespace Go.Proofs.Ytldjdcdoegjmoaa
open Go.RowKit
set_option maxRecDepth 100000 in
theorem notR_c (a : Cls) (ha : a.ok) (w : World) : Calls Try.prog 63 #[V4 a] w fun e w' => e = .returned (V4 a.not) ∧ Below w.heap.size w w' := by
 have HA := Lib.hid ha; clear ha
 have hv := zeroSet.1
 go_enter Try.func63, Try.ntmps63
 go_wp2_with (first | (go_at_call 70; refine (open_c a HA.out _).mono ?_; rintro e w1 ⟨rfl, hb1⟩; unfold setVal) | (refine wpList_store_row rfl 84 _ _ rfl _ _ rfl rfl _ _ (heap_new _ _) (infoSet _) (by rw [setCells_size]; rfl) (setCells_one _) ?_))
 have hz := hb1.size
 have hs1 := heap_same hb1 (heap_new1 _ _ _)
 have hb := (((Below.refl _ _).alloc (Nat.le_refl _) _).alloc (by simp) _).trans (hb1.mono (by simp; omega))
 simp only [World.size_alloc] at hz
 have HB1 := Lib.hid hb; have HS1 := Lib.hid hs1; clear hb1 hb hs1
 go_loopw [4] (fun i wr => ∃ k : Nat, k ≤ 256 ∧ i = .int .i64 k ∧ Below w.heap.size w wr ∧ w.heap.size + 1 < w1.heap.size ∧
  wr.heap[w.heap.size + 1]? = some (.cells Cls.none.cells 26 (0, 0)) ∧ wr.heap[w1.heap.size]? = some (.cells (setCells fun j => if j < k then !a.mem j else a.mem j) 84 (0, 0))) (fun i _ => 256 - (intOf i).toNat)
 case atStart =>
  exact ⟨0, by omega, rfl, below_setRow (HB1.out.alloc (by omega) _) (by omega) _, by omega, heap_row_other (by omega) (heap_keep HS1.out), by
   rw [setCells_congr (g := a.mem) (fun i _ => by simp)]; exact setRow_heap _ _ _ _ _ _ (heap_new _ _)⟩
 case round =>
  obtain ⟨k, hk, rfl, hB, hlt1, h1, h2⟩ := hrel
  by_cases hlt : k < 256
  · have c2 : wr.cell? ⟨w1.heap.size, k, none⟩ = some (.bool (a.mem k)) := by rw [cell_of_row _ _ _ _ _ _ h2, setCells_at _ _ hlt]; simp
    have f2 : wr.frozen? ⟨w1.heap.size, k, none⟩ = false := frozen_of_row _ _ _ _ _ h2
    have H1 := Lib.hid h1; have H2 := Lib.hid h2; clear h1 h2
    go_wp2
    go_roundw
    case rel => exact ⟨k + 1, by omega, by go_num, hB.setCell (by dsimp only; omega) _, hlt1, heap_other (by dsimp only; omega) H1.out, by
     rw [heap_put H2.out, setCells_turn (g := fun j => !a.mem j) (i := k) rfl]⟩
    case measure => simp [intOf]; omega
  · obtain rfl : k = 256 := by omega
    have H1 := Lib.hid h1; have H2 := Lib.hid h2; clear h1 h2
    have hc := close_c (fun j => if j < 256 then !a.mem j else a.mem j)
    unfold setVal at hc
    have HC := Lib.hid hc; clear hc
    go_wp2_with (first | (refine wpList_load_row rfl 84 _ rfl _ rfl _ _ _ _ H2.out Try.underlying84 rfl (infoSet _) ?_) | (go_at_call 64; refine (HC.out _).mono ?_; rintro e w2 ⟨rfl, hb2⟩) | (refine wpList_store_row rfl 26 _ _ rfl _ _ rfl rfl _ _ (heap_same hb2 H1.out) (infoCls _) rfl (Cls.cells_one (Cls.ofFn _)) ?_))
    have H3 := Lib.hid (setRow_heap w2 (w.heap.size + 1) _ (Cls.ofFn fun j => if j < 256 then !a.mem j else a.mem j).cells 26 (0, 0) (heap_same hb2 H1.out))
    refine bodyPost_ret (v := V4 (Cls.ofFn fun j => if j < 256 then !a.mem j else a.mem j)) (results_cell_row Try.results63 _ _ _ _ _ _ _ rfl H3.out Try.underlying26 rfl (infoCls _)) rfl ⟨?_, below_setRow (hB.trans (hb2.mono hB.size)) (by omega) _⟩
    rw [← Cls.eq_ofFn (Cls.ok_not a) fun i hi => by rw [Cls.mem_not HA.out]; simp [hi]]
end Go.Proofs.Ytldjdcdoegjmoaa
set_option linter.unusedVariables false
set_option linter.unusedSimpArgs false
namespace Go.Proofs.Ytldjdcdoegjmoaa
open Go.RowKit
theorem own_base {w : World} {base : Nat} {e : TypeId} {size n : Nat} {v : Value} {xs : List Value} (h : w.ownsRow base e size v n xs) (k : Nat) (hk : v.ownBlock = some k) : base ≤ k := by
 rcases h.2 with ⟨rfl, _⟩ | ⟨g, cap, cur, rfl, hb, _⟩
 · simp [Value.ownBlock] at hk
 · have : g = k := by simpa [Value.ownBlock] using hk
   omega
theorem own_ne {w : World} {base : Nat} {e : TypeId} {size n : Nat} {v : Value} {xs : List Value} (h : w.ownsRow base e size v n xs) {g : Nat} {cs : Array Value} {t : TypeId} {fr : Nat × Nat} (hg : w.heap[g]? = some (.cells cs t fr)) (hne : t ≠ e) : v.ownBlock ≠ some g := by
 rcases h.2 with ⟨rfl, _⟩ | ⟨g', cap, cur, rfl, hb, hh, _⟩
 · simp [Value.ownBlock]
 · intro hk
   have : g' = g := by simpa [Value.ownBlock] using hk
   subst this
   rw [hh] at hg
   injection hg with hg
   injection hg with _ ht
   exact hne ht.symm
theorem own_below {w w1 : World} {base : Nat} {e : TypeId} {size n : Nat} {v : Value} {xs : List Value} (h : w.ownsRow base e size v n xs) (hb : Below w.heap.size w w1) : w1.ownsRow base e size v n xs := by
 obtain ⟨h1, h2⟩ := h
 refine ⟨h1, ?_⟩
 rcases h2 with h2 | ⟨g, cap, cur, hv, hg, hh, r⟩
 · exact .inl h2
 · exact .inr ⟨g, cap, cur, hv, hg, heap_same hb hh, r⟩
theorem own_other {w w1 : World} {base : Nat} {e : TypeId} {size n : Nat} {v : Value} {xs : List Value} (h : w.ownsRow base e size v n xs) (hk : ∀ g o, w.heap[g]? = some o → v.ownBlock = some g → w1.heap[g]? = some o) : w1.ownsRow base e size v n xs := by
 obtain ⟨h1, h2⟩ := h
 refine ⟨h1, ?_⟩
 rcases h2 with h2 | ⟨g, cap, cur, hv, hg, hh, r⟩
 · exact .inl h2
 · exact .inr ⟨g, cap, cur, hv, hg, hk g _ hh (by rw [hv]; rfl), r⟩
section
variable {P : Program} {ops : Array Oper} {rest : List Oper} {o : Oper} {a : Act} {Q : Exit → Act → World → Prop}
theorem app1 {w0 W : World} (base : Nat) (hgd : o.guard = none) (s x : Operand) (t e : TypeId) (z : Value) (size bytes : Nat)
 (ho : o.op = .call { callee := .builtin .append, args := #[s, x], argTypes := #[t, t] })
 (ht : P.underlying t = some (.slice e)) (hinfo : (P.info? e).map (fun i => (i.zero, i.size, i.bytes)) = some (some z, size, bytes)) (hz : z.cells.size = size) (hsz : 0 < size)
 (v : Value) (n : Nat) (xs : List Value) (y : Array Value) (hy : y.size = size) (h1 : ∀ u ∈ y.toList, u.oneCell' = true) (hs : a.eval s = v) (hx : a.eval x = .slice (some ⟨W.heap.size, 0, none⟩) 1 1)
 (HO : W.ownsRow base e size v n xs) (HB : Below base w0 W) (hbase : base ≤ W.heap.size) (hn : n + 1 ≤ 9223372036854775807) (hl : (n + 1) * bytes ≤ 140737488355328)
 (h : ∀ g c w1, w1.ownsRow base e size (.slice (some ⟨g, 0, none⟩) (n + 1) c) (n + 1) (xs ++ y.toList) → Below base w0 w1 → (∀ k b, W.heap[k]? = some b → v.ownBlock ≠ some k → w1.heap[k]? = some b) → W.heap.size ≤ w1.heap.size →
   wpList P ops Q rest (a.put o.dst (.slice (some ⟨g, 0, none⟩) (n + 1) c)) w1) :
 wpList P ops Q (o :: rest) a (W.alloc (.cells y e)) := by
 obtain ⟨i0, hi, hz0, hz1, hz2⟩ := info_parts hinfo
 refine wpList_append_own _ hgd s x t ho base e i0 z size bytes ht hi hz0 hz1 hz2 hz hsz v n xs hs (HO.alloc _) ⟨W.heap.size, 0, none⟩ 1 1 y.toList hx (by simp [hy]) ?_ h1 (by simpa [maxLen] using hn) hl (by simp; omega) ?_
 · intro j u hj
   have ha : (⟨W.heap.size, 0, none⟩ : Addr).add j = ⟨W.heap.size, j, none⟩ := by unfold Addr.add; split <;> simp_all
   rw [ha, cell_of_row _ _ _ _ _ _ (heap_new W _)]
   simpa using hj
 · intro v1 w1 hown hg _
   have hown' := hown
   rcases hown.2 with ⟨rfl, h0⟩ | ⟨g, cap, cur, rfl, _⟩
   · omega
   · refine h g cap w1 hown' ((HB.alloc hbase _).grown hg (by simp; omega) (own_base HO)) ?_ (by have := hg.size; simp at this; omega)
     intro k b hk hne
     rw [hg.block k (by have := heap_lt hk; simp; omega) (fun e => hne e.symm)]
     exact heap_keep hk
theorem own_form {w : World} {base : Nat} {e : TypeId} {size n : Nat} {v : Value} {xs : List Value} (h : w.ownsRow base e size v n xs) : ∃ A c, v = .slice A n c := by
 rcases h.2 with ⟨rfl, rfl⟩ | ⟨g, cap, cur, rfl, _⟩
 · exact ⟨none, 0, rfl⟩
 · exact ⟨_, cap, rfl⟩
end
end Go.Proofs.Ytldjdcdoegjmoaa
set_option linter.unusedVariables false
set_option linter.unusedSimpArgs false
namespace Go.Proofs.Ytldjdcdoegjmoaa
open Go.RowKit
def Cls.below (a : Cls) (k : Nat) : List Nat := (List.range k).filter a.mem
def Cls.bytes (a : Cls) : List Nat := a.below 256
end Go.Proofs.Ytldjdcdoegjmoaa
namespace Go.Proofs.Ytldjdcdoegjmoaa
def mask (m : Nat) : Nat → Nat
 | 0 => 0
 | n + 1 => 256 * mask m n + m
def s1 (n x : Nat) : Nat := (x / 2 &&& mask 85 n) + (x &&& mask 85 n)
end Go.Proofs.Ytldjdcdoegjmoaa
set_option linter.unusedVariables false
set_option linter.unusedSimpArgs false
namespace Go.Proofs.Ytldjdcdoegjmoaa
open Go.RowKit
theorem put_c (a : Cls) (ha : a.ok) (x : Nat) (hx : x < 256) (g : Nat) (w : World) (hc : w.heap[g]? = some (.cells a.cells 26 (0, 0))) :
 Calls Try.prog 67 #[.pointer (some ⟨g, 0, none⟩), .int .u8 (x : Int)] w fun e w' => e = .returned (.tuple #[]) ∧ w' = (w.setCell ⟨g, x / 64, none⟩ (.int .u64 ((a.word (x / 64) ||| 2 ^ (x % 64) : Nat) : Int))).drew := by
 have c0 : w.cell? ⟨g, x / 64, none⟩ = some (.int .u64 (a.word (x / 64))) := by rw [cell_of_row _ _ _ _ _ _ hc]; exact a.cells_at (x / 64) (by omega)
 have f0 : w.frozen? ⟨g, x / 64, none⟩ = false := frozen_of_row _ _ _ _ _ hc
 have HC := Lib.hid hc; have HA := Lib.hid ha; clear hc ha
 go_enter Try.func67, Try.ntmps67
 go_wp2
 go_region
 go_wp2
 go_end0
 exact ⟨rfl, by rw [bits_put HA.out]⟩
end Go.Proofs.Ytldjdcdoegjmoaa
set_option linter.unusedVariables false
set_option linter.unusedSimpArgs false
namespace Go.Proofs.Ytldjdcdoegjmoaa
open Go.RowKit
def RdRanges (w : World) (A : Option Addr) (n : Nat) (l : List (Nat × Nat)) : Prop :=
 l.length = n ∧ n * 2 ≤ 140737488351232 ∧ (∀ p ∈ l, p.1 < 256 ∧ p.2 < 256) ∧ (0 < n → ∃ b off, A = some ⟨b, off, none⟩ ∧
  ∀ j, j < n → w.cell? ⟨b, off + j * 2, none⟩ = some (.int .u8 ((l.getD j (0, 0)).1 : Int)) ∧ w.cell? ⟨b, off + j * 2 + 1, none⟩ = some (.int .u8 ((l.getD j (0, 0)).2 : Int)))
def inRanges (l : List (Nat × Nat)) (i : Nat) : Bool := l.any fun p => decide (p.1 ≤ i) && decide (i ≤ p.2)
theorem rng_none (f : Nat → Bool) (lo : Nat) : (Cls.ofFn fun j => f j || (decide (lo ≤ j) && decide (j < lo))) = Cls.ofFn f := Cls.ofFn_congr fun j _ => by
 have h : (decide (lo ≤ j) && decide (j < lo)) = false := by
  by_cases q : lo ≤ j
  · simp [show ¬ j < lo by omega]
  · simp [q]
 rw [h, Bool.or_false]
theorem rng_put (f : Nat → Bool) (lo m : Nat) (h : lo ≤ m) (hm : m < 256) : (Cls.ofFn fun j => f j || (decide (lo ≤ j) && decide (j < m))).put m = Cls.ofFn fun j => f j || (decide (lo ≤ j) && decide (j < m + 1)) := by
 rw [Cls.put_ofFn _ _ hm]
 refine Cls.ofFn_congr fun j _ => ?_
 by_cases e : j = m
 · subst e; simp [h]
 · rw [show decide (j < m + 1) = decide (j < m) by by_cases q : j < m <;> simp [q] <;> omega]
   simp [e]
theorem rng_done (l : List (Nat × Nat)) (k lo hi m : Nat) (hk : k < l.length) (hp : l.getD k (0, 0) = (lo, hi)) (hle : hi < m) (h3 : m ≤ hi + 1 ∨ m = lo) :
 (Cls.ofFn fun j => inRanges (l.take k) j || (decide (lo ≤ j) && decide (j < m))) = Cls.ofFn (inRanges (l.take (k + 1))) := Cls.ofFn_congr fun j _ => by
 have ht : l.take (k + 1) = l.take k ++ [(lo, hi)] := by
  rw [List.take_succ_eq_append_getElem hk]
  rw [List.getD_eq_getElem?_getD, List.getElem?_eq_getElem hk] at hp
  simp only [Option.getD_some] at hp
  rw [hp]
 rw [ht]
 unfold inRanges
 rw [List.any_append]
 have h : (decide (lo ≤ j) && decide (j < m)) = (decide (lo ≤ j) && decide (j ≤ hi)) := by
  by_cases q : lo ≤ j
  · by_cases q2 : j ≤ hi
    · simp [q, q2, show j < m by omega]
    · simp [q, q2, show ¬ j < m by omega]
  · simp [q]
 rw [h]
 simp
set_option maxRecDepth 100000 in
theorem of_c (A : Option Addr) (n cap : Nat) (l : List (Nat × Nat)) (w : World) (h : RdRanges w A n l) : Calls Try.prog 56 #[.slice A n cap] w fun e w' => e = .returned (V4 (Cls.ofFn (inRanges l))) ∧ Below w.heap.size w w' := by
 obtain ⟨hl, hn, hr, hc⟩ := h
 have HC := Lib.hid hc; have HR := Lib.hid hr; have HL := Lib.hid hl; clear hc hr hl
 go_enter Try.func56, Try.ntmps56
 go_wp2
 go_loopw [9, 5, 6] (fun i _ _ wr => ∃ k : Nat, k ≤ n ∧ i = .int .i64 k ∧ Below w.heap.size w wr ∧ wr.heap[w.heap.size]? = some (.cells Cls.none.cells 26 (0, 0)) ∧
  wr.heap[w.heap.size + 1]? = some (.cells (Cls.ofFn (inRanges (l.take k))).cells 26 (0, 0))) (fun i _ _ _ => n - (intOf i).toNat)
 case atStart =>
  exact ⟨0, by omega, rfl, ((Below.refl _ _).alloc (Nat.le_refl _) _).alloc (by simp) _, heap_keep (heap_new _ _), by
   rw [show Cls.ofFn (inRanges (l.take 0)) = Cls.none by rw [Cls.none_ofFn]; rfl]; exact heap_new1 _ _ _⟩
 case round =>
  obtain ⟨k, hk, rfl, hB, h0, h1⟩ := hrel
  obtain ⟨wo, rfl⟩ : ∃ wo : World, wo = wr := ⟨_, rfl⟩
  by_cases hlt : k < n
  · obtain ⟨b, off, hA, hcs⟩ := HC.out (by omega)
    obtain ⟨c0, c1⟩ := hcs k hlt
    subst hA
    have hb0 := World.block_lt_of_cell? _ _ c0
    dsimp only at hb0
    have d0 := (hB.cell (p := ⟨b, off + k * 2, none⟩) hb0).trans c0
    have d1 := (hB.cell (p := ⟨b, off + k * 2 + 1, none⟩) hb0).trans c1
    obtain ⟨lo, hi, hp⟩ : ∃ lo hi, l.getD k (0, 0) = (lo, hi) := ⟨_, _, rfl⟩
    rw [hp] at d0 d1
    have H0 := Lib.hid h0; have H1 := Lib.hid h1; have HP := Lib.hid hp; clear h0 h1 hp c0 c1 hcs
    have hm : (lo, hi) ∈ l := by rw [← HP.out, List.getD_eq_getElem?_getD, List.getElem?_eq_getElem (by rw [HL.out]; exact hlt)]; exact List.getElem_mem _
    have hlo : lo < 256 := (HR.out _ hm).1
    have hhi : hi < 256 := (HR.out _ hm).2
    clear hm
    go_wp2
    go_loopw [6] (fun i wq => ∃ m : Nat, lo ≤ m ∧ m ≤ 256 ∧ (m ≤ hi + 1 ∨ m = lo) ∧ i = .int .i64 m ∧ Below w.heap.size w wq ∧ w.heap.size + 1 < wo.heap.size ∧ wq.heap[w.heap.size]? = some (.cells Cls.none.cells 26 (0, 0)) ∧
     wq.heap[w.heap.size + 1]? = some (.cells (Cls.ofFn fun j => inRanges (l.take k) j || (decide (lo ≤ j) && decide (j < m))).cells 26 (0, 0)) ∧ wq.heap[wo.heap.size]? = some (.cells #[.int .u8 lo, .int .u8 hi] 77 (0, 0))) (fun i _ => 256 - (intOf i).toNat)
    case atStart =>
     have hsz := heap_lt H1.out
     refine ⟨lo, by omega, by omega, .inr rfl, by first | rfl | (go_simp; done), hB.alloc hB.size _, by omega, heap_keep H0.out, ?_, heap_new _ _⟩
     rw [rng_none]
     exact heap_keep H1.out
    case round =>
     obtain ⟨m, hm1, hm2, hm3, rfl, hBq, hsz, q0, q1, q2⟩ := hrel
     have c0 : wr.cell? ⟨wo.heap.size, 1, none⟩ = some (.int .u8 (hi : Int)) := by rw [cell_of_row _ _ _ _ _ _ q2]; rfl
     have Q0 := Lib.hid q0; have Q1 := Lib.hid q1; have Q2 := Lib.hid q2; have H3 := Lib.hid hm3; clear q0 q1 q2 hm3
     by_cases hle : m ≤ hi
     · go_wp2_with (go_at_call 67; refine (put_c _ (Cls.ok_ofFn _) m (by omega) (w.heap.size + 1) _ Q1.out).mono ?_; rintro e w' ⟨rfl, rfl⟩)
       go_roundw
       case rel =>
        refine ⟨m + 1, by omega, by omega, .inl (by omega), by go_num, (hBq.setCell (by dsimp only; omega) _).drew, hsz, heap_drew' (heap_other (by dsimp only; omega) Q0.out), heap_drew' ?_, heap_drew' (heap_other (by dsimp only; omega) Q2.out)⟩
        rw [heap_put Q1.out, Cls.cells_put (by omega), rng_put _ _ _ hm1 (by omega)]
       case measure => simp [intOf]; omega
     · go_wp2
       go_roundw
       case rel =>
        refine ⟨k + 1, by omega, by go_num, hBq, Q0.out, ?_⟩
        rw [Q1.out, rng_done l k lo hi m (by rw [HL.out]; exact hlt) HP.out (by omega) H3.out]
       case measure => simp [intOf]; omega
  · obtain rfl : k = n := by omega
    have H0 := Lib.hid h0; have H1 := Lib.hid h1; clear h0 h1
    go_wp2_with (first | (refine wpList_load_row rfl 26 _ rfl (w.heap.size + 1) rfl _ _ _ _ H1.out Try.underlying26 rfl (infoCls _) ?_) | (refine wpList_store_row rfl 26 _ _ rfl w.heap.size _ rfl rfl _ _ H0.out (infoCls _) rfl (Cls.cells_one (Cls.ofFn _)) ?_))
    have H4 := Lib.hid (setRow_heap wo w.heap.size _ (Cls.ofFn (inRanges (l.take k))).cells 26 (0, 0) H0.out)
    refine bodyPost_ret (v := V4 (Cls.ofFn (inRanges (l.take k)))) (results_cell_row Try.results56 _ _ _ _ _ _ _ rfl H4.out Try.underlying26 rfl (infoCls _)) rfl ⟨?_, below_setRow hB (Nat.le_refl _) _⟩
    rw [List.take_of_length_le (by rw [HL.out]; exact Nat.le_refl _)]
end Go.Proofs.Ytldjdcdoegjmoaa
set_option linter.unusedVariables false
set_option linter.unusedSimpArgs false
namespace Go.Proofs.Ytldjdcdoegjmoaa
open Go.RowKit
def itemsF (s : ByteArray) (b : Nat) : Nat → Nat → List (Nat × Nat) → List (Nat × Nat) × Nat × Nat × Nat
 | 0, _, _ => ([], 0, 0, 1)
 | k + 1, p, l =>
   if p < s.size ∧ bat s p = 93 then (l, p + 1, 0, 0)
   else if (itemF s b p).2.2.2.2 = 0 then itemsF s b k (itemF s b p).2.2.1 (l ++ [((itemF s b p).1, (itemF s b p).2.1)])
   else ([], 0, (itemF s b p).2.2.2.1, (itemF s b p).2.2.2.2)
theorem itemF_next (s : ByteArray) (b p : Nat) (h : p ≤ s.size) : p ≤ (itemF s b p).2.2.1 ∧ (itemF s b p).2.2.1 ≤ s.size := by
 have h1 := byteF_next s p h
 unfold itemF
 split
 · split
   · next q =>
     have h2 := byteF_next s ((byteF s p).2.1 + 1) (by omega)
     split <;> (dsimp only; omega)
   · exact h1
 · exact h1
theorem itemF_on (s : ByteArray) (b p : Nat) (h : p ≤ s.size) (h0 : (itemF s b p).2.2.2.2 = 0) : p < (itemF s b p).2.2.1 := by
 revert h0
 have h1 := byteF_next s p h
 have h3 := byteF_on s p
 unfold itemF
 split
 · next q0 =>
   split
   · next q =>
     have h2 := byteF_next s ((byteF s p).2.1 + 1) (by omega)
     split <;> (intro _; dsimp only; have := h3 q0; omega)
   · intro _; exact h3 q0
 · next q0 => intro h; exact absurd h q0
theorem itemF_bytes (s : ByteArray) (b p : Nat) : (itemF s b p).1 < 256 ∧ (itemF s b p).2.1 < 256 := by
 have h1 := byteF_byte s p
 have h2 := byteF_byte s ((byteF s p).2.1 + 1)
 unfold itemF
 split
 · split
   · split <;> exact ⟨h1, h2⟩
   · exact ⟨h1, h1⟩
 · exact ⟨h1, h1⟩
def rcells (l : List (Nat × Nat)) : List Value := l.flatMap fun p => [.int .u8 (p.1 : Int), .int .u8 (p.2 : Int)]
theorem rcells_snoc (l : List (Nat × Nat)) (a b : Nat) : rcells (l ++ [(a, b)]) = rcells l ++ [.int .u8 (a : Int), .int .u8 (b : Int)] := by unfold rcells; simp
theorem rcells_at : ∀ (l : List (Nat × Nat)) (j : Nat), j < l.length → (rcells l)[j * 2]? = some (.int .u8 ((l.getD j (0, 0)).1 : Int)) ∧ (rcells l)[j * 2 + 1]? = some (.int .u8 ((l.getD j (0, 0)).2 : Int))
 | [], j, h => by simp at h
 | p :: l, 0, _ => ⟨rfl, rfl⟩
 | p :: l, j + 1, h => by
   have ih := rcells_at l j (by simpa using h)
   have e : rcells (p :: l) = .int .u8 (p.1 : Int) :: .int .u8 (p.2 : Int) :: rcells l := by simp [rcells]
   rw [e, show (j + 1) * 2 = j * 2 + 1 + 1 by omega]
   exact ih
theorem infoRng : (Try.prog.info? 77).map (fun i => (i.zero, i.size, i.bytes)) = some (some (.agg #[.int .u8 0, .int .u8 0]), 2, 2) := by kernel_rfl
theorem own_ranges {w : World} {base : Nat} {v : Value} {l : List (Nat × Nat)} (h : w.ownsRow base 77 2 v l.length (rcells l)) (hn : l.length * 2 ≤ 140737488351232) (hb : ∀ p ∈ l, p.1 < 256 ∧ p.2 < 256) :
 ∃ A c, v = .slice A l.length c ∧ RdRanges w A l.length l := by
 rcases h.2 with ⟨rfl, h0⟩ | ⟨g, cap, cur, rfl, _⟩
 · exact ⟨none, 0, by rw [h0], rfl, hn, hb, fun q => by omega⟩
 · refine ⟨_, cap, rfl, rfl, hn, hb, fun _ => ⟨g, 0, rfl, fun j hj => ?_⟩⟩
   have e := rcells_at l j hj
   constructor
   · rw [Nat.zero_add, World.ownsRow.cellAt h (j * 2) (by omega)]; exact e.1
   · rw [Nat.zero_add, World.ownsRow.cellAt h (j * 2 + 1) (by omega)]; exact e.2
def lenOf (v : Value) : Nat := match v with | .slice _ n _ => n | _ => 0
def parseF (s : ByteArray) (p : Nat) : Cls × Nat × Nat × Nat :=
 if p < s.size ∧ bat s p = 91 then
  let o := p + 1 < s.size ∧ bat s (p + 1) = 94
  let r := itemsF s p (s.size + 1) (if o then p + 2 else p + 1) []
  if r.2.2.2 = 0 then (if o then (Cls.ofFn (inRanges r.1)).not else Cls.ofFn (inRanges r.1), r.2.1, 0, 0) else (Cls.none, 0, r.2.2.1, r.2.2.2)
 else (Cls.none, 0, p, 30)
def parseV (r : Cls × Nat × Nat × Nat) : Value := .tuple #[V4 r.1, .int .i64 (r.2.1 : Int), .agg #[.int .i64 (r.2.2.1 : Int), .int .i64 (r.2.2.2 : Int)]]
def parseI (s : ByteArray) (n : Int) : Cls × Nat × Nat × Nat := if n < 0 ∨ (s.size : Int) < n then (Cls.none, 0, 0, 5) else parseF s n.toNat
end Go.Proofs.Ytldjdcdoegjmoaa
set_option linter.unusedVariables false
set_option linter.unusedSimpArgs false
namespace Go.Proofs.Ytldjdcdoegjmoaa
section
variable {P : Program} {md : Region.Mode} {ops : Array Oper} {Q : Exit → Act → World → Prop}
def edgesBack (ops : Array Oper) : Bool := (List.range ops.size).all fun i => ((ops[i]?).map (·.after.all fun e => !Region.binds .any e || decide (e.on < i))).getD true
theorem all_listed (hb : edgesBack ops = true) {L : Array Bool} (hr : Region.ready .any ops L = []) (hz : L.size = ops.size) : ∀ i, i < ops.size → L.getD i false = true := by
 intro i
 induction i using Nat.strongRecOn with
 | _ i ih =>
   intro hi
   cases hL : L.getD i false with
   | true => rfl
   | false =>
     exfalso
     have hm : i ∈ Region.ready .any ops L := by
      unfold Region.ready
      rw [List.mem_filter]
      refine ⟨by simpa using hi, ?_⟩
      have h1 : L.getD i true = false := by
       have hlt : i < L.size := by omega
       simp only [Array.getD_eq_getD_getElem?, Array.getElem?_eq_getElem hlt] at hL ⊢
       exact hL
      rw [h1, Array.getElem?_eq_getElem hi]
      simp only [Bool.not_false, Option.map_some, Option.getD_some, Bool.true_and]
      rw [Array.all_eq_true_iff_forall_mem]
      intro e he
      have hb' := List.all_eq_true.1 hb i (by simpa using hi)
      rw [Array.getElem?_eq_getElem hi] at hb'
      simp only [Option.map_some, Option.getD_some] at hb'
      rcases Bool.or_eq_true_iff.1 (Array.all_eq_true_iff_forall_mem.1 hb' e he) with hbd | hlt
      · rw [hbd]; rfl
      · rw [ih e.on (of_decide_eq_true hlt) (by have := of_decide_eq_true hlt; omega)]
        simp
     rw [hr] at hm
     cases hm
theorem wpAny_inv (hb : edgesBack ops = true) (I : Array Bool → Act → World → Prop)
 (hs : ∀ L a w i, L.size = ops.size → I L a w → i ∈ Region.ready .any ops L → wpOp P ops Q i (I (L.setIfInBounds i true)) a w)
 (hd : ∀ L a w, (∀ i, i < ops.size → L.getD i false = true) → I L a w → Q .normal a w) :
 ∀ (fuel : Nat) (L : Array Bool) (a : Act) (w : World), L.size = ops.size → L.toList.countP (fun b => !b) ≤ fuel → I L a w → wpAny P .any ops Q fuel L a w := by
 intro fuel
 induction fuel with
 | zero =>
   intro L a w hz hf hI
   have h0 : L.toList.countP (fun b => !b) = 0 := by omega
   have hall : ∀ i, i < L.size → L.getD i true = true := by
    intro i hi
    rw [List.countP_eq_zero] at h0
    have := h0 (L[i]) (by simp)
    simp only [Array.getD_eq_getD_getElem?, Array.getElem?_eq_getElem hi, Option.getD_some]
    simpa using this
   have hr : Region.ready .any ops L = [] := by
    rw [List.eq_nil_iff_forall_not_mem]
    intro i hi
    obtain ⟨h1, o, ho, _⟩ := mem_ready.1 hi
    rw [hall i (by rw [hz]; exact (Array.getElem?_eq_some_iff.1 ho).1)] at h1
    cases h1
   exact ⟨hr, hd L a w (all_listed hb hr hz) hI⟩
 | succ n ih =>
   intro L a w hz hf hI
   refine ⟨fun hr => hd L a w (all_listed hb hr hz) hI, fun i hi => ?_⟩
   refine wpOp_mono (fun a' w' h => ih _ _ _ (by simpa using hz) ?_ h) (hs L a w i hz hI hi)
   obtain ⟨h1, o, ho, _⟩ := mem_ready.1 hi
   have hlt : i < L.size := by rw [hz]; exact (Array.getElem?_eq_some_iff.1 ho).1
   simp only [Array.getD_eq_getD_getElem?, Array.getElem?_eq_getElem hlt, Option.getD_some] at h1
   have hlt' : i < L.toList.length := by simpa using hlt
   have hpos : 0 < L.toList.countP (fun b => !b) := List.countP_pos_iff.2 ⟨L[i], by simp, by simp [h1]⟩
   rw [Array.toList_setIfInBounds, List.countP_set hlt']
   simp only [Array.getElem_toList, h1, Bool.not_false, Bool.not_true, if_true, Bool.false_eq_true, if_false]
   omega
theorem wp_region_inv {id : Nat} {a : Act} {w : World} (hm : P.follows .mixedOrders = true) (hb : edgesBack ops = true) (I : Array Bool → Act → World → Prop)
 (h0 : I (Array.replicate ops.size false) a { w with drawn := w.drawn + 1 })
 (hs : ∀ L a w i, L.size = ops.size → I L a w → i ∈ Region.ready .any ops L → wpOp P ops Q i (I (L.setIfInBounds i true)) a w)
 (hd : ∀ L a w, (∀ i, i < ops.size → L.getD i false = true) → I L a w → Q .normal a w) : (Code.region id ops true).wp P Q a w :=
 wp_region_any hm (wpAny_inv hb I hs hd _ _ _ _ (by simp) (Nat.le_trans List.countP_le_length (by simp)) h0)
theorem wpOp_list {i : Nat} {o : Oper} (ho : ops[i]? = some o) (hg : o.guard = none) {K : Act → World → Prop} {a : Act} {w : World} (h : o.wp P a w K Q) : wpOp P ops Q i K a w := by
 unfold wpOp
 rw [ho]
 simp only [Region.wanted, hg, if_true]
 exact .inl h
theorem getD_false {L : Array Bool} {n i : Nat} (hz : L.size = n) (hi : i < n) (h : L.getD i true = false) : L.getD i false = false := by
 have hlt : i < L.size := by omega
 simp only [Array.getD_eq_getD_getElem?, Array.getElem?_eq_getElem hlt] at h ⊢
 exact h
end
end Go.Proofs.Ytldjdcdoegjmoaa
set_option linter.unusedVariables false
set_option linter.unusedSimpArgs false
namespace Go.Proofs.Ytldjdcdoegjmoaa
def dstOf (ops : Array Oper) (i : Nat) : Option Tmp := (ops[i]?).bind (·.dst)
def dstsApart (ops : Array Oper) : Bool := (List.range ops.size).all fun i => (List.range ops.size).all fun j => i == j || (dstOf ops i).isNone || dstOf ops i != dstOf ops j
def dstsBelow (ops : Array Oper) (n : Nat) : Bool := (List.range ops.size).all fun i => match dstOf ops i with | some t => decide (t < n) | none => true
def written (ops : Array Oper) (t : Tmp) : Bool := (List.range ops.size).any fun i => dstOf ops i == some t
def putAll (ops : Array Oper) (f : Nat → Value) (a : Act) : Nat → Act
 | 0 => a
 | n + 1 => (putAll ops f a n).put (dstOf ops n) (f n)
theorem put_tmps (a : Act) (d : Option Tmp) (v : Value) (t : Tmp) : (a.put d v).tmps[t]? = if d = some t ∧ t < a.tmps.size then some v else a.tmps[t]? := by
 cases d with
 | none => simp [Act.put]
 | some d =>
   simp only [Act.put, Array.getElem?_setIfInBounds, Option.some.injEq]
   by_cases h : d = t
   · subst h
     by_cases h2 : d < a.tmps.size
     · simp [h2]
     · simp [h2]
   · simp [h]
theorem put_size (a : Act) (d : Option Tmp) (v : Value) : (a.put d v).tmps.size = a.tmps.size := by cases d <;> simp [Act.put]
theorem put_defers (a : Act) (d : Option Tmp) (v : Value) : (a.put d v).defers = a.defers := by cases d <;> rfl
theorem putAll_size (ops : Array Oper) (f : Nat → Value) (a : Act) : ∀ n, (putAll ops f a n).tmps.size = a.tmps.size
 | 0 => rfl
 | n + 1 => by rw [putAll, put_size, putAll_size ops f a n]
theorem putAll_defers (ops : Array Oper) (f : Nat → Value) (a : Act) : ∀ n, (putAll ops f a n).defers = a.defers
 | 0 => rfl
 | n + 1 => by rw [putAll, put_defers, putAll_defers ops f a n]
theorem putAll_other (ops : Array Oper) (f : Nat → Value) (a : Act) (t : Tmp) : ∀ n, (∀ i, i < n → dstOf ops i ≠ some t) → (putAll ops f a n).tmps[t]? = a.tmps[t]?
 | 0, _ => rfl
 | n + 1, h => by
   rw [putAll, put_tmps, if_neg (fun e => h n (by omega) e.1)]
   exact putAll_other ops f a t n fun i hi => h i (by omega)
theorem putAll_at (ops : Array Oper) (f : Nat → Value) (a : Act) (t : Tmp) (ht : t < a.tmps.size) (i : Nat) (hi : dstOf ops i = some t) (hd : ∀ j, dstOf ops j = some t → j = i) : ∀ n, i < n → (putAll ops f a n).tmps[t]? = some (f i)
 | 0, h => by omega
 | n + 1, h => by
   rw [putAll, put_tmps, putAll_size]
   by_cases e : i = n
   · subst e; rw [if_pos ⟨hi, ht⟩]
   · rw [if_neg (fun q => e (hd n q.1).symm)]
     exact putAll_at ops f a t ht i hi hd n (by omega)
theorem apart_of {ops : Array Oper} (h : dstsApart ops = true) {i j : Nat} {t : Tmp} (hi : dstOf ops i = some t) (hj : dstOf ops j = some t) : j = i := by
 have hlt : ∀ k, dstOf ops k = some t → k < ops.size := fun k hk => by
  unfold dstOf at hk
  rcases Nat.lt_or_ge k ops.size with q | q
  · exact q
  · rw [Array.getElem?_eq_none q] at hk; cases hk
 have h1 := List.all_eq_true.1 (List.all_eq_true.1 h i (by simpa using hlt i hi)) j (by simpa using hlt j hj)
 rw [hi, hj] at h1
 simp at h1
 exact h1.symm
section
variable {P : Program} {ops : Array Oper} {Q : Exit → Act → World → Prop}
def Leans (ops : Array Oper) (V : Nat → Value → Prop) (a0 : Act) (o : Oper) (a : Act) : Prop :=
 (∀ e ∈ o.after, Region.binds .any e = true → ∀ t, dstOf ops e.on = some t → ∃ v, a.tmps[t]? = some v ∧ V e.on v) ∧ (∀ t, written ops t = false → a.tmps[t]? = a0.tmps[t]?)
theorem Leans.dep {V : Nat → Value → Prop} {a0 : Act} {o : Oper} {a : Act} (h : Leans ops V a0 o a) (j : Nat) (t : Tmp) (hj : (o.after.any fun e => e.on == j && Region.binds .any e) = true) (ht : dstOf ops j = some t) : ∃ v, a.tmps[t]?.getD undef = v ∧ V j v := by
 rw [← Array.any_toList, List.any_eq_true] at hj
 obtain ⟨e, he, hh⟩ := hj
 have he := Array.mem_toList_iff.1 he
 simp only [Bool.and_eq_true, beq_iff_eq] at hh
 obtain ⟨rfl, hb⟩ := hh
 obtain ⟨v, h1, h2⟩ := h.1 e he hb t ht
 exact ⟨v, by rw [h1, Option.getD_some], h2⟩
theorem Leans.free {V : Nat → Value → Prop} {a0 : Act} {o : Oper} {a : Act} (h : Leans ops V a0 o a) (t : Tmp) (ht : written ops t = false) : a.tmps[t]?.getD undef = a0.tmps[t]?.getD undef := by
 rw [h.2 t ht]
theorem eval_tmp {a : Act} {t : Tmp} {v : Value} (h : a.tmps[t]?.getD undef = v) : a.eval (.tmp t) = v := by
 simp only [Act.eval, Array.getD_eq_getD_getElem?]; exact h
theorem Leans.wanted {V : Nat → Value → Prop} {a0 : Act} {o : Oper} {a : Act} (h : Leans ops V a0 o a) (j : Nat) (t : Tmp) (b : Bool) (hg : o.guard = some (j, b)) (hj : (o.after.any fun e => e.on == j && Region.binds .any e) = true) (ht : dstOf ops j = some t) (hv : ∀ v, V j v → v = .bool b) : Region.wanted o (yielded ops a.tmps) = true := by
 rw [← Array.any_toList, List.any_eq_true] at hj
 obtain ⟨e, he, hh⟩ := hj
 have he := Array.mem_toList_iff.1 he
 simp only [Bool.and_eq_true, beq_iff_eq] at hh
 obtain ⟨rfl, hb⟩ := hh
 obtain ⟨v, h1, h2⟩ := h.1 e he hb t ht
 have := hv v h2
 subst this
 unfold Region.wanted yielded
 unfold dstOf at ht
 rw [hg]
 dsimp only
 rw [ht]
 simp [h1]
theorem wp_region_vals {id : Nat} {a0 : Act} {w : World} (hm : P.follows .mixedOrders = true) (hb : edgesBack ops = true) (hd : dstsApart ops = true) (hz : dstsBelow ops a0.tmps.size = true)
 (J : World → Prop) (V : Nat → Value → Prop) (hJ : J { w with drawn := w.drawn + 1 })
 (hs : ∀ i o, ops[i]? = some o → ∀ a w, J w → Leans ops V a0 o a → wpOp P ops Q i (fun a' w' => ∃ v, a' = a.put o.dst v ∧ V i v ∧ J w') a w)
 (hq : ∀ (f : Nat → Value) w, J w → (∀ i t, dstOf ops i = some t → V i (f i)) → Q .normal (putAll ops f a0 ops.size) w) : (Code.region id ops true).wp P Q a0 w := by
 have hzt : ∀ i t, dstOf ops i = some t → i < ops.size ∧ t < a0.tmps.size := fun i t h => by
  have hi : i < ops.size := by
   unfold dstOf at h
   rcases Nat.lt_or_ge i ops.size with q | q
   · exact q
   · rw [Array.getElem?_eq_none q] at h; cases h
  have h1 := List.all_eq_true.1 hz i (by simpa using hi)
  rw [h] at h1
  exact ⟨hi, by simpa using h1⟩
 refine wp_region_inv hm hb (fun L a w => J w ∧ a.defers = a0.defers ∧ a.tmps.size = a0.tmps.size ∧ (∀ t, (∀ i, dstOf ops i = some t → L.getD i false = false) → a.tmps[t]? = a0.tmps[t]?) ∧ (∀ i t, dstOf ops i = some t → L.getD i false = true → ∃ v, a.tmps[t]? = some v ∧ V i v)) ⟨hJ, rfl, rfl, fun _ _ => rfl, fun i t _ h => by simp [Array.getD_eq_getD_getElem?, Array.getElem?_replicate] at h; split at h <;> simp at h⟩ ?_ ?_
 · intro L a w i hL hI hi
   obtain ⟨j1, j2, j3, j4, j5⟩ := hI
   obtain ⟨hni, o, ho, hdep⟩ := mem_ready.1 hi
   have hi' : i < ops.size := (Array.getElem?_eq_some_iff.1 ho).1
   have hn := getD_false hL hi' hni
   refine wpOp_mono ?_ (hs i o ho a w j1 ⟨fun e he hbd t ht => j5 _ _ ht (hdep e he hbd), fun t ht => j4 t fun k hk => ?_⟩)
   · rintro a' w' ⟨v, rfl, hv, hJ'⟩
     have hdo : dstOf ops i = o.dst := by unfold dstOf; rw [ho]; rfl
     refine ⟨hJ', by rw [put_defers]; exact j2, by rw [put_size]; exact j3, fun t ht => ?_, fun k t hk hLk => ?_⟩
     · rw [put_tmps, if_neg]
       · refine j4 t fun k hk => ?_
         have := ht k hk
         by_cases e : k = i
         · subst e; exact hn
         · rwa [getD_set_ne false (fun q => e q.symm)] at this
       · rintro ⟨e, _⟩
         have := ht i (by rw [hdo]; exact e)
         rw [Array.getD_eq_getD_getElem?, Array.getElem?_setIfInBounds_self_of_lt (by omega)] at this
         simp at this
     · by_cases e : k = i
       · subst e
         rw [put_tmps, if_pos ⟨by rw [← hdo]; exact hk, by rw [j3]; exact (hzt k t hk).2⟩]
         exact ⟨v, rfl, hv⟩
       · rw [put_tmps, if_neg]
         · exact j5 k t hk (by rwa [getD_set_ne false (fun q => e q.symm)] at hLk)
         · rintro ⟨e', _⟩
           exact e (apart_of hd (by rw [hdo]; exact e') hk)
   · exfalso
     unfold written at ht
     rw [List.any_eq_false] at ht
     exact ht k (by simpa using (hzt k t hk).1) (by simp [hk])
 · intro L a w hL hI
   obtain ⟨j1, j2, j3, j4, j5⟩ := hI
   have hall : ∀ i t, dstOf ops i = some t → ∃ v, a.tmps[t]? = some v ∧ V i v := fun i t h => j5 i t h (hL i (hzt i t h).1)
   have hf : ∀ i, ∃ v, ∀ t, dstOf ops i = some t → a.tmps[t]? = some v ∧ V i v := fun i => by
    cases h : dstOf ops i with
    | none => exact ⟨undef, fun t e => by cases e⟩
    | some t => obtain ⟨v, h1, h2⟩ := hall i t h; exact ⟨v, fun t' e => by cases e; exact ⟨h1, h2⟩⟩
   have hex : a = putAll ops (fun i => Classical.choose (hf i)) a0 ops.size := by
    have e1 : a.tmps = (putAll ops (fun i => Classical.choose (hf i)) a0 ops.size).tmps := by
     apply Array.ext_getElem?
     intro t
     by_cases hw : ∃ i, dstOf ops i = some t
     · obtain ⟨i, hi⟩ := hw
       rw [putAll_at ops _ a0 t (hzt i t hi).2 i hi (fun j hj => apart_of hd hi hj) _ (hzt i t hi).1]
       exact (Classical.choose_spec (hf i) t hi).1
     · rw [putAll_other ops _ a0 t _ (fun i _ e => hw ⟨i, e⟩)]
       exact j4 t fun i hi => absurd ⟨i, hi⟩ hw
    have e2 : a.defers = (putAll ops (fun i => Classical.choose (hf i)) a0 ops.size).defers := by rw [putAll_defers]; exact j2
    cases a
    cases h : putAll ops (fun i => Classical.choose (hf i)) a0 ops.size
    simp_all
   rw [hex]
   exact hq _ w j1 fun i t h => (Classical.choose_spec (hf i) t h).2
theorem st_run {o : Oper} {K : Act → World → Prop} {a : Act} {w w' : World} {v : Value} (h : (execOp a.eval o).run P w = .ok (.value v) w') (hk : K (a.put o.dst v) w') : o.wp P a w K Q := by
 unfold Oper.wp
 rw [h]
 exact hk
theorem st_call {o : Oper} {K : Act → World → Prop} {a : Act} {w w' : World} {f : FuncId} {args : Array Value} (h : (execOp a.eval o).run P w = .ok (.enter f args) w') (hc : Calls P f args w' fun e w'' => ∃ v, e = .returned v ∧ K (a.put o.dst v) w'') : o.wp P a w K Q := by
 unfold Oper.wp
 rw [h, Oper.upon_enter]
 refine hc.mono ?_
 rintro e w'' ⟨v, rfl, hk⟩
 exact hk
end
end Go.Proofs.Ytldjdcdoegjmoaa

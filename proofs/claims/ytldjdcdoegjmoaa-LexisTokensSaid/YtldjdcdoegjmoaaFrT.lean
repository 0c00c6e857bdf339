/- Do lists of tokens share memory? The walk. -/
import Derived.Test.YtldjdcdoegjmoaaProg
import Derived.Test.YtldjdcdoegjmoaaFr1
import Derived.WalkKit
import Derived.KernelRfl
import Derived.BigQuiet
import Derived.Deep.QuietTactic
import Derived.StillTailTactics
import Derived.Deep.RegionWith
import Derived.Deep.LoopGhost
set_option linter.unusedVariables false
set_option linter.unusedSimpArgs false
namespace Go.Proofs.Ytldjdcdoegjmoaa.Fr
open Go.RowKit
def mkV (x : Int) : Value := .agg #[.int .i64 x, .int .i64 0, .int .i64 0, .string ⟨#[]⟩, .bool false, .int .u64 0, .int .u64 0, .int .u64 0, .int .u64 0, .int .i64 0, .int .i64 0]
def mkC (x : Int) : List Value := [.int .i64 x, .int .i64 0, .int .i64 0, .string ⟨#[]⟩, .bool false, .int .u64 0, .int .u64 0, .int .u64 0, .int .u64 0, .int .i64 0, .int .i64 0]
set_option maxHeartbeats 1000000 in
theorem mark_c (i : Nat) (hi : i ≤ 100000) (w : World) : Calls Try.prog 28 #[.int .i64 (i : Int)] w fun e w' => e = .returned (mkV (-1 - (i : Int))) ∧ Below w.heap.size w w' := by
 go_enter Try.func28, Try.ntmps28
 go_wp2
 exact bodyPost_ret (v := mkV (-1 - (i : Int))) (by unfold mkV; simp [results, Try.results28, go_sem]) rfl ⟨rfl, (Below.refl _ _).alloc (Nat.le_refl _) _⟩
set_option maxHeartbeats 1000000 in
theorem more_c (i : Nat) (hi : i ≤ 100000) (w : World) : Calls Try.prog 29 #[.int .i64 (i : Int)] w fun e w' => e = .returned (mkV (-100000 - (i : Int))) ∧ Below w.heap.size w w' := by
 go_enter Try.func29, Try.ntmps29
 go_wp2
 exact bodyPost_ret (v := mkV (-100000 - (i : Int))) (by unfold mkV; simp [results, Try.results29, go_sem]) rfl ⟨rfl, (Below.refl _ _).alloc (Nat.le_refl _) _⟩
def mk (j : Nat) : List Value := mkC (-1 - (j : Int))
def mo (j : Nat) : List Value := mkC (-100000 - (j : Int))
/-- What is known at the beginning. -/
structure Ahead (w : World) (L m B : Nat) (cs : Array Value) (rv : Nat → Value) (rn : Nat → Nat) : Prop where
 hL : w.heap[L]? = some (.cells cs 45 (0, 0))
 hcs : ∀ j, j < m → cs[j]? = some (rv j)
 hm : m ≤ 1000
 hrows : ∀ j, j < m → ∃ xs, w.ownsRow B 28 11 (rv j) (rn j) xs
 hsmall : ∀ j, j < m → rn j ≤ 1000000000000
 hapart : Apart m rv
 hB : B ≤ w.heap.size
theorem below_drewN' {B : Nat} {W w1 : World} (h : Below B W w1) (n : Nat) : Below B W (w1.drewN n) := ⟨h.os, h.tape, h.output, h.size, h.block⟩
theorem undrew {W w1 : World} (h : Below W.drew.heap.size W.drew w1) : Below W.heap.size W w1 := ⟨h.os, h.tape, h.output, h.size, h.block⟩
theorem infoTk : (Try.prog.info? 28).map (fun i => (i.zero, i.size, i.bytes)) = some (some (.agg #[.int .i64 0, .int .i64 0, .int .i64 0, .string ⟨#[]⟩, .bool false, .int .u64 0, .int .u64 0, .int .u64 0, .int .u64 0, .int .i64 0, .int .i64 0]), 11, 96) := by kernel_rfl
theorem infoSl : (Try.prog.info? 45).map (fun i => (i.zero, i.size, i.bytes)) = some (some (.slice none 0 0), 1, 24) := by kernel_rfl
theorem told_eleven {W : World} {B g n c t : Nat} {xs : List Value} {x : Int} (h : Told W B 28 11 (.slice (some ⟨g, 0, none⟩) n c) n xs) (ht : t < n) (hx : ∀ j, j < 11 → xs[t * 11 + j]? = (mkC x)[j]?) :
 (W.cell? ⟨g, t * 11, none⟩ = some (.int .i64 x) ∧ W.cell? ⟨g, t * 11 + 1, none⟩ = some (.int .i64 0) ∧ W.cell? ⟨g, t * 11 + 2, none⟩ = some (.int .i64 0) ∧ W.cell? ⟨g, t * 11 + 3, none⟩ = some (.string ⟨#[]⟩) ∧ W.cell? ⟨g, t * 11 + 4, none⟩ = some (.bool false) ∧ W.cell? ⟨g, t * 11 + 5, none⟩ = some (.int .u64 0) ∧
 W.cell? ⟨g, t * 11 + 6, none⟩ = some (.int .u64 0) ∧ W.cell? ⟨g, t * 11 + 7, none⟩ = some (.int .u64 0) ∧ W.cell? ⟨g, t * 11 + 8, none⟩ = some (.int .u64 0) ∧ W.cell? ⟨g, t * 11 + 9, none⟩ = some (.int .i64 0) ∧ W.cell? ⟨g, t * 11 + 10, none⟩ = some (.int .i64 0)) := by
 have hk : ∀ j, j < 11 → W.cell? ⟨g, t * 11 + j, none⟩ = (mkC x)[j]? := fun j hj => by rw [Told.cell h _ (by omega), hx j hj]
 exact ⟨hk 0 (by omega), hk 1 (by omega), hk 2 (by omega), hk 3 (by omega), hk 4 (by omega), hk 5 (by omega), hk 6 (by omega), hk 7 (by omega), hk 8 (by omega), hk 9 (by omega), hk 10 (by omega)⟩
theorem own_eleven {W : World} {B g n c t : Nat} {xs : List Value} (h : W.ownsRow B 28 11 (.slice (some ⟨g, 0, none⟩) n c) n xs) (ht : t < n) : ∃ u0 u1 u2 u3 u4 u5 u6 u7 u8 u9 u10 : Value,
 (W.cell? ⟨g, t * 11, none⟩ = some u0 ∧ W.cell? ⟨g, t * 11 + 1, none⟩ = some u1 ∧ W.cell? ⟨g, t * 11 + 2, none⟩ = some u2 ∧ W.cell? ⟨g, t * 11 + 3, none⟩ = some u3 ∧ W.cell? ⟨g, t * 11 + 4, none⟩ = some u4 ∧ W.cell? ⟨g, t * 11 + 5, none⟩ = some u5 ∧
 W.cell? ⟨g, t * 11 + 6, none⟩ = some u6 ∧ W.cell? ⟨g, t * 11 + 7, none⟩ = some u7 ∧ W.cell? ⟨g, t * 11 + 8, none⟩ = some u8 ∧ W.cell? ⟨g, t * 11 + 9, none⟩ = some u9 ∧ W.cell? ⟨g, t * 11 + 10, none⟩ = some u10) := by
 have hl := h.1
 have hk : ∀ j, j < 11 → ∃ u, W.cell? ⟨g, t * 11 + j, none⟩ = some u := fun j hj => by
  have hlt : t * 11 + j < n * 11 := by omega
  exact ⟨xs[t * 11 + j]'(by omega), by rw [World.ownsRow.cellAt h _ hlt, List.getElem?_eq_getElem]⟩
 obtain ⟨u0, h0⟩ := hk 0 (by omega); obtain ⟨u1, h1⟩ := hk 1 (by omega); obtain ⟨u2, h2⟩ := hk 2 (by omega); obtain ⟨u3, h3⟩ := hk 3 (by omega); obtain ⟨u4, h4⟩ := hk 4 (by omega); obtain ⟨u5, h5⟩ := hk 5 (by omega)
 obtain ⟨u6, h6⟩ := hk 6 (by omega); obtain ⟨u7, h7⟩ := hk 7 (by omega); obtain ⟨u8, h8⟩ := hk 8 (by omega); obtain ⟨u9, h9⟩ := hk 9 (by omega); obtain ⟨u10, h10⟩ := hk 10 (by omega)
 exact ⟨u0, u1, u2, u3, u4, u5, u6, u7, u8, u9, u10, h0, h1, h2, h3, h4, h5, h6, h7, h8, h9, h10⟩
set_option maxRecDepth 100000 in
set_option maxHeartbeats 4000000 in
theorem freeTokens_c (w : World) (L m c B : Nat) (cs : Array Value) (rv : Nat → Value) (rn : Nat → Nat) (H : Ahead w L m B cs rv rn) (hneq : ∀ (x : Int) (W : World), (binOp .neq 28 (mkV x) (mkV x)).run Try.prog W = .ok (.bool false) W) :
 Calls Try.prog 18 #[.slice (some ⟨L, 0, none⟩) m c] w fun e W => e = .returned (.bool true) ∧ Oth (Sr m rv) w W := by
 have hm := H.hm
 have hL0 : ¬ Sr m rv L := by
  rintro ⟨j, hj, hb⟩
  obtain ⟨xs, hx⟩ := H.hrows j hj
  obtain ⟨_, _, cur, hc⟩ := (told_own hx).lt hb
  rw [H.hL] at hc
  cases hc
 have hLlt : L < w.heap.size := heap_lt' H.hL
 have HH := Lib.hid H; clear H
 have HL0 := Lib.hid hL0; clear hL0
 go_enter Try.func18, Try.ntmps18
 go_wp2
 go_loopw [3] (fun i wr => ∃ k : Nat, k ≤ m ∧ i = .int .i64 k ∧ Marked w m B 28 11 rv rn mk k wr) (fun i _ => m - (intOf i).toNat)
 case atStart => exact ⟨0, by omega, rfl, Oth.refl _ _, fun j hj => by omega, fun j _ hj => HH.out.hrows j hj⟩
 case round =>
  obtain ⟨k, hk, rfl, hM⟩ := hrel
  obtain ⟨wo, rfl⟩ : ∃ wo : World, wo = wr := ⟨_, rfl⟩
  have HM := Lib.hid hM; clear hM
  by_cases hlt : k < m
  · obtain ⟨xs0, hx0⟩ := HM.out.2.2 k (Nat.le_refl _) hlt
    obtain ⟨A, ck, hv⟩ := (told_own hx0).form
    have hsm := HH.out.hsmall k hlt
    have hkt : decide ((k : Int) < (m : Int)) = true := by simp; omega
    have HX := Lib.hid hx0; clear hx0
    have HV := Lib.hid hv
    have hcell : wo.cell? ⟨L, k, none⟩ = some (.slice A (rn k) ck) := by
     rw [cell_of_row _ _ _ _ _ _ ((HM.out.1.block L hLlt HL0.out).trans HH.out.hL), HH.out.hcs k hlt, hv]
    clear hv
    go_wp2
    go_loopw [4] (fun kk wq => ∃ t : Nat, t ≤ rn k ∧ kk = .int .i64 t ∧ Marking w m B 28 11 rv rn mk k t wq) (fun kk _ => rn k - (intOf kk).toNat)
    case atStart => exact ⟨0, by omega, rfl, marking_start HM.out hlt⟩
    case round =>
     obtain ⟨t, ht, rfl, hQ⟩ := hrel
     obtain ⟨wi, rfl⟩ : ∃ wi : World, wi = wr := ⟨_, rfl⟩
     have HQ := Lib.hid hQ; clear hQ
     have hcell2 : wi.cell? ⟨L, k, none⟩ = some (.slice A (rn k) ck) := by
      rw [cell_of_row _ _ _ _ _ _ ((HQ.out.1.block L hLlt HL0.out).trans HH.out.hL), HH.out.hcs k hlt, HV.out]
     by_cases hlt2 : t < rn k
     · obtain ⟨ys, hys⟩ := HQ.out.2.2.2
       obtain ⟨g, c', hg, hcc⟩ := (told_own hys).cons (by omega)
       have hgA : Value.slice A (rn k) ck = .slice (some ⟨g, 0, none⟩) (rn k) c' := HV.out.symm.trans hg
       have hf := fun j => World.ownsRow.frozenAt (by rw [← hg]; exact hys) j
       injection hgA with hA _ hc'
       subst hA hc'
       clear hcell
       obtain ⟨u0, u1, u2, u3, u4, u5, u6, u7, u8, u9, u10, f0, f1, f2, f3, f4, f5, f6, f7, f8, f9, f10⟩ := own_eleven (by rw [← hg]; exact hys) hlt2
       have hgl : g < wi.heap.size := ((told_own hys).lt (by rw [hg]; rfl)).2.1
       have hLl : L < wi.heap.size := by have := HQ.out.1.size; omega
       have hz : (0 : Int) ≤ (t : Int) ∧ (t : Int) < (rn k : Int) := by omega
       have hz2 : (0 : Int) ≤ (k : Int) ∧ (k : Int) < (m : Int) := by omega
       have HYS := Lib.hid hys; clear hys
       go_wp2
       go_region_with (go_at_call 28; refine (mark_c k (by omega) _).mono ?_; rintro e w1 ⟨rfl, hb1⟩; obtain ⟨hc1, hf1⟩ := bcell hb1; have p0 := (hc1 _ _ hgl).trans f0; have p1 := (hc1 _ _ hgl).trans f1; have p2 := (hc1 _ _ hgl).trans f2; have p3 := (hc1 _ _ hgl).trans f3; have p4 := (hc1 _ _ hgl).trans f4; have p5 := (hc1 _ _ hgl).trans f5; have p6 := (hc1 _ _ hgl).trans f6; have p7 := (hc1 _ _ hgl).trans f7; have p8 := (hc1 _ _ hgl).trans f8; have p9 := (hc1 _ _ hgl).trans f9; have p10 := (hc1 _ _ hgl).trans f10; have q0 := (hf1 _ _ hgl).trans (hf (t * 11)); have q1 := (hf1 _ _ hgl).trans (hf (t * 11 + 1)); have q2 := (hf1 _ _ hgl).trans (hf (t * 11 + 2)); have q3 := (hf1 _ _ hgl).trans (hf (t * 11 + 3)); have q4 := (hf1 _ _ hgl).trans (hf (t * 11 + 4)); have q5 := (hf1 _ _ hgl).trans (hf (t * 11 + 5)); have q6 := (hf1 _ _ hgl).trans (hf (t * 11 + 6)); have q7 := (hf1 _ _ hgl).trans (hf (t * 11 + 7)); have q8 := (hf1 _ _ hgl).trans (hf (t * 11 + 8)); have q9 := (hf1 _ _ hgl).trans (hf (t * 11 + 9)); have q10 := (hf1 _ _ hgl).trans (hf (t * 11 + 10)); have hcellw := (hc1 _ _ hLl).trans hcell2; clear hc1 hf1; unfold mkV; have HB1 := Lib.hid hb1; clear hb1)
       all_goals go_wp2
       all_goals go_roundw
       case rel => exact ⟨t + 1, by omega, by go_num, marking_step HQ.out hlt hlt2 hg HH.out.hapart rfl (undrew HB1.out)⟩
       case measure => simp [intOf]; omega
       case rel => exact ⟨t + 1, by omega, by go_num, marking_step HQ.out hlt hlt2 hg HH.out.hapart rfl (undrew HB1.out)⟩
       case measure => simp [intOf]; omega
     · obtain rfl : t = rn k := by omega
       go_wp2
       go_roundw
       case rel => exact ⟨k + 1, by omega, by go_num, marking_done HQ.out rfl⟩
       case measure => simp [intOf]; omega
  · obtain rfl : m = k := by omega
    have HG0 := Lib.hid (grown_start (N := 20) (t := 45) (mo := mo) HM.out)
    clear HM
    go_wp2
    go_loopw [5, 6] (fun gv i wr => ∃ (k : Nat) (ys : List Value), k ≤ m ∧ i = .int .i64 k ∧ Grown w m B 28 45 11 20 rv rn mk mo k gv ys wr) (fun _ i _ => m - (intOf i).toNat)
    case atStart => exact ⟨0, [], by omega, rfl, HG0.out⟩
    case round =>
     clear HG0
     obtain ⟨k, ys, hk, rfl, hG⟩ := hrel
     obtain ⟨wo, rfl⟩ : ∃ wo : World, wo = wr := ⟨_, rfl⟩
     have HG := Lib.hid hG; clear hG
     by_cases hlt : k < m
     · have hx0 := HG.out.rest k (Nat.le_refl _) hlt
       obtain ⟨A, ck, hv⟩ := (told_own hx0).form
       have hsm := HH.out.hsmall k hlt
       have hkt : decide ((k : Int) < (m : Int)) = true := by simp; omega
       have HX := Lib.hid hx0; clear hx0
       have HV := Lib.hid hv
       have hcell : wo.cell? ⟨L, k, none⟩ = some (.slice A (rn k) ck) := by
        rw [cell_of_row _ _ _ _ _ _ ((HG.out.oth.block L hLlt HL0.out).trans HH.out.hL), HH.out.hcs k hlt, hv]
       have HS := Lib.hid (show Growing B 28 11 rv rn mk mo k 0 wo (.slice A (rn k) ck) wo by rw [← hv]; exact growing_start HX.out)
       clear hv
       go_wp2
       go_loopw [7, 8] (fun x kk wq => ∃ t : Nat, t ≤ 20 ∧ kk = .int .i64 t ∧ Growing B 28 11 rv rn mk mo k t wo x wq) (fun _ kk _ => 20 - (intOf kk).toNat)
       case atStart => exact ⟨0, by omega, rfl, HS.out⟩
       case round =>
        obtain ⟨t, ht, rfl, hQ⟩ := hrel
        obtain ⟨wi, rfl⟩ : ∃ wi : World, wi = wr := ⟨_, rfl⟩
        have HQ := Lib.hid hQ; clear hQ
        obtain ⟨A2, c2, hv2⟩ := (told_own HQ.out.2.1).form
        subst hv2
        have hBi : B ≤ wi.heap.size := by have h1 := HQ.out.1.size; have h2 := HG.out.oth.size; have h3 := HH.out.hB; omega
        by_cases hlt2 : t < 20
        · go_wp2_with (first | (go_at_call 29; refine (more_c k (by omega) _).mono ?_; rintro e w1 ⟨rfl, hb1⟩; unfold mkV; have hz1 := hb1.size; have HB1 := Lib.hid hb1; clear hb1) | (at_builtin; refine wpList_append_two B rfl (.tmp 49) (.tmp 52) 45 28 (.agg #[.int .i64 0, .int .i64 0, .int .i64 0, .string ⟨#[]⟩, .bool false, .int .u64 0, .int .u64 0, .int .u64 0, .int .u64 0, .int .i64 0, .int .i64 0]) 11 96 rfl Try.underlying45 infoTk rfl (by decide) _ (rn k + t) _ [.int .i64 (-100000 - (k : Int)), .int .i64 0, .int .i64 0, .string ⟨#[]⟩, .bool false, .int .u64 0, .int .u64 0, .int .u64 0, .int .u64 0, .int .i64 0, .int .i64 0] rfl (by simp [Value.oneCell']) rfl rfl (own_move HQ.out.2.1 fun b hb => HB1.out.block b ((told_own HQ.out.2.1).lt hb).2.1) (by omega) (by omega) (by omega) ?_; intro g c3 w2 h1 h2 h3; have H1 := Lib.hid h1; have H2 := Lib.hid h2; have H3 := Lib.hid h3; clear h1 h2 h3))
          go_roundw
          case rel => exact ⟨t + 1, by omega, by go_num, growing_step HQ.out HB1.out H1.out H2.out H3.out⟩
          case measure => simp [intOf]; omega
        · obtain rfl : t = 20 := by omega
          have HGM := Lib.hid (grown_all HG.out (by decide) hlt HQ.out)
          have hwi : w.heap.size ≤ wi.heap.size := by have h1 := HQ.out.1.size; have h2 := HG.out.oth.size; omega
          have hyl : ys.length ≤ m := by have := HG.out.len; omega
          go_wp2_with (at_builtin; refine wpList_append_two w.heap.size rfl (.tmp 54) (.tmp 56) 52 45 (.slice none 0 0) 1 24 rfl Try.underlying52 infoSl rfl (by decide) _ ys.length ys [.slice A2 (rn k + 20) c2] rfl (by simp [Value.oneCell']) rfl rfl HGM.out hwi (by omega) (by omega) ?_; intro g c3 w2 h1 h2 h3; have H1 := Lib.hid h1; have H2 := Lib.hid h2; clear h1 h2 h3)
          go_roundw
          case rel => exact ⟨k + 1, ys ++ [.slice A2 (rn k + 20) c2], by omega, by go_num, grown_step (by decide) HG.out hlt HH.out.hapart HQ.out H1.out H2.out⟩
          case measure => simp [intOf]; omega
     · obtain rfl : m = k := by omega
       obtain ⟨A3, c3, hgv⟩ := (told_own HG.out.all).form
       rw [HG.out.len] at hgv
       subst hgv
       clear hk
       go_wp2
       go_loopw [9] (fun i wr => ∃ k : Nat, k ≤ m ∧ i = .int .i64 k ∧ Below wo.heap.size wo wr) (fun i _ => m - (intOf i).toNat)
       case atStart => exact ⟨0, by omega, rfl, Below.refl _ _⟩
       case round =>
        obtain ⟨k, hk, rfl, hB⟩ := hrel
        obtain ⟨wp, rfl⟩ : ∃ wp : World, wp = wr := ⟨_, rfl⟩
        have HB := Lib.hid hB; clear hB
        by_cases hlt : k < m
        · obtain ⟨y, hy⟩ : ∃ y, ys[k]? = some y := ⟨_, List.getElem?_eq_getElem (by rw [HG.out.len]; exact hlt)⟩
          have HC := Lib.hid (HG.out.copy k y hy).1
          have HT := Lib.hid (HG.out.told k hlt hlt)
          obtain ⟨A, ck, hv⟩ := HT.out.form
          obtain ⟨A2, c2, hv2⟩ := HC.out.form
          subst hv2
          have hsm := HH.out.hsmall k hlt
          have hkt : decide ((k : Int) < (m : Int)) = true := by simp; omega
          have HV := Lib.hid hv
          have hLw : L < wo.heap.size := by have := HG.out.oth.size; omega
          have hcell : wo.cell? ⟨L, k, none⟩ = some (.slice A (rn k) ck) := by
           rw [cell_of_row _ _ _ _ _ _ ((HG.out.oth.block L hLlt HL0.out).trans HH.out.hL), HH.out.hcs k hlt, hv]
          have hall := HG.out.all
          rw [HG.out.len] at hall
          obtain ⟨g3, c4, h3, _⟩ := (told_own hall).cons (by omega)
          injection h3 with h3a _ h3c
          subst h3a h3c
          have hcell3 : wo.cell? ⟨g3, k, none⟩ = some (.slice A2 (rn k + 20) c2) := by rw [World.ownsRow.cellAt hall k (by omega), hy]
          have hg3 : g3 < wo.heap.size := ((told_own hall).lt rfl).2.1
          have HCE := Lib.hid hcell; have HCE3 := Lib.hid hcell3
          have p1 : wp.cell? ⟨L, k, none⟩ = some (.slice A (rn k) ck) := (HB.out.cell (p := ⟨L, k, none⟩) hLw).trans hcell
          have p3 : wp.cell? ⟨g3, k, none⟩ = some (.slice A2 (rn k + 20) c2) := (HB.out.cell (p := ⟨g3, k, none⟩) hg3).trans hcell3
          clear hcell hcell3 hall hv hy
          go_wp2
          go_loopw [10] (fun j wq => ∃ t : Nat, t ≤ rn k + 20 ∧ j = .int .i64 t ∧ Below wo.heap.size wo wq) (fun j _ => rn k + 20 - (intOf j).toNat)
          case atStart => exact ⟨0, by omega, rfl, HB.out⟩
          case round =>
           obtain ⟨t, ht, rfl, hB2⟩ := hrel
           obtain ⟨wz, rfl⟩ : ∃ wz : World, wz = wr := ⟨_, rfl⟩
           have p1 : wz.cell? ⟨L, k, none⟩ = some (.slice A (rn k) ck) := (hB2.cell (p := ⟨L, k, none⟩) hLw).trans HCE.out
           have p3 : wz.cell? ⟨g3, k, none⟩ = some (.slice A2 (rn k + 20) c2) := (hB2.cell (p := ⟨g3, k, none⟩) hg3).trans HCE3.out
           have hsz := hB2.size
           have HB2 := Lib.hid hB2; clear hB2
           have hLz : L < wz.heap.size := by omega
           have hgz : g3 < wz.heap.size := by omega
           by_cases hlt2 : t < rn k + 20
           · obtain ⟨g2, c5, h2, _⟩ := HC.out.cons (by omega)
             injection h2 with h2a _ h2c
             subst h2a h2c
             have hg2 : g2 < wz.heap.size := by have q : g2 < wo.heap.size := (HC.out.lt rfl).2.1; omega
             have HC2 := Lib.hid (HC.out.move (W' := wz) fun g hg => HB2.out.block g (HC.out.lt hg).2.1)
             by_cases hlt3 : t < rn k
             · obtain ⟨g1, c6, h1, _⟩ := HT.out.cons (by omega)
               have hA := HV.out.symm.trans h1
               injection hA with h1a _ h1c
               subst h1a h1c
               have hg1 : g1 < wz.heap.size := by have q : g1 < wo.heap.size := (HT.out.lt (g := g1) (by rw [HV.out]; rfl)).2.1; omega
               have HT2 := Lib.hid (show Told wz B 28 11 (.slice (some ⟨g1, 0, none⟩) (rn k) ck) (rn k) (reps (rn k) (mk k)) by rw [← HV.out]; exact HT.out.move fun g hg => HB2.out.block g (HT.out.lt hg).2.1)
               have e81 : decide (rn k ≤ t) = false := by simp; omega
               have e98 : decide ((t : Int) < (rn k : Int)) = true := by simp; omega
               have e98' : decide (t < rn k) = true := by simp; omega
               go_wp2_with fail
               refine (mark_c k (by omega) _).mono ?_
               rintro e w1 ⟨rfl, hb1⟩
               have hz1 := hb1.size
               have q1 := (hb1.cell (p := ⟨L, k, none⟩) hLz).trans p1
               have hLz1 : L < w1.heap.size := Nat.lt_of_lt_of_le hLz hz1
               unfold mkV
               have HB1 := Lib.hid hb1
               clear hb1
               go_wp2
               have hbw := HB1.out.alloc (Nat.le_trans (Nat.le_refl _) hz1) (.cells #[.int .i64 (-1 - (k : Int)), .int .i64 0, .int .i64 0, .string ⟨#[]⟩, .bool false, .int .u64 0, .int .u64 0, .int .u64 0, .int .u64 0, .int .i64 0, .int .i64 0] 28)
               obtain ⟨a0, a1, a2, a3, a4, a5, a6, a7, a8, a9, a10⟩ := told_eleven (x := -1 - (k : Int)) (HT2.out.move fun g hg => hbw.block g (HT2.out.lt hg).2.1) hlt3 (fun j hj => reps_at (c := mk k) hlt3 hj)
               obtain ⟨b0, b1, b2, b3, b4, b5, b6, b7, b8, b9, b10⟩ := told_eleven (x := -1 - (k : Int)) (HC2.out.move fun g hg => hbw.block g (HC2.out.lt hg).2.1) hlt2 (fun j hj => by
                rw [List.getElem?_append_left (by rw [reps_len]; show t * 11 + j < rn k * 11; omega)]
                exact reps_at (c := mk k) hlt3 hj)
               have q1 := (hbw.cell (p := ⟨L, k, none⟩) hLz).trans p1
               have q3 := (hbw.cell (p := ⟨g3, k, none⟩) hgz).trans p3
               have i1 : (0 : Int) ≤ (t : Int) ∧ (t : Int) < (rn k : Int) + 20 := by omega
               have i1' : (t : Int) < ((rn k + 20 : Nat) : Int) := by omega
               have i2 : (0 : Int) ≤ (t : Int) ∧ (t : Int) < (rn k : Int) := by omega
               have i3 : (0 : Int) ≤ (k : Int) ∧ (k : Int) < (m : Int) := by omega
               have hne := fun W => hneq (-1 - (k : Int)) W
               unfold mkV at hne
               have HBW := Lib.hid hbw
               clear hbw hneq
               go_quiet (fail)
               go_wp2
               go_roundw
               case rel => exact ⟨t + 1, by omega, by go_num, below_drewN' (HB2.out.trans (HBW.out.mono HB2.out.size)) _⟩
               case measure => simp [intOf]; omega
             · have e81 : decide (rn k ≤ t) = true := by simp; omega
               have e98 : decide ((t : Int) < (rn k : Int)) = false := by simp; omega
               have e98' : decide (t < rn k) = false := by simp; omega
               go_wp2_with fail
               refine (mark_c k (by omega) _).mono ?_
               rintro e w1 ⟨rfl, hb1⟩
               have hz1 := hb1.size
               have q1 := (hb1.cell (p := ⟨L, k, none⟩) hLz).trans p1
               have hLz1 : L < w1.heap.size := Nat.lt_of_lt_of_le hLz hz1
               unfold mkV
               have HB1 := Lib.hid hb1
               clear hb1
               go_wp2_with fail
               refine (more_c k (by omega) _).mono ?_
               rintro e w2 ⟨rfl, hb2⟩
               have hbox2 := (hb2.block w1.heap.size (by simp)).trans (heap_alloc_new w1 (.cells #[.int .i64 (-1 - (k : Int)), .int .i64 0, .int .i64 0, .string ⟨#[]⟩, .bool false, .int .u64 0, .int .u64 0, .int .u64 0, .int .u64 0, .int .i64 0, .int .i64 0] 28 (0, 0)))
               have hz2 := hb2.size
               have hb3 := (HB1.out.alloc (Nat.le_trans (Nat.le_refl _) hz1) (.cells #[.int .i64 (-1 - (k : Int)), .int .i64 0, .int .i64 0, .string ⟨#[]⟩, .bool false, .int .u64 0, .int .u64 0, .int .u64 0, .int .u64 0, .int .i64 0, .int .i64 0] 28 (0, 0))).trans (hb2.mono (by simp; omega))
               have bx := fun j => cell_of_row w2 w1.heap.size j _ _ _ hbox2
               have bf := fun j => frozen_of_row w2 w1.heap.size j _ _ hbox2
               have bx0 := bx 0; have bx1 := bx 1; have bx2 := bx 2; have bx3 := bx 3; have bx4 := bx 4; have bx5 := bx 5; have bx6 := bx 6; have bx7 := bx 7; have bx8 := bx 8; have bx9 := bx 9; have bx10 := bx 10
               have bf0 := bf 0; have bf1 := bf 1; have bf2 := bf 2; have bf3 := bf 3; have bf4 := bf 4; have bf5 := bf 5; have bf6 := bf 6; have bf7 := bf 7; have bf8 := bf 8; have bf9 := bf 9; have bf10 := bf 10
               unfold mkV
               have hbox3 := heap_setCell_same _ w1.heap.size 10 _ 28 (.int .i64 0) (heap_setCell_same _ w1.heap.size 9 _ 28 (.int .i64 0) (heap_setCell_same _ w1.heap.size 8 _ 28 (.int .u64 0) (heap_setCell_same _ w1.heap.size 7 _ 28 (.int .u64 0) (heap_setCell_same _ w1.heap.size 6 _ 28 (.int .u64 0) (heap_setCell_same _ w1.heap.size 5 _ 28 (.int .u64 0) (heap_setCell_same _ w1.heap.size 4 _ 28 (.bool false) (heap_setCell_same _ w1.heap.size 3 _ 28 (.string ⟨#[]⟩) (heap_setCell_same _ w1.heap.size 2 _ 28 (.int .i64 0) (heap_setCell_same _ w1.heap.size 1 _ 28 (.int .i64 0) (heap_setCell_same _ w1.heap.size 0 _ 28 (.int .i64 (-100000 - (k : Int))) (hbox2)))))))))))
               have hbw := (((((((((((hb3.setCell (p := ⟨w1.heap.size, 0, none⟩) hz1 (.int .i64 (-100000 - (k : Int)))).setCell (p := ⟨w1.heap.size, 1, none⟩) hz1 (.int .i64 0)).setCell (p := ⟨w1.heap.size, 2, none⟩) hz1 (.int .i64 0)).setCell (p := ⟨w1.heap.size, 3, none⟩) hz1 (.string ⟨#[]⟩)).setCell (p := ⟨w1.heap.size, 4, none⟩) hz1 (.bool false)).setCell (p := ⟨w1.heap.size, 5, none⟩) hz1 (.int .u64 0)).setCell (p := ⟨w1.heap.size, 6, none⟩) hz1 (.int .u64 0)).setCell (p := ⟨w1.heap.size, 7, none⟩) hz1 (.int .u64 0)).setCell (p := ⟨w1.heap.size, 8, none⟩) hz1 (.int .u64 0)).setCell (p := ⟨w1.heap.size, 9, none⟩) hz1 (.int .i64 0)).setCell (p := ⟨w1.heap.size, 10, none⟩) hz1 (.int .i64 0))
               have HBOX2 := Lib.hid hbox2; have HBOX3 := Lib.hid hbox3; have HBW := Lib.hid hbw
               clear hb2 hbox2 hb3 bx bf hbox3 hbw
               go_wp2
               generalize (((((((((((w2.setCell ⟨w1.heap.size, 0, none⟩ (.int .i64 (-100000 - (k : Int)))).setCell ⟨w1.heap.size, 1, none⟩ (.int .i64 0)).setCell ⟨w1.heap.size, 2, none⟩ (.int .i64 0)).setCell ⟨w1.heap.size, 3, none⟩ (.string ⟨#[]⟩)).setCell ⟨w1.heap.size, 4, none⟩ (.bool false)).setCell ⟨w1.heap.size, 5, none⟩ (.int .u64 0)).setCell ⟨w1.heap.size, 6, none⟩ (.int .u64 0)).setCell ⟨w1.heap.size, 7, none⟩ (.int .u64 0)).setCell ⟨w1.heap.size, 8, none⟩ (.int .u64 0)).setCell ⟨w1.heap.size, 9, none⟩ (.int .i64 0)).setCell ⟨w1.heap.size, 10, none⟩ (.int .i64 0)) = W3 at HBOX3 HBW ⊢
               clear bx0 bx1 bx2 bx3 bx4 bx5 bx6 bx7 bx8 bx9 bx10 bf0 bf1 bf2 bf3 bf4 bf5 bf6 bf7 bf8 bf9 bf10
               have bx := fun j => cell_of_row W3 w1.heap.size j _ _ _ HBOX3.out
               have bx0 := bx 0; have bx1 := bx 1; have bx2 := bx 2; have bx3 := bx 3; have bx4 := bx 4; have bx5 := bx 5; have bx6 := bx 6; have bx7 := bx 7; have bx8 := bx 8; have bx9 := bx 9; have bx10 := bx 10
               simp at bx0 bx1 bx2 bx3 bx4 bx5 bx6 bx7 bx8 bx9 bx10
               have r1 : rn k * 11 + ((t - rn k) * 11) = t * 11 := by omega
               obtain ⟨b0, b1, b2, b3, b4, b5, b6, b7, b8, b9, b10⟩ := told_eleven (x := -100000 - (k : Int)) (HC2.out.move fun g hg => HBW.out.block g (HC2.out.lt hg).2.1) hlt2 (fun j hj => by
                rw [List.getElem?_append_right (by rw [reps_len]; show rn k * 11 ≤ t * 11 + j; omega), reps_len, show t * 11 + j - rn k * (mk k).length = (t - rn k) * (mo k).length + j by show t * 11 + j - rn k * 11 = (t - rn k) * 11 + j; omega]
                exact reps_at (c := mo k) (by omega) hj)
               have q1 := (HBW.out.cell (p := ⟨L, k, none⟩) hLz).trans p1
               have q3 := (HBW.out.cell (p := ⟨g3, k, none⟩) hgz).trans p3
               have i1 : (0 : Int) ≤ (t : Int) ∧ (t : Int) < (rn k : Int) + 20 := by omega
               have i1' : (t : Int) < ((rn k + 20 : Nat) : Int) := by omega
               have i3 : (0 : Int) ≤ (k : Int) ∧ (k : Int) < (m : Int) := by omega
               have hne := fun W => hneq (-100000 - (k : Int)) W
               unfold mkV at hne
               clear bx r1 hneq
               go_quiet (fail)
               go_wp2
               go_roundw
               case rel => exact ⟨t + 1, by omega, by go_num, below_drewN' (HB2.out.trans (HBW.out.mono HB2.out.size)) _⟩
               case measure => simp [intOf]; omega
           · obtain rfl : t = rn k + 20 := by omega
             go_wp2
             go_roundw
             case rel => exact ⟨k + 1, by omega, by go_num, HB2.out⟩
             case measure => simp [intOf]; omega
        · obtain rfl : m = k := by omega
          have HFin := Lib.hid (HG.out.oth.trans (Oth.refl (Sr m rv) wo))
          go_wp2
          go_ret
          exact ⟨rfl, ⟨HB.out.os.trans HG.out.oth.os, HB.out.tape.trans HG.out.oth.tape, HB.out.output.trans HG.out.oth.output, Nat.le_trans HG.out.oth.size HB.out.size, fun b hb hs => (HB.out.block b (Nat.lt_of_lt_of_le hb HG.out.oth.size)).trans (HG.out.oth.block b hb hs)⟩⟩
end Go.Proofs.Ytldjdcdoegjmoaa.Fr

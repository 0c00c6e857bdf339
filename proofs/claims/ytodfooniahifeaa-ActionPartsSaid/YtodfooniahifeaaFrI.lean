/- Do lists of numbers share memory? The walk. -/
import Derived.Test.YtodfooniahifeaaProg
import Derived.Test.YtodfooniahifeaaFr1
import Derived.WalkKit
import Derived.KernelRfl
import Derived.BigQuiet
import Derived.Deep.QuietTactic
import Derived.StillTailTactics
import Derived.Deep.RegionWith
import Derived.Deep.LoopGhost
set_option linter.unusedVariables false
set_option linter.unusedSimpArgs false
namespace Go.Proofs.Ytodfooniahifeaa.Fr
open Go.RowKit
def mk (j : Nat) : List Value := [.int .i64 (-1 - (j : Int))]
def mo (j : Nat) : List Value := [.int .i64 (-100000 - (j : Int))]
/-- What is known at the beginning. -/
structure Ahead (w : World) (L m B : Nat) (cs : Array Value) (rv : Nat → Value) (rn : Nat → Nat) : Prop where
  hL : w.heap[L]? = some (.cells cs 24 (0, 0))
  hcs : ∀ j, j < m → cs[j]? = some (rv j)
  hm : m ≤ 1000
  hrows : ∀ j, j < m → ∃ xs, w.ownsRow B 3 1 (rv j) (rn j) xs
  hsmall : ∀ j, j < m → rn j ≤ 1000000000000
  hapart : Apart m rv
  hB : B ≤ w.heap.size
theorem infoIn : (Try.prog.info? 3).map (fun i => (i.zero, i.size, i.bytes)) = some (some (.int .i64 0), 1, 8) := by kernel_rfl
theorem infoSl : (Try.prog.info? 24).map (fun i => (i.zero, i.size, i.bytes)) = some (some (.slice none 0 0), 1, 24) := by kernel_rfl
theorem told_one {W : World} {B g n c t : Nat} {xs : List Value} {x : Value} (h : Told W B 3 1 (.slice (some ⟨g, 0, none⟩) n c) n xs) (ht : t < n) (hx : xs[t]? = some x) : W.cell? ⟨g, t, none⟩ = some x := by
  rw [Told.cell h _ (by omega), hx]
theorem own_one {W : World} {B g n c t : Nat} {xs : List Value} (h : W.ownsRow B 3 1 (.slice (some ⟨g, 0, none⟩) n c) n xs) (ht : t < n) : ∃ u, W.cell? ⟨g, t, none⟩ = some u := by
  have hl := h.1
  have hlt : t < n * 1 := by omega
  exact ⟨xs[t]'(by omega), by rw [World.ownsRow.cellAt h _ hlt, List.getElem?_eq_getElem]⟩
set_option maxRecDepth 100000 in
set_option maxHeartbeats 4000000 in
theorem freeInts_c (w : World) (L m c B : Nat) (cs : Array Value) (rv : Nat → Value) (rn : Nat → Nat) (H : Ahead w L m B cs rv rn) :
    Calls Try.prog 11 #[.slice (some ⟨L, 0, none⟩) m c] w fun e W => e = .returned (.bool true) ∧ Oth (Sr m rv) w W := by
  have hm := H.hm
  have hL0 : ¬ Sr m rv L := by
    rintro ⟨j, hj, hb⟩
    obtain ⟨xs, hx⟩ := H.hrows j hj
    obtain ⟨_, _, cur, hc⟩ := (told_own hx).lt hb
    rw [H.hL] at hc
    cases hc
  have hLlt : L < w.heap.size := heap_lt' H.hL
  have HH := Lib.hid H; clear H
  have HL0 := Lib.hid hL0; clear hL0
  go_enter Try.func11, Try.ntmps11
  go_wp2
  go_loopw [3] (fun i wr => ∃ k : Nat, k ≤ m ∧ i = .int .i64 k ∧ Marked w m B 3 1 rv rn mk k wr) (fun i _ => m - (intOf i).toNat)
  case atStart => exact ⟨0, by omega, rfl, Oth.refl _ _, fun j hj => by omega, fun j _ hj => HH.out.hrows j hj⟩
  case round =>
    obtain ⟨k, hk, rfl, hM⟩ := hrel
    obtain ⟨wo, rfl⟩ : ∃ wo : World, wo = wr := ⟨_, rfl⟩
    have HM := Lib.hid hM; clear hM
    by_cases hlt : k < m
    · obtain ⟨xs0, hx0⟩ := HM.out.2.2 k (Nat.le_refl _) hlt
      obtain ⟨A, ck, hv⟩ := (told_own hx0).form
      have hsm := HH.out.hsmall k hlt
      have hkt : decide ((k : Int) < (m : Int)) = true := by simp; omega
      have HX := Lib.hid hx0; clear hx0
      have HV := Lib.hid hv
      have hcell : wo.cell? ⟨L, k, none⟩ = some (.slice A (rn k) ck) := by
        rw [cell_of_row _ _ _ _ _ _ ((HM.out.1.block L hLlt HL0.out).trans HH.out.hL), HH.out.hcs k hlt, hv]
      clear hv
      go_wp2
      go_loopw [4] (fun kk wq => ∃ t : Nat, t ≤ rn k ∧ kk = .int .i64 t ∧ Marking w m B 3 1 rv rn mk k t wq) (fun kk _ => rn k - (intOf kk).toNat)
      case atStart => exact ⟨0, by omega, rfl, marking_start HM.out hlt⟩
      case round =>
        obtain ⟨t, ht, rfl, hQ⟩ := hrel
        obtain ⟨wi, rfl⟩ : ∃ wi : World, wi = wr := ⟨_, rfl⟩
        have HQ := Lib.hid hQ; clear hQ
        have hcell2 : wi.cell? ⟨L, k, none⟩ = some (.slice A (rn k) ck) := by
          rw [cell_of_row _ _ _ _ _ _ ((HQ.out.1.block L hLlt HL0.out).trans HH.out.hL), HH.out.hcs k hlt, HV.out]
        by_cases hlt2 : t < rn k
        · obtain ⟨ys, hys⟩ := HQ.out.2.2.2
          obtain ⟨g, c', hg, hcc⟩ := (told_own hys).cons (by omega)
          have hgA : Value.slice A (rn k) ck = .slice (some ⟨g, 0, none⟩) (rn k) c' := HV.out.symm.trans hg
          have hf := World.ownsRow.frozenAt (by rw [← hg]; exact hys) t
          injection hgA with hA _ hc'
          subst hA hc'
          clear hcell
          obtain ⟨u0, f0⟩ := own_one (by rw [← hg]; exact hys) hlt2
          have hgl : g < wi.heap.size := ((told_own hys).lt (by rw [hg]; rfl)).2.1
          have hLl : L < wi.heap.size := by have := HQ.out.1.size; omega
          have hz : (0 : Int) ≤ (t : Int) ∧ (t : Int) < (rn k : Int) := by omega
          have hz2 : (0 : Int) ≤ (k : Int) ∧ (k : Int) < (m : Int) := by omega
          have HYS := Lib.hid hys; clear hys
          go_wp2
          have HN := Lib.hid (marking_step HQ.out hlt hlt2 hg HH.out.hapart rfl (Below.refl _ _))
          rw [Nat.mul_one] at HN
          go_roundw
          case rel => exact ⟨t + 1, by omega, by go_num, HN.out⟩
          case measure => simp [intOf]; omega
        · obtain rfl : t = rn k := by omega
          go_wp2
          go_roundw
          case rel => exact ⟨k + 1, by omega, by go_num, marking_done HQ.out rfl⟩
          case measure => simp [intOf]; omega
    · obtain rfl : m = k := by omega
      have HG0 := Lib.hid (grown_start (N := 20) (t := 24) (mo := mo) HM.out)
      clear HM
      go_wp2
      go_loopw [5, 6] (fun gv i wr => ∃ (k : Nat) (ys : List Value), k ≤ m ∧ i = .int .i64 k ∧ Grown w m B 3 24 1 20 rv rn mk mo k gv ys wr) (fun _ i _ => m - (intOf i).toNat)
      case atStart => exact ⟨0, [], by omega, rfl, HG0.out⟩
      case round =>
        clear HG0
        obtain ⟨k, ys, hk, rfl, hG⟩ := hrel
        obtain ⟨wo, rfl⟩ : ∃ wo : World, wo = wr := ⟨_, rfl⟩
        have HG := Lib.hid hG; clear hG
        by_cases hlt : k < m
        · have hx0 := HG.out.rest k (Nat.le_refl _) hlt
          obtain ⟨A, ck, hv⟩ := (told_own hx0).form
          have hsm := HH.out.hsmall k hlt
          have hkt : decide ((k : Int) < (m : Int)) = true := by simp; omega
          have HX := Lib.hid hx0; clear hx0
          have HV := Lib.hid hv
          have hcell : wo.cell? ⟨L, k, none⟩ = some (.slice A (rn k) ck) := by
            rw [cell_of_row _ _ _ _ _ _ ((HG.out.oth.block L hLlt HL0.out).trans HH.out.hL), HH.out.hcs k hlt, hv]
          have HS := Lib.hid (show Growing B 3 1 rv rn mk mo k 0 wo (.slice A (rn k) ck) wo by rw [← hv]; exact growing_start HX.out)
          clear hv
          go_wp2
          go_loopw [7, 8] (fun x kk wq => ∃ t : Nat, t ≤ 20 ∧ kk = .int .i64 t ∧ Growing B 3 1 rv rn mk mo k t wo x wq) (fun _ kk _ => 20 - (intOf kk).toNat)
          case atStart => exact ⟨0, by omega, rfl, HS.out⟩
          case round =>
            obtain ⟨t, ht, rfl, hQ⟩ := hrel
            obtain ⟨wi, rfl⟩ : ∃ wi : World, wi = wr := ⟨_, rfl⟩
            have HQ := Lib.hid hQ; clear hQ
            obtain ⟨A2, c2, hv2⟩ := (told_own HQ.out.2.1).form
            subst hv2
            have hBi : B ≤ wi.heap.size := by have h1 := HQ.out.1.size; have h2 := HG.out.oth.size; have h3 := HH.out.hB; omega
            by_cases hlt2 : t < 20
            · go_wp2_with (at_builtin; refine wpList_append_two B rfl (.tmp 50) (.tmp 53) 24 3 (.int .i64 0) 1 8 rfl Try.underlying24 infoIn rfl (by decide) _ (rn k + t) _ [.int .i64 (-100000 - (k : Int))] rfl (by simp [Value.oneCell']) rfl rfl HQ.out.2.1 hBi (by omega) (by omega) ?_; intro g c3 w2 h1 h2 h3; have H1 := Lib.hid h1; have H2 := Lib.hid h2; have H3 := Lib.hid h3; clear h1 h2 h3)
              go_roundw
              case rel => exact ⟨t + 1, by omega, by go_num, growing_step HQ.out (Below.refl _ _) H1.out H2.out H3.out⟩
              case measure => simp [intOf]; omega
            · obtain rfl : t = 20 := by omega
              have HGM := Lib.hid (grown_all HG.out (by decide) hlt HQ.out)
              have hwi : w.heap.size ≤ wi.heap.size := by have h1 := HQ.out.1.size; have h2 := HG.out.oth.size; omega
              have hyl : ys.length ≤ m := by have := HG.out.len; omega
              go_wp2_with (at_builtin; refine wpList_append_two w.heap.size rfl (.tmp 55) (.tmp 57) 29 24 (.slice none 0 0) 1 24 rfl Try.underlying29 infoSl rfl (by decide) _ ys.length ys [.slice A2 (rn k + 20) c2] rfl (by simp [Value.oneCell']) rfl rfl HGM.out hwi (by omega) (by omega) ?_; intro g c3 w2 h1 h2 h3; have H1 := Lib.hid h1; have H2 := Lib.hid h2; clear h1 h2 h3)
              go_roundw
              case rel => exact ⟨k + 1, ys ++ [.slice A2 (rn k + 20) c2], by omega, by go_num, grown_step (by decide) HG.out hlt HH.out.hapart HQ.out H1.out H2.out⟩
              case measure => simp [intOf]; omega
        · obtain rfl : m = k := by omega
          obtain ⟨A3, c3, hgv⟩ := (told_own HG.out.all).form
          rw [HG.out.len] at hgv
          subst hgv
          clear hk
          go_wp2
          go_loopw [9] (fun i wr => ∃ k : Nat, k ≤ m ∧ i = .int .i64 k ∧ Below wo.heap.size wo wr) (fun i _ => m - (intOf i).toNat)
          case atStart => exact ⟨0, by omega, rfl, Below.refl _ _⟩
          case round =>
            obtain ⟨k, hk, rfl, hB⟩ := hrel
            obtain ⟨wp, rfl⟩ : ∃ wp : World, wp = wr := ⟨_, rfl⟩
            have HB := Lib.hid hB; clear hB
            by_cases hlt : k < m
            · obtain ⟨y, hy⟩ : ∃ y, ys[k]? = some y := ⟨_, List.getElem?_eq_getElem (by rw [HG.out.len]; exact hlt)⟩
              have HC := Lib.hid (HG.out.copy k y hy).1
              have HT := Lib.hid (HG.out.told k hlt hlt)
              obtain ⟨A, ck, hv⟩ := HT.out.form
              obtain ⟨A2, c2, hv2⟩ := HC.out.form
              subst hv2
              have hsm := HH.out.hsmall k hlt
              have hkt : decide ((k : Int) < (m : Int)) = true := by simp; omega
              have HV := Lib.hid hv
              have hLw : L < wo.heap.size := by have := HG.out.oth.size; omega
              have hcell : wo.cell? ⟨L, k, none⟩ = some (.slice A (rn k) ck) := by
                rw [cell_of_row _ _ _ _ _ _ ((HG.out.oth.block L hLlt HL0.out).trans HH.out.hL), HH.out.hcs k hlt, hv]
              have hall := HG.out.all
              rw [HG.out.len] at hall
              obtain ⟨g3, c4, h3, _⟩ := (told_own hall).cons (by omega)
              injection h3 with h3a _ h3c
              subst h3a h3c
              have hcell3 : wo.cell? ⟨g3, k, none⟩ = some (.slice A2 (rn k + 20) c2) := by rw [World.ownsRow.cellAt hall k (by omega), hy]
              have hg3 : g3 < wo.heap.size := ((told_own hall).lt rfl).2.1
              have HCE := Lib.hid hcell; have HCE3 := Lib.hid hcell3
              have p1 : wp.cell? ⟨L, k, none⟩ = some (.slice A (rn k) ck) := (HB.out.cell (p := ⟨L, k, none⟩) hLw).trans hcell
              have p3 : wp.cell? ⟨g3, k, none⟩ = some (.slice A2 (rn k + 20) c2) := (HB.out.cell (p := ⟨g3, k, none⟩) hg3).trans hcell3
              clear hcell hcell3 hall hv hy
              go_wp2
              go_loopw [10] (fun j wq => ∃ t : Nat, t ≤ rn k + 20 ∧ j = .int .i64 t ∧ Below wo.heap.size wo wq) (fun j _ => rn k + 20 - (intOf j).toNat)
              case atStart => exact ⟨0, by omega, rfl, HB.out⟩
              case round =>
                obtain ⟨t, ht, rfl, hB2⟩ := hrel
                obtain ⟨wz, rfl⟩ : ∃ wz : World, wz = wr := ⟨_, rfl⟩
                have p1 : wz.cell? ⟨L, k, none⟩ = some (.slice A (rn k) ck) := (hB2.cell (p := ⟨L, k, none⟩) hLw).trans HCE.out
                have p3 : wz.cell? ⟨g3, k, none⟩ = some (.slice A2 (rn k + 20) c2) := (hB2.cell (p := ⟨g3, k, none⟩) hg3).trans HCE3.out
                have hsz := hB2.size
                have HB2 := Lib.hid hB2; clear hB2
                have hLz : L < wz.heap.size := by omega
                have hgz : g3 < wz.heap.size := by omega
                by_cases hlt2 : t < rn k + 20
                · obtain ⟨g2, c5, h2, _⟩ := HC.out.cons (by omega)
                  injection h2 with h2a _ h2c
                  subst h2a h2c
                  have hg2 : g2 < wz.heap.size := by have q : g2 < wo.heap.size := (HC.out.lt rfl).2.1; omega
                  have HC2 := Lib.hid (HC.out.move (W' := wz) fun g hg => HB2.out.block g (HC.out.lt hg).2.1)
                  have i1 : (0 : Int) ≤ (t : Int) ∧ (t : Int) < (rn k : Int) + 20 := by omega
                  have i1' : (t : Int) < ((rn k + 20 : Nat) : Int) := by omega
                  have i3 : (0 : Int) ≤ (k : Int) ∧ (k : Int) < (m : Int) := by omega
                  by_cases hlt3 : t < rn k
                  · have e81 : decide (rn k ≤ t) = false := by simp; omega
                    have b0 := told_one HC2.out hlt2 (x := .int .i64 (-1 - (k : Int))) (by
                      rw [List.getElem?_append_left (by rw [reps_len]; show t < rn k * 1; omega)]
                      have := reps_at (c := mk k) (t := 0) hlt3 (by show 0 < 1; omega)
                      simpa [mk] using this)
                    go_wp2
                    go_roundw
                    case rel => exact ⟨t + 1, by omega, by go_num, HB2.out⟩
                    case measure => simp [intOf]; omega
                  · have e81 : decide (rn k ≤ t) = true := by simp; omega
                    have b0 := told_one HC2.out hlt2 (x := .int .i64 (-100000 - (k : Int))) (by
                      rw [List.getElem?_append_right (by rw [reps_len]; show rn k * 1 ≤ t; omega), reps_len, show t - rn k * (mk k).length = t - rn k by show t - rn k * 1 = _; omega]
                      have := reps_at (c := mo k) (k := t - rn k) (n := 20) (t := 0) (by omega) (by show 0 < 1; omega)
                      simpa [mo] using this)
                    go_wp2
                    go_roundw
                    case rel => exact ⟨t + 1, by omega, by go_num, HB2.out⟩
                    case measure => simp [intOf]; omega
                · obtain rfl : t = rn k + 20 := by omega
                  go_wp2
                  go_loopw [12] (fun j wq => ∃ t : Nat, t ≤ rn k ∧ j = .int .i64 t ∧ Below wo.heap.size wo wq) (fun j _ => rn k - (intOf j).toNat)
                  case atStart => exact ⟨0, by omega, rfl, HB2.out⟩
                  case round =>
                    obtain ⟨t, ht, rfl, hB3⟩ := hrel
                    obtain ⟨wy, rfl⟩ : ∃ wy : World, wy = wr := ⟨_, rfl⟩
                    have p1 : wy.cell? ⟨L, k, none⟩ = some (.slice A (rn k) ck) := (hB3.cell (p := ⟨L, k, none⟩) hLw).trans HCE.out
                    have HB3 := Lib.hid hB3; clear hB3
                    by_cases hlt3 : t < rn k
                    · obtain ⟨g1, c6, h1, _⟩ := HT.out.cons (by omega)
                      have hA := HV.out.symm.trans h1
                      injection hA with h1a _ h1c
                      subst h1a h1c
                      have a0 := told_one (show Told wy B 3 1 (.slice (some ⟨g1, 0, none⟩) (rn k) ck) (rn k) (reps (rn k) (mk k)) by rw [← HV.out]; exact HT.out.move fun g hg => HB3.out.block g (HT.out.lt hg).2.1) hlt3 (x := .int .i64 (-1 - (k : Int))) (by
                        have := reps_at (c := mk k) (t := 0) hlt3 (by show 0 < 1; omega)
                        simpa [mk] using this)
                      have i2 : (0 : Int) ≤ (t : Int) ∧ (t : Int) < (rn k : Int) := by omega
                      have i3 : (0 : Int) ≤ (k : Int) ∧ (k : Int) < (m : Int) := by omega
                      go_wp2
                      go_roundw
                      case rel => exact ⟨t + 1, by omega, by go_num, HB3.out⟩
                      case measure => simp [intOf]; omega
                    · obtain rfl : t = rn k := by omega
                      go_wp2
                      go_roundw
                      case rel => exact ⟨k + 1, by omega, by go_num, HB3.out⟩
                      case measure => simp [intOf]; omega
            · obtain rfl : m = k := by omega
              go_wp2
              go_ret
              exact ⟨rfl, ⟨HB.out.os.trans HG.out.oth.os, HB.out.tape.trans HG.out.oth.tape, HB.out.output.trans HG.out.oth.output, Nat.le_trans HG.out.oth.size HB.out.size, fun b hb hs => (HB.out.block b (Nat.lt_of_lt_of_le hb HG.out.oth.size)).trans (HG.out.oth.block b hb hs)⟩⟩
end Go.Proofs.Ytodfooniahifeaa.Fr

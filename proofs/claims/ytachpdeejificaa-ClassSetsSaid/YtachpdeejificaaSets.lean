/- The walk of ClassSets: Of, Has, Union, Meet, Minus, Not, Fold and Count are the document's, whatever is handed over. -/
import Derived.Test.YtachpdeejificaaCls9
import Derived.Test.YtachpdeejificaaCls5
import Derived.Test.YtachpdeejificaaCls4
import Derived.Test.YtachpdeejificaaOpen2
import Derived.Test.YtachpdeejificaaRegV
import Derived.Deep.QuietTactic
import Derived.BigQuiet
set_option linter.unusedVariables false
set_option linter.unusedSimpArgs false
namespace Go.Proofs.Ytachpdeejificaa
open Go.RowKit
theorem two1_c (a b : Cls) (ha : a.ok) (hb : b.ok) (w : World) : Calls Try.prog 18 #[.int .i64 1, V4 a, V4 b] w fun e w' => e = .returned (V4 (a.union b)) ∧ Below w.heap.size w w' := by
  rw [Cls.eq_ofFn (Cls.ok_union ha hb) (f := twoF 1 a b) fun i _ => by rw [Cls.mem_union]; rfl]
  exact two_c 1 (.inl rfl) a b ha hb w
theorem two2_c (a b : Cls) (ha : a.ok) (hb : b.ok) (w : World) : Calls Try.prog 18 #[.int .i64 2, V4 a, V4 b] w fun e w' => e = .returned (V4 (a.meet b)) ∧ Below w.heap.size w w' := by
  rw [Cls.eq_ofFn (Cls.ok_meet ha) (f := twoF 2 a b) fun i _ => by rw [Cls.mem_meet]; rfl]
  exact two_c 2 (.inr (.inl rfl)) a b ha hb w
theorem two3_c (a b : Cls) (ha : a.ok) (hb : b.ok) (w : World) : Calls Try.prog 18 #[.int .i64 3, V4 a, V4 b] w fun e w' => e = .returned (V4 (a.minus b)) ∧ Below w.heap.size w w' := by
  rw [Cls.eq_ofFn (Cls.ok_minus ha) (f := twoF 3 a b) fun i _ => by rw [Cls.mem_minus hb]; rfl]
  exact two_c 3 (.inr (.inr rfl)) a b ha hb w
theorem own_slice {w : World} {base : Nat} {e : TypeId} {size n : Nat} {v : Value} {xs : List Value} (h : w.ownsRow base e size v n xs) : ∃ A c, v = .slice A n c := own_form h
def SetsJ (w0 : World) (ca cb : Cls) (w : World) : Prop := Below w0.heap.size w0 w ∧ w.heap[w0.heap.size]? = some (.cells ca.cells 24 (0, 0)) ∧ w.heap[w0.heap.size + 1]? = some (.cells cb.cells 24 (0, 0))
theorem SetsJ.step {w0 w w1 : World} {ca cb : Cls} (h : SetsJ w0 ca cb w) (hb : Below w.heap.size w w1) : SetsJ w0 ca cb w1 := ⟨h.1.trans (hb.mono h.1.size), heap_same hb h.2.1, heap_same hb h.2.2⟩
def SetsV (ca cb : Cls) (x : Nat) : Nat → Value → Prop
  | 0 => fun v => v = (V4 ca)
  | 1 => fun v => v = (.int .u8 (x : Int))
  | 2 => fun v => v = (.bool (ca.mem x))
  | 3 => fun v => v = (V4 ca)
  | 4 => fun v => v = (.int .u8 (x : Int))
  | 5 => fun v => v = (.bool (ca.mem x))
  | 6 => fun v => v = (.bool true)
  | 7 => fun v => v = (.bool true)
  | 8 => fun v => v = (V4 ca)
  | 9 => fun v => v = (V4 cb)
  | 10 => fun v => v = (V4 (ca.union cb))
  | 11 => fun v => v = (V4 ca)
  | 12 => fun v => v = (V4 cb)
  | 13 => fun v => v = (V4 (ca.union cb))
  | 14 => fun v => v = (.bool true)
  | 15 => fun v => v = (.bool true)
  | 16 => fun v => v = (.bool true)
  | 17 => fun v => v = (V4 ca)
  | 18 => fun v => v = (V4 cb)
  | 19 => fun v => v = (V4 (ca.meet cb))
  | 20 => fun v => v = (V4 ca)
  | 21 => fun v => v = (V4 cb)
  | 22 => fun v => v = (V4 (ca.meet cb))
  | 23 => fun v => v = (.bool true)
  | 24 => fun v => v = (.bool true)
  | 25 => fun v => v = (.bool true)
  | 26 => fun v => v = (V4 ca)
  | 27 => fun v => v = (V4 cb)
  | 28 => fun v => v = (V4 (ca.minus cb))
  | 29 => fun v => v = (V4 ca)
  | 30 => fun v => v = (V4 cb)
  | 31 => fun v => v = (V4 (ca.minus cb))
  | 32 => fun v => v = (.bool true)
  | 33 => fun v => v = (.bool true)
  | 34 => fun v => v = (.bool true)
  | 35 => fun v => v = (V4 ca)
  | 36 => fun v => v = (V4 ca.not)
  | 37 => fun v => v = (V4 ca)
  | 38 => fun v => v = (V4 ca.not)
  | 39 => fun v => v = (.bool true)
  | 40 => fun v => v = (.bool true)
  | 41 => fun v => v = (.bool true)
  | 42 => fun v => v = (V4 ca)
  | 43 => fun v => v = (V4 ca.fold)
  | 44 => fun v => v = (V4 ca)
  | 45 => fun v => v = (V4 ca.fold)
  | 46 => fun v => v = (.bool true)
  | 47 => fun v => v = (.bool true)
  | 48 => fun v => v = (.bool true)
  | 49 => fun v => v = (V4 ca)
  | 50 => fun v => v = (.int .i64 ca.bytes.length)
  | 51 => fun v => v = (V4 ca)
  | 52 => fun v => ∃ A c, v = .slice A ca.bytes.length c
  | 53 => fun v => v = (.int .i64 ca.bytes.length)
  | 54 => fun v => v = (.bool true)
  | 55 => fun v => v = (.bool true)
  | 56 => fun v => v = (.bool true)
  | _ => fun _ => True

theorem rd_later {w w1 : World} {A : Option Addr} {m size : Nat} {cs : List Value} (h : RdCells w A m size cs) (hb : Below w.heap.size w w1) : RdCells w1 A m size cs := by
  refine ⟨h.1, fun hm => ?_⟩
  obtain ⟨ad, e, hc⟩ := h.2 hm
  refine ⟨ad, e, fun j u hu => ?_⟩
  have h1 := hc j u hu
  exact (hb.cell (World.block_lt_of_cell? _ _ h1)).trans h1
theorem ownBlock_ne {g k n c : Nat} (h : g ≠ k) : (Value.slice (some ⟨g, 0, none⟩) n c).ownBlock ≠ some k := fun e => h (Option.some.inj e)
theorem own_cap {w : World} {base : Nat} {e : TypeId} {size n g c : Nat} {xs : List Value} (h : w.ownsRow base e size (.slice (some ⟨g, 0, none⟩) n c) n xs) : n ≤ c := by
  rcases h.2 with ⟨h, _⟩ | ⟨g', c', cur, h, _, _, h2, _⟩
  · cases h
  · injection h with _ _ h; omega
theorem below_drewN {B : Nat} {w W : World} (h : Below B w W) (n : Nat) : Below B w (W.drewN n) := ⟨h.os, h.tape, h.output, h.size, h.block⟩
theorem two_pos : 0 < 2 := by decide
theorem infoRange : (Try.prog.info? 34).map (fun i => (i.zero, i.size, i.bytes)) = some (some (.agg #[.int .u8 0, .int .u8 0]), 2, 2) := by kernel_rfl
theorem rcells_one {l : List (Nat × Nat)} : ∀ u ∈ l.flatMap rcell, u.oneCell' = true := by
  intro u hu
  obtain ⟨p, _, hp⟩ := List.mem_flatMap.1 hu
  unfold rcell at hp
  simp at hp
  rcases hp with rfl | rfl <;> rfl
set_option maxRecDepth 100000 in
set_option maxHeartbeats 16000000 in
theorem sets_w (A : RSl) (ca cb : Cls) (x8 : Int) (w0 : World) (hA : A.ok w0) (ha : ca.ok) (hb' : cb.ok) (hx8 : (Lit.int .u8 x8).wf = true) : Calls Try.prog 5 #[A.val, V4 ca, V4 cb, .int .u8 x8] w0 fun e w' => e = .returned (.bool true) ∧ Below w0.heap.size w0 w' := by
  obtain ⟨x, hx, rfl⟩ := nat_of_u8 hx8
  clear hx8
  have HA := Lib.hid ha; have HB := Lib.hid hb'; clear ha hb'
  obtain ⟨A, n, cap, l⟩ := A
  obtain ⟨hR, hC⟩ := hA
  have hn := hR.2.1
  have HR := Lib.hid hR; have HC := Lib.hid hC; clear hR hC
  dsimp only at HR HC hn
  have hq := fun x0 x1 x2 x3 y0 y1 y2 y3 => eqCls x0 x1 x2 x3 y0 y1 y2 y3
  show Calls Try.prog 5 #[.slice A n cap, V4 ca, V4 cb, .int .u8 (x : Int)] w0 _
  go_enter Try.func5, Try.ntmps5
  go_wp2_with (at_builtin; go_must (refine appRow (w0 := w0) w0.heap.size rfl (.tmp 11) (.tmp 12) 32 34 (.agg #[.int .u8 0, .int .u8 0]) 2 2 rfl Try.underlying32 infoRange rfl two_pos (.slice (some ⟨w0.heap.size + 1 + 1, 0, none⟩) 0 0) 0 [] A n cap (l.flatMap rcell) rcells_one rfl rfl ?hO ?hR ?hB ?hb ?hn ?hl ?hk))
  case hO =>
    have hle : w0.heap.size ≤ ((w0.alloc (.cells ca.cells 24)).alloc (.cells cb.cells 24)).heap.size := by simp; omega
    have h := World.ownsRow_lit (base := w0.heap.size) (e := 34) (size := 2) ((w0.alloc (.cells ca.cells 24)).alloc (.cells cb.cells 24)) #[] 0 hle (by decide) rfl
    simp only [World.size_alloc] at h
    exact h
  --.ownsRow_lit _ #[] 0 (by first | omega | (simp; done) | (simp; omega)) (by decide) rfl
  case hR => exact rd_later HC.out (((Below.refl _ _).alloc (Nat.le_refl _) _).alloc (by simp) _ |>.alloc (by simp; omega) _)
  case hB => exact (((Below.refl _ _).alloc (Nat.le_refl _) _).alloc (by simp) _).alloc (by simp; omega) _
  case hb => first | omega | (simp; done) | (simp; omega)
  case hn => omega
  case hl => omega
  case hk =>
    intro v1 w1 hO1 hB1 hk1 hs1
    have g0 := hk1 _ _ (heap_keep (heap_keep (heap_new w0 _))) (ownBlock_ne (by omega))
    have g1 := hk1 _ _ (heap_keep (heap_new1 w0 _ _)) (ownBlock_ne (by omega))
    obtain ⟨A1, c1, rfl⟩ := own_form hO1
    have HO1 := Lib.hid hO1; have HB1 := Lib.hid hB1; have G0 := Lib.hid g0; have G1 := Lib.hid g1; clear hO1 hB1 g0 g1 hk1
    try simp only [World.size_alloc] at hs1
    go_wp2_with (at_builtin; go_must (refine app1 (w0 := w0) w0.heap.size rfl (.tmp 13) (.tmp 15) 32 34 (.agg #[.int .u8 0, .int .u8 0]) 2 2 rfl Try.underlying32 infoRange rfl two_pos (.slice A1 n c1) n (l.flatMap rcell) #[.int .u8 7, .int .u8 8] rfl ?h1 rfl rfl HO1.out HB1.out ?hb ?hn ?hl ?hk))
    case h1 => exact ⟨rfl, rfl⟩
    case hb => omega
    case hn => omega
    case hl => omega
    case hk =>
      intro g c w2 hO2 hB2 hk2 hs2
      have g0 := hk2 _ _ G0.out (own_ne HO1.out G0.out (by decide))
      have g1 := hk2 _ _ G1.out (own_ne HO1.out G1.out (by decide))
      have ht : (l.flatMap rcell ++ [Value.int .u8 7, .int .u8 8]).take (n * 2) = l.flatMap rcell := by rw [List.take_left' (by rw [flat_len rcell 2 l (fun _ _ => rfl), HR.out.1])]
      have hr2 := own_read hO2 (m := n) (by omega)
      rw [ht] at hr2
      have e7 := World.ownsRow.cellAt hO2 (n * 2) (by omega)
      have e8 := World.ownsRow.cellAt hO2 (n * 2 + 1) (by omega)
      rw [List.getElem?_append_right (by rw [flat_len rcell 2 l (fun _ _ => rfl), HR.out.1]; omega), flat_len rcell 2 l (fun _ _ => rfl), HR.out.1] at e7 e8
      rw [Nat.sub_self] at e7
      rw [show n * 2 + 1 - n * 2 = 1 by omega] at e8
      have hcap := own_cap hO2
      have hx2 := rd_later HC.out ((Below.mono hB2 (Nat.le_refl _)))
      have HO2 := Lib.hid hO2; have HB2 := Lib.hid hB2; have K0 := Lib.hid g0; have K1 := Lib.hid g1; have HR2 := Lib.hid hr2; have HX2 := Lib.hid hx2; have E7 := Lib.hid e7; have E8 := Lib.hid e8
      clear hO2 hB2 g0 g1 hr2 hx2 ht hk2 e7 e8 HO1 HB1 G0 G1
      go_wp2_with (first | (go_at_call 13; refine (of_c (some ⟨g, 0, none⟩) n c l _ (rd_ranges HR.out.1 HR.out.2.1 HR.out.2.2.1 HR2.out)).mono ?_; rintro e w3 ⟨rfl, hb3⟩) | (go_at_call 14; refine (ofR_c A n cap l _ (rd_ranges HR.out.1 HR.out.2.1 HR.out.2.2.1 (rd_later HX2.out hb3))).mono ?_; rintro e w4 ⟨rfl, hb4⟩; have e7 := (hb4.cell (p := ⟨g, n * 2, none⟩) (Nat.lt_of_lt_of_le (World.block_lt_of_cell? _ _ E7.out) hb3.size)).trans ((hb3.cell (p := ⟨g, n * 2, none⟩) (World.block_lt_of_cell? _ _ E7.out)).trans E7.out); have e8 := (hb4.cell (p := ⟨g, n * 2 + 1, none⟩) (Nat.lt_of_lt_of_le (World.block_lt_of_cell? _ _ E8.out) hb3.size)).trans ((hb3.cell (p := ⟨g, n * 2 + 1, none⟩) (World.block_lt_of_cell? _ _ E8.out)).trans E8.out)))
      have hown4 : RdRanges w4 (some ⟨g, 0, none⟩) n l := rd_ranges HR.out.1 HR.out.2.1 HR.out.2.2.1 (rd_later (rd_later HR2.out hb3) hb4)
      have harg4 : RdRanges w4 A n l := rd_ranges HR.out.1 HR.out.2.1 HR.out.2.2.1 (rd_later (rd_later HX2.out hb3) hb4)
      have hJ4 : SetsJ w0 ca cb w4 := SetsJ.step (SetsJ.step ⟨HB2.out, K0.out, K1.out⟩ hb3) hb4
      have HO4 := Lib.hid hown4; have HX4 := Lib.hid harg4; have HJ4 := Lib.hid hJ4; clear hown4 harg4 hJ4 hb3 hb4 e7 e8
      go_loopw [10] (fun i wr => ∃ k : Nat, k ≤ n ∧ i = .int .i64 k ∧ ∃ j, wr = w4.drewN j) (fun i _ => n - (intOf i).toNat)
      case atStart => exact ⟨0, by omega, rfl, 0, rfl⟩
      case round =>
        obtain ⟨k, hk, rfl, j, rfl⟩ := hrel
        by_cases hlt : k < n
        · obtain ⟨b, off, hA, hcs⟩ := HX4.out.2.2.2 (by omega)
          obtain ⟨b', off', hG, hcs'⟩ := HO4.out.2.2.2 (by omega)
          injection hG with hG
          injection hG with hg1 hg2
          subst hg1 hg2 hA
          obtain ⟨c0, c1⟩ := hcs k hlt
          obtain ⟨d0, d1⟩ := hcs' k hlt
          rw [Nat.zero_add] at d0 d1
          clear hcs hcs'
          go_wp2
          go_quiet (fail)
          go_wp2
          go_roundw
          case rel => exact ⟨k + 1, by omega, by go_num, j + _, by rw [← World.drewN_drewN]⟩
          case measure => simp [intOf]; omega
        · obtain rfl : k = n := by omega
          go_wp2
          have ha := HA.out
          have hb' := HB.out
          refine wp_region_vals (by kernel_rfl) (by kernel_rfl) (by kernel_rfl) (by kernel_rfl) (SetsJ w0 ca cb) (SetsV ca cb x) ?hJ ?hs ?hq
          case hJ => exact ⟨(below_drewN HJ4.out.1 j).drew, HJ4.out.2.1, HJ4.out.2.2⟩
          case hs =>
            intro i o ho a w hJ hl
            have hi : i < 57 := (Array.getElem?_eq_some_iff.1 ho).1
            by_cases q28 : i < 28
            ·
              by_cases q14 : i < 14
              ·
                by_cases q7 : i < 7
                ·
                  by_cases q3 : i < 3
                  ·
                    by_cases q1 : i < 1
                    ·
                      obtain rfl : i = 0 := by omega
                      obtain rfl := Option.some.inj ho
                      have x5 : a.tmps[5]?.getD undef = (.pointer (some ⟨w0.heap.size, 0, none⟩)) := hl.free 5 (by kernel_rfl)
                      refine wpOp_list rfl rfl ?_
                      exact wp_load_row 24 _ rfl w0.heap.size (eval_tmp x5) 24 ca.cells (0, 0) _ hJ.2.1 Try.underlying24 rfl (infoCls _) ⟨_, rfl, rfl, hJ⟩
                    ·
                      by_cases q2 : i < 2
                      ·
                        obtain rfl : i = 1 := by omega
                        obtain rfl := Option.some.inj ho
                        have x3 : a.tmps[3]?.getD undef = (.int .u8 (x : Int)) := hl.free 3 (by kernel_rfl)
                        refine wpOp_list rfl rfl ?_
                        exact st_run (v := (.int .u8 (x : Int))) (by go_simp) ⟨_, rfl, rfl, hJ⟩
                      ·
                        obtain rfl : i = 2 := by omega
                        obtain rfl := Option.some.inj ho
                        have x49 : a.tmps[49]?.getD undef = (V4 ca) := by obtain ⟨v, h1, h2⟩ := hl.dep 0 49 (by kernel_rfl) (by kernel_rfl); exact h1.trans h2
                        have x50 : a.tmps[50]?.getD undef = (.int .u8 (x : Int)) := by obtain ⟨v, h1, h2⟩ := hl.dep 1 50 (by kernel_rfl) (by kernel_rfl); exact h1.trans h2
                        refine wpOp_list rfl rfl ?_
                        refine st_call (w' := w) (f := 15) (args := #[(V4 ca), (.int .u8 (x : Int))]) (by go_simp) ((has_c ca ha x hx _).mono ?_)
                        rintro e w'' ⟨rfl, hb⟩
                        exact ⟨_, rfl, _, rfl, rfl, hJ.step hb⟩
                  ·
                    by_cases q5 : i < 5
                    ·
                      by_cases q4 : i < 4
                      ·
                        obtain rfl : i = 3 := by omega
                        obtain rfl := Option.some.inj ho
                        have x5 : a.tmps[5]?.getD undef = (.pointer (some ⟨w0.heap.size, 0, none⟩)) := hl.free 5 (by kernel_rfl)
                        refine wpOp_list rfl rfl ?_
                        exact wp_load_row 24 _ rfl w0.heap.size (eval_tmp x5) 24 ca.cells (0, 0) _ hJ.2.1 Try.underlying24 rfl (infoCls _) ⟨_, rfl, rfl, hJ⟩
                      ·
                        obtain rfl : i = 4 := by omega
                        obtain rfl := Option.some.inj ho
                        have x3 : a.tmps[3]?.getD undef = (.int .u8 (x : Int)) := hl.free 3 (by kernel_rfl)
                        refine wpOp_list rfl rfl ?_
                        exact st_run (v := (.int .u8 (x : Int))) (by go_simp) ⟨_, rfl, rfl, hJ⟩
                    ·
                      by_cases q6 : i < 6
                      ·
                        obtain rfl : i = 5 := by omega
                        obtain rfl := Option.some.inj ho
                        have x52 : a.tmps[52]?.getD undef = (V4 ca) := by obtain ⟨v, h1, h2⟩ := hl.dep 3 52 (by kernel_rfl) (by kernel_rfl); exact h1.trans h2
                        have x53 : a.tmps[53]?.getD undef = (.int .u8 (x : Int)) := by obtain ⟨v, h1, h2⟩ := hl.dep 4 53 (by kernel_rfl) (by kernel_rfl); exact h1.trans h2
                        refine wpOp_list rfl rfl ?_
                        refine st_call (w' := w) (f := 16) (args := #[(V4 ca), (.int .u8 (x : Int))]) (by go_simp) ((hasR_c ca ha x hx _).mono ?_)
                        rintro e w'' ⟨rfl, hb⟩
                        exact ⟨_, rfl, _, rfl, rfl, hJ.step hb⟩
                      ·
                        obtain rfl : i = 6 := by omega
                        obtain rfl := Option.some.inj ho
                        have x51 : a.tmps[51]?.getD undef = (.bool (ca.mem x)) := by obtain ⟨v, h1, h2⟩ := hl.dep 2 51 (by kernel_rfl) (by kernel_rfl); exact h1.trans h2
                        have x54 : a.tmps[54]?.getD undef = (.bool (ca.mem x)) := by obtain ⟨v, h1, h2⟩ := hl.dep 5 54 (by kernel_rfl) (by kernel_rfl); exact h1.trans h2
                        refine wpOp_list rfl rfl ?_
                        exact st_run (v := (.bool true)) (by go_simp) ⟨_, rfl, rfl, hJ⟩
                ·
                  by_cases q10 : i < 10
                  ·
                    by_cases q8 : i < 8
                    ·
                      obtain rfl : i = 7 := by omega
                      obtain rfl := Option.some.inj ho
                      have x55 : a.tmps[55]?.getD undef = (.bool true) := by obtain ⟨v, h1, h2⟩ := hl.dep 6 55 (by kernel_rfl) (by kernel_rfl); exact h1.trans h2
                      refine wpOp_list rfl rfl ?_
                      exact st_run (v := (.bool true)) (by go_simp) ⟨_, rfl, rfl, hJ⟩
                    ·
                      by_cases q9 : i < 9
                      ·
                        obtain rfl : i = 8 := by omega
                        obtain rfl := Option.some.inj ho
                        have x5 : a.tmps[5]?.getD undef = (.pointer (some ⟨w0.heap.size, 0, none⟩)) := hl.free 5 (by kernel_rfl)
                        refine st_wanted rfl (hl.wanted 7 56 true rfl (by kernel_rfl) (by kernel_rfl) (fun v h => h)) ?_
                        exact wp_load_row 24 _ rfl w0.heap.size (eval_tmp x5) 24 ca.cells (0, 0) _ hJ.2.1 Try.underlying24 rfl (infoCls _) ⟨_, rfl, rfl, hJ⟩
                      ·
                        obtain rfl : i = 9 := by omega
                        obtain rfl := Option.some.inj ho
                        have x6 : a.tmps[6]?.getD undef = (.pointer (some ⟨w0.heap.size + 1, 0, none⟩)) := hl.free 6 (by kernel_rfl)
                        refine st_wanted rfl (hl.wanted 7 56 true rfl (by kernel_rfl) (by kernel_rfl) (fun v h => h)) ?_
                        exact wp_load_row 24 _ rfl (w0.heap.size + 1) (eval_tmp x6) 24 cb.cells (0, 0) _ hJ.2.2 Try.underlying24 rfl (infoCls _) ⟨_, rfl, rfl, hJ⟩
                  ·
                    by_cases q12 : i < 12
                    ·
                      by_cases q11 : i < 11
                      ·
                        obtain rfl : i = 10 := by omega
                        obtain rfl := Option.some.inj ho
                        have x57 : a.tmps[57]?.getD undef = (V4 ca) := by obtain ⟨v, h1, h2⟩ := hl.dep 8 57 (by kernel_rfl) (by kernel_rfl); exact h1.trans h2
                        have x58 : a.tmps[58]?.getD undef = (V4 cb) := by obtain ⟨v, h1, h2⟩ := hl.dep 9 58 (by kernel_rfl) (by kernel_rfl); exact h1.trans h2
                        refine st_wanted rfl (hl.wanted 7 56 true rfl (by kernel_rfl) (by kernel_rfl) (fun v h => h)) ?_
                        refine st_call (w' := w) (f := 17) (args := #[(V4 ca), (V4 cb)]) (by go_simp) ((union_c ca cb ha hb' _).mono ?_)
                        rintro e w'' ⟨rfl, hb⟩
                        exact ⟨_, rfl, _, rfl, rfl, hJ.step hb⟩
                      ·
                        obtain rfl : i = 11 := by omega
                        obtain rfl := Option.some.inj ho
                        have x5 : a.tmps[5]?.getD undef = (.pointer (some ⟨w0.heap.size, 0, none⟩)) := hl.free 5 (by kernel_rfl)
                        refine st_wanted rfl (hl.wanted 7 56 true rfl (by kernel_rfl) (by kernel_rfl) (fun v h => h)) ?_
                        exact wp_load_row 24 _ rfl w0.heap.size (eval_tmp x5) 24 ca.cells (0, 0) _ hJ.2.1 Try.underlying24 rfl (infoCls _) ⟨_, rfl, rfl, hJ⟩
                    ·
                      by_cases q13 : i < 13
                      ·
                        obtain rfl : i = 12 := by omega
                        obtain rfl := Option.some.inj ho
                        have x6 : a.tmps[6]?.getD undef = (.pointer (some ⟨w0.heap.size + 1, 0, none⟩)) := hl.free 6 (by kernel_rfl)
                        refine st_wanted rfl (hl.wanted 7 56 true rfl (by kernel_rfl) (by kernel_rfl) (fun v h => h)) ?_
                        exact wp_load_row 24 _ rfl (w0.heap.size + 1) (eval_tmp x6) 24 cb.cells (0, 0) _ hJ.2.2 Try.underlying24 rfl (infoCls _) ⟨_, rfl, rfl, hJ⟩
                      ·
                        obtain rfl : i = 13 := by omega
                        obtain rfl := Option.some.inj ho
                        have x60 : a.tmps[60]?.getD undef = (V4 ca) := by obtain ⟨v, h1, h2⟩ := hl.dep 11 60 (by kernel_rfl) (by kernel_rfl); exact h1.trans h2
                        have x61 : a.tmps[61]?.getD undef = (V4 cb) := by obtain ⟨v, h1, h2⟩ := hl.dep 12 61 (by kernel_rfl) (by kernel_rfl); exact h1.trans h2
                        refine st_wanted rfl (hl.wanted 7 56 true rfl (by kernel_rfl) (by kernel_rfl) (fun v h => h)) ?_
                        refine st_call (w' := w) (f := 18) (args := #[(.int .i64 (1)), (V4 ca), (V4 cb)]) (by go_simp) ((two1_c ca cb ha hb' _).mono ?_)
                        rintro e w'' ⟨rfl, hb⟩
                        exact ⟨_, rfl, _, rfl, rfl, hJ.step hb⟩
              ·
                by_cases q21 : i < 21
                ·
                  by_cases q17 : i < 17
                  ·
                    by_cases q15 : i < 15
                    ·
                      obtain rfl : i = 14 := by omega
                      obtain rfl := Option.some.inj ho
                      have x59 : a.tmps[59]?.getD undef = (V4 (ca.union cb)) := by obtain ⟨v, h1, h2⟩ := hl.dep 10 59 (by kernel_rfl) (by kernel_rfl); exact h1.trans h2
                      have x62 : a.tmps[62]?.getD undef = (V4 (ca.union cb)) := by obtain ⟨v, h1, h2⟩ := hl.dep 13 62 (by kernel_rfl) (by kernel_rfl); exact h1.trans h2
                      refine st_wanted rfl (hl.wanted 7 56 true rfl (by kernel_rfl) (by kernel_rfl) (fun v h => h)) ?_
                      exact st_run (v := (.bool true)) (by go_simp) ⟨_, rfl, rfl, hJ⟩
                    ·
                      by_cases q16 : i < 16
                      ·
                        obtain rfl : i = 15 := by omega
                        obtain rfl := Option.some.inj ho
                        have x56 : a.tmps[56]?.getD undef = (.bool true) := by obtain ⟨v, h1, h2⟩ := hl.dep 7 56 (by kernel_rfl) (by kernel_rfl); exact h1.trans h2
                        have x63 : a.tmps[63]?.getD undef = (.bool true) := by obtain ⟨v, h1, h2⟩ := hl.dep 14 63 (by kernel_rfl) (by kernel_rfl); exact h1.trans h2
                        refine wpOp_list rfl rfl ?_
                        exact st_run (v := (.bool true)) (by go_simp) ⟨_, rfl, rfl, hJ⟩
                      ·
                        obtain rfl : i = 16 := by omega
                        obtain rfl := Option.some.inj ho
                        have x64 : a.tmps[64]?.getD undef = (.bool true) := by obtain ⟨v, h1, h2⟩ := hl.dep 15 64 (by kernel_rfl) (by kernel_rfl); exact h1.trans h2
                        refine wpOp_list rfl rfl ?_
                        exact st_run (v := (.bool true)) (by go_simp) ⟨_, rfl, rfl, hJ⟩
                  ·
                    by_cases q19 : i < 19
                    ·
                      by_cases q18 : i < 18
                      ·
                        obtain rfl : i = 17 := by omega
                        obtain rfl := Option.some.inj ho
                        have x5 : a.tmps[5]?.getD undef = (.pointer (some ⟨w0.heap.size, 0, none⟩)) := hl.free 5 (by kernel_rfl)
                        refine st_wanted rfl (hl.wanted 16 65 true rfl (by kernel_rfl) (by kernel_rfl) (fun v h => h)) ?_
                        exact wp_load_row 24 _ rfl w0.heap.size (eval_tmp x5) 24 ca.cells (0, 0) _ hJ.2.1 Try.underlying24 rfl (infoCls _) ⟨_, rfl, rfl, hJ⟩
                      ·
                        obtain rfl : i = 18 := by omega
                        obtain rfl := Option.some.inj ho
                        have x6 : a.tmps[6]?.getD undef = (.pointer (some ⟨w0.heap.size + 1, 0, none⟩)) := hl.free 6 (by kernel_rfl)
                        refine st_wanted rfl (hl.wanted 16 65 true rfl (by kernel_rfl) (by kernel_rfl) (fun v h => h)) ?_
                        exact wp_load_row 24 _ rfl (w0.heap.size + 1) (eval_tmp x6) 24 cb.cells (0, 0) _ hJ.2.2 Try.underlying24 rfl (infoCls _) ⟨_, rfl, rfl, hJ⟩
                    ·
                      by_cases q20 : i < 20
                      ·
                        obtain rfl : i = 19 := by omega
                        obtain rfl := Option.some.inj ho
                        have x66 : a.tmps[66]?.getD undef = (V4 ca) := by obtain ⟨v, h1, h2⟩ := hl.dep 17 66 (by kernel_rfl) (by kernel_rfl); exact h1.trans h2
                        have x67 : a.tmps[67]?.getD undef = (V4 cb) := by obtain ⟨v, h1, h2⟩ := hl.dep 18 67 (by kernel_rfl) (by kernel_rfl); exact h1.trans h2
                        refine st_wanted rfl (hl.wanted 16 65 true rfl (by kernel_rfl) (by kernel_rfl) (fun v h => h)) ?_
                        refine st_call (w' := w) (f := 19) (args := #[(V4 ca), (V4 cb)]) (by go_simp) ((meet_c ca cb ha hb' _).mono ?_)
                        rintro e w'' ⟨rfl, hb⟩
                        exact ⟨_, rfl, _, rfl, rfl, hJ.step hb⟩
                      ·
                        obtain rfl : i = 20 := by omega
                        obtain rfl := Option.some.inj ho
                        have x5 : a.tmps[5]?.getD undef = (.pointer (some ⟨w0.heap.size, 0, none⟩)) := hl.free 5 (by kernel_rfl)
                        refine st_wanted rfl (hl.wanted 16 65 true rfl (by kernel_rfl) (by kernel_rfl) (fun v h => h)) ?_
                        exact wp_load_row 24 _ rfl w0.heap.size (eval_tmp x5) 24 ca.cells (0, 0) _ hJ.2.1 Try.underlying24 rfl (infoCls _) ⟨_, rfl, rfl, hJ⟩
                ·
                  by_cases q24 : i < 24
                  ·
                    by_cases q22 : i < 22
                    ·
                      obtain rfl : i = 21 := by omega
                      obtain rfl := Option.some.inj ho
                      have x6 : a.tmps[6]?.getD undef = (.pointer (some ⟨w0.heap.size + 1, 0, none⟩)) := hl.free 6 (by kernel_rfl)
                      refine st_wanted rfl (hl.wanted 16 65 true rfl (by kernel_rfl) (by kernel_rfl) (fun v h => h)) ?_
                      exact wp_load_row 24 _ rfl (w0.heap.size + 1) (eval_tmp x6) 24 cb.cells (0, 0) _ hJ.2.2 Try.underlying24 rfl (infoCls _) ⟨_, rfl, rfl, hJ⟩
                    ·
                      by_cases q23 : i < 23
                      ·
                        obtain rfl : i = 22 := by omega
                        obtain rfl := Option.some.inj ho
                        have x69 : a.tmps[69]?.getD undef = (V4 ca) := by obtain ⟨v, h1, h2⟩ := hl.dep 20 69 (by kernel_rfl) (by kernel_rfl); exact h1.trans h2
                        have x70 : a.tmps[70]?.getD undef = (V4 cb) := by obtain ⟨v, h1, h2⟩ := hl.dep 21 70 (by kernel_rfl) (by kernel_rfl); exact h1.trans h2
                        refine st_wanted rfl (hl.wanted 16 65 true rfl (by kernel_rfl) (by kernel_rfl) (fun v h => h)) ?_
                        refine st_call (w' := w) (f := 18) (args := #[(.int .i64 (2)), (V4 ca), (V4 cb)]) (by go_simp) ((two2_c ca cb ha hb' _).mono ?_)
                        rintro e w'' ⟨rfl, hb⟩
                        exact ⟨_, rfl, _, rfl, rfl, hJ.step hb⟩
                      ·
                        obtain rfl : i = 23 := by omega
                        obtain rfl := Option.some.inj ho
                        have x68 : a.tmps[68]?.getD undef = (V4 (ca.meet cb)) := by obtain ⟨v, h1, h2⟩ := hl.dep 19 68 (by kernel_rfl) (by kernel_rfl); exact h1.trans h2
                        have x71 : a.tmps[71]?.getD undef = (V4 (ca.meet cb)) := by obtain ⟨v, h1, h2⟩ := hl.dep 22 71 (by kernel_rfl) (by kernel_rfl); exact h1.trans h2
                        refine st_wanted rfl (hl.wanted 16 65 true rfl (by kernel_rfl) (by kernel_rfl) (fun v h => h)) ?_
                        exact st_run (v := (.bool true)) (by go_simp) ⟨_, rfl, rfl, hJ⟩
                  ·
                    by_cases q26 : i < 26
                    ·
                      by_cases q25 : i < 25
                      ·
                        obtain rfl : i = 24 := by omega
                        obtain rfl := Option.some.inj ho
                        have x65 : a.tmps[65]?.getD undef = (.bool true) := by obtain ⟨v, h1, h2⟩ := hl.dep 16 65 (by kernel_rfl) (by kernel_rfl); exact h1.trans h2
                        have x72 : a.tmps[72]?.getD undef = (.bool true) := by obtain ⟨v, h1, h2⟩ := hl.dep 23 72 (by kernel_rfl) (by kernel_rfl); exact h1.trans h2
                        refine wpOp_list rfl rfl ?_
                        exact st_run (v := (.bool true)) (by go_simp) ⟨_, rfl, rfl, hJ⟩
                      ·
                        obtain rfl : i = 25 := by omega
                        obtain rfl := Option.some.inj ho
                        have x73 : a.tmps[73]?.getD undef = (.bool true) := by obtain ⟨v, h1, h2⟩ := hl.dep 24 73 (by kernel_rfl) (by kernel_rfl); exact h1.trans h2
                        refine wpOp_list rfl rfl ?_
                        exact st_run (v := (.bool true)) (by go_simp) ⟨_, rfl, rfl, hJ⟩
                    ·
                      by_cases q27 : i < 27
                      ·
                        obtain rfl : i = 26 := by omega
                        obtain rfl := Option.some.inj ho
                        have x5 : a.tmps[5]?.getD undef = (.pointer (some ⟨w0.heap.size, 0, none⟩)) := hl.free 5 (by kernel_rfl)
                        refine st_wanted rfl (hl.wanted 25 74 true rfl (by kernel_rfl) (by kernel_rfl) (fun v h => h)) ?_
                        exact wp_load_row 24 _ rfl w0.heap.size (eval_tmp x5) 24 ca.cells (0, 0) _ hJ.2.1 Try.underlying24 rfl (infoCls _) ⟨_, rfl, rfl, hJ⟩
                      ·
                        obtain rfl : i = 27 := by omega
                        obtain rfl := Option.some.inj ho
                        have x6 : a.tmps[6]?.getD undef = (.pointer (some ⟨w0.heap.size + 1, 0, none⟩)) := hl.free 6 (by kernel_rfl)
                        refine st_wanted rfl (hl.wanted 25 74 true rfl (by kernel_rfl) (by kernel_rfl) (fun v h => h)) ?_
                        exact wp_load_row 24 _ rfl (w0.heap.size + 1) (eval_tmp x6) 24 cb.cells (0, 0) _ hJ.2.2 Try.underlying24 rfl (infoCls _) ⟨_, rfl, rfl, hJ⟩
            ·
              by_cases q42 : i < 42
              ·
                by_cases q35 : i < 35
                ·
                  by_cases q31 : i < 31
                  ·
                    by_cases q29 : i < 29
                    ·
                      obtain rfl : i = 28 := by omega
                      obtain rfl := Option.some.inj ho
                      have x75 : a.tmps[75]?.getD undef = (V4 ca) := by obtain ⟨v, h1, h2⟩ := hl.dep 26 75 (by kernel_rfl) (by kernel_rfl); exact h1.trans h2
                      have x76 : a.tmps[76]?.getD undef = (V4 cb) := by obtain ⟨v, h1, h2⟩ := hl.dep 27 76 (by kernel_rfl) (by kernel_rfl); exact h1.trans h2
                      refine st_wanted rfl (hl.wanted 25 74 true rfl (by kernel_rfl) (by kernel_rfl) (fun v h => h)) ?_
                      refine st_call (w' := w) (f := 20) (args := #[(V4 ca), (V4 cb)]) (by go_simp) ((minus_c ca cb ha hb' _).mono ?_)
                      rintro e w'' ⟨rfl, hb⟩
                      exact ⟨_, rfl, _, rfl, rfl, hJ.step hb⟩
                    ·
                      by_cases q30 : i < 30
                      ·
                        obtain rfl : i = 29 := by omega
                        obtain rfl := Option.some.inj ho
                        have x5 : a.tmps[5]?.getD undef = (.pointer (some ⟨w0.heap.size, 0, none⟩)) := hl.free 5 (by kernel_rfl)
                        refine st_wanted rfl (hl.wanted 25 74 true rfl (by kernel_rfl) (by kernel_rfl) (fun v h => h)) ?_
                        exact wp_load_row 24 _ rfl w0.heap.size (eval_tmp x5) 24 ca.cells (0, 0) _ hJ.2.1 Try.underlying24 rfl (infoCls _) ⟨_, rfl, rfl, hJ⟩
                      ·
                        obtain rfl : i = 30 := by omega
                        obtain rfl := Option.some.inj ho
                        have x6 : a.tmps[6]?.getD undef = (.pointer (some ⟨w0.heap.size + 1, 0, none⟩)) := hl.free 6 (by kernel_rfl)
                        refine st_wanted rfl (hl.wanted 25 74 true rfl (by kernel_rfl) (by kernel_rfl) (fun v h => h)) ?_
                        exact wp_load_row 24 _ rfl (w0.heap.size + 1) (eval_tmp x6) 24 cb.cells (0, 0) _ hJ.2.2 Try.underlying24 rfl (infoCls _) ⟨_, rfl, rfl, hJ⟩
                  ·
                    by_cases q33 : i < 33
                    ·
                      by_cases q32 : i < 32
                      ·
                        obtain rfl : i = 31 := by omega
                        obtain rfl := Option.some.inj ho
                        have x78 : a.tmps[78]?.getD undef = (V4 ca) := by obtain ⟨v, h1, h2⟩ := hl.dep 29 78 (by kernel_rfl) (by kernel_rfl); exact h1.trans h2
                        have x79 : a.tmps[79]?.getD undef = (V4 cb) := by obtain ⟨v, h1, h2⟩ := hl.dep 30 79 (by kernel_rfl) (by kernel_rfl); exact h1.trans h2
                        refine st_wanted rfl (hl.wanted 25 74 true rfl (by kernel_rfl) (by kernel_rfl) (fun v h => h)) ?_
                        refine st_call (w' := w) (f := 18) (args := #[(.int .i64 (3)), (V4 ca), (V4 cb)]) (by go_simp) ((two3_c ca cb ha hb' _).mono ?_)
                        rintro e w'' ⟨rfl, hb⟩
                        exact ⟨_, rfl, _, rfl, rfl, hJ.step hb⟩
                      ·
                        obtain rfl : i = 32 := by omega
                        obtain rfl := Option.some.inj ho
                        have x77 : a.tmps[77]?.getD undef = (V4 (ca.minus cb)) := by obtain ⟨v, h1, h2⟩ := hl.dep 28 77 (by kernel_rfl) (by kernel_rfl); exact h1.trans h2
                        have x80 : a.tmps[80]?.getD undef = (V4 (ca.minus cb)) := by obtain ⟨v, h1, h2⟩ := hl.dep 31 80 (by kernel_rfl) (by kernel_rfl); exact h1.trans h2
                        refine st_wanted rfl (hl.wanted 25 74 true rfl (by kernel_rfl) (by kernel_rfl) (fun v h => h)) ?_
                        exact st_run (v := (.bool true)) (by go_simp) ⟨_, rfl, rfl, hJ⟩
                    ·
                      by_cases q34 : i < 34
                      ·
                        obtain rfl : i = 33 := by omega
                        obtain rfl := Option.some.inj ho
                        have x74 : a.tmps[74]?.getD undef = (.bool true) := by obtain ⟨v, h1, h2⟩ := hl.dep 25 74 (by kernel_rfl) (by kernel_rfl); exact h1.trans h2
                        have x81 : a.tmps[81]?.getD undef = (.bool true) := by obtain ⟨v, h1, h2⟩ := hl.dep 32 81 (by kernel_rfl) (by kernel_rfl); exact h1.trans h2
                        refine wpOp_list rfl rfl ?_
                        exact st_run (v := (.bool true)) (by go_simp) ⟨_, rfl, rfl, hJ⟩
                      ·
                        obtain rfl : i = 34 := by omega
                        obtain rfl := Option.some.inj ho
                        have x82 : a.tmps[82]?.getD undef = (.bool true) := by obtain ⟨v, h1, h2⟩ := hl.dep 33 82 (by kernel_rfl) (by kernel_rfl); exact h1.trans h2
                        refine wpOp_list rfl rfl ?_
                        exact st_run (v := (.bool true)) (by go_simp) ⟨_, rfl, rfl, hJ⟩
                ·
                  by_cases q38 : i < 38
                  ·
                    by_cases q36 : i < 36
                    ·
                      obtain rfl : i = 35 := by omega
                      obtain rfl := Option.some.inj ho
                      have x5 : a.tmps[5]?.getD undef = (.pointer (some ⟨w0.heap.size, 0, none⟩)) := hl.free 5 (by kernel_rfl)
                      refine st_wanted rfl (hl.wanted 34 83 true rfl (by kernel_rfl) (by kernel_rfl) (fun v h => h)) ?_
                      exact wp_load_row 24 _ rfl w0.heap.size (eval_tmp x5) 24 ca.cells (0, 0) _ hJ.2.1 Try.underlying24 rfl (infoCls _) ⟨_, rfl, rfl, hJ⟩
                    ·
                      by_cases q37 : i < 37
                      ·
                        obtain rfl : i = 36 := by omega
                        obtain rfl := Option.some.inj ho
                        have x84 : a.tmps[84]?.getD undef = (V4 ca) := by obtain ⟨v, h1, h2⟩ := hl.dep 35 84 (by kernel_rfl) (by kernel_rfl); exact h1.trans h2
                        refine st_wanted rfl (hl.wanted 34 83 true rfl (by kernel_rfl) (by kernel_rfl) (fun v h => h)) ?_
                        refine st_call (w' := w) (f := 21) (args := #[(V4 ca)]) (by go_simp) ((not_c ca ha _).mono ?_)
                        rintro e w'' ⟨rfl, hb⟩
                        exact ⟨_, rfl, _, rfl, rfl, hJ.step hb⟩
                      ·
                        obtain rfl : i = 37 := by omega
                        obtain rfl := Option.some.inj ho
                        have x5 : a.tmps[5]?.getD undef = (.pointer (some ⟨w0.heap.size, 0, none⟩)) := hl.free 5 (by kernel_rfl)
                        refine st_wanted rfl (hl.wanted 34 83 true rfl (by kernel_rfl) (by kernel_rfl) (fun v h => h)) ?_
                        exact wp_load_row 24 _ rfl w0.heap.size (eval_tmp x5) 24 ca.cells (0, 0) _ hJ.2.1 Try.underlying24 rfl (infoCls _) ⟨_, rfl, rfl, hJ⟩
                  ·
                    by_cases q40 : i < 40
                    ·
                      by_cases q39 : i < 39
                      ·
                        obtain rfl : i = 38 := by omega
                        obtain rfl := Option.some.inj ho
                        have x86 : a.tmps[86]?.getD undef = (V4 ca) := by obtain ⟨v, h1, h2⟩ := hl.dep 37 86 (by kernel_rfl) (by kernel_rfl); exact h1.trans h2
                        refine st_wanted rfl (hl.wanted 34 83 true rfl (by kernel_rfl) (by kernel_rfl) (fun v h => h)) ?_
                        refine st_call (w' := w) (f := 22) (args := #[(V4 ca)]) (by go_simp) ((notR_c ca ha _).mono ?_)
                        rintro e w'' ⟨rfl, hb⟩
                        exact ⟨_, rfl, _, rfl, rfl, hJ.step hb⟩
                      ·
                        obtain rfl : i = 39 := by omega
                        obtain rfl := Option.some.inj ho
                        have x85 : a.tmps[85]?.getD undef = (V4 ca.not) := by obtain ⟨v, h1, h2⟩ := hl.dep 36 85 (by kernel_rfl) (by kernel_rfl); exact h1.trans h2
                        have x87 : a.tmps[87]?.getD undef = (V4 ca.not) := by obtain ⟨v, h1, h2⟩ := hl.dep 38 87 (by kernel_rfl) (by kernel_rfl); exact h1.trans h2
                        refine st_wanted rfl (hl.wanted 34 83 true rfl (by kernel_rfl) (by kernel_rfl) (fun v h => h)) ?_
                        exact st_run (v := (.bool true)) (by go_simp) ⟨_, rfl, rfl, hJ⟩
                    ·
                      by_cases q41 : i < 41
                      ·
                        obtain rfl : i = 40 := by omega
                        obtain rfl := Option.some.inj ho
                        have x83 : a.tmps[83]?.getD undef = (.bool true) := by obtain ⟨v, h1, h2⟩ := hl.dep 34 83 (by kernel_rfl) (by kernel_rfl); exact h1.trans h2
                        have x88 : a.tmps[88]?.getD undef = (.bool true) := by obtain ⟨v, h1, h2⟩ := hl.dep 39 88 (by kernel_rfl) (by kernel_rfl); exact h1.trans h2
                        refine wpOp_list rfl rfl ?_
                        exact st_run (v := (.bool true)) (by go_simp) ⟨_, rfl, rfl, hJ⟩
                      ·
                        obtain rfl : i = 41 := by omega
                        obtain rfl := Option.some.inj ho
                        have x89 : a.tmps[89]?.getD undef = (.bool true) := by obtain ⟨v, h1, h2⟩ := hl.dep 40 89 (by kernel_rfl) (by kernel_rfl); exact h1.trans h2
                        refine wpOp_list rfl rfl ?_
                        exact st_run (v := (.bool true)) (by go_simp) ⟨_, rfl, rfl, hJ⟩
              ·
                by_cases q49 : i < 49
                ·
                  by_cases q45 : i < 45
                  ·
                    by_cases q43 : i < 43
                    ·
                      obtain rfl : i = 42 := by omega
                      obtain rfl := Option.some.inj ho
                      have x5 : a.tmps[5]?.getD undef = (.pointer (some ⟨w0.heap.size, 0, none⟩)) := hl.free 5 (by kernel_rfl)
                      refine st_wanted rfl (hl.wanted 41 90 true rfl (by kernel_rfl) (by kernel_rfl) (fun v h => h)) ?_
                      exact wp_load_row 24 _ rfl w0.heap.size (eval_tmp x5) 24 ca.cells (0, 0) _ hJ.2.1 Try.underlying24 rfl (infoCls _) ⟨_, rfl, rfl, hJ⟩
                    ·
                      by_cases q44 : i < 44
                      ·
                        obtain rfl : i = 43 := by omega
                        obtain rfl := Option.some.inj ho
                        have x91 : a.tmps[91]?.getD undef = (V4 ca) := by obtain ⟨v, h1, h2⟩ := hl.dep 42 91 (by kernel_rfl) (by kernel_rfl); exact h1.trans h2
                        refine st_wanted rfl (hl.wanted 41 90 true rfl (by kernel_rfl) (by kernel_rfl) (fun v h => h)) ?_
                        refine st_call (w' := w) (f := 23) (args := #[(V4 ca)]) (by go_simp) ((fold_c ca ha _).mono ?_)
                        rintro e w'' ⟨rfl, hb⟩
                        exact ⟨_, rfl, _, rfl, rfl, hJ.step hb⟩
                      ·
                        obtain rfl : i = 44 := by omega
                        obtain rfl := Option.some.inj ho
                        have x5 : a.tmps[5]?.getD undef = (.pointer (some ⟨w0.heap.size, 0, none⟩)) := hl.free 5 (by kernel_rfl)
                        refine st_wanted rfl (hl.wanted 41 90 true rfl (by kernel_rfl) (by kernel_rfl) (fun v h => h)) ?_
                        exact wp_load_row 24 _ rfl w0.heap.size (eval_tmp x5) 24 ca.cells (0, 0) _ hJ.2.1 Try.underlying24 rfl (infoCls _) ⟨_, rfl, rfl, hJ⟩
                  ·
                    by_cases q47 : i < 47
                    ·
                      by_cases q46 : i < 46
                      ·
                        obtain rfl : i = 45 := by omega
                        obtain rfl := Option.some.inj ho
                        have x93 : a.tmps[93]?.getD undef = (V4 ca) := by obtain ⟨v, h1, h2⟩ := hl.dep 44 93 (by kernel_rfl) (by kernel_rfl); exact h1.trans h2
                        refine st_wanted rfl (hl.wanted 41 90 true rfl (by kernel_rfl) (by kernel_rfl) (fun v h => h)) ?_
                        refine st_call (w' := w) (f := 24) (args := #[(V4 ca)]) (by go_simp) ((foldR_c ca ha _).mono ?_)
                        rintro e w'' ⟨rfl, hb⟩
                        exact ⟨_, rfl, _, rfl, rfl, hJ.step hb⟩
                      ·
                        obtain rfl : i = 46 := by omega
                        obtain rfl := Option.some.inj ho
                        have x92 : a.tmps[92]?.getD undef = (V4 ca.fold) := by obtain ⟨v, h1, h2⟩ := hl.dep 43 92 (by kernel_rfl) (by kernel_rfl); exact h1.trans h2
                        have x94 : a.tmps[94]?.getD undef = (V4 ca.fold) := by obtain ⟨v, h1, h2⟩ := hl.dep 45 94 (by kernel_rfl) (by kernel_rfl); exact h1.trans h2
                        refine st_wanted rfl (hl.wanted 41 90 true rfl (by kernel_rfl) (by kernel_rfl) (fun v h => h)) ?_
                        exact st_run (v := (.bool true)) (by go_simp) ⟨_, rfl, rfl, hJ⟩
                    ·
                      by_cases q48 : i < 48
                      ·
                        obtain rfl : i = 47 := by omega
                        obtain rfl := Option.some.inj ho
                        have x90 : a.tmps[90]?.getD undef = (.bool true) := by obtain ⟨v, h1, h2⟩ := hl.dep 41 90 (by kernel_rfl) (by kernel_rfl); exact h1.trans h2
                        have x95 : a.tmps[95]?.getD undef = (.bool true) := by obtain ⟨v, h1, h2⟩ := hl.dep 46 95 (by kernel_rfl) (by kernel_rfl); exact h1.trans h2
                        refine wpOp_list rfl rfl ?_
                        exact st_run (v := (.bool true)) (by go_simp) ⟨_, rfl, rfl, hJ⟩
                      ·
                        obtain rfl : i = 48 := by omega
                        obtain rfl := Option.some.inj ho
                        have x96 : a.tmps[96]?.getD undef = (.bool true) := by obtain ⟨v, h1, h2⟩ := hl.dep 47 96 (by kernel_rfl) (by kernel_rfl); exact h1.trans h2
                        refine wpOp_list rfl rfl ?_
                        exact st_run (v := (.bool true)) (by go_simp) ⟨_, rfl, rfl, hJ⟩
                ·
                  by_cases q53 : i < 53
                  ·
                    by_cases q51 : i < 51
                    ·
                      by_cases q50 : i < 50
                      ·
                        obtain rfl : i = 49 := by omega
                        obtain rfl := Option.some.inj ho
                        have x5 : a.tmps[5]?.getD undef = (.pointer (some ⟨w0.heap.size, 0, none⟩)) := hl.free 5 (by kernel_rfl)
                        refine st_wanted rfl (hl.wanted 48 97 true rfl (by kernel_rfl) (by kernel_rfl) (fun v h => h)) ?_
                        exact wp_load_row 24 _ rfl w0.heap.size (eval_tmp x5) 24 ca.cells (0, 0) _ hJ.2.1 Try.underlying24 rfl (infoCls _) ⟨_, rfl, rfl, hJ⟩
                      ·
                        obtain rfl : i = 50 := by omega
                        obtain rfl := Option.some.inj ho
                        have x98 : a.tmps[98]?.getD undef = (V4 ca) := by obtain ⟨v, h1, h2⟩ := hl.dep 49 98 (by kernel_rfl) (by kernel_rfl); exact h1.trans h2
                        refine st_wanted rfl (hl.wanted 48 97 true rfl (by kernel_rfl) (by kernel_rfl) (fun v h => h)) ?_
                        refine st_call (w' := w) (f := 25) (args := #[(V4 ca)]) (by go_simp) ((count_c ca ha _).mono ?_)
                        rintro e w'' ⟨rfl, hb⟩
                        exact ⟨_, rfl, _, rfl, rfl, hJ.step hb⟩
                    ·
                      by_cases q52 : i < 52
                      ·
                        obtain rfl : i = 51 := by omega
                        obtain rfl := Option.some.inj ho
                        have x5 : a.tmps[5]?.getD undef = (.pointer (some ⟨w0.heap.size, 0, none⟩)) := hl.free 5 (by kernel_rfl)
                        refine st_wanted rfl (hl.wanted 48 97 true rfl (by kernel_rfl) (by kernel_rfl) (fun v h => h)) ?_
                        exact wp_load_row 24 _ rfl w0.heap.size (eval_tmp x5) 24 ca.cells (0, 0) _ hJ.2.1 Try.underlying24 rfl (infoCls _) ⟨_, rfl, rfl, hJ⟩
                      ·
                        obtain rfl : i = 52 := by omega
                        obtain rfl := Option.some.inj ho
                        have x100 : a.tmps[100]?.getD undef = (V4 ca) := by obtain ⟨v, h1, h2⟩ := hl.dep 51 100 (by kernel_rfl) (by kernel_rfl); exact h1.trans h2
                        refine st_wanted rfl (hl.wanted 48 97 true rfl (by kernel_rfl) (by kernel_rfl) (fun v h => h)) ?_
                        refine st_call (w' := w) (f := 11) (args := #[(V4 ca)]) (by go_simp) ((bytes_c ca ha _).mono ?_)
                        rintro e w'' ⟨v, rfl, hO, hb⟩
                        exact ⟨_, rfl, _, rfl, own_slice hO, hJ.step hb⟩
                  ·
                    by_cases q55 : i < 55
                    ·
                      by_cases q54 : i < 54
                      ·
                        obtain rfl : i = 53 := by omega
                        obtain rfl := Option.some.inj ho
                        obtain ⟨A, c, x101⟩ : ∃ A c, a.tmps[101]?.getD undef = (.slice A ca.bytes.length c) := by obtain ⟨v, h1, A, c, h2⟩ := hl.dep 52 101 (by kernel_rfl) (by kernel_rfl); exact ⟨A, c, h1.trans h2⟩
                        refine st_wanted rfl (hl.wanted 48 97 true rfl (by kernel_rfl) (by kernel_rfl) (fun v h => h)) ?_
                        exact st_run (v := (.int .i64 ca.bytes.length)) (by go_simp) ⟨_, rfl, rfl, hJ⟩
                      ·
                        obtain rfl : i = 54 := by omega
                        obtain rfl := Option.some.inj ho
                        have x99 : a.tmps[99]?.getD undef = (.int .i64 ca.bytes.length) := by obtain ⟨v, h1, h2⟩ := hl.dep 50 99 (by kernel_rfl) (by kernel_rfl); exact h1.trans h2
                        have x102 : a.tmps[102]?.getD undef = (.int .i64 ca.bytes.length) := by obtain ⟨v, h1, h2⟩ := hl.dep 53 102 (by kernel_rfl) (by kernel_rfl); exact h1.trans h2
                        refine st_wanted rfl (hl.wanted 48 97 true rfl (by kernel_rfl) (by kernel_rfl) (fun v h => h)) ?_
                        exact st_run (v := (.bool true)) (by go_simp) ⟨_, rfl, rfl, hJ⟩
                    ·
                      by_cases q56 : i < 56
                      ·
                        obtain rfl : i = 55 := by omega
                        obtain rfl := Option.some.inj ho
                        have x97 : a.tmps[97]?.getD undef = (.bool true) := by obtain ⟨v, h1, h2⟩ := hl.dep 48 97 (by kernel_rfl) (by kernel_rfl); exact h1.trans h2
                        have x103 : a.tmps[103]?.getD undef = (.bool true) := by obtain ⟨v, h1, h2⟩ := hl.dep 54 103 (by kernel_rfl) (by kernel_rfl); exact h1.trans h2
                        refine wpOp_list rfl rfl ?_
                        exact st_run (v := (.bool true)) (by go_simp) ⟨_, rfl, rfl, hJ⟩
                      ·
                        obtain rfl : i = 56 := by omega
                        obtain rfl := Option.some.inj ho
                        have x104 : a.tmps[104]?.getD undef = (.bool true) := by obtain ⟨v, h1, h2⟩ := hl.dep 55 104 (by kernel_rfl) (by kernel_rfl); exact h1.trans h2
                        refine wpOp_list rfl rfl ?_
                        exact st_run (v := (.bool true)) (by go_simp) ⟨_, rfl, rfl, hJ⟩
          case hq =>
            intro f w hJ hV
            have h56 := hV 56 8 (by kernel_rfl)
            generalize hp : putAll _ f _ _ = a
            have hd : a.defers = [] := by rw [← hp, putAll_defers]
            have h8 : a.tmps[8]? = some (.bool true) := by
              rw [← hp, putAll_at _ f _ 8 (by simp) 56 (by kernel_rfl) (fun j hj => apart_of (by kernel_rfl) (by kernel_rfl) hj) _ (by decide)]
              exact congrArg some h56
            clear hp hV
            go_wp2
            exact bodyPost_ret (v := .bool true) (by rw [results_tmp rfl]; simp [h8]) hd ⟨rfl, hJ.1⟩
end Go.Proofs.Ytachpdeejificaa

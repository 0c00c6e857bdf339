import Derived.Test.YtldjdcdoegjmoaaDoorC10
set_option linter.unusedVariables false
set_option linter.unusedSimpArgs false
namespace Go.Proofs.YtldjdcdoegjmoaaDoor
open Go.RowKit
theorem itemsF_before' (s : ByteArray) (b : Nat) : ∀ (k q : Nat) (l : List (Nat × Nat)), q ≤ s.size → (itemsF s b k q l).2.2.2 = 0 → q < (itemsF s b k q l).2.1
  | 0, q, l, hq, h => by simp [itemsF] at h
  | k + 1, q, l, hq, h => by
    rw [itemsF] at h ⊢
    by_cases d : q < s.size ∧ bat s q = 93
    · rw [if_pos d]; exact Nat.lt_succ_self _
    · rw [if_neg d] at h ⊢
      by_cases c : (itemF s b q).2.2.2.2 = 0
      · rw [if_pos c] at h ⊢
        have h1 := itemF_on s b q hq c
        have h2 := itemsF_before' s b k _ _ (itemF_next s b q hq).2 h
        omega
      · rw [if_neg c] at h
        exact absurd h c
theorem parseF_yes {s : ByteArray} {p e : Nat} {c : Cls} (h : parseF s p = (c, e, 0, 0)) : p < s.size ∧ bat s p = 91 := by
  by_cases q : p < s.size ∧ bat s p = 91
  · exact q
  · rw [parseF_no q] at h
    simp at h
theorem parseF_items {s : ByteArray} {p e : Nat} {c : Cls} (h : parseF s p = (c, e, 0, 0)) : (itemsF s p (s.size + 1) (if p + 1 < s.size ∧ bat s (p + 1) = 94 then p + 1 + 1 else p + 1) []).2.2.2 = 0 ∧ (itemsF s p (s.size + 1) (if p + 1 < s.size ∧ bat s (p + 1) = 94 then p + 1 + 1 else p + 1) []).2.1 = e := by
  have hy := parseF_yes h
  unfold parseF at h
  rw [if_pos hy] at h
  dsimp only at h
  by_cases q : (itemsF s p (s.size + 1) (if p + 1 < s.size ∧ bat s (p + 1) = 94 then p + 2 else p + 1) []).2.2.2 = 0
  · rw [if_pos q] at h
    simp only [Prod.mk.injEq] at h
    exact ⟨q, h.2.1⟩
  · rw [if_neg q] at h
    simp only [Prod.mk.injEq] at h
    exact absurd h.2.2.2 q
theorem itemsF_before {s : ByteArray} {b k q k0 q0 e : Nat} {l : List (Nat × Nat)} (h : itemsF s b k q l = itemsF s b k0 q0 []) (hS : (itemsF s b k0 q0 []).2.2.2 = 0 ∧ (itemsF s b k0 q0 []).2.1 = e) : q ≤ s.size → q ≤ e := by
  intro hq
  rw [← h] at hS
  have := itemsF_before' s b k q l hq hS.1
  omega
set_option maxRecDepth 100000 in
set_option maxHeartbeats 1000000 in
theorem parse_mid (s : ByteArray) (hsb : s.size ≤ bigN) (p e1 : Nat) (C1 : Cls) (hS : parseF s p = (C1, e1, 0, 0)) (he1 : e1 ≤ p + 1000000) (w : World) : Calls Tryd.prog 54 #[.string s, .int .i64 (p : Int)] w (Parsed (parseF s p) w) := by
  have hs : s.size ≤ 4611686018427387904 := hsb
  have h91 := parseF_yes hS
  have hE1 := parseF_items hS
  have hp : p ≤ s.size := by omega
  have hI : parseF s p = parseF s p := rfl
  have hb := bat_eq s p
  · obtain ⟨hlt, h9⟩ := h91
    · have hb' := hb hlt
      have hz0 : (0 : Int) ≤ (p : Int) ∧ (p : Int) < (s.size : Int) := ⟨by omega, by omega⟩
      have HS := Lib.hid hE1; clear hS hE1
      go_enter Tryd.func54, Tryd.ntmps54
      obtain ⟨o, ho⟩ : ∃ o : Bool, o = decide (p + 1 < s.size ∧ bat s (p + 1) = 94) := ⟨_, rfl⟩
      obtain ⟨q0, hq0⟩ : ∃ q0 : Nat, q0 = if p + 1 < s.size ∧ bat s (p + 1) = 94 then p + 1 + 1 else p + 1 := ⟨_, rfl⟩
      have hq0' : q0 ≤ s.size := by rw [hq0]; split <;> omega
      have HO := Lib.hid ho; have HQ := Lib.hid hq0; clear ho hq0
      go_wp2_with (go_at_call 77; refine (skip_c s hsb p (p + 1) (w.heap.size + 2) 94 (by decide) (by omega) _ (heap_new2 _ _ _ _)).mono ?_; rintro e w1 ⟨rfl, hgb, hr⟩; rw [← HO.out]; rw [← HQ.out] at hr)
      have hz1 := gb_heap (k := w.heap.size) (o := .cells #[.int .u64 0, .int .u64 0, .int .u64 0, .int .u64 0] 24 (0, 0)) hgb (heap_keep (heap_keep (heap_new _ _))) (by omega)
      have hz2 := gb_heap (k := w.heap.size + 1) (o := .cells #[.int .i64 0, .int .i64 0] 41 (0, 0)) hgb (heap_keep (heap_new1 _ _ _)) (by omega)
      have hB1 : Below w.heap.size w w1 := Below.grown (by (repeat (first | with_reducible exact Below.refl _ _ | with_reducible apply below_drewN' | with_reducible apply below_drew | with_reducible apply below_allocs | (with_reducible refine below_setA ?_ _ _ (by dsimp only; omega))))) hgb (by simp only [World.size_alloc]; omega) (fun k hk => by cases hk; omega)
      have Z1 := Lib.hid hz1; have Z2 := Lib.hid hz2; have HR := Lib.hid hr; have HB1 := Lib.hid hB1; clear hz1 hz2 hr hB1
      have HI := Lib.hid hI; clear hI
      obtain ⟨T, hT⟩ : ∃ T, T = itemsF s p (s.size + 1) q0 [] := ⟨_, rfl⟩
      have HT := Lib.hid hT; clear hT
      go_loopw [9] (fun v wr => ∃ (k q : Nat) (l : List (Nat × Nat)), wr.ownsRow w.heap.size 83 2 v l.length (rcells l) ∧ lenOf v = l.length ∧ (∀ x ∈ l, x.1 < 256 ∧ x.2 < 256) ∧ l.length + p ≤ q ∧ q ≤ s.size ∧ s.size < q + k ∧ itemsF s p k q l = T ∧
          RdAt wr (w.heap.size + 2) s p q ∧ Below w.heap.size w wr ∧ wr.heap[w.heap.size]? = some (.cells #[.int .u64 0, .int .u64 0, .int .u64 0, .int .u64 0] 24 (0, 0)) ∧ wr.heap[w.heap.size + 1]? = some (.cells #[.int .i64 0, .int .i64 0] 41 (0, 0))) (fun v _ => s.size + 1 - lenOf v)
      case atStart => exact ⟨s.size + 1, q0, [], World.ownsRow_nil _ _ _ _, rfl, by simp, by rw [HQ.out]; split <;> simp <;> omega, hq0', by omega, HT.out.symm, HR.out, HB1.out, Z1.out, Z2.out⟩
      case round =>
        obtain ⟨k, q, l, hO, hl, hby, hlq, hqs, hk, hE, hR, hB, h1, h2⟩ := hrel
        have hg2 : w.heap.size + 2 < wr.heap.size := heap_lt hR
        have hne := own_ne hO hR (by decide)
        obtain ⟨wo, rfl⟩ : ∃ wo : World, wo = wr := ⟨_, rfl⟩
        have hO1 := hO.1
        have hqe := itemsF_before (hE.trans (HT.out.trans (congrArg (fun z => itemsF s p (s.size + 1) z []) HQ.out))) HS.out hqs
        have hq6 : q ≤ p + 1000000 := by omega
        have EO := Lib.hid hO; have EL := Lib.hid hl; have EB := Lib.hid hby; have ER := Lib.hid hR; have EW := Lib.hid hB; have E1 := Lib.hid h1; have E2 := Lib.hid h2; have EE := Lib.hid hE; have EN := Lib.hid hne
        clear hO hl hby hR hB h1 h2 hE hne hO1
        by_cases d : q < s.size ∧ bat s q = 93
        · obtain ⟨k', rfl⟩ : ∃ k', k = k' + 1 := ⟨k - 1, by omega⟩
          have ET := Lib.hid ((HT.out.symm.trans EE.out.symm).trans (itemsF_end d))
          have HF := Lib.hid ((parseF_good ⟨hlt, h9⟩ HO.out HQ.out ET.out))
          cases o
          · go_wp2_with (first | (go_at_call 79; refine (of_c A l.length cap l _ RD.out).mono ?_; rintro e w3 ⟨rfl, hb3⟩; unfold V4; have hz3 := hb3.size; have B3 := Lib.hid (B2.out.trans (hb3.mono B2.out.size)); have g1 := heap_same hb3 G1.out; have g2 := heap_same hb3 G2.out; have r3 : RdAt w3 (w.heap.size + 2) s p (q + 1) := heap_same hb3 R2.out; have hlt2 := heap_lt R2.out; clear hb3) | (go_at_call 77; refine (skip_c s hsb p q (w.heap.size + 2) 93 (by decide) hqs _ ER.out).mono ?_; rintro e w2 ⟨he, hgb2, hr2⟩; rw [decide_eq_true d] at he; rw [if_pos d] at hr2; subst he; have hz2 := hgb2.size; obtain ⟨A, cap, hv, hrd⟩ := own_ranges (EO.out.kept hgb2 (.inr EN.out)) (by omega) EB.out; subst hv; have g1 := gb_heap hgb2 E1.out (by omega); have g2 := gb_heap hgb2 E2.out (by omega); have hB2 := Below.grown EW.out hgb2 (by have := heap_lt ER.out; omega) (fun k hk => by cases hk; omega); have G1 := Lib.hid g1; have G2 := Lib.hid g2; have R2 := Lib.hid hr2; have RD := Lib.hid hrd; have B2 := Lib.hid hB2; clear g1 g2 hr2 hrd hB2))
            have g3 := heap_keep (o := .cells #[.int .u64 ((Cls.ofFn (inRanges l)).c0 : Int), .int .u64 ((Cls.ofFn (inRanges l)).c1 : Int), .int .u64 ((Cls.ofFn (inRanges l)).c2 : Int), .int .u64 ((Cls.ofFn (inRanges l)).c3 : Int)] 24 (0, 0)) g1
            have g4 := heap_keep (o := .cells #[.int .u64 ((Cls.ofFn (inRanges l)).c0 : Int), .int .u64 ((Cls.ofFn (inRanges l)).c1 : Int), .int .u64 ((Cls.ofFn (inRanges l)).c2 : Int), .int .u64 ((Cls.ofFn (inRanges l)).c3 : Int)] 24 (0, 0)) g2
            have r4 := r3.alloc (.cells #[.int .u64 ((Cls.ofFn (inRanges l)).c0 : Int), .int .u64 ((Cls.ofFn (inRanges l)).c1 : Int), .int .u64 ((Cls.ofFn (inRanges l)).c2 : Int), .int .u64 ((Cls.ofFn (inRanges l)).c3 : Int)] 24 (0, 0))
            obtain ⟨⟨c0, c1, c2, c3⟩, c4, c5, c6, c7⟩ := four_cells g3
            obtain ⟨d0, d1, d2, d3⟩ := two_cells g4
            have d4 := r4.c2
            go_region
            go_wp2
            refine bodyPost_ret (v := .tuple #[.agg #[.int .u64 ((Cls.ofFn (inRanges l)).c0 : Int), .int .u64 ((Cls.ofFn (inRanges l)).c1 : Int), .int .u64 ((Cls.ofFn (inRanges l)).c2 : Int), .int .u64 ((Cls.ofFn (inRanges l)).c3 : Int)], .int .i64 ((q : Int) + 1), .agg #[.int .i64 0, .int .i64 0]]) (by simp [results, Tryd.results54, go_sem, c0, c1, c2, c3, d0, d1]) rfl (prs_mk HF.out rfl rfl rfl rfl rfl rfl rfl ?_)
            (repeat (first | with_reducible exact Below.refl _ _ | with_reducible apply below_drewN' | with_reducible apply below_drew | with_reducible apply below_allocs | (with_reducible refine below_setA ?_ _ _ (by dsimp only; omega))))
            exact B3.out
          · go_wp2_with (first | (go_at_call 61; refine (not_c (Cls.ofFn (inRanges l)) (Cls.ok_ofFn _) _).mono ?_; rintro e w4 ⟨rfl, hb4⟩; unfold V4; have hz4 := hb4.size; simp only [World.size_alloc] at hz4; have N0 := Lib.hid (heap_same hb4 (heap_new w3 (.cells #[.int .u64 ((Cls.ofFn (inRanges l)).c0 : Int), .int .u64 ((Cls.ofFn (inRanges l)).c1 : Int), .int .u64 ((Cls.ofFn (inRanges l)).c2 : Int), .int .u64 ((Cls.ofFn (inRanges l)).c3 : Int)] 24 (0, 0)))); have N1 := Lib.hid (heap_same hb4 (heap_keep (o := .cells #[.int .u64 ((Cls.ofFn (inRanges l)).c0 : Int), .int .u64 ((Cls.ofFn (inRanges l)).c1 : Int), .int .u64 ((Cls.ofFn (inRanges l)).c2 : Int), .int .u64 ((Cls.ofFn (inRanges l)).c3 : Int)] 24 (0, 0)) g1)); have N2 := Lib.hid (heap_same hb4 (heap_keep (o := .cells #[.int .u64 ((Cls.ofFn (inRanges l)).c0 : Int), .int .u64 ((Cls.ofFn (inRanges l)).c1 : Int), .int .u64 ((Cls.ofFn (inRanges l)).c2 : Int), .int .u64 ((Cls.ofFn (inRanges l)).c3 : Int)] 24 (0, 0)) g2)); have N3 := Lib.hid (heap_same hb4 (heap_keep (o := .cells #[.int .u64 ((Cls.ofFn (inRanges l)).c0 : Int), .int .u64 ((Cls.ofFn (inRanges l)).c1 : Int), .int .u64 ((Cls.ofFn (inRanges l)).c2 : Int), .int .u64 ((Cls.ofFn (inRanges l)).c3 : Int)] 24 (0, 0)) r3)); have B4 := Lib.hid ((below_allocs B3.out (.cells #[.int .u64 ((Cls.ofFn (inRanges l)).c0 : Int), .int .u64 ((Cls.ofFn (inRanges l)).c1 : Int), .int .u64 ((Cls.ofFn (inRanges l)).c2 : Int), .int .u64 ((Cls.ofFn (inRanges l)).c3 : Int)] 24 (0, 0))).trans (hb4.mono (by have := B3.out.size; simp only [World.size_alloc]; omega))); clear hb4; obtain ⟨⟨y0, y1, y2, y3⟩, y4, y5, y6, y7⟩ := four_cells N0.out) | (go_at_call 79; refine (of_c A l.length cap l _ RD.out).mono ?_; rintro e w3 ⟨rfl, hb3⟩; unfold V4; have hz3 := hb3.size; have B3 := Lib.hid (B2.out.trans (hb3.mono B2.out.size)); have g1 := heap_same hb3 G1.out; have g2 := heap_same hb3 G2.out; have r3 : RdAt w3 (w.heap.size + 2) s p (q + 1) := heap_same hb3 R2.out; have hlt2 := heap_lt R2.out; clear hb3) | (go_at_call 77; refine (skip_c s hsb p q (w.heap.size + 2) 93 (by decide) hqs _ ER.out).mono ?_; rintro e w2 ⟨he, hgb2, hr2⟩; rw [decide_eq_true d] at he; rw [if_pos d] at hr2; subst he; have hz2 := hgb2.size; obtain ⟨A, cap, hv, hrd⟩ := own_ranges (EO.out.kept hgb2 (.inr EN.out)) (by omega) EB.out; subst hv; have g1 := gb_heap hgb2 E1.out (by omega); have g2 := gb_heap hgb2 E2.out (by omega); have hB2 := Below.grown EW.out hgb2 (by have := heap_lt ER.out; omega) (fun k hk => by cases hk; omega); have G1 := Lib.hid g1; have G2 := Lib.hid g2; have R2 := Lib.hid hr2; have RD := Lib.hid hrd; have B2 := Lib.hid hB2; clear g1 g2 hr2 hrd hB2))
            have M0 := set_four (x0 := .int .u64 ((Cls.ofFn (inRanges l)).not.c0 : Int)) (x1 := .int .u64 ((Cls.ofFn (inRanges l)).not.c1 : Int)) (x2 := .int .u64 ((Cls.ofFn (inRanges l)).not.c2 : Int)) (x3 := .int .u64 ((Cls.ofFn (inRanges l)).not.c3 : Int)) N0.out
            have M1 := four_other (x0 := .int .u64 ((Cls.ofFn (inRanges l)).not.c0 : Int)) (x1 := .int .u64 ((Cls.ofFn (inRanges l)).not.c1 : Int)) (x2 := .int .u64 ((Cls.ofFn (inRanges l)).not.c2 : Int)) (x3 := .int .u64 ((Cls.ofFn (inRanges l)).not.c3 : Int)) (show w.heap.size ≠ w3.heap.size by omega) N1.out
            have M2 := four_other (x0 := .int .u64 ((Cls.ofFn (inRanges l)).not.c0 : Int)) (x1 := .int .u64 ((Cls.ofFn (inRanges l)).not.c1 : Int)) (x2 := .int .u64 ((Cls.ofFn (inRanges l)).not.c2 : Int)) (x3 := .int .u64 ((Cls.ofFn (inRanges l)).not.c3 : Int)) (show w.heap.size + 1 ≠ w3.heap.size by omega) N2.out
            have M3 : RdAt (setFour w4 w3.heap.size (.int .u64 ((Cls.ofFn (inRanges l)).not.c0 : Int)) (.int .u64 ((Cls.ofFn (inRanges l)).not.c1 : Int)) (.int .u64 ((Cls.ofFn (inRanges l)).not.c2 : Int)) (.int .u64 ((Cls.ofFn (inRanges l)).not.c3 : Int))) (w.heap.size + 2) s p (q + 1) := four_other (show w.heap.size + 2 ≠ w3.heap.size by omega) N3.out
            unfold setFour at M0 M1 M2 M3
            obtain ⟨⟨a0, a1, a2, a3⟩, _, _, _, _⟩ := four_cells M0
            obtain ⟨⟨c0, c1, c2, c3⟩, c4, c5, c6, c7⟩ := four_cells M1
            obtain ⟨d0, d1, d2, d3⟩ := two_cells M2
            have d4 := M3.c2
            go_region
            go_wp2
            refine bodyPost_ret (v := .tuple #[.agg #[.int .u64 (((Cls.ofFn (inRanges l)).not).c0 : Int), .int .u64 (((Cls.ofFn (inRanges l)).not).c1 : Int), .int .u64 (((Cls.ofFn (inRanges l)).not).c2 : Int), .int .u64 (((Cls.ofFn (inRanges l)).not).c3 : Int)], .int .i64 ((q : Int) + 1), .agg #[.int .i64 0, .int .i64 0]]) (by simp [results, Tryd.results54, go_sem, c0, c1, c2, c3, d0, d1]) rfl (prs_mk HF.out rfl rfl rfl rfl rfl rfl rfl ?_)
            (repeat (first | with_reducible exact Below.refl _ _ | with_reducible apply below_drewN' | with_reducible apply below_drew | with_reducible apply below_allocs | (with_reducible refine below_setA ?_ _ _ (by dsimp only; omega))))
            exact B4.out
        · obtain ⟨x, y, r, pl, c, hF⟩ : ∃ x y r pl c, itemF s p q = (x, y, r, pl, c) := ⟨_, _, _, _, _, rfl⟩
          have hnx := itemF_next s p q hqs
          have hon := itemF_on s p q hqs
          have hxy := itemF_bytes s p q
          rw [hF] at hnx hon hxy
          dsimp only at hnx hon hxy
          have EI := Lib.hid hF; clear hF
          obtain ⟨k', rfl⟩ : ∃ k', k = k' + 1 := ⟨k - 1, by omega⟩
          by_cases hc : c = 0
          · subst hc
            have hon' := hon rfl
            clear hon
            have EE' := Lib.hid (itemsF_step (l := l) (k := k') d EI.out)
            go_wp2_with (first | (go_at_call 78; refine (item_c s hsb p q (w.heap.size + 2) hqs _ hr2).mono ?_; rintro e w3 ⟨rfl, hgb3, hr3⟩; rw [EI.out] at hr3 ⊢; dsimp only at hr3 ⊢; have hgb4 := Go.Lib.grownBy_trans hgb2 hgb3; have hz := hgb4.size; have g1 := gb_heap hgb4 E1.out (by omega); have g2 := gb_heap hgb4 E2.out (by omega); have hOw := EO.out.kept hgb4 (.inr EN.out); have hBw := Below.grown EW.out hgb4 (by have := heap_lt ER.out; omega) (fun k hk => by cases hk; omega)) | (go_at_call 77; refine (skip_c s hsb p q (w.heap.size + 2) 93 (by decide) hqs _ ER.out).mono ?_; rintro e w2 ⟨he, hgb2, hr2⟩; rw [decide_eq_false d] at he; rw [if_neg d] at hr2; subst he) | (at_builtin; go_must (refine app1 (w0 := w) w.heap.size rfl (.tmp 57) (.tmp 59) 80 83 (.agg #[.int .u8 0, .int .u8 0]) 2 2 rfl Tryd.underlying80 infoRng rfl (by decide) _ _ _ #[.int .u8 (x : Int), .int .u8 (y : Int)] rfl (by simp [Value.oneCell']) rfl (by simp only [World.size_alloc]; rfl) (own_below hOw (by (repeat (first | with_reducible exact Below.refl _ _ | with_reducible apply below_drewN' | with_reducible apply below_drew | with_reducible apply below_allocs | (with_reducible refine below_setA ?_ _ _ (by dsimp only; omega)))))) (by (repeat (first | with_reducible exact Below.refl _ _ | with_reducible apply below_drewN' | with_reducible apply below_drew | with_reducible apply below_allocs | (with_reducible refine below_setA ?_ _ _ (by dsimp only; omega)))); exact hBw) (by simp only [World.size_alloc]; omega) (by omega) (by omega) ?_); intro gq cq w4 hO4 hB4 hk4 hs4))
            go_roundw
            case rel =>
              refine ⟨k', r, l ++ [(x, y)], ?_, ?_, ?_, ?_, hnx.2, by omega, EE'.out.symm.trans EE.out, hk4 _ _ (heap_keep (heap_keep hr3)) (own_ne hOw hr3 (by decide)), hB4, hk4 _ _ (heap_keep (heap_keep g1)) (own_ne hOw g1 (by decide)), hk4 _ _ (heap_keep (heap_keep g2)) (own_ne hOw g2 (by decide))⟩
              · rw [rcells_snoc, List.length_append]; exact hO4
              · simp [lenOf]
              · intro z hz
                rcases List.mem_append.1 hz with hz | hz
                · exact EB.out z hz
                · obtain rfl := List.mem_singleton.1 hz
                  exact hxy
              · rw [List.length_append, List.length_singleton]; omega
            case measure =>
              have e := EL.out
              show s.size + 1 - (l.length + 1) < s.size + 1 - lenOf _
              rw [e]; omega
          · clear hon
            have ET := Lib.hid ((HT.out.symm.trans EE.out.symm).trans (itemsF_bad d EI.out hc))
            have HF := Lib.hid ((parseF_bad ⟨hlt, h9⟩ HQ.out ET.out hc))
            go_wp2_with (first | (go_at_call 78; refine (item_c s hsb p q (w.heap.size + 2) hqs _ hr2).mono ?_; rintro e w3 ⟨rfl, hgb3, hr3⟩; rw [EI.out] at hr3 ⊢; dsimp only at hr3 ⊢; have hgb4 := Go.Lib.grownBy_trans hgb2 hgb3; have hz := hgb4.size; have g1 := gb_heap hgb4 E1.out (by omega); have g2 := gb_heap hgb4 E2.out (by omega); have hOw := EO.out.kept hgb4 (.inr EN.out); have hBw := Below.grown EW.out hgb4 (by have := heap_lt ER.out; omega) (fun k hk => by cases hk; omega); have g3 := heap_keep (o := .cells #[.int .u8 (x : Int), .int .u8 (y : Int)] 83 (0, 0)) g1; have g4 := heap_keep (o := .cells #[.int .i64 (pl : Int), .int .i64 (c : Int)] 41 (0, 0)) g3; have g5 := heap_keep (o := .cells #[.int .u8 (x : Int), .int .u8 (y : Int)] 83 (0, 0)) g2; have g6 := heap_keep (o := .cells #[.int .i64 (pl : Int), .int .i64 (c : Int)] 41 (0, 0)) g5; obtain ⟨⟨c0, c1, c2, c3⟩, c4, c5, c6, c7⟩ := four_cells g4; obtain ⟨d0, d1, d2, d3⟩ := two_cells g6) | (go_at_call 77; refine (skip_c s hsb p q (w.heap.size + 2) 93 (by decide) hqs _ ER.out).mono ?_; rintro e w2 ⟨he, hgb2, hr2⟩; rw [decide_eq_false d] at he; rw [if_neg d] at hr2; subst he))
            go_region
            go_wp2
            refine bodyPost_ret (v := .tuple #[.agg #[.int .u64 0, .int .u64 0, .int .u64 0, .int .u64 0], .int .i64 0, .agg #[.int .i64 (pl : Int), .int .i64 (c : Int)]]) (by simp [results, Tryd.results54, go_sem, c0, c1, c2, c3, d0, d1]) rfl (prs_mk HF.out rfl rfl rfl rfl rfl rfl rfl ?_)
            (repeat (first | with_reducible exact Below.refl _ _ | with_reducible apply below_drewN' | with_reducible apply below_drew | with_reducible apply below_allocs | (with_reducible refine below_setA ?_ _ _ (by dsimp only; omega))))
            exact hBw
end Go.Proofs.YtldjdcdoegjmoaaDoor

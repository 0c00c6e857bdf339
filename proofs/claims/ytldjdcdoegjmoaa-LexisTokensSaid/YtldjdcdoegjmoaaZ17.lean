import Derived.Deep.DeepCutAuto
import Derived.Test.YtldjdcdoegjmoaaZ9
set_option linter.unusedVariables false
set_option linter.unusedSimpArgs false
namespace Go.Proofs.Ytldjdcdoegjmoaa
open Go.RowKit
theorem said_f (s : ByteArray) (hs : s.size ≤ bigN) (p : Nat) (hp : p < s.size) (w : World) {x q c : Nat} (hF : sayF s p = (x, q, c)) : Calls Try.prog 62 #[.string s, .int .i64 (p : Int)] w fun e w' =>
 e = .returned (.tuple #[.int .u8 (x : Int), .int .i64 ((if c = 0 then q else 0 : Nat) : Int), .agg #[.int .i64 ((if c = 0 then 0 else p : Nat) : Int), .int .i64 (c : Int)]]) ∧ Below w.heap.size w w' :=
 (said_c s hs p hp w).mono fun _ _ h => ⟨by rw [h.1, hF], h.2⟩
theorem byteF_in {s : ByteArray} {p : Nat} (h : p < s.size) : byteF s p = sayF s p := if_pos h
theorem byteF_end {s : ByteArray} {p : Nat} (h : ¬ p < s.size) : byteF s p = (0, p, 41) := if_neg h
theorem sayF_code (s : ByteArray) (p : Nat) : (sayF s p).2.2 ≠ 41 := by
 have h := escF_42 s p
 unfold sayF
 split
 · omega
 · split <;> (dsimp only; omega)
theorem plc_say {b p c : Nat} (h : c ≠ 41) (h0 : c ≠ 0) : plc b p c = p := by unfold plc; rw [if_neg h0, if_neg h]
theorem rngs_none (f : Nat → Bool) (lo : Nat) : (fun j => f j || (decide (lo ≤ j) && decide (j < lo))) = f := by
 funext j
 have h : (decide (lo ≤ j) && decide (j < lo)) = false := by
  by_cases q : lo ≤ j
  · simp [show ¬ j < lo by omega]
  · simp [q]
 rw [h, Bool.or_false]
theorem rngs_put (f : Nat → Bool) (lo m : Nat) (h : lo ≤ m) : (setCells (fun j => f j || (decide (lo ≤ j) && decide (j < m)))).setIfInBounds m (.bool true) = setCells (fun j => f j || (decide (lo ≤ j) && decide (j < m + 1))) := by
 rw [setCells_set]
 refine setCells_congr fun j _ => ?_
 by_cases e : j = m
 · subst e; simp [h]
 · rw [if_neg e, show decide (j < m + 1) = decide (j < m) by by_cases q : j < m <;> simp [q] <;> omega]
theorem rngs_done (l : List (Nat × Nat)) (lo hi m : Nat) (hle : hi < m) (h3 : m ≤ hi + 1 ∨ m = lo) : setCells (fun j => inRanges l j || (decide (lo ≤ j) && decide (j < m))) = setCells (inRanges (l ++ [(lo, hi)])) := by
 refine setCells_congr fun j _ => ?_
 unfold inRanges
 rw [List.any_append]
 have h : (decide (lo ≤ j) && decide (j < m)) = (decide (lo ≤ j) && decide (j ≤ hi)) := by
  by_cases q : lo ≤ j
  · by_cases q2 : j ≤ hi
    · simp [q2, show j < m by omega]
    · simp [q2, show ¬ j < m by omega]
  · simp [q]
 rw [h]
 simp
set_option maxRecDepth 100000 in
set_option maxHeartbeats 16000000 in
theorem parseR_c (s : ByteArray) (hs : s.size ≤ smallN) (n : Int) (hn : -9223372036854775808 ≤ n ∧ n ≤ 9223372036854775807) (w : World) : Calls Try.prog 48 #[.string s, .int .i64 n] w (Parsed (parseI s n) w) := by
 have hsb := small_big hs
 unfold smallN at hs
 by_cases hout : n < 0 ∨ (s.size : Int) < n
 · have HF := Lib.hid (parseI_out hout)
   go_enter Try.func48, Try.ntmps48
   rcases hout with h | h
   · go_wp2
     refine bodyPost_ret (v := .tuple #[.agg #[.int .u64 0, .int .u64 0, .int .u64 0, .int .u64 0], .int .i64 0, .agg #[.int .i64 0, .int .i64 5]]) (by simp [results, Try.results48, go_sem]) rfl (prs_mk HF.out rfl rfl rfl rfl rfl rfl rfl ?_)
     (repeat (first | with_reducible exact Below.refl _ _ | with_reducible apply below_drewN' | with_reducible apply below_drew | with_reducible apply below_allocs | (with_reducible refine below_setA ?_ _ _ (by dsimp only; omega))))
   · have h' : ¬ n < 0 := by omega
     go_wp2
     refine bodyPost_ret (v := .tuple #[.agg #[.int .u64 0, .int .u64 0, .int .u64 0, .int .u64 0], .int .i64 0, .agg #[.int .i64 0, .int .i64 5]]) (by simp [results, Try.results48, go_sem]) rfl (prs_mk HF.out rfl rfl rfl rfl rfl rfl rfl ?_)
     (repeat (first | with_reducible exact Below.refl _ _ | with_reducible apply below_drewN' | with_reducible apply below_drew | with_reducible apply below_allocs | (with_reducible refine below_setA ?_ _ _ (by dsimp only; omega))))
 · obtain ⟨p, rfl⟩ : ∃ p : Nat, n = (p : Int) := ⟨n.toNat, by omega⟩
   have hp : p ≤ s.size := by omega
   have hI : parseI s (p : Int) = parseF s p := if_neg hout
   have hb := bat_eq s p
   by_cases h91 : p < s.size ∧ bat s p = 91
   · obtain ⟨hlt, h9⟩ := h91
     have hb' := hb hlt
     have hz0 : (0 : Int) ≤ (p : Int) ∧ (p : Int) < (s.size : Int) := ⟨by omega, by omega⟩
     obtain ⟨q0, hq0⟩ : ∃ q0 : Nat, q0 = if p + 1 < s.size ∧ bat s (p + 1) = 94 then p + 1 + 1 else p + 1 := ⟨_, rfl⟩
     have hq0' : q0 ≤ s.size := by rw [hq0]; split <;> omega
     have HQ := Lib.hid hq0; clear hq0
     have HI := Lib.hid hI; clear hI
     obtain ⟨T, hT⟩ : ∃ T, T = itemsF s p (s.size + 1) q0 [] := ⟨_, rfl⟩
     have HT := Lib.hid hT; clear hT
     have H9 : Hid (bat s p = 91) := Lib.hid h9
     obtain ⟨o, ho⟩ : ∃ o : Bool, o = decide (p + 1 < s.size ∧ bat s (p + 1) = 94) := ⟨_, rfl⟩
     have HO := Lib.hid ho; clear ho
     have hv := zeroSet.1
     go_enter Try.func48, Try.ntmps48
     go_upto_region 6 with fail
     go_cut [7, 8] (fun v7 v8 wx => v7 = .int .i64 ((p : Int) + 1) ∧ v8 = .bool o ∧ wx = ((w.alloc (.cells #[.int .u64 0, .int .u64 0, .int .u64 0, .int .u64 0] 26)).alloc (.cells #[.int .i64 0, .int .i64 0] 35)))
     case first =>
      by_cases hlt1 : p + 1 < s.size
      · have hb1 := bat_eq s (p + 1) hlt1
        have hz1 : (0 : Int) ≤ (p : Int) + 1 ∧ (p : Int) + 1 < (s.size : Int) := ⟨by omega, by omega⟩
        by_cases h94 : bat s (p + 1) = 94
        · go_wp2
          go_meet
          exact ⟨rfl, by rw [HO.out, decide_eq_true ⟨hlt1, h94⟩], rfl⟩
        · have h94i : (((bat s (p + 1) : Nat) : Int) == 94) = false := by simp; omega
          go_wp2
          go_meet
          exact ⟨rfl, by rw [HO.out, decide_eq_false (fun h => h94 h.2)], rfl⟩
      · go_wp2
        go_meet
        exact ⟨rfl, by rw [HO.out, decide_eq_false (fun h => hlt1 h.1)], rfl⟩
     case rest =>
      obtain ⟨rfl, rfl, rfl⟩ := hcut
      go_upto_if 51 with fail
      go_cut [7] (fun v7 wx => v7 = .int .i64 (q0 : Int) ∧ wx = ((w.alloc (.cells #[.int .u64 0, .int .u64 0, .int .u64 0, .int .u64 0] 26)).alloc (.cells #[.int .i64 0, .int .i64 0] 35)))
      case first =>
       cases o
       · have hq : q0 = p + 1 := by rw [HQ.out, if_neg (of_decide_eq_false HO.out.symm)]
         go_wp2
         go_meet
         exact ⟨by rw [hq]; rfl, rfl⟩
       · have hq : q0 = p + 1 + 1 := by rw [HQ.out, if_pos (of_decide_eq_true HO.out.symm)]
         go_wp2
         go_meet
         exact ⟨by rw [hq]; rfl, rfl⟩
      case rest =>
       obtain ⟨rfl, rfl⟩ := hcut
       go_wp2
       go_loopw [7, 10, 11, 12, 14, 15] (fun v _ _ _ _ _ wr => ∃ (k q : Nat) (l : List (Nat × Nat)), v = .int .i64 (q : Int) ∧ q ≤ s.size ∧ s.size < q + k ∧ itemsF s p k q l = T ∧ Below w.heap.size w wr ∧
        wr.heap[w.heap.size]? = some (.cells #[.int .u64 0, .int .u64 0, .int .u64 0, .int .u64 0] 26 (0, 0)) ∧ wr.heap[w.heap.size + 1]? = some (.cells #[.int .i64 0, .int .i64 0] 35 (0, 0)) ∧ wr.heap[w.heap.size + 2]? = some (.cells (setCells (inRanges l)) 84 (0, 0))) (fun v _ _ _ _ _ _ => s.size + 1 - (intOf v).toNat)
       case atStart =>
        refine ⟨s.size + 1, q0, [], rfl, hq0', by omega, HT.out.symm, by (repeat (first | with_reducible exact Below.refl _ _ | with_reducible apply below_drewN' | with_reducible apply below_drew | with_reducible apply below_allocs | (with_reducible refine below_setA ?_ _ _ (by dsimp only; omega)))), heap_keep (heap_keep (heap_new _ _)), heap_keep (heap_new1 _ _ _), ?_⟩
        rw [show setCells (inRanges []) = Array.replicate 256 (.bool false) from setCells_false]
        exact heap_new2 _ _ _ _
       case round =>
        obtain ⟨k, q, l, rfl, hqs, hk, hE, hB, h1, h2, h3⟩ := hrel
        obtain ⟨k', rfl⟩ : ∃ k', k = k' + 1 := ⟨k - 1, by omega⟩
        obtain ⟨wo, rfl⟩ : ∃ wo : World, wo = wr := ⟨_, rfl⟩
        have hsz := heap_lt h3
        have EE := Lib.hid hE; have EB := Lib.hid hB; have E1 := Lib.hid h1; have E2 := Lib.hid h2; have E3 := Lib.hid h3
        clear hE hB h1 h2 h3
        by_cases hq : q < s.size
        · have hbq := bat_eq s q hq
          have hzq : (0 : Int) ≤ (q : Int) ∧ (q : Int) < (s.size : Int) := ⟨by omega, by omega⟩
          by_cases h93 : bat s q = 93
          · have ET := Lib.hid ((HT.out.symm.trans EE.out.symm).trans (itemsF_end ⟨hq, h93⟩))
            have HF := Lib.hid (HI.out.trans (parseF_good ⟨hlt, H9.out⟩ HO.out HQ.out ET.out))
            have hc := close_c (inRanges l)
            unfold setVal V4 at hc
            have HK := Lib.hid hc; clear hc
            have hn := notR_c (Cls.ofFn (inRanges l)) (Cls.ok_ofFn _)
            unfold V4 at hn
            have HN := Lib.hid hn; clear hn
            cases o
            · go_wp2_with (first | (go_at_call 64; refine (HK.out _).mono ?_; rintro e w3 ⟨rfl, hb3⟩; have B3 := Lib.hid (EB.out.trans (hb3.mono EB.out.size)); obtain ⟨⟨c0, c1, c2, c3⟩, c4, c5, c6, c7⟩ := four_cells (heap_same hb3 E1.out); obtain ⟨d0, d1, d2, d3⟩ := two_cells (heap_same hb3 E2.out); clear hb3) | (refine wpList_load_row rfl 84 _ rfl (w.heap.size + 2) rfl _ _ _ _ E3.out Try.underlying84 rfl (infoSet _) ?_))
              refine bodyPost_ret (v := .tuple #[.agg #[.int .u64 ((Cls.ofFn (inRanges l)).c0 : Int), .int .u64 ((Cls.ofFn (inRanges l)).c1 : Int), .int .u64 ((Cls.ofFn (inRanges l)).c2 : Int), .int .u64 ((Cls.ofFn (inRanges l)).c3 : Int)], .int .i64 ((q : Int) + 1), .agg #[.int .i64 0, .int .i64 0]]) (by simp [results, Try.results48, go_sem, c0, c1, c2, c3, d0, d1]) rfl (prs_mk HF.out rfl rfl rfl rfl rfl rfl rfl ?_)
              (repeat (first | with_reducible exact Below.refl _ _ | with_reducible apply below_drewN' | with_reducible apply below_drew | with_reducible apply below_allocs | (with_reducible refine below_setA ?_ _ _ (by dsimp only; omega))))
              exact B3.out
            · go_wp2_with (first | (go_at_call 63; refine (HN.out _).mono ?_; rintro e w4 ⟨rfl, hb4⟩; have B4 := Lib.hid (B3.out.trans (hb4.mono B3.out.size)); obtain ⟨⟨c0, c1, c2, c3⟩, c4, c5, c6, c7⟩ := four_cells (heap_same hb4 G1.out); obtain ⟨d0, d1, d2, d3⟩ := two_cells (heap_same hb4 G2.out); clear hb4) | (go_at_call 64; refine (HK.out _).mono ?_; rintro e w3 ⟨rfl, hb3⟩; have B3 := Lib.hid (EB.out.trans (hb3.mono EB.out.size)); have G1 := Lib.hid (heap_same hb3 E1.out); have G2 := Lib.hid (heap_same hb3 E2.out); clear hb3) | (refine wpList_load_row rfl 84 _ rfl (w.heap.size + 2) rfl _ _ _ _ E3.out Try.underlying84 rfl (infoSet _) ?_))
              refine bodyPost_ret (v := .tuple #[.agg #[.int .u64 ((Cls.ofFn (inRanges l)).not.c0 : Int), .int .u64 ((Cls.ofFn (inRanges l)).not.c1 : Int), .int .u64 ((Cls.ofFn (inRanges l)).not.c2 : Int), .int .u64 ((Cls.ofFn (inRanges l)).not.c3 : Int)], .int .i64 ((q : Int) + 1), .agg #[.int .i64 0, .int .i64 0]]) (by simp [results, Try.results48, go_sem, c0, c1, c2, c3, d0, d1]) rfl (prs_mk HF.out rfl rfl rfl rfl rfl rfl rfl ?_)
              (repeat (first | with_reducible exact Below.refl _ _ | with_reducible apply below_drewN' | with_reducible apply below_drew | with_reducible apply below_allocs | (with_reducible refine below_setA ?_ _ _ (by dsimp only; omega))))
              exact B4.out
          · have h93i : (((bat s q : Nat) : Int) == 93) = false := by simp; omega
            have hn : ¬ (q < s.size ∧ bat s q = 93) := fun h => h93 h.2
            obtain ⟨x, r, c, hS⟩ : ∃ x r c, sayF s q = (x, r, c) := ⟨_, _, _, rfl⟩
            have hB : byteF s q = (x, r, c) := (byteF_in hq).trans hS
            have hc41 := sayF_code s q
            have hon := byteF_on s q
            have hnx := byteF_next s q hqs
            have hx256 := byteF_byte s q
            rw [hS] at hc41
            rw [hB] at hon hnx hx256
            dsimp only at hc41 hon hnx hx256
            have ES := Lib.hid hS; have EY := Lib.hid hB; clear hS hB
            by_cases hc : c = 0
            · subst hc
              have hon' := hon rfl
              clear hon
              go_upto_region 19 with (go_at_call 62; refine (said_f s hsb q hq _ ES.out).mono ?_; rintro e w3 ⟨rfl, hb3⟩; rw [if_pos rfl, if_pos rfl]; have B3 := Lib.hid (EB.out.trans (hb3.mono EB.out.size)); have G1 := Lib.hid (heap_same hb3 E1.out); have G2 := Lib.hid (heap_same hb3 E2.out); have G3 := Lib.hid (heap_same hb3 E3.out); have hz3 := heap_lt (heap_same hb3 E3.out); clear hb3)
              have hr0 := hnx.2
              go_cut [89] (fun v wx => v = .bool (decide (r < s.size ∧ bat s r = 45)) ∧ wx = (w3.alloc (.cells #[.int .i64 0, .int .i64 0] 35 (0, 0))))
              case first =>
               by_cases hr : r < s.size
               · have hbr := bat_eq s r hr
                 have hzr : (0 : Int) ≤ (r : Int) ∧ (r : Int) < (s.size : Int) := ⟨by omega, by omega⟩
                 by_cases h45 : bat s r = 45
                 · go_wp2
                   go_meet
                   exact ⟨by rw [decide_eq_true ⟨hr, h45⟩], rfl⟩
                 · have h45i : (((bat s r : Nat) : Int) == 45) = false := by simp; omega
                   go_wp2
                   go_meet
                   exact ⟨by rw [decide_eq_false (fun h => h45 h.2)], rfl⟩
               · go_wp2
                 go_meet
                 exact ⟨by rw [decide_eq_false (fun h => hr h.1)], rfl⟩
              case rest =>
               obtain ⟨rfl, rfl⟩ := hcut
               go_upto_if 89 with fail
               go_cut [7, 14] (fun v7 v14 wx => ∃ rn y : Nat, v7 = .int .i64 (rn : Int) ∧ v14 = .int .u8 (y : Int) ∧ y < 256 ∧ q < rn ∧ rn ≤ s.size ∧ itemF s p q = (x, y, rn, 0, 0) ∧ Below w.heap.size w wx ∧ wx.heap[w.heap.size]? = some (.cells #[.int .u64 0, .int .u64 0, .int .u64 0, .int .u64 0] 26 (0, 0)) ∧ wx.heap[w.heap.size + 1]? = some (.cells #[.int .i64 0, .int .i64 0] 35 (0, 0)) ∧ wx.heap[w.heap.size + 2]? = some (.cells (setCells (inRanges l)) 84 (0, 0)))
               case first =>
                by_cases d : r < s.size ∧ bat s r = 45
                · have hdt : decide (r < s.size ∧ bat s r = 45) = true := decide_eq_true d
                  obtain ⟨hr, h45⟩ := d
                  have hbr := bat_eq s r hr
                  have hzr : (0 : Int) ≤ (r : Int) ∧ (r : Int) < (s.size : Int) := ⟨by omega, by omega⟩
                  by_cases hr1 : r + 1 < s.size
                  · have hbr1 := bat_eq s (r + 1) hr1
                    obtain ⟨y, r2, c2, hS2⟩ : ∃ y r2 c2, sayF s (r + 1) = (y, r2, c2) := ⟨_, _, _, rfl⟩
                    have hB2 : byteF s (r + 1) = (y, r2, c2) := (byteF_in hr1).trans hS2
                    have hc41' := sayF_code s (r + 1)
                    have hon2 := byteF_on s (r + 1)
                    have hnx2 := byteF_next s (r + 1) (by omega)
                    have hy256 := byteF_byte s (r + 1)
                    rw [hS2] at hc41'
                    rw [hB2] at hon2 hnx2 hy256
                    dsimp only at hc41' hon2 hnx2 hy256
                    have ES2 := Lib.hid hS2; have EY2 := Lib.hid hB2; clear hS2 hB2
                    have hF : itemF s p q = if c2 = 0 ∧ y < x then (x, y, r2, q, 30) else (x, y, r2, plc p (r + 1) c2, c2) := by unfold itemF; rw [EY.out]; dsimp only; rw [if_pos rfl, if_pos ⟨hr, h45⟩, EY2.out]
                    have EF := Lib.hid hF; clear hF
                    by_cases hc2 : c2 = 0
                    · subst hc2
                      have hon2' := hon2 rfl
                      clear hon2
                      by_cases hlo : y < x
                      · have hF : itemF s p q = (x, y, r2, q, 30) := by rw [EF.out, if_pos ⟨rfl, hlo⟩]
                        have HF := Lib.hid (HI.out.trans (parseF_bad ⟨hlt, H9.out⟩ HQ.out ((HT.out.symm.trans EE.out.symm).trans (itemsF_bad hn hF (by decide))) (by decide)))
                        go_wp2_with (go_at_call 62; refine (said_f s hsb (r + 1) hr1 _ ES2.out).mono ?_; rintro e w4 ⟨rfl, hb4⟩; rw [if_pos rfl, if_pos rfl]; have hz4 := hb4.size; simp only [World.size_alloc] at hz4; have B4 := Lib.hid ((below_allocs B3.out (.cells #[.int .i64 0, .int .i64 0] 35 (0, 0))).trans (hb4.mono (by have := B3.out.size; simp only [World.size_alloc]; omega))); have K1 := Lib.hid (heap_same hb4 (heap_keep (o := .cells #[.int .i64 0, .int .i64 0] 35 (0, 0)) G1.out)); have K2 := Lib.hid (heap_same hb4 (heap_keep (o := .cells #[.int .i64 0, .int .i64 0] 35 (0, 0)) G2.out)); have K3 := Lib.hid (heap_same hb4 (heap_keep (o := .cells #[.int .i64 0, .int .i64 0] 35 (0, 0)) G3.out)); have K4 := Lib.hid (heap_same hb4 (heap_new w3 (.cells #[.int .i64 0, .int .i64 0] 35 (0, 0)))); obtain ⟨z0, z1, z2, z3⟩ := two_cells K4.out; obtain ⟨⟨c0, c1, c2', c3⟩, c4, c5, c6, c7⟩ := four_cells K1.out; obtain ⟨d0, d1, d2, d3⟩ := two_cells K2.out; clear hb4)
                        refine bodyPost_ret (v := .tuple #[.agg #[.int .u64 0, .int .u64 0, .int .u64 0, .int .u64 0], .int .i64 0, .agg #[.int .i64 (q : Int), .int .i64 30]]) (by simp [results, Try.results48, go_sem, c0, c1, c2', c3, d0, d1]) rfl (prs_mk HF.out rfl rfl rfl rfl rfl rfl rfl ?_)
                        (repeat (first | with_reducible exact Below.refl _ _ | with_reducible apply below_drewN' | with_reducible apply below_drew | with_reducible apply below_allocs | (with_reducible refine below_setA ?_ _ _ (by dsimp only; omega))))
                        exact B4.out
                      · have hF : itemF s p q = (x, y, r2, 0, 0) := by rw [EF.out, if_neg (fun h => hlo h.2)]; rfl
                        have EE' := Lib.hid (itemsF_step (l := l) (k := k') hn hF)
                        go_wp2_with (go_at_call 62; refine (said_f s hsb (r + 1) hr1 _ ES2.out).mono ?_; rintro e w4 ⟨rfl, hb4⟩; rw [if_pos rfl, if_pos rfl]; have hz4 := hb4.size; simp only [World.size_alloc] at hz4; have B4 := Lib.hid ((below_allocs B3.out (.cells #[.int .i64 0, .int .i64 0] 35 (0, 0))).trans (hb4.mono (by have := B3.out.size; simp only [World.size_alloc]; omega))); have K1 := Lib.hid (heap_same hb4 (heap_keep (o := .cells #[.int .i64 0, .int .i64 0] 35 (0, 0)) G1.out)); have K2 := Lib.hid (heap_same hb4 (heap_keep (o := .cells #[.int .i64 0, .int .i64 0] 35 (0, 0)) G2.out)); have K3 := Lib.hid (heap_same hb4 (heap_keep (o := .cells #[.int .i64 0, .int .i64 0] 35 (0, 0)) G3.out)); have K4 := Lib.hid (heap_same hb4 (heap_new w3 (.cells #[.int .i64 0, .int .i64 0] 35 (0, 0)))); obtain ⟨z0, z1, z2, z3⟩ := two_cells K4.out; clear hb4)
                        go_meet
                        exact ⟨r2, y, rfl, rfl, hy256, by omega, hnx2.2, hF, by (repeat (first | with_reducible exact Below.refl _ _ | with_reducible apply below_drewN' | with_reducible apply below_drew | with_reducible apply below_allocs | (with_reducible refine below_setA ?_ _ _ (by dsimp only; omega)))); exact B4.out, heap_other (by dsimp only; omega) (heap_other (by dsimp only; omega) K1.out), heap_other (by dsimp only; omega) (heap_other (by dsimp only; omega) K2.out), heap_other (by dsimp only; omega) (heap_other (by dsimp only; omega) K3.out)⟩
                    · have hF : itemF s p q = (x, y, r2, r + 1, c2) := by rw [EF.out, if_neg (fun h => hc2 h.1), plc_say hc41' hc2]
                      have HF := Lib.hid (HI.out.trans (parseF_bad ⟨hlt, H9.out⟩ HQ.out ((HT.out.symm.trans EE.out.symm).trans (itemsF_bad hn hF hc2)) hc2))
                      go_wp2_with (go_at_call 62; refine (said_f s hsb (r + 1) hr1 _ ES2.out).mono ?_; rintro e w4 ⟨rfl, hb4⟩; rw [if_neg hc2, if_neg hc2]; have hz4 := hb4.size; simp only [World.size_alloc] at hz4; have B4 := Lib.hid ((below_allocs B3.out (.cells #[.int .i64 0, .int .i64 0] 35 (0, 0))).trans (hb4.mono (by have := B3.out.size; simp only [World.size_alloc]; omega))); have K1 := Lib.hid (heap_same hb4 (heap_keep (o := .cells #[.int .i64 0, .int .i64 0] 35 (0, 0)) G1.out)); have K2 := Lib.hid (heap_same hb4 (heap_keep (o := .cells #[.int .i64 0, .int .i64 0] 35 (0, 0)) G2.out)); have K3 := Lib.hid (heap_same hb4 (heap_keep (o := .cells #[.int .i64 0, .int .i64 0] 35 (0, 0)) G3.out)); have K4 := Lib.hid (heap_same hb4 (heap_new w3 (.cells #[.int .i64 0, .int .i64 0] 35 (0, 0)))); obtain ⟨z0, z1, z2, z3⟩ := two_cells K4.out; obtain ⟨⟨c0, c1, c2', c3⟩, c4, c5, c6, c7⟩ := four_cells K1.out; obtain ⟨d0, d1, d2, d3⟩ := two_cells K2.out; clear hb4)
                      obtain ⟨_, _, hd⟩ := set_two (x := .int .i64 ((r : Int) + 1)) (y := .int .i64 (c2 : Int)) K4.out
                      obtain ⟨e0, e1, e2, e3⟩ := two_cells hd
                      obtain ⟨⟨c0, c1, c2', c3⟩, c4, c5, c6, c7⟩ := four_cells (heap_other (a := ⟨w3.heap.size, 1, none⟩) (v := .int .i64 (c2 : Int)) (by dsimp only; omega) (heap_other (a := ⟨w3.heap.size, 0, none⟩) (v := .int .i64 ((r : Int) + 1)) (by dsimp only; omega) K1.out))
                      obtain ⟨d0, d1, d2, d3⟩ := two_cells (heap_other (a := ⟨w3.heap.size, 1, none⟩) (v := .int .i64 (c2 : Int)) (by dsimp only; omega) (heap_other (a := ⟨w3.heap.size, 0, none⟩) (v := .int .i64 ((r : Int) + 1)) (by dsimp only; omega) K2.out))
                      go_region
                      go_wp2
                      refine bodyPost_ret (v := .tuple #[.agg #[.int .u64 0, .int .u64 0, .int .u64 0, .int .u64 0], .int .i64 0, .agg #[.int .i64 ((r : Int) + 1), .int .i64 (c2 : Int)]]) (by simp [results, Try.results48, go_sem, c0, c1, c2', c3, d0, d1]) rfl (prs_mk HF.out rfl rfl rfl rfl rfl rfl rfl ?_)
                      (repeat (first | with_reducible exact Below.refl _ _ | with_reducible apply below_drewN' | with_reducible apply below_drew | with_reducible apply below_allocs | (with_reducible refine below_setA ?_ _ _ (by dsimp only; omega))))
                      exact B4.out
                  · have hF : itemF s p q = (x, 0, r + 1, p, 41) := by unfold itemF; rw [EY.out]; dsimp only; rw [if_pos rfl, if_pos ⟨hr, h45⟩, byteF_end hr1]; rfl
                    have HF := Lib.hid (HI.out.trans (parseF_bad ⟨hlt, H9.out⟩ HQ.out ((HT.out.symm.trans EE.out.symm).trans (itemsF_bad hn hF (by decide))) (by decide)))
                    obtain ⟨⟨c0, c1, c2, c3⟩, c4, c5, c6, c7⟩ := four_cells (heap_keep (o := .cells #[.int .i64 0, .int .i64 0] 35 (0, 0)) G1.out)
                    obtain ⟨d0, d1, d2, d3⟩ := two_cells (heap_keep (o := .cells #[.int .i64 0, .int .i64 0] 35 (0, 0)) G2.out)
                    go_wp2
                    refine bodyPost_ret (v := .tuple #[.agg #[.int .u64 0, .int .u64 0, .int .u64 0, .int .u64 0], .int .i64 0, .agg #[.int .i64 (p : Int), .int .i64 41]]) (by simp [results, Try.results48, go_sem, c0, c1, c2, c3, d0, d1]) rfl (prs_mk HF.out rfl rfl rfl rfl rfl rfl rfl ?_)
                    (repeat (first | with_reducible exact Below.refl _ _ | with_reducible apply below_drewN' | with_reducible apply below_drew | with_reducible apply below_allocs | (with_reducible refine below_setA ?_ _ _ (by dsimp only; omega))))
                    exact B3.out
                · have hdt : decide (r < s.size ∧ bat s r = 45) = false := decide_eq_false d
                  have hF : itemF s p q = (x, x, r, 0, 0) := by unfold itemF; rw [EY.out]; dsimp only; rw [if_pos rfl, if_neg d]
                  go_wp2
                  go_meet
                  exact ⟨r, x, rfl, rfl, hx256, hon', hnx.2, hF, by (repeat (first | with_reducible exact Below.refl _ _ | with_reducible apply below_drewN' | with_reducible apply below_drew | with_reducible apply below_allocs | (with_reducible refine below_setA ?_ _ _ (by dsimp only; omega)))); exact B3.out, heap_keep G1.out, heap_keep G2.out, heap_keep G3.out⟩
               case rest =>
                obtain ⟨rn, y, rfl, rfl, hy256, hqr, hrn, hF, hQB, hQC, hQF, hQS⟩ := hcut
                have EE' := Lib.hid (itemsF_step (l := l) (k := k') hn hF)
                have QB0 := Lib.hid hQB; have QC0 := Lib.hid hQC; have QF0 := Lib.hid hQF; have QS0 := Lib.hid hQS; have hzs := heap_lt hQS
                clear hQB hQC hQF hQS hF
                go_wp2
                go_loopw [15] (fun v wq => ∃ m : Nat, x ≤ m ∧ m ≤ 256 ∧ (m ≤ y + 1 ∨ m = x) ∧ v = .int .i64 (m : Int) ∧ Below w.heap.size w wq ∧ wq.heap[w.heap.size]? = some (.cells #[.int .u64 0, .int .u64 0, .int .u64 0, .int .u64 0] 26 (0, 0)) ∧ wq.heap[w.heap.size + 1]? = some (.cells #[.int .i64 0, .int .i64 0] 35 (0, 0)) ∧
                 wq.heap[w.heap.size + 2]? = some (.cells (setCells fun j => inRanges l j || (decide (x ≤ j) && decide (j < m))) 84 (0, 0))) (fun v _ => 256 - (intOf v).toNat)
                case atStart =>
                 refine ⟨x, by omega, by omega, .inr rfl, by first | rfl | (go_simp; done), ?_, ?_, ?_, ?_⟩
                 · exact QB0.out
                 · exact QC0.out
                 · exact QF0.out
                 · rw [rngs_none]; exact QS0.out
                case round =>
                 obtain ⟨m, hm1, hm2, hm3, rfl, qB, q1, q2, q3⟩ := hrel
                 have f3 := frozen_of_row _ _ m _ _ q3
                 have e3 : wr.cell? ⟨w.heap.size + 2, m, none⟩ = some (.bool (inRanges l m || (decide (x ≤ m) && decide (m < m)))) ∨ ¬ m < 256 := by
                  by_cases q : m < 256
                  · left; rw [cell_of_row _ _ _ _ _ _ q3, setCells_at _ _ q]
                  · right; exact q
                 have Q1 := Lib.hid q1; have Q2 := Lib.hid q2; have Q3 := Lib.hid q3; have QB := Lib.hid qB; have H3 := Lib.hid hm3; clear q1 q2 q3 qB hm3
                 by_cases hle : m ≤ y
                 · have e4 := e3.resolve_right (by omega)
                   clear e3
                   go_wp2
                   go_roundw
                   case rel =>
                    refine ⟨m + 1, by omega, by omega, .inl (by omega), by go_num, QB.out.setCell (by dsimp only; omega) _, heap_other (by dsimp only; omega) Q1.out, heap_other (by dsimp only; omega) Q2.out, ?_⟩
                    rw [heap_put Q3.out, rngs_put _ _ _ hm1]
                   case measure => simp [intOf]; omega
                 · clear e3 f3
                   go_wp2
                   go_roundw
                   case rel =>
                    exact ⟨k', rn, l ++ [(x, y)], by first | rfl | (go_simp; done), by omega, by omega, EE'.out.symm.trans EE.out, QB.out, Q1.out, Q2.out, by rw [Q3.out, rngs_done l x y m (by omega) H3.out]⟩
                   case measure => simp [intOf]; omega
            · have hF : itemF s p q = (x, x, r, q, c) := by unfold itemF; rw [EY.out]; dsimp only; rw [if_neg hc, plc_say hc41 hc]
              have HF := Lib.hid (HI.out.trans (parseF_bad ⟨hlt, H9.out⟩ HQ.out ((HT.out.symm.trans EE.out.symm).trans (itemsF_bad hn hF hc)) hc))
              go_wp2_with (go_at_call 62; refine (said_f s hsb q hq _ ES.out).mono ?_; rintro e w3 ⟨rfl, hb3⟩; rw [if_neg hc, if_neg hc]; have B3 := Lib.hid (EB.out.trans (hb3.mono EB.out.size)); have g1 := heap_same hb3 E1.out; have g2 := heap_same hb3 E2.out; have hz3 := heap_lt (heap_same hb3 E3.out); obtain ⟨n0, n1, n2, n3⟩ := two_cells (heap_new w3 (.cells #[.int .i64 (q : Int), .int .i64 (c : Int)] 35 (0, 0))); have g3 := heap_keep (o := .cells #[.int .i64 (q : Int), .int .i64 (c : Int)] 35 (0, 0)) g1; have g4 := heap_keep (o := .cells #[.int .i64 (q : Int), .int .i64 (c : Int)] 35 (0, 0)) g2; obtain ⟨⟨c0, c1, c2, c3⟩, c4, c5, c6, c7⟩ := four_cells g3; obtain ⟨d0, d1, d2, d3⟩ := two_cells g4; clear hb3)
              go_region
              go_wp2
              refine bodyPost_ret (v := .tuple #[.agg #[.int .u64 0, .int .u64 0, .int .u64 0, .int .u64 0], .int .i64 0, .agg #[.int .i64 (q : Int), .int .i64 (c : Int)]]) (by simp [results, Try.results48, go_sem, c0, c1, c2, c3, d0, d1]) rfl (prs_mk HF.out rfl rfl rfl rfl rfl rfl rfl ?_)
              (repeat (first | with_reducible exact Below.refl _ _ | with_reducible apply below_drewN' | with_reducible apply below_drew | with_reducible apply below_allocs | (with_reducible refine below_setA ?_ _ _ (by dsimp only; omega))))
              exact B3.out
        · have hn : ¬ (q < s.size ∧ bat s q = 93) := fun h => hq h.1
          have hF : itemF s p q = (0, 0, q, p, 41) := by unfold itemF; rw [byteF_end hq]; rfl
          have HF := Lib.hid (HI.out.trans (parseF_bad ⟨hlt, H9.out⟩ HQ.out ((HT.out.symm.trans EE.out.symm).trans (itemsF_bad hn hF (by decide))) (by decide)))
          obtain ⟨⟨c0, c1, c2, c3⟩, c4, c5, c6, c7⟩ := four_cells E1.out
          obtain ⟨d0, d1, d2, d3⟩ := two_cells E2.out
          go_wp2
          refine bodyPost_ret (v := .tuple #[.agg #[.int .u64 0, .int .u64 0, .int .u64 0, .int .u64 0], .int .i64 0, .agg #[.int .i64 (p : Int), .int .i64 41]]) (by simp [results, Try.results48, go_sem, c0, c1, c2, c3, d0, d1]) rfl (prs_mk HF.out rfl rfl rfl rfl rfl rfl rfl ?_)
          (repeat (first | with_reducible exact Below.refl _ _ | with_reducible apply below_drewN' | with_reducible apply below_drew | with_reducible apply below_allocs | (with_reducible refine below_setA ?_ _ _ (by dsimp only; omega))))
          exact EB.out
   · have HF : Hid (parseI s (p : Int) = (Cls.none, 0, p, 30)) := Lib.hid (by rw [hI]; exact parseF_no h91)
     go_enter Try.func48, Try.ntmps48
     by_cases hlt : p < s.size
     · have h9' : ¬ bat s p = 91 := fun q => h91 ⟨hlt, q⟩
       have h9 : ¬ ((bat s p : Nat) : Int) = 91 := by omega
       have h9b : (((bat s p : Nat) : Int) != 91) = true := by simp; omega
       have hb' := hb hlt
       have hz0 : (0 : Int) ≤ (p : Int) ∧ (p : Int) < (s.size : Int) := ⟨by omega, by omega⟩
       go_wp2
       refine bodyPost_ret (v := .tuple #[.agg #[.int .u64 0, .int .u64 0, .int .u64 0, .int .u64 0], .int .i64 0, .agg #[.int .i64 (p : Int), .int .i64 30]]) (by simp [results, Try.results48, go_sem]) rfl (prs_mk HF.out rfl rfl rfl rfl rfl rfl rfl ?_)
       (repeat (first | with_reducible exact Below.refl _ _ | with_reducible apply below_drewN' | with_reducible apply below_drew | with_reducible apply below_allocs | (with_reducible refine below_setA ?_ _ _ (by dsimp only; omega))))
     · have hpe : p = s.size := by omega
       subst hpe
       go_wp2
       refine bodyPost_ret (v := .tuple #[.agg #[.int .u64 0, .int .u64 0, .int .u64 0, .int .u64 0], .int .i64 0, .agg #[.int .i64 (s.size : Int), .int .i64 30]]) (by simp [results, Try.results48, go_sem]) rfl (prs_mk HF.out rfl rfl rfl rfl rfl rfl rfl ?_)
       (repeat (first | with_reducible exact Below.refl _ _ | with_reducible apply below_drewN' | with_reducible apply below_drew | with_reducible apply below_allocs | (with_reducible refine below_setA ?_ _ _ (by dsimp only; omega))))
end Go.Proofs.Ytldjdcdoegjmoaa

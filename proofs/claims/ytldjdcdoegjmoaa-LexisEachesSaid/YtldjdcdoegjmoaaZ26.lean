import Derived.Sort.CutIn
import Derived.Test.YtldjdcdoegjmoaaZ25
set_option linter.unusedVariables false
set_option linter.unusedSimpArgs false
namespace Go.Proofs.Ytldjdcdoegjmoaa
open Go.RowKit Go.Shelf
attribute [local go_sem] Oper.semAt_some run_store_func eql_func_nil
attribute [local go_sem high] neq28_run neq31_run
set_option maxRecDepth 100000 in
set_option maxHeartbeats 4000000 in
theorem walked_in (n : Nat) (hn : 8 ≤ n) (s : ByteArray) (hs : s.size ≤ P.bnd) (stop inner depth : Int) (hst : -9223372036854775808 ≤ stop ∧ stop ≤ 9223372036854775807) (w : World)
 (hrec : depth = 0 → ∀ W, Calls Try.prog 13 #[.string s, .int .i64 (-1), .int .i64 (-1), .int .i64 1] W fun e W' => e = .returned (.bool true) ∧ Below W.heap.size W W') :
 CallsIn Fence.wide n Try.prog 13 #[.string s, .int .i64 stop, .int .i64 inner, .int .i64 depth] w fun e W' => e = .returned (.bool true) ∧ Below w.heap.size w W' := by
 have h1 : 1 ≤ n := by omega
 have hgl := goods_len s
 obtain ⟨N, hN⟩ : ∃ N, N = if flt2 s = 0 then (goods s).length else (goods s).length + 1 := ⟨_, rfl⟩
 have HNN := Lib.hid hN; have HREC := Lib.hid hrec; have HST := Lib.hid hst; clear hN hrec hst
 refine callsIn_of_wp_marks Try.func13 rfl trivial ?_ rfl
 simp only [Try.ntmps13, List.size_toArray, List.length_cons, List.length_nil, Nat.reduceAdd, Nat.reduceSub, Array.replicate_succ, Array.replicate_zero, List.push_toArray, List.append_toArray, List.nil_append, List.cons_append]
 gi_upto_if 25 with (refine ⟨trivial, ?_⟩; gi_at_call 26; refine (callsIn_wide.2 (refTok_c s hs _)).mono ?_; rintro e w1 ⟨A, c, rfl, hrd, hb1⟩; have hlt1 : w.heap.size + 1 + 1 + 1 + 1 < w1.heap.size := (by have := hb1.size; simp at this; omega); have hlt0 : w.heap.size < w1.heap.size := (by omega); have ht1 : w1.cell? ⟨w.heap.size, 0, none⟩ = some (.string s) := (show Boxed w1 w.heap.size 9 (.string s) from heap_same hb1 (heap_keep (heap_keep (heap_keep (heap_keep (heap_new w _)))))).cell; have HRD := Lib.hid hrd; have HB1 := Lib.hid hb1; clear hrd hb1)
 gi_cut [] from 24 (fun wx => wx = ((((w1.alloc (.cells #[.slice A (goods s).length c] 45)).alloc (.cells #[.int .i64 (flt1 s), .int .i64 (flt2 s)] 35)).alloc (.cells #[.int .i64 0] 3)).alloc (.cells #[.int .i64 (N : Int)] 3)))
 case first =>
  by_cases hf : flt2 s = 0
  · have hc0 : (flt2 s == 0) = true := by rw [hf]; rfl
    have hc1 : (flt2 s != 0) = false := by rw [hf]; rfl
    have HF := Lib.hid hf; clear hf
    gi_wp2_with fail
    gi_meet
    rw [HNN.out, if_pos HF.out]
  · have hc0 : (flt2 s == 0) = false := by rw [beq_eq_false_iff_ne]; exact hf
    have hc1 : (flt2 s != 0) = true := by rw [bne, hc0]; rfl
    have HF := Lib.hid hf; clear hf
    gi_wp2_with fail
    gi_meet
    rw [HNN.out, if_neg HF.out]
    rfl
 case rest =>
 subst hcut
 have mt := cell_alloc (cell_alloc (cell_alloc (cell_alloc ht1 (.cells #[.slice A (goods s).length c] 45)) (.cells #[.int .i64 (flt1 s), .int .i64 (flt2 s)] 35)) (.cells #[.int .i64 0] 3)) (.cells #[.int .i64 (N : Int)] 3)
 gi_wp2_with (refine ⟨trivial, ?_⟩; gi_at_call 14; refine (lexEach_in (n - 1) s _).mono ?_; rintro e w' ⟨rfl, rfl⟩)
 have hS : WkS w s stop inner depth w1.heap.size N A c (((((w1.alloc (.cells #[.slice A (goods s).length c] 45)).alloc (.cells #[.int .i64 (flt1 s), .int .i64 (flt2 s)] 35)).alloc (.cells #[.int .i64 0] 3)).alloc (.cells #[.int .i64 (N : Int)] 3)).alloc (.cells #[.string s] 9)) := by
  have hsz := HB1.out.size
  simp only [World.size_alloc] at hsz
  have hk : ∀ {k : Nat} {x : Obj}, w1.heap[k]? = some x → (((((w1.alloc (.cells #[.slice A (goods s).length c] 45)).alloc (.cells #[.int .i64 (flt1 s), .int .i64 (flt2 s)] 35)).alloc (.cells #[.int .i64 0] 3)).alloc (.cells #[.int .i64 (N : Int)] 3)).alloc (.cells #[.string s] 9)).heap[k]? = some x := fun h => heap_keep (heap_keep (heap_keep (heap_keep (heap_keep h))))
  refine ⟨(((((((((((Below.refl _ w).alloc (Nat.le_refl _) _).alloc (by simp) _).alloc (by simp; omega) _).alloc (by simp; omega) _).alloc (by simp; omega) _).trans (HB1.out.mono (by simp; omega))).alloc (by omega) _).alloc (by simp; omega) _).alloc (by simp; omega) _).alloc (by simp; omega) _).alloc (by simp; omega) _, hk (heap_same HB1.out (heap_keep (heap_keep (heap_keep (heap_keep (heap_new w _)))))), hk (heap_same HB1.out (heap_keep (heap_keep (heap_keep (heap_new1 w _ _))))), hk (heap_same HB1.out (heap_keep (heap_keep (heap_new2 w _ _ _)))), hk (heap_same HB1.out (heap_keep (heap_new3 w _ _ _ _))), hk (heap_same HB1.out (heap_new4 w _ _ _ _ _)),
   heap_keep (heap_keep (heap_keep (heap_keep (heap_new _ _)))), heap_keep (heap_keep (heap_keep (heap_new1 _ _ _))), heap_keep (heap_new3 _ _ _ _ _), heap_new4 _ _ _ _ _ _, ?_⟩
  intro i t hi
  obtain ⟨g, e, hg, hc⟩ := HRD.out i t hi
  exact ⟨g, e, hg, fun j v hj => cell_alloc (cell_alloc (cell_alloc (cell_alloc (cell_alloc (hc j v hj) _) _) _) _) _⟩
 have hN0 : Boxed (((((w1.alloc (.cells #[.slice A (goods s).length c] 45)).alloc (.cells #[.int .i64 (flt1 s), .int .i64 (flt2 s)] 35)).alloc (.cells #[.int .i64 0] 3)).alloc (.cells #[.int .i64 (N : Int)] 3)).alloc (.cells #[.string s] 9)) (w1.heap.size + 1 + 1) 3 (.int .i64 0) := heap_keep (heap_keep (heap_new2 _ _ _ _))
 have hsz0 : (((((w1.alloc (.cells #[.slice A (goods s).length c] 45)).alloc (.cells #[.int .i64 (flt1 s), .int .i64 (flt2 s)] 35)).alloc (.cells #[.int .i64 0] 3)).alloc (.cells #[.int .i64 (N : Int)] 3)).alloc (.cells #[.string s] 9)).heap.size = w1.heap.size + 5 := by simp
 generalize (((((w1.alloc (.cells #[.slice A (goods s).length c] 45)).alloc (.cells #[.int .i64 (flt1 s), .int .i64 (flt2 s)] 35)).alloc (.cells #[.int .i64 0] 3)).alloc (.cells #[.int .i64 (N : Int)] 3)).alloc (.cells #[.string s] 9)) = W0 at hS hN0 hsz0 ⊢
 clear mt ht1 HRD
 generalize w1.heap.size = b at hS hN0 hsz0 hlt1 hlt0 ⊢
 clear HB1
 have hpl : (P.allE s 0).length = N := by
  rcases P.all_split s with ⟨h1, h2, _⟩ | ⟨L, p, c, h1, h2, h3, h4, _⟩
  · rw [HNN.out, if_pos (show flt2 s = 0 from h1)]; exact (congrArg List.length h2).symm
  · have h3' : goods s = L := h3
    rw [HNN.out, if_neg (show ¬ (P.fltE (P.allE s 0)).2 = 0 by rw [h4]; exact h1), h3', h2, List.length_append, List.length_singleton]
 have hN65 : N ≤ 65537 := by rw [← hpl]; exact P.allE_len s
 have HPL := Lib.hid hpl; clear hpl
 have hsz1 : b + 5 ≤ W0.heap.size := by omega
 clear hsz0
 refine wpIn_rangeFunc_ownH rfl h1 (gf := 27) (lb := #[.pointer (some ⟨b + 1 + 1 + 1 + 1, 0, none⟩)]) rfl trivial (enters_of Try.func27 (by kernel_rfl) rfl)
  (lexEach_stops (n - 1) (by omega) (b + 1 + 1 + 1 + 1) (b + 1 + 1) W0.heap.size s hs W0 (by omega) (by omega) (Nat.le_refl _) hS.ct (fun k ⟨v, h, h'⟩ => by rw [hN0.cell] at h; obtain rfl := Option.some.inj h; simp [Value.ownBlock] at h')) kpR_t (kpR_b (by omega)) (Below.refl _ _) (fun _ => rfl)
  (fun pre W => WkS w s stop inner depth b N A c W ∧ Boxed W (b + 1 + 1) 3 (.int .i64 (pre.length : Int)))
  (WkX w s) (OwnFrom.and (WkS.own (by omega)) (Own.from (boxed_own _ _ _) _)) (wkX_own (by omega)) ⟨hS, hN0⟩
  (fun x a' W => ∃ Bt, W.heap[Bt]? = some (.cells (tvals x).toArray 28 (0, 0)) ∧ W.heap[Bt + 1]? = some (.cells #[.int .i64 x.2.2.2.2.2.2.2.2.2.2.2.1, .int .i64 (P.codeOf x)] 31 (0, 0)) ∧ b + 5 ≤ Bt ∧
    a' = { tmps := #[.string s, .int .i64 stop, .int .i64 inner, .int .i64 depth, .pointer (some ⟨w.heap.size, 0, none⟩), .pointer (some ⟨w.heap.size + 1, 0, none⟩), .pointer (some ⟨w.heap.size + 1 + 1, 0, none⟩), .pointer (some ⟨w.heap.size + 1 + 1 + 1, 0, none⟩), .pointer (some ⟨w.heap.size + 1 + 1 + 1 + 1, 0, none⟩), .pointer (some ⟨b, 0, none⟩), .pointer (some ⟨b + 1, 0, none⟩), .pointer (some ⟨b + 1 + 1, 0, none⟩), .pointer (some ⟨b + 1 + 1 + 1, 0, none⟩), .func (.func 27) #[] #[.pointer (some ⟨b + 1 + 1 + 1 + 1, 0, none⟩)], .pointer (some ⟨Bt, 0, none⟩), .pointer (some ⟨Bt + 1, 0, none⟩), .tuple #[.slice A (goods s).length c, .agg #[.int .i64 (flt1 s), .int .i64 (flt2 s)]], .string s, .tuple #[.slice A (goods s).length c, .agg #[.int .i64 (flt1 s), .int .i64 (flt2 s)]], .slice A (goods s).length c, .agg #[.int .i64 (flt1 s), .int .i64 (flt2 s)], .slice A (goods s).length c, .int .i64 ((goods s).length : Int), .pointer (some ⟨b + 1, 1, none⟩), u24, u25, u26, u27, .string s, .func (.func 27) #[] #[.pointer (some ⟨b + 1 + 1 + 1 + 1, 0, none⟩)], .func (.func 27) #[] #[.pointer (some ⟨b + 1 + 1 + 1 + 1, 0, none⟩)], .bool false, .func (.func 27) #[] #[.pointer (some ⟨b + 1 + 1 + 1 + 1, 0, none⟩)], tokV x, fltV x, u35, u36, u37, u38, u39, u40, u41, u42, u43, u44, u45, u46, u47, u48, u49, u50, u51, u52, u53, u54, u55, u56, u57, u58, u59, u60, u61, u62, u63, u64, u65, u66, u67, u68, u69, u70, u71, u72, u73, u74, u75, u76, u77, u78, u79, u80, u81, u82, u83, u84, u85, u86, u87, u88, u89, u90, u91, u92], defers := [] })
  (fun x a' _ X Y row hs hg hr => by obtain ⟨Bt, h1, h2, h3, h4⟩ := hs; exact ⟨Bt, block_own2 (β := Unit) Bt _ _ () X Y row h1 hg (fun r e => (hr r e).2), block_own2 (β := Unit) (Bt + 1) _ _ () X Y row h2 hg (fun r e => (hr r e).2), h3, h4⟩)
  ?assign ?body ?done ?stop
 case assign =>
  rintro l pre ⟨k1, k2, k3, k4, k5, k6, k7, k8, k9, k10, k11, k12, k13⟩ W K hi hK
  have hlt := hi.2.lt
  have hsz := hi.1.bel.size
  have hlt4 := hi.1.ct.lt
  unfold tokV fltV
  dsimp only
  gi_wp2
  exact hK _ _ (((KeepsOthers.alloc _ _).trans (KeepsOthers.alloc _ _)).from _) (kpR_t (kpR_alloc hlt _) (kpR_alloc (by simp; omega) _)) ⟨(hi.1.below ((Below.refl _ _).alloc (Nat.le_refl _) _)).below ((Below.refl _ _).alloc (Nat.le_refl _) _), (hi.2.alloc _).alloc _⟩ ⟨W.heap.size, heap_keep (heap_new W _), heap_new1 W _ _, by omega, rfl⟩
 case body =>
  rintro l pre ⟨k1, k2, k3, k4, k5, k6, k7, k8, k9, k10, k11, k12, k13⟩ a' W hl ⟨r, hr⟩ ⟨hSS, hn1⟩ ⟨Bt, hT, hF, hBt, rfl⟩ hlt
  unfold tvals at hT
  dsimp only [P.codeOf] at hT hF
  have hnc := hn1.cell; have hnf := hn1.frozen; have hac := hSS.al.cell; have hrc := hSS.rs.cell; have hrf := hSS.rs.frozen
  have hlt' : (pre.length : Int) < (N : Int) := by have := HPL.out; omega
  have hplen : pre.length ≤ 65537 := by have := HPL.out; omega
  have HS := Lib.hid hSS; have HN := Lib.hid hn1; have HT := Lib.hid hT; have HFL := Lib.hid hF
  clear hSS hn1 hT hF
  have h1r : 1 ≤ n - 1 - 1 := by omega
  unfold tokV fltV
  dsimp only
  gi_wp2_with fail
  by_cases hlA : (pre.length : Int) < ((goods s).length : Int)
  · skip
    obtain ⟨⟨y1, y2, y3, y4, y5, y6, y7, y8, y9, y10, y11, y12, y13⟩, hy⟩ : ∃ y, (goods s)[pre.length]? = some y := ⟨_, List.getElem?_eq_getElem (by omega)⟩
    obtain ⟨g, hA, hg, hyc⟩ := HS.out.rd _ _ hy
    have hall : (P.allE s 0)[pre.length]? = some (y1, y2, y3, y4, y5, y6, y7, y8, y9, y10, y11, y12, y13) ∧ y12 = 0 ∧ y13 = 0 := by
     rcases P.all_split s with ⟨h1, h2, h3⟩ | ⟨L, p, q, h1, h2, h3, h4, h5⟩
     · have e : goods s = P.allE s 0 := h2
       rw [e] at hy
       have := h3 _ (List.mem_of_getElem? hy)
       exact ⟨hy, this.2, this.1⟩
     · have e : goods s = L := h3
       rw [e] at hy
       have := h5 _ (List.mem_of_getElem? hy)
       exact ⟨by rw [h2]; exact List.getElem?_append_left (List.getElem?_eq_some_iff.1 hy).1 ▸ hy, this.2, this.1⟩
    subst hA
    obtain ⟨hall, rfl, rfl⟩ := hall
    obtain ⟨c1, hc1⟩ : ∃ c1, neqTok (k1, k2, k3, k4, k5, k6, k7, k8, k9, k10, k11, 0, 0) (y1, y2, y3, y4, y5, y6, y7, y8, y9, y10, y11, 0, 0) = c1 := ⟨_, rfl⟩
    obtain ⟨c2, hc2⟩ : ∃ c2, neqFlt k12 k13 0 0 = c2 := ⟨_, rfl⟩
    have hno : (c1 || c2) = true → ¬ pre ++ [((k1, k2, k3, k4, k5, k6, k7, k8, k9, k10, k11, k12, k13) : TV)] <+: P.allE s 0 := fun h hp => by
     have e := (P.pre_at hp).symm.trans hall
     simp only [Option.some.injEq, Prod.mk.injEq] at e
     obtain ⟨rfl, rfl, rfl, rfl, rfl, rfl, rfl, rfl, rfl, rfl, rfl, rfl, rfl⟩ := e
     rw [neqTok_self] at hc1
     subst hc1
     have : c2 = false := by rw [← hc2]; rfl
     rw [this] at h
     cases h
    have HNO := Lib.hid hno; have HALL := Lib.hid hall; have HYC := Lib.hid hyc; have HYY := Lib.hid hy
    clear hno hall hyc hy
    have hlA2 : pre.length < (goods s).length := by omega
    obtain ⟨VV, hVV⟩ : ∃ VV : Nat → Value → Prop, VV = (fun i v => v = WkA c1 c2 pre.length (goods s).length (.slice (some ⟨g, 0, none⟩) (goods s).length c) (.agg #[.int .i64 k1, .int .i64 k2, .int .i64 k3, .string k4, .bool k5, .int .u64 k6, .int .u64 k7, .int .u64 k8, .int .u64 k9, .int .i64 k10, .int .i64 k11]) (.agg #[.int .i64 y1, .int .i64 y2, .int .i64 y3, .string y4, .bool y5, .int .u64 y6, .int .u64 y7, .int .u64 y8, .int .u64 y9, .int .i64 y10, .int .i64 y11]) (.agg #[.int .i64 k12, .int .i64 k13]) undef (.pointer (some ⟨g, pre.length * 11, none⟩)) i) := ⟨_, rfl⟩
    have HNE := Lib.hid (show ¬ (pre.length : Int) = ((goods s).length : Int) by omega)
    cases c1 <;> cases c2
    all_goals
     have hgl2 : g < b := hg
     refine wpIn_region_vals (by kernel_rfl) (by kernel_rfl) (by kernel_rfl) (by kernel_rfl) (fun W' => Below W.heap.size W W') VV ((Below.refl _ _).drew) ?hs ?hq
     case hs =>
      subst hVV
      intro i o ho a w hJ hl
      have hi : i < 34 := (Array.getElem?_eq_some_iff.1 ho).1
      by_cases q17 : i < 17
      ·
       by_cases q8 : i < 8
       ·
        by_cases q4 : i < 4
        ·
         by_cases q2 : i < 2
         ·
          by_cases q1 : i < 1
          ·
           obtain rfl : i = 0 := by omega
           obtain rfl := Option.some.inj ho
           have x11 := hl.free 11 (by kernel_rfl); dsimp only at x11
           have lc := (show Boxed w (b + 1 + 1) 3 (.int .i64 (pre.length : Int)) from heap_same hJ HN.out).cell
           refine stIn_list rfl rfl ?_
           refine stIn_run (fun _ => trivial) (by intro c h; cases h) ?_ ⟨_, rfl, rfl, hJ⟩; dsimp only [WkA, cond, not]; go_simp
          ·
           obtain rfl : i = 1 := by omega
           obtain rfl := Option.some.inj ho
           have x9 := hl.free 9 (by kernel_rfl); dsimp only at x9
           have lc := (show Boxed w b 45 (.slice _ (goods s).length c) from heap_same hJ HS.out.li).cell
           refine stIn_list rfl rfl ?_
           refine stIn_run (fun _ => trivial) (by intro c h; cases h) ?_ ⟨_, rfl, rfl, hJ⟩; dsimp only [WkA, cond, not]; go_simp
         ·
          by_cases q3 : i < 3
          ·
           obtain rfl : i = 2 := by omega
           obtain rfl := Option.some.inj ho
           obtain ⟨v39, z39, e39⟩ := hl.dep 1 39 (by kernel_rfl) (by kernel_rfl)
           have x39 := z39.trans e39; clear e39 z39; dsimp only [WkA, cond, not] at x39
           refine stIn_list rfl rfl ?_
           refine stIn_run (fun _ => trivial) (by intro c h; cases h) ?_ ⟨_, rfl, rfl, hJ⟩; dsimp only [WkA, cond, not]; go_simp
          ·
           obtain rfl : i = 3 := by omega
           obtain rfl := Option.some.inj ho
           obtain ⟨v38, z38, e38⟩ := hl.dep 0 38 (by kernel_rfl) (by kernel_rfl)
           have x38 := z38.trans e38; clear e38 z38; dsimp only [WkA, cond, not] at x38
           obtain ⟨v40, z40, e40⟩ := hl.dep 2 40 (by kernel_rfl) (by kernel_rfl)
           have x40 := z40.trans e40; clear e40 z40; dsimp only [WkA, cond, not] at x40
           refine stIn_list rfl rfl ?_
           refine stIn_run (fun _ => trivial) (by intro c h; cases h) ?_ ⟨_, rfl, rfl, hJ⟩; dsimp only [WkA, cond, not]; go_simp
        ·
         by_cases q6 : i < 6
         ·
          by_cases q5 : i < 5
          ·
           obtain rfl : i = 4 := by omega
           obtain rfl := Option.some.inj ho
           obtain ⟨v41, z41, e41⟩ := hl.dep 3 41 (by kernel_rfl) (by kernel_rfl)
           have x41 := z41.trans e41; clear e41 z41; dsimp only [WkA, cond, not] at x41
           refine stIn_list rfl rfl ?_
           refine stIn_run (fun _ => trivial) (by intro c h; cases h) ?_ ⟨_, rfl, rfl, hJ⟩; dsimp only [WkA, cond, not]; go_simp
          ·
           obtain rfl : i = 5 := by omega
           obtain rfl := Option.some.inj ho
           have x14 := hl.free 14 (by kernel_rfl); dsimp only at x14
           obtain ⟨a0, a1, a2, a3, a4, a5, a6, a7, a8, a9, a10⟩ := eleven_cells (heap_same hJ HT.out)
           (refine stIn_wanted rfl (hl.wanted 4 42 true rfl (by kernel_rfl) (by kernel_rfl) (fun v h => h)) ?_; refine stIn_run (fun _ => trivial) (by intro c h; cases h) ?_ ⟨_, rfl, rfl, hJ⟩; dsimp only [WkA, cond, not]; go_simp)
         ·
          by_cases q7 : i < 7
          ·
           obtain rfl : i = 6 := by omega
           obtain rfl := Option.some.inj ho
           have x9 := hl.free 9 (by kernel_rfl); dsimp only at x9
           have lc := (show Boxed w b 45 (.slice _ (goods s).length c) from heap_same hJ HS.out.li).cell
           (refine stIn_wanted rfl (hl.wanted 4 42 true rfl (by kernel_rfl) (by kernel_rfl) (fun v h => h)) ?_; refine stIn_run (fun _ => trivial) (by intro c h; cases h) ?_ ⟨_, rfl, rfl, hJ⟩; dsimp only [WkA, cond, not]; go_simp)
          ·
           obtain rfl : i = 7 := by omega
           obtain rfl := Option.some.inj ho
           have x11 := hl.free 11 (by kernel_rfl); dsimp only at x11
           have lc := (show Boxed w (b + 1 + 1) 3 (.int .i64 (pre.length : Int)) from heap_same hJ HN.out).cell
           (refine stIn_wanted rfl (hl.wanted 4 42 true rfl (by kernel_rfl) (by kernel_rfl) (fun v h => h)) ?_; refine stIn_run (fun _ => trivial) (by intro c h; cases h) ?_ ⟨_, rfl, rfl, hJ⟩; dsimp only [WkA, cond, not]; go_simp)
       ·
        by_cases q12 : i < 12
        ·
         by_cases q10 : i < 10
         ·
          by_cases q9 : i < 9
          ·
           obtain rfl : i = 8 := by omega
           obtain rfl := Option.some.inj ho
           obtain ⟨v44, z44, e44⟩ := hl.dep 6 44 (by kernel_rfl) (by kernel_rfl)
           have x44 := z44.trans e44; clear e44 z44; dsimp only [WkA, cond, not] at x44
           obtain ⟨v45, z45, e45⟩ := hl.dep 7 45 (by kernel_rfl) (by kernel_rfl)
           have x45 := z45.trans e45; clear e45 z45; dsimp only [WkA, cond, not] at x45
           (refine stIn_wanted rfl (hl.wanted 4 42 true rfl (by kernel_rfl) (by kernel_rfl) (fun v h => h)) ?_; refine stIn_run (fun _ => trivial) (by intro c h; cases h) ?_ ⟨_, rfl, rfl, hJ⟩; dsimp only [WkA, cond, not]; go_simp)
          ·
           obtain rfl : i = 9 := by omega
           obtain rfl := Option.some.inj ho
           obtain ⟨v46, z46, e46⟩ := hl.dep 8 46 (by kernel_rfl) (by kernel_rfl)
           have x46 := z46.trans e46; clear e46 z46; dsimp only [WkA, cond, not] at x46
           have y0 := cell_same hJ (HYC.out 0 _ rfl); rw [Nat.add_zero] at y0; have y1 := cell_same hJ (HYC.out 1 _ rfl); have y2 := cell_same hJ (HYC.out 2 _ rfl); have y3 := cell_same hJ (HYC.out 3 _ rfl); have y4 := cell_same hJ (HYC.out 4 _ rfl); have y5 := cell_same hJ (HYC.out 5 _ rfl); have y6 := cell_same hJ (HYC.out 6 _ rfl); have y7 := cell_same hJ (HYC.out 7 _ rfl); have y8 := cell_same hJ (HYC.out 8 _ rfl); have y9 := cell_same hJ (HYC.out 9 _ rfl); have y10 := cell_same hJ (HYC.out 10 _ rfl)
           (refine stIn_wanted rfl (hl.wanted 4 42 true rfl (by kernel_rfl) (by kernel_rfl) (fun v h => h)) ?_; refine stIn_run (fun _ => trivial) (by intro c h; cases h) ?_ ⟨_, rfl, rfl, hJ⟩; dsimp only [WkA, cond, not]; go_simp)
         ·
          by_cases q11 : i < 11
          ·
           obtain rfl : i = 10 := by omega
           obtain rfl := Option.some.inj ho
           obtain ⟨v43, z43, e43⟩ := hl.dep 5 43 (by kernel_rfl) (by kernel_rfl)
           have x43 := z43.trans e43; clear e43 z43; dsimp only [WkA, cond, not] at x43
           obtain ⟨v47, z47, e47⟩ := hl.dep 9 47 (by kernel_rfl) (by kernel_rfl)
           have x47 := z47.trans e47; clear e47 z47; dsimp only [WkA, cond, not] at x47
           (refine stIn_wanted rfl (hl.wanted 4 42 true rfl (by kernel_rfl) (by kernel_rfl) (fun v h => h)) ?_; refine stIn_run (fun _ => trivial) (by intro c h; cases h) ?_ ⟨_, rfl, rfl, hJ⟩; dsimp only [WkA, cond, not]; go_simp)
          ·
           obtain rfl : i = 11 := by omega
           obtain rfl := Option.some.inj ho
           obtain ⟨v48, z48, e48⟩ := hl.dep 10 48 (by kernel_rfl) (by kernel_rfl)
           have x48 := z48.trans e48; clear e48 z48; dsimp only [WkA, cond, not] at x48
           (refine stIn_wanted rfl (hl.wanted 4 42 true rfl (by kernel_rfl) (by kernel_rfl) (fun v h => h)) ?_; refine stIn_run (fun _ => trivial) (by intro c h; cases h) ?_ ⟨_, rfl, rfl, hJ⟩; dsimp only [WkA, cond, not]; go_simp)
        ·
         by_cases q14 : i < 14
         ·
          by_cases q13 : i < 13
          ·
           obtain rfl : i = 12 := by omega
           obtain rfl := Option.some.inj ho
           have x15 := hl.free 15 (by kernel_rfl); dsimp only at x15
           obtain ⟨b0, b1, d0, d1⟩ := two_cells (heap_same hJ HFL.out)
           first
           | exact stIn_skip (fun _ => trivial) rfl (hl.unwanted 11 49 false rfl (by kernel_rfl) (by kernel_rfl) _ (fun v h => h) (by simp [WkA, undef])) ⟨_, rfl, rfl, hJ⟩
           | (refine stIn_wanted rfl (hl.wanted 11 49 false rfl (by kernel_rfl) (by kernel_rfl) (fun v h => h)) ?_; refine stIn_run (fun _ => trivial) (by intro c h; cases h) ?_ ⟨_, rfl, rfl, hJ⟩; dsimp only [WkA, cond, not]; go_simp)
          ·
           obtain rfl : i = 13 := by omega
           obtain rfl := Option.some.inj ho
           first
           | exact stIn_skip (fun _ => trivial) rfl (hl.unwanted 11 49 false rfl (by kernel_rfl) (by kernel_rfl) _ (fun v h => h) (by simp [WkA, undef])) ⟨_, rfl, rfl, hJ⟩
           | (refine stIn_wanted rfl (hl.wanted 11 49 false rfl (by kernel_rfl) (by kernel_rfl) (fun v h => h)) ?_; refine stIn_run (fun _ => trivial) (by intro c h; cases h) ?_ ⟨_, rfl, rfl, hJ⟩; dsimp only [WkA, cond, not]; go_simp)
         ·
          by_cases q15 : i < 15
          ·
           obtain rfl : i = 14 := by omega
           obtain rfl := Option.some.inj ho
           obtain ⟨v50, z50, e50⟩ := hl.dep 12 50 (by kernel_rfl) (by kernel_rfl)
           have x50 := z50.trans e50; clear e50 z50; dsimp only [WkA, cond, not] at x50
           obtain ⟨v51, z51, e51⟩ := hl.dep 13 51 (by kernel_rfl) (by kernel_rfl)
           have x51 := z51.trans e51; clear e51 z51; dsimp only [WkA, cond, not] at x51
           first
           | exact stIn_skip (fun _ => trivial) rfl (hl.unwanted 11 49 false rfl (by kernel_rfl) (by kernel_rfl) _ (fun v h => h) (by simp [WkA, undef])) ⟨_, rfl, rfl, hJ⟩
           | (refine stIn_wanted rfl (hl.wanted 11 49 false rfl (by kernel_rfl) (by kernel_rfl) (fun v h => h)) ?_; refine stIn_run (fun _ => trivial) (by intro c h; cases h) ?_ ⟨_, rfl, rfl, hJ⟩; dsimp only [WkA, cond, not]; go_simp)
          ·
           by_cases q16 : i < 16
           ·
            obtain rfl : i = 15 := by omega
            obtain rfl := Option.some.inj ho
            obtain ⟨v49, z49, e49⟩ := hl.dep 11 49 (by kernel_rfl) (by kernel_rfl)
            have x49 := z49.trans e49; clear e49 z49; dsimp only [WkA, cond, not] at x49
            obtain ⟨v52, z52, e52⟩ := hl.dep 14 52 (by kernel_rfl) (by kernel_rfl)
            have x52 := z52.trans e52; clear e52 z52; dsimp only [WkA, cond, not] at x52
            (refine stIn_wanted rfl (hl.wanted 4 42 true rfl (by kernel_rfl) (by kernel_rfl) (fun v h => h)) ?_; refine stIn_run (fun _ => trivial) (by intro c h; cases h) ?_ ⟨_, rfl, rfl, hJ⟩; dsimp only [WkA, cond, not]; go_simp)
           ·
            obtain rfl : i = 16 := by omega
            obtain rfl := Option.some.inj ho
            obtain ⟨v42, z42, e42⟩ := hl.dep 4 42 (by kernel_rfl) (by kernel_rfl)
            have x42 := z42.trans e42; clear e42 z42; dsimp only [WkA, cond, not] at x42
            obtain ⟨v53, z53, e53⟩ := hl.dep 15 53 (by kernel_rfl) (by kernel_rfl)
            have x53 := z53.trans e53; clear e53 z53; dsimp only [WkA, cond, not] at x53
            refine stIn_list rfl rfl ?_
            refine stIn_run (fun _ => trivial) (by intro c h; cases h) ?_ ⟨_, rfl, rfl, hJ⟩; dsimp only [WkA, cond, not]; go_simp
      ·
       by_cases q25 : i < 25
       ·
        by_cases q21 : i < 21
        ·
         by_cases q19 : i < 19
         ·
          by_cases q18 : i < 18
          ·
           obtain rfl : i = 17 := by omega
           obtain rfl := Option.some.inj ho
           obtain ⟨v54, z54, e54⟩ := hl.dep 16 54 (by kernel_rfl) (by kernel_rfl)
           have x54 := z54.trans e54; clear e54 z54; dsimp only [WkA, cond, not] at x54
           refine stIn_list rfl rfl ?_
           refine stIn_run (fun _ => trivial) (by intro c h; cases h) ?_ ⟨_, rfl, rfl, hJ⟩; dsimp only [WkA, cond, not]; go_simp
          ·
           obtain rfl : i = 18 := by omega
           obtain rfl := Option.some.inj ho
           have x11 := hl.free 11 (by kernel_rfl); dsimp only at x11
           have lc := (show Boxed w (b + 1 + 1) 3 (.int .i64 (pre.length : Int)) from heap_same hJ HN.out).cell
           first
           | exact stIn_skip (fun _ => trivial) rfl (hl.unwanted 17 55 false rfl (by kernel_rfl) (by kernel_rfl) _ (fun v h => h) (by simp [WkA, undef])) ⟨_, rfl, rfl, hJ⟩
           | (refine stIn_wanted rfl (hl.wanted 17 55 false rfl (by kernel_rfl) (by kernel_rfl) (fun v h => h)) ?_; refine stIn_run (fun _ => trivial) (by intro c h; cases h) ?_ ⟨_, rfl, rfl, hJ⟩; dsimp only [WkA, cond, not]; go_simp)
         ·
          by_cases q20 : i < 20
          ·
           obtain rfl : i = 19 := by omega
           obtain rfl := Option.some.inj ho
           have x9 := hl.free 9 (by kernel_rfl); dsimp only at x9
           have lc := (show Boxed w b 45 (.slice _ (goods s).length c) from heap_same hJ HS.out.li).cell
           first
           | exact stIn_skip (fun _ => trivial) rfl (hl.unwanted 17 55 false rfl (by kernel_rfl) (by kernel_rfl) _ (fun v h => h) (by simp [WkA, undef])) ⟨_, rfl, rfl, hJ⟩
           | (refine stIn_wanted rfl (hl.wanted 17 55 false rfl (by kernel_rfl) (by kernel_rfl) (fun v h => h)) ?_; refine stIn_run (fun _ => trivial) (by intro c h; cases h) ?_ ⟨_, rfl, rfl, hJ⟩; dsimp only [WkA, cond, not]; go_simp)
          ·
           obtain rfl : i = 20 := by omega
           obtain rfl := Option.some.inj ho
           obtain ⟨v57, z57, e57⟩ := hl.dep 19 57 (by kernel_rfl) (by kernel_rfl)
           have x57 := z57.trans e57; clear e57 z57; dsimp only [WkA, cond, not] at x57
           first
           | exact stIn_skip (fun _ => trivial) rfl (hl.unwanted 17 55 false rfl (by kernel_rfl) (by kernel_rfl) _ (fun v h => h) (by simp [WkA, undef])) ⟨_, rfl, rfl, hJ⟩
           | (refine stIn_wanted rfl (hl.wanted 17 55 false rfl (by kernel_rfl) (by kernel_rfl) (fun v h => h)) ?_; refine stIn_run (fun _ => trivial) (by intro c h; cases h) ?_ ⟨_, rfl, rfl, hJ⟩; dsimp only [WkA, cond, not]; go_simp)
        ·
         by_cases q23 : i < 23
         ·
          by_cases q22 : i < 22
          ·
           obtain rfl : i = 21 := by omega
           obtain rfl := Option.some.inj ho
           obtain ⟨v56, z56, e56⟩ := hl.dep 18 56 (by kernel_rfl) (by kernel_rfl)
           have x56 := z56.trans e56; clear e56 z56; dsimp only [WkA, cond, not] at x56
           obtain ⟨v58, z58, e58⟩ := hl.dep 20 58 (by kernel_rfl) (by kernel_rfl)
           have x58 := z58.trans e58; clear e58 z58; dsimp only [WkA, cond, not] at x58
           have hne := HNE.out
           first
           | exact stIn_skip (fun _ => trivial) rfl (hl.unwanted 17 55 false rfl (by kernel_rfl) (by kernel_rfl) _ (fun v h => h) (by simp [WkA, undef])) ⟨_, rfl, rfl, hJ⟩
           | (refine stIn_wanted rfl (hl.wanted 17 55 false rfl (by kernel_rfl) (by kernel_rfl) (fun v h => h)) ?_; refine stIn_run (fun _ => trivial) (by intro c h; cases h) ?_ ⟨_, rfl, rfl, hJ⟩; dsimp only [WkA, cond, not]; go_simp)
          ·
           obtain rfl : i = 22 := by omega
           obtain rfl := Option.some.inj ho
           obtain ⟨v59, z59, e59⟩ := hl.dep 21 59 (by kernel_rfl) (by kernel_rfl)
           have x59 := z59.trans e59; clear e59 z59; dsimp only [WkA, cond, not] at x59
           first
           | exact stIn_skip (fun _ => trivial) rfl (hl.unwanted 17 55 false rfl (by kernel_rfl) (by kernel_rfl) _ (fun v h => h) (by simp [WkA, undef])) ⟨_, rfl, rfl, hJ⟩
           | (refine stIn_wanted rfl (hl.wanted 17 55 false rfl (by kernel_rfl) (by kernel_rfl) (fun v h => h)) ?_; refine stIn_run (fun _ => trivial) (by intro c h; cases h) ?_ ⟨_, rfl, rfl, hJ⟩; dsimp only [WkA, cond, not]; go_simp)
         ·
          by_cases q24 : i < 24
          ·
           obtain rfl : i = 23 := by omega
           obtain rfl := Option.some.inj ho
           exact stIn_skip (fun _ => trivial) rfl (hl.unwanted 22 60 true rfl (by kernel_rfl) (by kernel_rfl) _ (fun v h => h) (by simp [WkA, undef])) ⟨_, rfl, rfl, hJ⟩
          ·
           obtain rfl : i = 24 := by omega
           obtain rfl := Option.some.inj ho
           exact stIn_skip (fun _ => trivial) rfl (hl.unwanted 22 60 true rfl (by kernel_rfl) (by kernel_rfl) _ (fun v h => h) (by simp [WkA, undef])) ⟨_, rfl, rfl, hJ⟩
       ·
        by_cases q29 : i < 29
        ·
         by_cases q27 : i < 27
         ·
          by_cases q26 : i < 26
          ·
           obtain rfl : i = 25 := by omega
           obtain rfl := Option.some.inj ho
           exact stIn_skip (fun _ => trivial) rfl (hl.unwanted 22 60 true rfl (by kernel_rfl) (by kernel_rfl) _ (fun v h => h) (by simp [WkA, undef])) ⟨_, rfl, rfl, hJ⟩
          ·
           obtain rfl : i = 26 := by omega
           obtain rfl := Option.some.inj ho
           exact stIn_skip (fun _ => trivial) rfl (hl.unwanted 22 60 true rfl (by kernel_rfl) (by kernel_rfl) _ (fun v h => h) (by simp [WkA, undef])) ⟨_, rfl, rfl, hJ⟩
         ·
          by_cases q28 : i < 28
          ·
           obtain rfl : i = 27 := by omega
           obtain rfl := Option.some.inj ho
           exact stIn_skip (fun _ => trivial) rfl (hl.unwanted 26 64 false rfl (by kernel_rfl) (by kernel_rfl) _ (fun v h => h) (by simp [WkA, undef])) ⟨_, rfl, rfl, hJ⟩
          ·
           obtain rfl : i = 28 := by omega
           obtain rfl := Option.some.inj ho
           exact stIn_skip (fun _ => trivial) rfl (hl.unwanted 26 64 false rfl (by kernel_rfl) (by kernel_rfl) _ (fun v h => h) (by simp [WkA, undef])) ⟨_, rfl, rfl, hJ⟩
        ·
         by_cases q31 : i < 31
         ·
          by_cases q30 : i < 30
          ·
           obtain rfl : i = 29 := by omega
           obtain rfl := Option.some.inj ho
           exact stIn_skip (fun _ => trivial) rfl (hl.unwanted 26 64 false rfl (by kernel_rfl) (by kernel_rfl) _ (fun v h => h) (by simp [WkA, undef])) ⟨_, rfl, rfl, hJ⟩
          ·
           obtain rfl : i = 30 := by omega
           obtain rfl := Option.some.inj ho
           exact stIn_skip (fun _ => trivial) rfl (hl.unwanted 26 64 false rfl (by kernel_rfl) (by kernel_rfl) _ (fun v h => h) (by simp [WkA, undef])) ⟨_, rfl, rfl, hJ⟩
         ·
          by_cases q32 : i < 32
          ·
           obtain rfl : i = 31 := by omega
           obtain rfl := Option.some.inj ho
           exact stIn_skip (fun _ => trivial) rfl (hl.unwanted 22 60 true rfl (by kernel_rfl) (by kernel_rfl) _ (fun v h => h) (by simp [WkA, undef])) ⟨_, rfl, rfl, hJ⟩
          ·
           by_cases q33 : i < 33
           ·
            obtain rfl : i = 32 := by omega
            obtain rfl := Option.some.inj ho
            obtain ⟨v60, z60, e60⟩ := hl.dep 22 60 (by kernel_rfl) (by kernel_rfl)
            have x60 := z60.trans e60; clear e60 z60; dsimp only [WkA, cond, not] at x60
            obtain ⟨v69, z69, e69⟩ := hl.dep 31 69 (by kernel_rfl) (by kernel_rfl)
            have x69 := z69.trans e69; clear e69 z69; dsimp only [WkA, cond, not] at x69
            first
            | exact stIn_skip (fun _ => trivial) rfl (hl.unwanted 17 55 false rfl (by kernel_rfl) (by kernel_rfl) _ (fun v h => h) (by simp [WkA, undef])) ⟨_, rfl, rfl, hJ⟩
            | (refine stIn_wanted rfl (hl.wanted 17 55 false rfl (by kernel_rfl) (by kernel_rfl) (fun v h => h)) ?_; refine stIn_run (fun _ => trivial) (by intro c h; cases h) ?_ ⟨_, rfl, rfl, hJ⟩; dsimp only [WkA, cond, not]; go_simp)
           ·
            obtain rfl : i = 33 := by omega
            obtain rfl := Option.some.inj ho
            obtain ⟨v55, z55, e55⟩ := hl.dep 17 55 (by kernel_rfl) (by kernel_rfl)
            have x55 := z55.trans e55; clear e55 z55; dsimp only [WkA, cond, not] at x55
            obtain ⟨v70, z70, e70⟩ := hl.dep 32 70 (by kernel_rfl) (by kernel_rfl)
            have x70 := z70.trans e70; clear e70 z70; dsimp only [WkA, cond, not] at x70
            refine stIn_list rfl rfl ?_
            refine stIn_run (fun _ => trivial) (by intro c h; cases h) ?_ ⟨_, rfl, rfl, hJ⟩; dsimp only [WkA, cond, not]; go_simp
     case hq =>
      subst hVV
      intro f W' hb hV
      have hSb := HS.out.below hb
      have hnb' := heap_same hb HN.out
      have hnb : Boxed W' (b + 1 + 1) 3 (.int .i64 (pre.length : Int)) := hnb'
      have hbs := hb.size
      have rnc := hnb.cell; have rnf := hnb.frozen; have rrc := hSb.rs.cell; have rrf := hSb.rs.frozen; have ric := hSb.inn.cell; have rdc := hSb.dp.cell; have rst := hSb.st.cell; have rtx := hSb.tx.cell
      have HSB := Lib.hid hSb; have HNB := Lib.hid hnb; have HBB := Lib.hid hb
      have hkb : KeepsFrom W0.heap.size W W' := ⟨hb.size, fun k o _ hk _ => heap_same hb hk⟩
      have HKB := Lib.hid hkb
      clear hSb hnb hnb' hkb hb hnc hnf hac hrc hrf
      refine putN_eq ({ tmps := #[.string s, .int .i64 stop, .int .i64 inner, .int .i64 depth, .pointer (some ⟨w.heap.size, 0, none⟩), .pointer (some ⟨w.heap.size + 1, 0, none⟩), .pointer (some ⟨w.heap.size + 1 + 1, 0, none⟩), .pointer (some ⟨w.heap.size + 1 + 1 + 1, 0, none⟩), .pointer (some ⟨w.heap.size + 1 + 1 + 1 + 1, 0, none⟩), .pointer (some ⟨b, 0, none⟩), .pointer (some ⟨b + 1, 0, none⟩), .pointer (some ⟨b + 1 + 1, 0, none⟩), .pointer (some ⟨b + 1 + 1 + 1, 0, none⟩), .func (.func 27) #[] #[.pointer (some ⟨b + 1 + 1 + 1 + 1, 0, none⟩)], .pointer (some ⟨Bt, 0, none⟩), .pointer (some ⟨Bt + 1, 0, none⟩), .tuple #[.slice (some ⟨g, 0, none⟩) (goods s).length c, .agg #[.int .i64 (flt1 s), .int .i64 (flt2 s)]], .string s, .tuple #[.slice (some ⟨g, 0, none⟩) (goods s).length c, .agg #[.int .i64 (flt1 s), .int .i64 (flt2 s)]], .slice (some ⟨g, 0, none⟩) (goods s).length c, .agg #[.int .i64 (flt1 s), .int .i64 (flt2 s)], .slice (some ⟨g, 0, none⟩) (goods s).length c, .int .i64 ((goods s).length : Int), .pointer (some ⟨b + 1, 1, none⟩), u24, u25, u26, u27, .string s, .func (.func 27) #[] #[.pointer (some ⟨b + 1 + 1 + 1 + 1, 0, none⟩)], .func (.func 27) #[] #[.pointer (some ⟨b + 1 + 1 + 1 + 1, 0, none⟩)], .bool false, .func (.func 27) #[] #[.pointer (some ⟨b + 1 + 1 + 1 + 1, 0, none⟩)], .agg #[.int .i64 k1, .int .i64 k2, .int .i64 k3, .string k4, .bool k5, .int .u64 k6, .int .u64 k7, .int .u64 k8, .int .u64 k9, .int .i64 k10, .int .i64 k11], .agg #[.int .i64 k12, .int .i64 k13], .int .i64 (pre.length : Int), .int .i64 (N : Int), .bool (decide (N ≤ pre.length)), f 0, f 1, f 2, f 3, f 4, f 5, f 6, f 7, f 8, f 9, f 10, f 11, f 12, f 13, f 14, f 15, f 16, f 17, f 18, f 19, f 20, f 21, f 22, f 23, f 24, f 25, f 26, f 27, f 28, f 29, f 30, f 31, f 32, f 33, u72, u73, u74, u75, u76, u77, u78, u79, u80, u81, u82, u83, u84, u85, u86, u87, u88, u89, u90, u91, u92], defers := [] }) (by kernel_rfl) ?_
      first
      | have hT : f 33 = .bool true := hV 33 71 (by kernel_rfl)
        rw [hT]
        clear hV
        gi_wp2_with (refine ⟨trivial, ?_⟩)
        exact ⟨HKB.out.trans ((KeepsOthers.setCell _ _ _).from _), rfl, .inl (HNO.out rfl)⟩
      | have hT : f 33 = .bool false := hV 33 71 (by kernel_rfl)
        rw [hT]
        clear hV
        by_cases hin : (pre.length : Int) = inner
        · have hib : ((pre.length : Int) == inner) = true := by rw [beq_iff_eq]; exact hin
          have HIN := Lib.hid hin; clear hin
          by_cases hd : depth = 0
          · have hdb : (depth == 0) = true := by rw [beq_iff_eq]; exact hd
            have HD := Lib.hid hd; clear hd
            by_cases hs : (pre.length : Int) = stop
            · have hsb : ((pre.length : Int) == stop) = true := by rw [beq_iff_eq]; exact hs
              have HSS := Lib.hid hs; clear hs
              gi_wp2_with (refine ⟨trivial, ?_⟩; gi_at_call 13; refine (CallsIn.inRound l (callsIn_wide.2 (HREC.out HD.out _))).mono ?_; rintro e w3 ⟨rfl, hb3⟩; replace HSB := Lib.hid (HSB.out.below hb3); replace HNB := Lib.hid (show Boxed w3 (b + 1 + 1) 3 (.int .i64 (pre.length : Int)) from heap_same hb3 HNB.out); replace HBB := Lib.hid (HBB.out.trans (hb3.mono HBB.out.size)); replace HKB := Lib.hid (HKB.out.trans ⟨hb3.size, fun k o _ hk _ => heap_same hb3 hk⟩); have hbs3 := HBB.out.size; have rnc := HNB.out.cell; have rnf := HNB.out.frozen; have rrc := HSB.out.rs.cell; have rrf := HSB.out.rs.frozen; have rst := HSB.out.st.cell; clear hb3)
              exact ⟨(HKB.out.trans ((KeepsOthers.setCell _ _ _).from _)).trans ((KeepsOthers.setCell _ _ _).from _), rfl, .inr ⟨(HSB.out.rs.other (by omega) _).set _, (HSB.out.bel.setCell (by dsimp only; omega) _).setCell (by dsimp only; omega) _⟩⟩
            · have hsb : ((pre.length : Int) == stop) = false := by rw [beq_eq_false_iff_ne]; exact hs
              have HSS := Lib.hid hs; clear hs
              gi_wp2_with (refine ⟨trivial, ?_⟩; gi_at_call 13; refine (CallsIn.inRound l (callsIn_wide.2 (HREC.out HD.out _))).mono ?_; rintro e w3 ⟨rfl, hb3⟩; replace HSB := Lib.hid (HSB.out.below hb3); replace HNB := Lib.hid (show Boxed w3 (b + 1 + 1) 3 (.int .i64 (pre.length : Int)) from heap_same hb3 HNB.out); replace HBB := Lib.hid (HBB.out.trans (hb3.mono HBB.out.size)); replace HKB := Lib.hid (HKB.out.trans ⟨hb3.size, fun k o _ hk _ => heap_same hb3 hk⟩); have hbs3 := HBB.out.size; have rnc := HNB.out.cell; have rnf := HNB.out.frozen; have rrc := HSB.out.rs.cell; have rrf := HSB.out.rs.frozen; have rst := HSB.out.st.cell; clear hb3)
              have hset : Boxed (w3.setCell ⟨b + 1 + 1, 0, none⟩ (.int .i64 ((pre.length : Int) + 1))) (b + 1 + 1) 3 (.int .i64 (((pre ++ [((k1, k2, k3, k4, k5, k6, k7, k8, k9, k10, k11, k12, k13) : TV)]).length : Nat) : Int)) := by have := HNB.out.set (.int .i64 ((pre.length : Int) + 1)); simpa using this
              exact ⟨HKB.out.trans ((KeepsOthers.setCell _ _ _).from _), kpR_int (by have := HBB.out.size; simp [World.setCell]; exact this) (fun k o hk ho => heap_other (by dsimp only; omega) (heap_same HBB.out ho)) hset, HSB.out.put (by omega) _, hset⟩
          · have hdb : (depth == 0) = false := by rw [beq_eq_false_iff_ne]; exact hd
            have HD := Lib.hid hd; clear hd
            by_cases hs : (pre.length : Int) = stop
            · have hsb : ((pre.length : Int) == stop) = true := by rw [beq_iff_eq]; exact hs
              have HSS := Lib.hid hs; clear hs
              gi_wp2_with (refine ⟨trivial, ?_⟩)
              exact ⟨(HKB.out.trans ((KeepsOthers.setCell _ _ _).from _)).trans ((KeepsOthers.setCell _ _ _).from _), rfl, .inr ⟨(HSB.out.rs.other (by omega) _).set _, (HSB.out.bel.setCell (by dsimp only; omega) _).setCell (by dsimp only; omega) _⟩⟩
            · have hsb : ((pre.length : Int) == stop) = false := by rw [beq_eq_false_iff_ne]; exact hs
              have HSS := Lib.hid hs; clear hs
              gi_wp2_with (refine ⟨trivial, ?_⟩)
              have hset : Boxed (W'.setCell ⟨b + 1 + 1, 0, none⟩ (.int .i64 ((pre.length : Int) + 1))) (b + 1 + 1) 3 (.int .i64 (((pre ++ [((k1, k2, k3, k4, k5, k6, k7, k8, k9, k10, k11, k12, k13) : TV)]).length : Nat) : Int)) := by have := HNB.out.set (.int .i64 ((pre.length : Int) + 1)); simpa using this
              exact ⟨HKB.out.trans ((KeepsOthers.setCell _ _ _).from _), kpR_int (by have := HBB.out.size; simp [World.setCell]; exact this) (fun k o hk ho => heap_other (by dsimp only; omega) (heap_same HBB.out ho)) hset, HSB.out.put (by omega) _, hset⟩
        · have hib : ((pre.length : Int) == inner) = false := by rw [beq_eq_false_iff_ne]; exact hin
          have HIN := Lib.hid hin; clear hin
          by_cases hs : (pre.length : Int) = stop
          · have hsb : ((pre.length : Int) == stop) = true := by rw [beq_iff_eq]; exact hs
            have HSS := Lib.hid hs; clear hs
            gi_wp2_with (refine ⟨trivial, ?_⟩)
            exact ⟨(HKB.out.trans ((KeepsOthers.setCell _ _ _).from _)).trans ((KeepsOthers.setCell _ _ _).from _), rfl, .inr ⟨(HSB.out.rs.other (by omega) _).set _, (HSB.out.bel.setCell (by dsimp only; omega) _).setCell (by dsimp only; omega) _⟩⟩
          · have hsb : ((pre.length : Int) == stop) = false := by rw [beq_eq_false_iff_ne]; exact hs
            have HSS := Lib.hid hs; clear hs
            gi_wp2_with (refine ⟨trivial, ?_⟩)
            have hset : Boxed (W'.setCell ⟨b + 1 + 1, 0, none⟩ (.int .i64 ((pre.length : Int) + 1))) (b + 1 + 1) 3 (.int .i64 (((pre ++ [((k1, k2, k3, k4, k5, k6, k7, k8, k9, k10, k11, k12, k13) : TV)]).length : Nat) : Int)) := by have := HNB.out.set (.int .i64 ((pre.length : Int) + 1)); simpa using this
            exact ⟨HKB.out.trans ((KeepsOthers.setCell _ _ _).from _), kpR_int (by have := HBB.out.size; simp [World.setCell]; exact this) (fun k o hk ho => heap_other (by dsimp only; omega) (heap_same HBB.out ho)) hset, HSB.out.put (by omega) _, hset⟩
  · skip
    have hnn := HNN.out
    have HF := Lib.hid (show ¬ flt2 s = 0 from fun h => by rw [if_pos h] at hnn; omega)
    rw [if_neg HF.out] at hnn
    have hpe : (pre.length : Int) = ((goods s).length : Int) := by omega
    clear hnn
    obtain ⟨hall, hfp⟩ : (P.allE s 0)[pre.length]? = some (P.faultV (flt1 s) (flt2 s)) ∧ True := by
     rcases P.all_split s with ⟨h1, _, _⟩ | ⟨L, p, q, h1, h2, h3, h4, h5⟩
     · exact absurd h1 HF.out
     · have e : goods s = L := h3
       have e1 : flt1 s = p := by show (P.fltE (P.allE s 0)).1 = p; rw [h4]
       have e2 : flt2 s = q := by show (P.fltE (P.allE s 0)).2 = q; rw [h4]
       refine ⟨?_, trivial⟩
       rw [e1, e2, h2, show pre.length = L.length by rw [← e]; omega]
       simp
    obtain ⟨c1, hc1'⟩ : ∃ c1, neqTok (k1, k2, k3, k4, k5, k6, k7, k8, k9, k10, k11, 0, 0) (0, 0, 0, ⟨#[]⟩, false, 0, 0, 0, 0, 0, 0, 0, 0) = c1 := ⟨_, rfl⟩
    obtain ⟨c2, hc2⟩ : ∃ c2, difFlt k12 k13 (flt1 s) (flt2 s) = c2 := ⟨_, rfl⟩
    have hsm := fun W => same_c k12 k13 (flt1 s) (flt2 s) W
    rw [hc2] at hsm
    have hno : (c1 || c2) = true → ¬ pre ++ [((k1, k2, k3, k4, k5, k6, k7, k8, k9, k10, k11, k12, k13) : TV)] <+: P.allE s 0 := fun h hp => by
     have e := (P.pre_at hp).symm.trans hall
     unfold P.faultV at e
     simp only [Option.some.injEq, Prod.mk.injEq] at e
     obtain ⟨rfl, rfl, rfl, rfl, rfl, rfl, rfl, rfl, rfl, rfl, rfl, e12, e13⟩ := e
     rw [neqTok_self] at hc1'
     subst hc1'
     rw [e12, e13] at hc2
     have : c2 = false := by rw [← hc2]; unfold difFlt; simp
     rw [this] at h
     cases h
    have HNO := Lib.hid hno; have HSM := Lib.hid hsm
    clear hno hall hsm hc2
    obtain ⟨VV, hVV⟩ : ∃ VV : Nat → Value → Prop, VV = (fun i v => v = WkB c1 c2 pre.length (goods s).length (.slice A (goods s).length c) (.agg #[.int .i64 k1, .int .i64 k2, .int .i64 k3, .string k4, .bool k5, .int .u64 k6, .int .u64 k7, .int .u64 k8, .int .u64 k9, .int .i64 k10, .int .i64 k11]) undef (.agg #[.int .i64 k12, .int .i64 k13]) (.agg #[.int .i64 (flt1 s), .int .i64 (flt2 s)]) undef i) := ⟨_, rfl⟩
    have HNE := Lib.hid hpe
    have hlB : ¬ (pre.length : Int) < ((goods s).length : Int) := by omega
    have hlB2 : (goods s).length ≤ pre.length := by omega
    clear hpe
    cases c1 <;> cases c2
    all_goals
     refine wpIn_region_vals (by kernel_rfl) (by kernel_rfl) (by kernel_rfl) (by kernel_rfl) (fun W' => Below W.heap.size W W') VV ((Below.refl _ _).drew) ?hs ?hq
     case hs =>
      subst hVV
      intro i o ho a w hJ hl
      have hi : i < 34 := (Array.getElem?_eq_some_iff.1 ho).1
      by_cases q17 : i < 17
      ·
       by_cases q8 : i < 8
       ·
        by_cases q4 : i < 4
        ·
         by_cases q2 : i < 2
         ·
          by_cases q1 : i < 1
          ·
           obtain rfl : i = 0 := by omega
           obtain rfl := Option.some.inj ho
           have x11 := hl.free 11 (by kernel_rfl); dsimp only at x11
           have lc := (show Boxed w (b + 1 + 1) 3 (.int .i64 (pre.length : Int)) from heap_same hJ HN.out).cell
           refine stIn_list rfl rfl ?_
           refine stIn_run (fun _ => trivial) (by intro c h; cases h) ?_ ⟨_, rfl, rfl, hJ⟩; dsimp only [WkB, cond, not]; go_simp
          ·
           obtain rfl : i = 1 := by omega
           obtain rfl := Option.some.inj ho
           have x9 := hl.free 9 (by kernel_rfl); dsimp only at x9
           have lc := (show Boxed w b 45 (.slice _ (goods s).length c) from heap_same hJ HS.out.li).cell
           refine stIn_list rfl rfl ?_
           refine stIn_run (fun _ => trivial) (by intro c h; cases h) ?_ ⟨_, rfl, rfl, hJ⟩; dsimp only [WkB, cond, not]; go_simp
         ·
          by_cases q3 : i < 3
          ·
           obtain rfl : i = 2 := by omega
           obtain rfl := Option.some.inj ho
           obtain ⟨v39, z39, e39⟩ := hl.dep 1 39 (by kernel_rfl) (by kernel_rfl)
           have x39 := z39.trans e39; clear e39 z39; dsimp only [WkB, cond, not] at x39
           refine stIn_list rfl rfl ?_
           refine stIn_run (fun _ => trivial) (by intro c h; cases h) ?_ ⟨_, rfl, rfl, hJ⟩; dsimp only [WkB, cond, not]; go_simp
          ·
           obtain rfl : i = 3 := by omega
           obtain rfl := Option.some.inj ho
           obtain ⟨v38, z38, e38⟩ := hl.dep 0 38 (by kernel_rfl) (by kernel_rfl)
           have x38 := z38.trans e38; clear e38 z38; dsimp only [WkB, cond, not] at x38
           obtain ⟨v40, z40, e40⟩ := hl.dep 2 40 (by kernel_rfl) (by kernel_rfl)
           have x40 := z40.trans e40; clear e40 z40; dsimp only [WkB, cond, not] at x40
           refine stIn_list rfl rfl ?_
           refine stIn_run (fun _ => trivial) (by intro c h; cases h) ?_ ⟨_, rfl, rfl, hJ⟩; dsimp only [WkB, cond, not]; go_simp
        ·
         by_cases q6 : i < 6
         ·
          by_cases q5 : i < 5
          ·
           obtain rfl : i = 4 := by omega
           obtain rfl := Option.some.inj ho
           obtain ⟨v41, z41, e41⟩ := hl.dep 3 41 (by kernel_rfl) (by kernel_rfl)
           have x41 := z41.trans e41; clear e41 z41; dsimp only [WkB, cond, not] at x41
           refine stIn_list rfl rfl ?_
           refine stIn_run (fun _ => trivial) (by intro c h; cases h) ?_ ⟨_, rfl, rfl, hJ⟩; dsimp only [WkB, cond, not]; go_simp
          ·
           obtain rfl : i = 5 := by omega
           obtain rfl := Option.some.inj ho
           exact stIn_skip (fun _ => trivial) rfl (hl.unwanted 4 42 true rfl (by kernel_rfl) (by kernel_rfl) _ (fun v h => h) (by simp [WkB, undef])) ⟨_, rfl, rfl, hJ⟩
         ·
          by_cases q7 : i < 7
          ·
           obtain rfl : i = 6 := by omega
           obtain rfl := Option.some.inj ho
           exact stIn_skip (fun _ => trivial) rfl (hl.unwanted 4 42 true rfl (by kernel_rfl) (by kernel_rfl) _ (fun v h => h) (by simp [WkB, undef])) ⟨_, rfl, rfl, hJ⟩
          ·
           obtain rfl : i = 7 := by omega
           obtain rfl := Option.some.inj ho
           exact stIn_skip (fun _ => trivial) rfl (hl.unwanted 4 42 true rfl (by kernel_rfl) (by kernel_rfl) _ (fun v h => h) (by simp [WkB, undef])) ⟨_, rfl, rfl, hJ⟩
       ·
        by_cases q12 : i < 12
        ·
         by_cases q10 : i < 10
         ·
          by_cases q9 : i < 9
          ·
           obtain rfl : i = 8 := by omega
           obtain rfl := Option.some.inj ho
           exact stIn_skip (fun _ => trivial) rfl (hl.unwanted 4 42 true rfl (by kernel_rfl) (by kernel_rfl) _ (fun v h => h) (by simp [WkB, undef])) ⟨_, rfl, rfl, hJ⟩
          ·
           obtain rfl : i = 9 := by omega
           obtain rfl := Option.some.inj ho
           exact stIn_skip (fun _ => trivial) rfl (hl.unwanted 4 42 true rfl (by kernel_rfl) (by kernel_rfl) _ (fun v h => h) (by simp [WkB, undef])) ⟨_, rfl, rfl, hJ⟩
         ·
          by_cases q11 : i < 11
          ·
           obtain rfl : i = 10 := by omega
           obtain rfl := Option.some.inj ho
           exact stIn_skip (fun _ => trivial) rfl (hl.unwanted 4 42 true rfl (by kernel_rfl) (by kernel_rfl) _ (fun v h => h) (by simp [WkB, undef])) ⟨_, rfl, rfl, hJ⟩
          ·
           obtain rfl : i = 11 := by omega
           obtain rfl := Option.some.inj ho
           exact stIn_skip (fun _ => trivial) rfl (hl.unwanted 4 42 true rfl (by kernel_rfl) (by kernel_rfl) _ (fun v h => h) (by simp [WkB, undef])) ⟨_, rfl, rfl, hJ⟩
        ·
         by_cases q14 : i < 14
         ·
          by_cases q13 : i < 13
          ·
           obtain rfl : i = 12 := by omega
           obtain rfl := Option.some.inj ho
           exact stIn_skip (fun _ => trivial) rfl (hl.unwanted 11 49 false rfl (by kernel_rfl) (by kernel_rfl) _ (fun v h => h) (by simp [WkB, undef])) ⟨_, rfl, rfl, hJ⟩
          ·
           obtain rfl : i = 13 := by omega
           obtain rfl := Option.some.inj ho
           exact stIn_skip (fun _ => trivial) rfl (hl.unwanted 11 49 false rfl (by kernel_rfl) (by kernel_rfl) _ (fun v h => h) (by simp [WkB, undef])) ⟨_, rfl, rfl, hJ⟩
         ·
          by_cases q15 : i < 15
          ·
           obtain rfl : i = 14 := by omega
           obtain rfl := Option.some.inj ho
           exact stIn_skip (fun _ => trivial) rfl (hl.unwanted 11 49 false rfl (by kernel_rfl) (by kernel_rfl) _ (fun v h => h) (by simp [WkB, undef])) ⟨_, rfl, rfl, hJ⟩
          ·
           by_cases q16 : i < 16
           ·
            obtain rfl : i = 15 := by omega
            obtain rfl := Option.some.inj ho
            exact stIn_skip (fun _ => trivial) rfl (hl.unwanted 4 42 true rfl (by kernel_rfl) (by kernel_rfl) _ (fun v h => h) (by simp [WkB, undef])) ⟨_, rfl, rfl, hJ⟩
           ·
            obtain rfl : i = 16 := by omega
            obtain rfl := Option.some.inj ho
            obtain ⟨v42, z42, e42⟩ := hl.dep 4 42 (by kernel_rfl) (by kernel_rfl)
            have x42 := z42.trans e42; clear e42 z42; dsimp only [WkB, cond, not] at x42
            obtain ⟨v53, z53, e53⟩ := hl.dep 15 53 (by kernel_rfl) (by kernel_rfl)
            have x53 := z53.trans e53; clear e53 z53; dsimp only [WkB, cond, not] at x53
            refine stIn_list rfl rfl ?_
            refine stIn_run (fun _ => trivial) (by intro c h; cases h) ?_ ⟨_, rfl, rfl, hJ⟩; dsimp only [WkB, cond, not]; go_simp
      ·
       by_cases q25 : i < 25
       ·
        by_cases q21 : i < 21
        ·
         by_cases q19 : i < 19
         ·
          by_cases q18 : i < 18
          ·
           obtain rfl : i = 17 := by omega
           obtain rfl := Option.some.inj ho
           obtain ⟨v54, z54, e54⟩ := hl.dep 16 54 (by kernel_rfl) (by kernel_rfl)
           have x54 := z54.trans e54; clear e54 z54; dsimp only [WkB, cond, not] at x54
           refine stIn_list rfl rfl ?_
           refine stIn_run (fun _ => trivial) (by intro c h; cases h) ?_ ⟨_, rfl, rfl, hJ⟩; dsimp only [WkB, cond, not]; go_simp
          ·
           obtain rfl : i = 18 := by omega
           obtain rfl := Option.some.inj ho
           have x11 := hl.free 11 (by kernel_rfl); dsimp only at x11
           have lc := (show Boxed w (b + 1 + 1) 3 (.int .i64 (pre.length : Int)) from heap_same hJ HN.out).cell
           (refine stIn_wanted rfl (hl.wanted 17 55 false rfl (by kernel_rfl) (by kernel_rfl) (fun v h => h)) ?_; refine stIn_run (fun _ => trivial) (by intro c h; cases h) ?_ ⟨_, rfl, rfl, hJ⟩; dsimp only [WkB, cond, not]; go_simp)
         ·
          by_cases q20 : i < 20
          ·
           obtain rfl : i = 19 := by omega
           obtain rfl := Option.some.inj ho
           have x9 := hl.free 9 (by kernel_rfl); dsimp only at x9
           have lc := (show Boxed w b 45 (.slice _ (goods s).length c) from heap_same hJ HS.out.li).cell
           (refine stIn_wanted rfl (hl.wanted 17 55 false rfl (by kernel_rfl) (by kernel_rfl) (fun v h => h)) ?_; refine stIn_run (fun _ => trivial) (by intro c h; cases h) ?_ ⟨_, rfl, rfl, hJ⟩; dsimp only [WkB, cond, not]; go_simp)
          ·
           obtain rfl : i = 20 := by omega
           obtain rfl := Option.some.inj ho
           obtain ⟨v57, z57, e57⟩ := hl.dep 19 57 (by kernel_rfl) (by kernel_rfl)
           have x57 := z57.trans e57; clear e57 z57; dsimp only [WkB, cond, not] at x57
           (refine stIn_wanted rfl (hl.wanted 17 55 false rfl (by kernel_rfl) (by kernel_rfl) (fun v h => h)) ?_; refine stIn_run (fun _ => trivial) (by intro c h; cases h) ?_ ⟨_, rfl, rfl, hJ⟩; dsimp only [WkB, cond, not]; go_simp)
        ·
         by_cases q23 : i < 23
         ·
          by_cases q22 : i < 22
          ·
           obtain rfl : i = 21 := by omega
           obtain rfl := Option.some.inj ho
           obtain ⟨v56, z56, e56⟩ := hl.dep 18 56 (by kernel_rfl) (by kernel_rfl)
           have x56 := z56.trans e56; clear e56 z56; dsimp only [WkB, cond, not] at x56
           obtain ⟨v58, z58, e58⟩ := hl.dep 20 58 (by kernel_rfl) (by kernel_rfl)
           have x58 := z58.trans e58; clear e58 z58; dsimp only [WkB, cond, not] at x58
           have hne := HNE.out
           (refine stIn_wanted rfl (hl.wanted 17 55 false rfl (by kernel_rfl) (by kernel_rfl) (fun v h => h)) ?_; refine stIn_run (fun _ => trivial) (by intro c h; cases h) ?_ ⟨_, rfl, rfl, hJ⟩; dsimp only [WkB, cond, not]; go_simp)
          ·
           obtain rfl : i = 22 := by omega
           obtain rfl := Option.some.inj ho
           obtain ⟨v59, z59, e59⟩ := hl.dep 21 59 (by kernel_rfl) (by kernel_rfl)
           have x59 := z59.trans e59; clear e59 z59; dsimp only [WkB, cond, not] at x59
           (refine stIn_wanted rfl (hl.wanted 17 55 false rfl (by kernel_rfl) (by kernel_rfl) (fun v h => h)) ?_; refine stIn_run (fun _ => trivial) (by intro c h; cases h) ?_ ⟨_, rfl, rfl, hJ⟩; dsimp only [WkB, cond, not]; go_simp)
         ·
          by_cases q24 : i < 24
          ·
           obtain rfl : i = 23 := by omega
           obtain rfl := Option.some.inj ho
           have x14 := hl.free 14 (by kernel_rfl); dsimp only at x14
           obtain ⟨a0, a1, a2, a3, a4, a5, a6, a7, a8, a9, a10⟩ := eleven_cells (heap_same hJ HT.out)
           (refine stIn_wanted rfl (hl.wanted 22 60 true rfl (by kernel_rfl) (by kernel_rfl) (fun v h => h)) ?_; refine stIn_run (fun _ => trivial) (by intro c h; cases h) ?_ ⟨_, rfl, rfl, hJ⟩; dsimp only [WkB, cond, not]; go_simp)
          ·
           obtain rfl : i = 24 := by omega
           obtain rfl := Option.some.inj ho
           (refine stIn_wanted rfl (hl.wanted 22 60 true rfl (by kernel_rfl) (by kernel_rfl) (fun v h => h)) ?_; refine stIn_run (fun _ => trivial) (by intro c h; cases h) ?_ ⟨_, rfl, rfl, hJ⟩; dsimp only [WkB, cond, not]; go_simp)
       ·
        by_cases q29 : i < 29
        ·
         by_cases q27 : i < 27
         ·
          by_cases q26 : i < 26
          ·
           obtain rfl : i = 25 := by omega
           obtain rfl := Option.some.inj ho
           obtain ⟨v61, z61, e61⟩ := hl.dep 23 61 (by kernel_rfl) (by kernel_rfl)
           have x61 := z61.trans e61; clear e61 z61; dsimp only [WkB, cond, not] at x61
           obtain ⟨v62, z62, e62⟩ := hl.dep 24 62 (by kernel_rfl) (by kernel_rfl)
           have x62 := z62.trans e62; clear e62 z62; dsimp only [WkB, cond, not] at x62
           (refine stIn_wanted rfl (hl.wanted 22 60 true rfl (by kernel_rfl) (by kernel_rfl) (fun v h => h)) ?_; refine stIn_run (fun _ => trivial) (by intro c h; cases h) ?_ ⟨_, rfl, rfl, hJ⟩; dsimp only [WkB, cond, not]; go_simp)
          ·
           obtain rfl : i = 26 := by omega
           obtain rfl := Option.some.inj ho
           obtain ⟨v63, z63, e63⟩ := hl.dep 25 63 (by kernel_rfl) (by kernel_rfl)
           have x63 := z63.trans e63; clear e63 z63; dsimp only [WkB, cond, not] at x63
           (refine stIn_wanted rfl (hl.wanted 22 60 true rfl (by kernel_rfl) (by kernel_rfl) (fun v h => h)) ?_; refine stIn_run (fun _ => trivial) (by intro c h; cases h) ?_ ⟨_, rfl, rfl, hJ⟩; dsimp only [WkB, cond, not]; go_simp)
         ·
          by_cases q28 : i < 28
          ·
           obtain rfl : i = 27 := by omega
           obtain rfl := Option.some.inj ho
           have x15 := hl.free 15 (by kernel_rfl); dsimp only at x15
           obtain ⟨b0, b1, d0, d1⟩ := two_cells (heap_same hJ HFL.out)
           first
           | exact stIn_skip (fun _ => trivial) rfl (hl.unwanted 26 64 false rfl (by kernel_rfl) (by kernel_rfl) _ (fun v h => h) (by simp [WkB, undef])) ⟨_, rfl, rfl, hJ⟩
           | (refine stIn_wanted rfl (hl.wanted 26 64 false rfl (by kernel_rfl) (by kernel_rfl) (fun v h => h)) ?_; refine stIn_run (fun _ => trivial) (by intro c h; cases h) ?_ ⟨_, rfl, rfl, hJ⟩; dsimp only [WkB, cond, not]; go_simp)
          ·
           obtain rfl : i = 28 := by omega
           obtain rfl := Option.some.inj ho
           have x10 := hl.free 10 (by kernel_rfl); dsimp only at x10
           obtain ⟨b0, b1, d0, d1⟩ := two_cells (heap_same hJ HS.out.fl)
           first
           | exact stIn_skip (fun _ => trivial) rfl (hl.unwanted 26 64 false rfl (by kernel_rfl) (by kernel_rfl) _ (fun v h => h) (by simp [WkB, undef])) ⟨_, rfl, rfl, hJ⟩
           | (refine stIn_wanted rfl (hl.wanted 26 64 false rfl (by kernel_rfl) (by kernel_rfl) (fun v h => h)) ?_; refine stIn_run (fun _ => trivial) (by intro c h; cases h) ?_ ⟨_, rfl, rfl, hJ⟩; dsimp only [WkB, cond, not]; go_simp)
        ·
         by_cases q31 : i < 31
         ·
          by_cases q30 : i < 30
          ·
           obtain rfl : i = 29 := by omega
           obtain rfl := Option.some.inj ho
           obtain ⟨v65, z65, e65⟩ := hl.dep 27 65 (by kernel_rfl) (by kernel_rfl)
           have x65 := z65.trans e65; clear e65 z65; dsimp only [WkB, cond, not] at x65
           obtain ⟨v66, z66, e66⟩ := hl.dep 28 66 (by kernel_rfl) (by kernel_rfl)
           have x66 := z66.trans e66; clear e66 z66; dsimp only [WkB, cond, not] at x66
           first
           | exact stIn_skip (fun _ => trivial) rfl (hl.unwanted 26 64 false rfl (by kernel_rfl) (by kernel_rfl) _ (fun v h => h) (by simp [WkB, undef])) ⟨_, rfl, rfl, hJ⟩
           | (refine stIn_wanted rfl (hl.wanted 26 64 false rfl (by kernel_rfl) (by kernel_rfl) (fun v h => h)) ?_; refine stIn_call (fun _ => trivial) h1r (by intro c h; cases h) (w' := w) (f := 12) (args := #[.agg #[.int .i64 k12, .int .i64 k13], .agg #[.int .i64 (flt1 s), .int .i64 (flt2 s)]]) (by go_simp) ((CallsIn.inRound l (callsIn_wide.2 (HSM.out _))).mono ?_); rintro e w2 ⟨rfl, hb2⟩; exact ⟨_, rfl, _, rfl, rfl, hJ.trans (hb2.mono hJ.size)⟩)
          ·
           obtain rfl : i = 30 := by omega
           obtain rfl := Option.some.inj ho
           obtain ⟨v67, z67, e67⟩ := hl.dep 29 67 (by kernel_rfl) (by kernel_rfl)
           have x67 := z67.trans e67; clear e67 z67; dsimp only [WkB, cond, not] at x67
           first
           | exact stIn_skip (fun _ => trivial) rfl (hl.unwanted 26 64 false rfl (by kernel_rfl) (by kernel_rfl) _ (fun v h => h) (by simp [WkB, undef])) ⟨_, rfl, rfl, hJ⟩
           | (refine stIn_wanted rfl (hl.wanted 26 64 false rfl (by kernel_rfl) (by kernel_rfl) (fun v h => h)) ?_; refine stIn_run (fun _ => trivial) (by intro c h; cases h) ?_ ⟨_, rfl, rfl, hJ⟩; dsimp only [WkB, cond, not]; go_simp)
         ·
          by_cases q32 : i < 32
          ·
           obtain rfl : i = 31 := by omega
           obtain rfl := Option.some.inj ho
           obtain ⟨v64, z64, e64⟩ := hl.dep 26 64 (by kernel_rfl) (by kernel_rfl)
           have x64 := z64.trans e64; clear e64 z64; dsimp only [WkB, cond, not] at x64
           obtain ⟨v68, z68, e68⟩ := hl.dep 30 68 (by kernel_rfl) (by kernel_rfl)
           have x68 := z68.trans e68; clear e68 z68; dsimp only [WkB, cond, not] at x68
           (refine stIn_wanted rfl (hl.wanted 22 60 true rfl (by kernel_rfl) (by kernel_rfl) (fun v h => h)) ?_; refine stIn_run (fun _ => trivial) (by intro c h; cases h) ?_ ⟨_, rfl, rfl, hJ⟩; dsimp only [WkB, cond, not]; go_simp)
          ·
           by_cases q33 : i < 33
           ·
            obtain rfl : i = 32 := by omega
            obtain rfl := Option.some.inj ho
            obtain ⟨v60, z60, e60⟩ := hl.dep 22 60 (by kernel_rfl) (by kernel_rfl)
            have x60 := z60.trans e60; clear e60 z60; dsimp only [WkB, cond, not] at x60
            obtain ⟨v69, z69, e69⟩ := hl.dep 31 69 (by kernel_rfl) (by kernel_rfl)
            have x69 := z69.trans e69; clear e69 z69; dsimp only [WkB, cond, not] at x69
            (refine stIn_wanted rfl (hl.wanted 17 55 false rfl (by kernel_rfl) (by kernel_rfl) (fun v h => h)) ?_; refine stIn_run (fun _ => trivial) (by intro c h; cases h) ?_ ⟨_, rfl, rfl, hJ⟩; dsimp only [WkB, cond, not]; go_simp)
           ·
            obtain rfl : i = 33 := by omega
            obtain rfl := Option.some.inj ho
            obtain ⟨v55, z55, e55⟩ := hl.dep 17 55 (by kernel_rfl) (by kernel_rfl)
            have x55 := z55.trans e55; clear e55 z55; dsimp only [WkB, cond, not] at x55
            obtain ⟨v70, z70, e70⟩ := hl.dep 32 70 (by kernel_rfl) (by kernel_rfl)
            have x70 := z70.trans e70; clear e70 z70; dsimp only [WkB, cond, not] at x70
            refine stIn_list rfl rfl ?_
            refine stIn_run (fun _ => trivial) (by intro c h; cases h) ?_ ⟨_, rfl, rfl, hJ⟩; dsimp only [WkB, cond, not]; go_simp
     case hq =>
      subst hVV
      intro f W' hb hV
      have hSb := HS.out.below hb
      have hnb' := heap_same hb HN.out
      have hnb : Boxed W' (b + 1 + 1) 3 (.int .i64 (pre.length : Int)) := hnb'
      have hbs := hb.size
      have rnc := hnb.cell; have rnf := hnb.frozen; have rrc := hSb.rs.cell; have rrf := hSb.rs.frozen; have ric := hSb.inn.cell; have rdc := hSb.dp.cell; have rst := hSb.st.cell; have rtx := hSb.tx.cell
      have HSB := Lib.hid hSb; have HNB := Lib.hid hnb; have HBB := Lib.hid hb
      have hkb : KeepsFrom W0.heap.size W W' := ⟨hb.size, fun k o _ hk _ => heap_same hb hk⟩
      have HKB := Lib.hid hkb
      clear hSb hnb hnb' hkb hb hnc hnf hac hrc hrf
      refine putN_eq ({ tmps := #[.string s, .int .i64 stop, .int .i64 inner, .int .i64 depth, .pointer (some ⟨w.heap.size, 0, none⟩), .pointer (some ⟨w.heap.size + 1, 0, none⟩), .pointer (some ⟨w.heap.size + 1 + 1, 0, none⟩), .pointer (some ⟨w.heap.size + 1 + 1 + 1, 0, none⟩), .pointer (some ⟨w.heap.size + 1 + 1 + 1 + 1, 0, none⟩), .pointer (some ⟨b, 0, none⟩), .pointer (some ⟨b + 1, 0, none⟩), .pointer (some ⟨b + 1 + 1, 0, none⟩), .pointer (some ⟨b + 1 + 1 + 1, 0, none⟩), .func (.func 27) #[] #[.pointer (some ⟨b + 1 + 1 + 1 + 1, 0, none⟩)], .pointer (some ⟨Bt, 0, none⟩), .pointer (some ⟨Bt + 1, 0, none⟩), .tuple #[.slice A (goods s).length c, .agg #[.int .i64 (flt1 s), .int .i64 (flt2 s)]], .string s, .tuple #[.slice A (goods s).length c, .agg #[.int .i64 (flt1 s), .int .i64 (flt2 s)]], .slice A (goods s).length c, .agg #[.int .i64 (flt1 s), .int .i64 (flt2 s)], .slice A (goods s).length c, .int .i64 ((goods s).length : Int), .pointer (some ⟨b + 1, 1, none⟩), u24, u25, u26, u27, .string s, .func (.func 27) #[] #[.pointer (some ⟨b + 1 + 1 + 1 + 1, 0, none⟩)], .func (.func 27) #[] #[.pointer (some ⟨b + 1 + 1 + 1 + 1, 0, none⟩)], .bool false, .func (.func 27) #[] #[.pointer (some ⟨b + 1 + 1 + 1 + 1, 0, none⟩)], .agg #[.int .i64 k1, .int .i64 k2, .int .i64 k3, .string k4, .bool k5, .int .u64 k6, .int .u64 k7, .int .u64 k8, .int .u64 k9, .int .i64 k10, .int .i64 k11], .agg #[.int .i64 k12, .int .i64 k13], .int .i64 (pre.length : Int), .int .i64 (N : Int), .bool (decide (N ≤ pre.length)), f 0, f 1, f 2, f 3, f 4, f 5, f 6, f 7, f 8, f 9, f 10, f 11, f 12, f 13, f 14, f 15, f 16, f 17, f 18, f 19, f 20, f 21, f 22, f 23, f 24, f 25, f 26, f 27, f 28, f 29, f 30, f 31, f 32, f 33, u72, u73, u74, u75, u76, u77, u78, u79, u80, u81, u82, u83, u84, u85, u86, u87, u88, u89, u90, u91, u92], defers := [] }) (by kernel_rfl) ?_
      first
      | have hT : f 33 = .bool true := hV 33 71 (by kernel_rfl)
        rw [hT]
        clear hV
        gi_wp2_with (refine ⟨trivial, ?_⟩)
        exact ⟨HKB.out.trans ((KeepsOthers.setCell _ _ _).from _), rfl, .inl (HNO.out rfl)⟩
      | have hT : f 33 = .bool false := hV 33 71 (by kernel_rfl)
        rw [hT]
        clear hV
        by_cases hin : (pre.length : Int) = inner
        · have hib : ((pre.length : Int) == inner) = true := by rw [beq_iff_eq]; exact hin
          have HIN := Lib.hid hin; clear hin
          by_cases hd : depth = 0
          · have hdb : (depth == 0) = true := by rw [beq_iff_eq]; exact hd
            have HD := Lib.hid hd; clear hd
            by_cases hs : (pre.length : Int) = stop
            · have hsb : ((pre.length : Int) == stop) = true := by rw [beq_iff_eq]; exact hs
              have HSS := Lib.hid hs; clear hs
              gi_wp2_with (refine ⟨trivial, ?_⟩; gi_at_call 13; refine (CallsIn.inRound l (callsIn_wide.2 (HREC.out HD.out _))).mono ?_; rintro e w3 ⟨rfl, hb3⟩; replace HSB := Lib.hid (HSB.out.below hb3); replace HNB := Lib.hid (show Boxed w3 (b + 1 + 1) 3 (.int .i64 (pre.length : Int)) from heap_same hb3 HNB.out); replace HBB := Lib.hid (HBB.out.trans (hb3.mono HBB.out.size)); replace HKB := Lib.hid (HKB.out.trans ⟨hb3.size, fun k o _ hk _ => heap_same hb3 hk⟩); have hbs3 := HBB.out.size; have rnc := HNB.out.cell; have rnf := HNB.out.frozen; have rrc := HSB.out.rs.cell; have rrf := HSB.out.rs.frozen; have rst := HSB.out.st.cell; clear hb3)
              exact ⟨(HKB.out.trans ((KeepsOthers.setCell _ _ _).from _)).trans ((KeepsOthers.setCell _ _ _).from _), rfl, .inr ⟨(HSB.out.rs.other (by omega) _).set _, (HSB.out.bel.setCell (by dsimp only; omega) _).setCell (by dsimp only; omega) _⟩⟩
            · have hsb : ((pre.length : Int) == stop) = false := by rw [beq_eq_false_iff_ne]; exact hs
              have HSS := Lib.hid hs; clear hs
              gi_wp2_with (refine ⟨trivial, ?_⟩; gi_at_call 13; refine (CallsIn.inRound l (callsIn_wide.2 (HREC.out HD.out _))).mono ?_; rintro e w3 ⟨rfl, hb3⟩; replace HSB := Lib.hid (HSB.out.below hb3); replace HNB := Lib.hid (show Boxed w3 (b + 1 + 1) 3 (.int .i64 (pre.length : Int)) from heap_same hb3 HNB.out); replace HBB := Lib.hid (HBB.out.trans (hb3.mono HBB.out.size)); replace HKB := Lib.hid (HKB.out.trans ⟨hb3.size, fun k o _ hk _ => heap_same hb3 hk⟩); have hbs3 := HBB.out.size; have rnc := HNB.out.cell; have rnf := HNB.out.frozen; have rrc := HSB.out.rs.cell; have rrf := HSB.out.rs.frozen; have rst := HSB.out.st.cell; clear hb3)
              have hset : Boxed (w3.setCell ⟨b + 1 + 1, 0, none⟩ (.int .i64 ((pre.length : Int) + 1))) (b + 1 + 1) 3 (.int .i64 (((pre ++ [((k1, k2, k3, k4, k5, k6, k7, k8, k9, k10, k11, k12, k13) : TV)]).length : Nat) : Int)) := by have := HNB.out.set (.int .i64 ((pre.length : Int) + 1)); simpa using this
              exact ⟨HKB.out.trans ((KeepsOthers.setCell _ _ _).from _), kpR_int (by have := HBB.out.size; simp [World.setCell]; exact this) (fun k o hk ho => heap_other (by dsimp only; omega) (heap_same HBB.out ho)) hset, HSB.out.put (by omega) _, hset⟩
          · have hdb : (depth == 0) = false := by rw [beq_eq_false_iff_ne]; exact hd
            have HD := Lib.hid hd; clear hd
            by_cases hs : (pre.length : Int) = stop
            · have hsb : ((pre.length : Int) == stop) = true := by rw [beq_iff_eq]; exact hs
              have HSS := Lib.hid hs; clear hs
              gi_wp2_with (refine ⟨trivial, ?_⟩)
              exact ⟨(HKB.out.trans ((KeepsOthers.setCell _ _ _).from _)).trans ((KeepsOthers.setCell _ _ _).from _), rfl, .inr ⟨(HSB.out.rs.other (by omega) _).set _, (HSB.out.bel.setCell (by dsimp only; omega) _).setCell (by dsimp only; omega) _⟩⟩
            · have hsb : ((pre.length : Int) == stop) = false := by rw [beq_eq_false_iff_ne]; exact hs
              have HSS := Lib.hid hs; clear hs
              gi_wp2_with (refine ⟨trivial, ?_⟩)
              have hset : Boxed (W'.setCell ⟨b + 1 + 1, 0, none⟩ (.int .i64 ((pre.length : Int) + 1))) (b + 1 + 1) 3 (.int .i64 (((pre ++ [((k1, k2, k3, k4, k5, k6, k7, k8, k9, k10, k11, k12, k13) : TV)]).length : Nat) : Int)) := by have := HNB.out.set (.int .i64 ((pre.length : Int) + 1)); simpa using this
              exact ⟨HKB.out.trans ((KeepsOthers.setCell _ _ _).from _), kpR_int (by have := HBB.out.size; simp [World.setCell]; exact this) (fun k o hk ho => heap_other (by dsimp only; omega) (heap_same HBB.out ho)) hset, HSB.out.put (by omega) _, hset⟩
        · have hib : ((pre.length : Int) == inner) = false := by rw [beq_eq_false_iff_ne]; exact hin
          have HIN := Lib.hid hin; clear hin
          by_cases hs : (pre.length : Int) = stop
          · have hsb : ((pre.length : Int) == stop) = true := by rw [beq_iff_eq]; exact hs
            have HSS := Lib.hid hs; clear hs
            gi_wp2_with (refine ⟨trivial, ?_⟩)
            exact ⟨(HKB.out.trans ((KeepsOthers.setCell _ _ _).from _)).trans ((KeepsOthers.setCell _ _ _).from _), rfl, .inr ⟨(HSB.out.rs.other (by omega) _).set _, (HSB.out.bel.setCell (by dsimp only; omega) _).setCell (by dsimp only; omega) _⟩⟩
          · have hsb : ((pre.length : Int) == stop) = false := by rw [beq_eq_false_iff_ne]; exact hs
            have HSS := Lib.hid hs; clear hs
            gi_wp2_with (refine ⟨trivial, ?_⟩)
            have hset : Boxed (W'.setCell ⟨b + 1 + 1, 0, none⟩ (.int .i64 ((pre.length : Int) + 1))) (b + 1 + 1) 3 (.int .i64 (((pre ++ [((k1, k2, k3, k4, k5, k6, k7, k8, k9, k10, k11, k12, k13) : TV)]).length : Nat) : Int)) := by have := HNB.out.set (.int .i64 ((pre.length : Int) + 1)); simpa using this
            exact ⟨HKB.out.trans ((KeepsOthers.setCell _ _ _).from _), kpR_int (by have := HBB.out.size; simp [World.setCell]; exact this) (fun k o hk ho => heap_other (by dsimp only; omega) (heap_same HBB.out ho)) hset, HSB.out.put (by omega) _, hset⟩
 case done =>
  rintro D ys W hD rfl ⟨hSS, hn1⟩ hK
  rw [HPL.out] at hn1
  have hnc := hn1.cell; have hac := hSS.al.cell; have hrc := hSS.rs.cell; have hrf := hSS.rs.frozen
  have HS := Lib.hid hSS; have HK := Lib.hid hK
  clear hSS hn1 hK
  have hbz := HS.out.bel.size
  gi_wp2
  have hK3 := (KeepsOthers.setCell W ⟨w.heap.size + 1 + 1 + 1 + 1, 0, none⟩ (.bool true)).same D _ HK.out rfl
  refine ⟨by simp, .inl ⟨_, _, rfl, run_takeDeferred hK3, ?_⟩⟩
  have x8 := cell_kept (HS.out.rs.set (.bool true)).cell (grownBy_putObj' _ D (.deferred none)) (fun r e => by cases e; exact ⟨_, hK3, rfl⟩)
  exact ⟨_, by simp [results, Try.results13, go_sem, x8], rfl, (HS.out.bel.setCell (p := ⟨w.heap.size + 1 + 1 + 1 + 1, 0, none⟩) (by dsimp only; omega) _).trans (belowK_b (w := w) (Nat.le_refl _) _ D _ _ (by omega) hK3 rfl rfl)⟩
 case stop =>
  rintro D co pre W hD hSp ⟨rfl, h⟩ hK
  rcases h with h | ⟨h, hB⟩
  · exact absurd hSp h
  · gi_wp2
    refine ⟨by simp, .inl ⟨_, _, rfl, run_takeDeferred hK, ?_⟩⟩
    have x8 := cell_kept h.cell (grownBy_putObj' _ D (.deferred none)) (fun r e => by cases e; exact ⟨_, hK, rfl⟩)
    have hbz := hB.size
    exact ⟨_, by simp [results, Try.results13, go_sem, x8], rfl, hB.trans (belowK_b (w := w) (Nat.le_refl _) _ D _ _ (by omega) hK rfl rfl)⟩
end Go.Proofs.Ytldjdcdoegjmoaa

import Derived.Test.YtldjdcdoegjmoaaZ26
set_option linter.unusedVariables false
set_option linter.unusedSimpArgs false
namespace Go.Proofs.Ytldjdcdoegjmoaa
open Go.RowKit Go.Shelf
attribute [local go_sem] Oper.semAt_some
attribute [local go_sem] run_store_func eql_func_nil
theorem walkedD_c (s : ByteArray) (hs : s.size ≤ P.bnd) (stop inner depth : Int) (hst : -9223372036854775808 ≤ stop ∧ stop ≤ 9223372036854775807) (w : World)
 (hrec : depth = 0 → ∀ W, Calls Try.prog 13 #[.string s, .int .i64 (-1), .int .i64 (-1), .int .i64 1] W fun e W' => e = .returned (.bool true) ∧ Below W.heap.size W W') :
 Calls Try.prog 13 #[.string s, .int .i64 stop, .int .i64 inner, .int .i64 depth] w fun e W' => e = .returned (.bool true) ∧ Below w.heap.size w W' := by
 exact callsIn_wide.1 (walked_in 8 (Nat.le_refl _) s hs stop inner depth hst w hrec)
theorem walked_c (s : ByteArray) (hs : s.size ≤ P.bnd) (stop inner : Int) (hst : -9223372036854775808 ≤ stop ∧ stop ≤ 9223372036854775807) (w : World) :
 Calls Try.prog 13 #[.string s, .int .i64 stop, .int .i64 inner, .int .i64 0] w fun e W' => e = .returned (.bool true) ∧ Below w.heap.size w W' :=
 walkedD_c s hs stop inner 0 hst w fun _ W => walkedD_c s hs (-1) (-1) 1 (by omega) W fun h => absurd h (by decide)
set_option maxRecDepth 100000 in
set_option maxHeartbeats 4000000 in
theorem eaches_in (n : Nat) (hn : 8 ≤ n) (s : ByteArray) (hs : s.size ≤ P.bnd) (stop inner : Int) (hst : -9223372036854775808 ≤ stop ∧ stop ≤ 9223372036854775807) (w : World) :
 CallsIn Fence.wide n Try.prog 6 #[.string s, .int .i64 stop, .int .i64 inner] w fun e W' => e = .returned (.bool true) ∧ Below w.heap.size w W' := by
 have h1 : 1 ≤ n := by omega
 have HST := Lib.hid hst; clear hst
 have hal := P.allE_len s
 have hpos : 0 < (P.allE s 0).length := by
  rcases Nat.eq_zero_or_pos (P.allE s 0).length with h | h
  · exact absurd (List.eq_nil_of_length_eq_zero h) (P.allE_ne s)
  · exact h
 refine callsIn_of_wp_marks Try.func6 rfl trivial ?_ rfl
 simp only [Try.ntmps6, List.size_toArray, List.length_cons, List.length_nil, Nat.reduceAdd, Nat.reduceSub, Array.replicate_succ, Array.replicate_zero, List.push_toArray, List.append_toArray, List.nil_append, List.cons_append]
 have HBB := Lib.hid (Below.refl w.heap.size w)
 gi_wp2_with (first | (refine ⟨trivial, ?_⟩; gi_at_call 13; refine (callsIn_wide.2 (walked_c s hs _ inner (by first | exact HST.out | omega) _)).mono ?_; rintro e w1 ⟨rfl, hb1⟩; replace HBB := Lib.hid (HBB.out.trans (hb1.mono HBB.out.size)); clear hb1) | (refine ⟨trivial, ?_⟩; gi_at_call 14; refine (lexEach_in (n - 1) s _).mono ?_; rintro e w' ⟨rfl, rfl⟩))
 have hbs := HBB.out.size
 have hW : Below w.heap.size w (((w1.alloc (.cells #[.string s] 9)).alloc (.cells #[.int .i64 0] 3)).alloc (.cells #[.int .i64 0] 3)) := ((HBB.out.alloc hbs _).alloc (by simp; omega) _).alloc (by simp; omega) _
 have hT : Boxed (((w1.alloc (.cells #[.string s] 9)).alloc (.cells #[.int .i64 0] 3)).alloc (.cells #[.int .i64 0] 3)) w1.heap.size 9 (.string s) := heap_keep (heap_keep (heap_new _ _))
 have hN : Boxed (((w1.alloc (.cells #[.string s] 9)).alloc (.cells #[.int .i64 0] 3)).alloc (.cells #[.int .i64 0] 3)) (w1.heap.size + 1) 3 (.int .i64 0) := heap_keep (heap_new1 _ _ _)
 have hM : Boxed (((w1.alloc (.cells #[.string s] 9)).alloc (.cells #[.int .i64 0] 3)).alloc (.cells #[.int .i64 0] 3)) (w1.heap.size + 1 + 1) 3 (.int .i64 0) := heap_new2 _ _ _ _
 have hsz0 : (((w1.alloc (.cells #[.string s] 9)).alloc (.cells #[.int .i64 0] 3)).alloc (.cells #[.int .i64 0] 3)).heap.size = w1.heap.size + 3 := by simp
 generalize (((w1.alloc (.cells #[.string s] 9)).alloc (.cells #[.int .i64 0] 3)).alloc (.cells #[.int .i64 0] 3)) = W0 at hW hT hN hM hsz0 ⊢
 clear HBB
 generalize w1.heap.size = b at hT hN hM hsz0 hbs ⊢
 have hsz1 : b + 3 ≤ W0.heap.size := by omega
 clear hsz0
 refine wpIn_rangeFunc_ownG rfl h1 (gf := 27) (lb := #[.pointer (some ⟨b, 0, none⟩)]) rfl trivial (enters_of Try.func27 (by kernel_rfl) rfl)
  (lexEach_stops (n - 1) (by omega) b (b + 1) W0.heap.size s hs W0 (by omega) (by omega) (Nat.le_refl _) hT (fun k ⟨v, h, h'⟩ => by rw [hN.cell] at h; obtain rfl := Option.some.inj h; simp [Value.ownBlock] at h')) kpR_t (kpR_b (by omega)) (Below.refl _ _) (fun _ => rfl)
  (fun pre W => ((Boxed W (b + 1) 3 (.int .i64 (pre.length : Int)) ∧ Boxed W (b + 1 + 1) 3 (.int .i64 0)) ∧ Boxed W b 9 (.string s)) ∧ Below w.heap.size w W)
  (fun _ _ _ => False)
  (OwnFrom.and (OwnFrom.and (OwnFrom.and (Own.from (boxed_own _ _ _) _) (Own.from (boxed_own _ _ _) _)) (Own.from (boxed_own _ _ _) _)) (ownFrom_below (Nat.le_refl _) (by omega)))
  (fun _ _ _ _ _ hs _ _ => hs)
  ⟨⟨⟨hN, hM⟩, hT⟩, hW⟩
  (fun x => { tmps := #[.string s, .int .i64 stop, .int .i64 inner, undef, undef, undef, .bool false, .func (.func 27) #[] #[.pointer (some ⟨b, 0, none⟩)], .pointer (some ⟨b + 1, 0, none⟩), .pointer (some ⟨b + 1 + 1, 0, none⟩), .string s, .int .i64 stop, .int .i64 inner, .bool true, .bool false, .bool false, .string s, .int .i64 inner, .bool true, .bool false, .bool false, .string s, .func (.func 27) #[] #[.pointer (some ⟨b, 0, none⟩)], .func (.func 27) #[] #[.pointer (some ⟨b, 0, none⟩)], .bool false, .func (.func 27) #[] #[.pointer (some ⟨b, 0, none⟩)], tokV x, fltV x, undef, undef, undef, undef, undef, undef, undef, undef, undef, undef, undef, undef, undef, undef], defers := [] }) ?assign ?body ?done ?stop
 case assign =>
  intro l x W K hK
  gi_wp2
  exact hK
 case body =>
  rintro l pre x W ⟨⟨⟨hN1, hM1⟩, hT1⟩, hB1⟩ hlt
  have hnc := hN1.cell; have hnf := hN1.frozen
  have hpl : pre.length ≤ 65537 := by omega
  have HN := Lib.hid hN1; have HM := Lib.hid hM1; have HT := Lib.hid hT1; have HB := Lib.hid hB1
  clear hN1 hM1 hT1 hB1
  gi_wp2
  have hset : Boxed (W.setCell ⟨b + 1, 0, none⟩ (.int .i64 ((pre.length : Int) + 1))) (b + 1) 3 (.int .i64 (((pre ++ [x]).length : Nat) : Int)) := by have := HN.out.set (.int .i64 ((pre.length : Int) + 1)); simpa using this
  exact ⟨(KeepsOthers.setCell _ _ _).from _, kpR_int (by simp [World.setCell]) (fun k o hk ho => heap_other (by dsimp only; omega) ho) hset, ⟨⟨hset, HM.out.other (by omega) _⟩, HT.out.other (by omega) _⟩, HB.out.setCell (by dsimp only; omega) _⟩
 case stop =>
  rintro D co pre W _ _ h _
  exact h.elim
 case done =>
  rintro D ys W hD rfl ⟨⟨⟨hN1, hM1⟩, hT1⟩, hB1⟩ hK
  have hWz := hD
  have hltD := heap_lt hK
  have hbN := hN1.lt; have hbM := hM1.lt; have hbT := hT1.lt; have hbB := hB1.size
  gi_wp2
  refine wpIn_rangeFunc_ownG rfl h1 (gf := 27) (lb := #[.pointer (some ⟨b, 0, none⟩)]) rfl trivial (enters_of Try.func27 (by kernel_rfl) rfl)
   (lexEach_stops (n - 1) (by omega) b (b + 1 + 1) W.heap.size s hs W (by omega) (by omega) (Nat.le_refl _) hT1 (fun k ⟨v, h, h'⟩ => by rw [hM1.cell] at h; obtain rfl := Option.some.inj h; simp [Value.ownBlock] at h')) kpR_t (kpR_b (by omega)) (Below.refl _ _) (fun _ => rfl)
   (fun pre W' => ((Boxed W' (b + 1) 3 (.int .i64 ((P.allE s 0).length : Int)) ∧ Boxed W' (b + 1 + 1) 3 (.int .i64 (pre.length : Int))) ∧ Boxed W' b 9 (.string s)) ∧ (Below w.heap.size w W' ∧ W'.heap[D]? = some (.deferred (some []))))
   (fun _ _ _ => False)
   (OwnFrom.and (OwnFrom.and (OwnFrom.and (Own.from (boxed_own _ _ _) _) (Own.from (boxed_own _ _ _) _)) (Own.from (boxed_own _ _ _) _)) (OwnFrom.and (ownFrom_below (Nat.le_refl _) (by omega)) (fun _ X Y row h hg hr => (hg.block D (heap_lt h) (fun e => by have := (hr D e.symm).1; omega)).trans h)))
   (fun _ _ _ _ _ hs _ _ => hs)
   ⟨⟨⟨hN1, hM1⟩, hT1⟩, hB1, hK⟩
   (fun x => { tmps := #[.string s, .int .i64 stop, .int .i64 inner, undef, undef, undef, .bool false, .func (.func 27) #[] #[.pointer (some ⟨b, 0, none⟩)], .pointer (some ⟨b + 1, 0, none⟩), .pointer (some ⟨b + 1 + 1, 0, none⟩), .string s, .int .i64 stop, .int .i64 inner, .bool true, .bool false, .bool false, .string s, .int .i64 inner, .bool true, .bool false, .bool false, .string s, .func (.func 27) #[] #[.pointer (some ⟨b, 0, none⟩)], .func (.func 27) #[] #[.pointer (some ⟨b, 0, none⟩)], .bool false, .func (.func 27) #[] #[.pointer (some ⟨b, 0, none⟩)], undef, undef, undef, undef, .func (.func 27) #[] #[.pointer (some ⟨b, 0, none⟩)], tokV x, fltV x, undef, undef, undef, undef, undef, undef, undef, undef, undef], defers := [] }) ?assign2 ?body2 ?done2 ?stop2
  case assign2 =>
   intro l x W' K hK
   gi_wp2
   exact hK
  case body2 =>
   rintro l pre x W' ⟨⟨⟨hN2, hM2⟩, hT2⟩, hB2, hK2⟩ hlt
   have hmc := hM2.cell; have hmf := hM2.frozen
   have hpl : pre.length ≤ 65537 := by omega
   have HN := Lib.hid hN2; have HM := Lib.hid hM2; have HT := Lib.hid hT2; have HB := Lib.hid hB2; have HK := Lib.hid hK2
   clear hN2 hM2 hT2 hB2 hK2
   gi_wp2
   have hset : Boxed (W'.setCell ⟨b + 1 + 1, 0, none⟩ (.int .i64 ((pre.length : Int) + 1))) (b + 1 + 1) 3 (.int .i64 (((pre ++ [x]).length : Nat) : Int)) := by have := HM.out.set (.int .i64 ((pre.length : Int) + 1)); simpa using this
   exact ⟨(KeepsOthers.setCell _ _ _).from _, kpR_int (by simp [World.setCell]) (fun k o hk ho => heap_other (by dsimp only; omega) ho) hset, ⟨⟨HN.out.other (by omega) _, hset⟩, HT.out.other (by omega) _⟩, HB.out.setCell (by dsimp only; omega) _, (KeepsOthers.setCell _ _ _).same D _ HK.out rfl⟩
  case stop2 =>
   rintro D2 co pre W' _ _ h _
   exact h.elim
  case done2 =>
   rintro D2 ys W' hD2 rfl ⟨⟨⟨hN2, hM2⟩, hT2⟩, hB2, hK2⟩ hK3
   have hnc := hN2.cell; have hmc := hM2.cell
   have hpos' : (0 : Int) < ((P.allE s 0).length : Int) := by omega
   have HB := Lib.hid hB2; have HK := Lib.hid hK2; have HK3 := Lib.hid hK3
   clear hN2 hM2 hT2 hB2 hK2 hK3
   gi_wp2
   refine ⟨by simp, .inl ⟨_, _, rfl, run_takeDeferred HK3.out, ?_⟩⟩
   have hKD : (W'.putObj D2 (.deferred none)).heap[D]? = some (.deferred (some [])) := (World.putObj_heap_other (by omega)).trans HK.out
   refine ⟨by simp, .inl ⟨_, _, rfl, run_takeDeferred hKD, ?_⟩⟩
   exact ⟨_, results_tmp rfl _ _ _, rfl, (HB.out.trans (belowK_b (w := w) (Nat.le_refl _) _ D2 _ _ (by omega) HK3.out rfl rfl)).trans (belowK_b (w := w) (Nat.le_refl _) _ D _ _ (by omega) hKD rfl rfl)⟩
theorem eaches_w (s : ByteArray) (stop inner : Int) (w : World) (hs : s.size ≤ P.bnd) (hst : (Lit.int .i64 stop).wf = true) (hi : (Lit.int .i64 inner).wf = true) :
 Calls Try.prog 6 #[.string s, .int .i64 stop, .int .i64 inner] w fun e w' => e = .returned (.bool true) ∧ Below w.heap.size w w' := by
 have h : IntKind.i64.min ≤ stop ∧ stop ≤ IntKind.i64.max := by simpa [Lit.wf] using hst
 have h0 : IntKind.i64.min = -9223372036854775808 := rfl
 have h1 : IntKind.i64.max = 9223372036854775807 := rfl
 rw [h0, h1] at h
 exact callsIn_wide.1 (eaches_in 8 (Nat.le_refl _) s hs stop inner h w)
end Go.Proofs.Ytldjdcdoegjmoaa

/- lexis.Tokens. -/
import Derived.RangeFuncBox
import Derived.Shelf.RegionOpen
import Derived.Deep.AppendLies
import Derived.Laws.AppendOwn
import Derived.Test.YtldjdcdoegjmoaaZ25
import Derived.Test.YtldjdcdoegjmoaaLxLast
set_option linter.unusedVariables false
set_option linter.unusedSimpArgs false
namespace Go.Proofs.Ytldjdcdoegjmoaa
open Go.RowKit Go.Shelf
attribute [local go_sem] Oper.semAt_some
/-- What lexis.Tokens tells. -/
def toksOut (s : ByteArray) : List TV × Int × Int :=
 match (P.allE s 0).getLast? with
 | some t => if P.codeOf t = 0 then (P.allE s 0, 0, 0) else ([], t.2.2.2.2.2.2.2.2.2.2.2.1, P.codeOf t)
 | none => ([], 0, 0)
theorem toksOut_ok {s : ByteArray} (h : ∀ t ∈ P.allE s 0, P.codeOf t = 0) : toksOut s = (P.allE s 0, 0, 0) := by
 unfold toksOut
 rcases List.eq_nil_or_concat (P.allE s 0) with e | ⟨ys, y, e⟩
 · exact absurd e (P.allE_ne s)
 · rw [List.concat_eq_append] at e
   rw [e] at h ⊢
   simp [h y (by simp)]
theorem toksOut_bad {s : ByteArray} {pre : List TV} {t : TV} (h : pre ++ [t] <+: P.allE s 0) (hc : P.codeOf t ≠ 0) : toksOut s = ([], t.2.2.2.2.2.2.2.2.2.2.2.1, P.codeOf t) := by
 unfold toksOut
 rw [P.allE_last h hc]
 simp [hc]
def ToksI (w : World) (bs bl r2 r3 : Nat) (s : ByteArray) (pre : List TV) (W : World) : Prop :=
 (((∃ v, Boxed W bl 45 v ∧ W.ownsRow w.heap.size 28 11 v pre.length (tcells pre) ∧ True) ∧ Boxed W r2 45 (.slice none 0 0)) ∧ (W.heap[r3]? = some (.cells #[.int .i64 0, .int .i64 0] 31 (0, 0)) ∧ W.heap[bs]? = some (.cells #[.string s] 9 (0, 0)))) ∧ (Below w.heap.size w W ∧ ∀ t ∈ pre, P.codeOf t = 0)
def ToksX (w : World) (r2 r3 : Nat) (co : Code) (pre : List TV) (W : World) : Prop :=
 co = .ret ∧ ∃ pre' t, pre = pre' ++ [t] ∧ P.codeOf t ≠ 0 ∧ (Boxed W r2 45 (.slice none 0 0) ∧ W.heap[r3]? = some (.cells #[.int .i64 t.2.2.2.2.2.2.2.2.2.2.2.1, .int .i64 (P.codeOf t)] 31 (0, 0))) ∧ Below w.heap.size w W
theorem toksI_own {w : World} {bs bl r2 r3 B : Nat} {s : ByteArray} (hB : w.heap.size ≤ B) : OwnFrom B (ToksI w bs bl r2 r3 s) :=
 OwnFrom.and (OwnFrom.and (OwnFrom.and (Own.from (holdsRow_own w.heap.size bl 45 28 11 (fun pre : List TV => pre.length) (fun pre => tcells pre) (fun pre v => True)) _) (Own.from (boxed_own _ _ _) _)) (OwnFrom.and (Own.from (block_own2 _ _ _) _) (Own.from (block_own2 _ _ _) _))) (OwnFrom.and (ownFrom_below (Nat.le_refl _) hB) (ownFrom_pure _ _))
theorem toksX_own {w : World} {r2 r3 B : Nat} (hB : w.heap.size ≤ B) (co : Code) : OwnFrom B (ToksX w r2 r3 co) := by
 rintro pre X Y row ⟨e, pre', t, h1, h2, ⟨h3, h4⟩, h5⟩ hg hr
 have hr' := fun r e => (hr r e).2
 exact ⟨e, pre', t, h1, h2, ⟨boxed_own r2 _ (fun (_ : Unit) => _) () X Y row h3 hg hr', block_own2 (β := Unit) r3 _ _ () X Y row h4 hg hr'⟩, ownFrom_below (β := Unit) (Nat.le_refl _) hB () X Y row h5 hg hr⟩
/-- One token more. -/
theorem toks_put {w W w1 : World} {bs bl r2 r3 B m : Nat} {s : ByteArray} {pre : List TV} {x : TV} {v v' : Value} {ys : List Value} {tmp : Obj} (hi : ToksI w bs bl r2 r3 s pre W) (hv : Boxed W bl 45 v) (hrow : W.ownsRow w.heap.size 28 11 v pre.length (tcells pre))
 (hcode : P.codeOf x = 0) (hown' : w1.ownsRow w.heap.size 28 11 v' m ys) (hgrow : (W.alloc tmp).grownBy w1 v.ownBlock) (hfr : ∀ j, v'.ownBlock = some j → v.ownBlock = some j ∨ (W.alloc tmp).heap.size ≤ j)
 (hm : m = (pre ++ [x]).length) (hy : ys = tcells (pre ++ [x])) (hlo : w.heap.size ≤ bl ∧ bl < B) (hne : bl ≠ r2 ∧ bl ≠ r3 ∧ bl ≠ bs) {B' : Nat} :
 KeepsFrom B' W (w1.setCell ⟨bl, 0, none⟩ v') ∧ KpR B bs bl W (w1.setCell ⟨bl, 0, none⟩ v') ∧ ToksI w bs bl r2 r3 s (pre ++ [x]) (w1.setCell ⟨bl, 0, none⟩ v') := by
 obtain ⟨⟨⟨_, h2⟩, h3, h4⟩, hB, hco⟩ := hi
 obtain ⟨hv1, hv2, hr2, hk2, hb2⟩ := hv.appended (by decide) hrow hB.size hlo.1 hown' hgrow
 have stay : ∀ {b : Nat} {cs : Array Value} {t : TypeId}, b ≠ bl → t ≠ 28 → W.heap[b]? = some (.cells cs t (0, 0)) → (w1.setCell ⟨bl, 0, none⟩ v').heap[b]? = some (.cells cs t (0, 0)) := fun {b cs t} hb ht hh =>
  heap_other hb ((hgrow.block _ (heap_lt (heap_keep hh)) (not_row2 hh ht hrow)).trans (heap_keep hh))
 have h4' := stay hne.2.2.symm (by decide) h4
 subst hm hy
 refine ⟨hk2.from _, ⟨hb2.size, fun k o hk ho hc hn => ?_, fun k hk => ?_, fun hlt k hk => ?_⟩, ⟨⟨⟨_, hv2, hr2, trivial⟩, stay hne.1.symm (by decide) h2⟩, stay hne.2.1.symm (by decide) h3, h4'⟩, hB.trans hb2, fun u hu => ?_⟩
 · refine heap_other (fun e => ?_) ((hgrow.block _ (heap_lt (heap_keep ho)) (fun e => hn ⟨v, hv.cell, e.symm⟩)).trans (heap_keep ho))
   dsimp only at e
   rcases hk with hk | hk
   · omega
   · exact hne.2.2 (by rw [← e, hk])
 · obtain ⟨u, hu, huo⟩ := hk
   rw [hv2.cell] at hu
   obtain rfl := Option.some.inj hu
   rcases hfr k huo with q | q
   · exact .inl ⟨v, hv.cell, q⟩
   · exact .inr (by simp at q; omega)
 · obtain ⟨u, hu, huo⟩ := hk
   rw [hv2.cell] at hu
   obtain rfl := Option.some.inj hu
   exact ⟨(hr2.lt k huo).2, fun e => not_row2 h4' (by decide) hr2 (by rw [huo, e])⟩
 · rcases List.mem_append.1 hu with hu | hu
   · exact hco u hu
   · rw [List.mem_singleton.1 hu]; exact hcode
set_option maxRecDepth 100000 in
set_option maxHeartbeats 4000000 in
theorem tokens_in (n : Nat) (hn : 8 ≤ n) (s : ByteArray) (hs : s.size ≤ P.bnd) (w : World) :
 CallsIn Fence.wide n Try.prog 15 #[.string s] w fun e W' => ∃ v, e = .returned (.tuple #[v, .agg #[.int .i64 (toksOut s).2.1, .int .i64 (toksOut s).2.2]]) ∧ W'.ownsRow w.heap.size 28 11 v (toksOut s).1.length (tcells (toksOut s).1) ∧ Below w.heap.size w W' := by
 have h1 : 1 ≤ n := by omega
 obtain ⟨i0, hi1, hz0, hz1, hz2⟩ := info_parts infoTok
 refine callsIn_of_wp_marks Try.func15 rfl trivial ?_ rfl
 simp only [Try.ntmps15, List.size_toArray, List.length_cons, List.length_nil, Nat.reduceAdd, Nat.reduceSub, Array.replicate_succ, Array.replicate_zero, List.push_toArray, List.append_toArray, List.nil_append, List.cons_append]
 gi_wp2_with (refine ⟨trivial, ?_⟩; gi_at_call 14; refine (lexEach_in (n - 1) s _).mono ?_; rintro e w' ⟨rfl, rfl⟩)
 have hB0 : Below w.heap.size w ((((w.alloc (.cells #[.slice none 0 0] 45)).alloc (.cells #[.int .i64 0, .int .i64 0] 31)).alloc (.cells #[.slice none 0 0] 45)).alloc (.cells #[.string s] 9)) := ((((Below.refl _ w).alloc (Nat.le_refl _) _).alloc (by simp) _).alloc (by simp; omega) _).alloc (by simp; omega) _
 have hI0 : ToksI w (w.heap.size + 1 + 1 + 1) (w.heap.size + 1 + 1) w.heap.size (w.heap.size + 1) s [] ((((w.alloc (.cells #[.slice none 0 0] 45)).alloc (.cells #[.int .i64 0, .int .i64 0] 31)).alloc (.cells #[.slice none 0 0] 45)).alloc (.cells #[.string s] 9)) :=
  ⟨⟨⟨⟨_, heap_keep (heap_new2 w _ _ _), World.ownsRow_nil _ _ _ _, trivial⟩, heap_keep (heap_keep (heap_keep (heap_new w _)))⟩, heap_keep (heap_keep (heap_new1 w _ _)), heap_new3 w _ _ _ _⟩, hB0, fun t ht => by simp at ht⟩
 have hsz0 : ((((w.alloc (.cells #[.slice none 0 0] 45)).alloc (.cells #[.int .i64 0, .int .i64 0] 31)).alloc (.cells #[.slice none 0 0] 45)).alloc (.cells #[.string s] 9)).heap.size = w.heap.size + 4 := by simp
 have hbl : Boxed ((((w.alloc (.cells #[.slice none 0 0] 45)).alloc (.cells #[.int .i64 0, .int .i64 0] 31)).alloc (.cells #[.slice none 0 0] 45)).alloc (.cells #[.string s] 9)) (w.heap.size + 1 + 1) 45 (.slice none 0 0) := heap_keep (heap_new2 w _ _ _)
 generalize ((((w.alloc (.cells #[.slice none 0 0] 45)).alloc (.cells #[.int .i64 0, .int .i64 0] 31)).alloc (.cells #[.slice none 0 0] 45)).alloc (.cells #[.string s] 9)) = W0 at hB0 hI0 hsz0 hbl ⊢
 have hbl0 : ∀ k, OwnAt (w.heap.size + 1 + 1) W0 k → k < W0.heap.size ∧ k ≠ w.heap.size + 1 + 1 + 1 := fun k ⟨v, h, h'⟩ => by
  rw [hbl.cell] at h
  obtain rfl := Option.some.inj h
  simp [Value.ownBlock] at h'
 refine wpIn_rangeFunc_ownH rfl h1 (gf := 27) (lb := #[.pointer (some ⟨w.heap.size + 1 + 1 + 1, 0, none⟩)]) rfl trivial (enters_of Try.func27 (by kernel_rfl) rfl)
  (lexEach_stops (n - 1) (by omega) (w.heap.size + 1 + 1 + 1) (w.heap.size + 1 + 1) W0.heap.size s hs W0 (by omega) (by omega) (Nat.le_refl _) hI0.1.2.2 hbl0) kpR_t (kpR_b (by omega)) (Below.refl _ _) (fun _ => rfl)
  (ToksI w (w.heap.size + 1 + 1 + 1) (w.heap.size + 1 + 1) w.heap.size (w.heap.size + 1) s) (ToksX w w.heap.size (w.heap.size + 1)) (toksI_own (by omega)) (toksX_own (by omega)) hI0
  (fun x a' W => ∃ Bt, W.heap[Bt]? = some (.cells (tvals x).toArray 28 (0, 0)) ∧ W.heap[Bt + 1]? = some (.cells #[.int .i64 x.2.2.2.2.2.2.2.2.2.2.2.1, .int .i64 (P.codeOf x)] 31 (0, 0)) ∧ w.heap.size + 4 ≤ Bt ∧
    a' = { tmps := #[.string s, undef, .pointer (some ⟨w.heap.size, 0, none⟩), .pointer (some ⟨w.heap.size + 1, 0, none⟩), .pointer (some ⟨w.heap.size + 1 + 1, 0, none⟩), .pointer (some ⟨Bt, 0, none⟩), .pointer (some ⟨Bt + 1, 0, none⟩), .string s, .func (.func 27) #[] #[.pointer (some ⟨w.heap.size + 1 + 1 + 1, 0, none⟩)], tokV x, fltV x, undef, undef, undef, undef, undef, undef, undef, undef, undef, undef], defers := [] })
  (fun x a' _ X Y row hs hg hr => by obtain ⟨Bt, h1, h2, h3, h4⟩ := hs; exact ⟨Bt, block_own2 (β := Unit) Bt _ _ () X Y row h1 hg (fun r e => (hr r e).2), block_own2 (β := Unit) (Bt + 1) _ _ () X Y row h2 hg (fun r e => (hr r e).2), h3, h4⟩)
  ?assign ?body ?done ?stop
 case assign =>
  rintro l pre ⟨k1, k2, k3, k4, k5, k6, k7, k8, k9, k10, k11, k12, k13⟩ W K hi hK
  have hlt := hi.1.1.1.choose_spec.1.lt
  have hsz := hi.2.1.size
  have hlt4 := heap_lt hi.1.2.2
  unfold tokV fltV
  dsimp only
  gi_wp2
  exact hK _ _ (((KeepsOthers.alloc _ _).trans (KeepsOthers.alloc _ _)).from _) (kpR_t (kpR_alloc hlt _) (kpR_alloc (by simp; omega) _)) ((toksI_own (B := W0.heap.size) (by omega)).alloc _ ((toksI_own (B := W0.heap.size) (by omega)).alloc _ hi)) ⟨W.heap.size, heap_keep (heap_new W _), heap_new1 W _ _, by omega, rfl⟩
 case body =>
  rintro l pre ⟨k1, k2, k3, k4, k5, k6, k7, k8, k9, k10, k11, k12, k13⟩ a' W hl ⟨r, hr⟩ hi ⟨Bt, hT, hF, hBt, rfl⟩ hlt
  have hi' := hi
  obtain ⟨⟨⟨⟨v, hv, hrow, _⟩, hq2⟩, hq3, hqs⟩, hB, hcodes⟩ := hi
  unfold tvals at hT
  dsimp only [P.codeOf] at hT hF
  have hvc := hv.cell; have hvf := hv.frozen; have h2c := hq2.cell; have h2f := hq2.frozen
  obtain ⟨a0, a1, a2, a3, a4, a5, a6, a7, a8, a9, a10⟩ := eleven_cells hT
  obtain ⟨b0, b1, c0, c1⟩ := two_cells hF
  obtain ⟨d0, d1, e0, e1⟩ := two_cells hq3
  have hlen := P.allE_len s
  have hBs := hB.size
  have hltT := heap_lt hT; have hltF := heap_lt hF
  have HI := Lib.hid hi'; have HV := Lib.hid hv; have HR := Lib.hid hrow; have HB := Lib.hid hB; have HQ2 := Lib.hid hq2; have HQ3 := Lib.hid hq3
  clear hi' hq2 hq3 hqs hT hF hcodes
  unfold tokV fltV
  dsimp only
  by_cases hc : k13 = 0
  · subst hc
    clear d0 d1 e0 e1 h2c h2f
    obtain ⟨A, c, rfl⟩ := own_form hrow
    clear hrow hB
    gi_wp2_with (gi_at_builtin; refine wpListIn_append_new _ rfl _ _ 45 rfl w.heap.size 28 i0 (.agg #[.int .i64 0, .int .i64 0, .int .i64 0, .string ⟨#[]⟩, .bool false, .int .u64 0, .int .u64 0, .int .u64 0, .int .u64 0, .int .i64 0, .int .i64 0]) 11 96 Try.underlying45 hi1 hz0 hz1 hz2 rfl (by decide) _ _ _ rfl (HR.out.alloc _) ⟨W.heap.size, 0, none⟩ 1 1 [.int .i64 k1, .int .i64 k2, .int .i64 k3, .string k4, .bool k5, .int .u64 k6, .int .u64 k7, .int .u64 k8, .int .u64 k9, .int .i64 k10, .int .i64 k11] rfl rfl (cell_list_new _ _ _) (by simp [Value.oneCell']) (by decide) (by unfold maxLen; omega) (by omega) (by simp; omega) ?_; intro v' w1 hown' hgrow hfr; obtain ⟨g', cap', rfl⟩ := ownsRow_succ hown'; have HW := Lib.hid hown'; have HG := Lib.hid hgrow; have HFR := Lib.hid hfr; have hc1 := ((HV.out.alloc _).kept hgrow (HV.out.not_row (by decide) HR.out)).cell; have hf1 := ((HV.out.alloc _).kept hgrow (HV.out.not_row (by decide) HR.out)).frozen; clear hown' hgrow hfr)
    exact toks_put (x := (k1, k2, k3, k4, k5, k6, k7, k8, k9, k10, k11, k12, 0)) HI.out HV.out HR.out rfl HW.out HG.out HFR.out (by simp) (by rw [tcells_snoc]; rfl) ⟨by omega, by omega⟩ ⟨by omega, by omega, by omega⟩
  · have hc' : (k13 == 0) = false := by rw [beq_eq_false_iff_ne]; exact hc
    have hc2 : (k13 != 0) = true := by rw [bne, hc']; rfl
    have HC := Lib.hid hc; clear hc
    gi_wp2
    have hm : Try.prog.follows .mixedOrders = true := by kernel_rfl
    gi_region_o
    all_goals gi_wp2
    all_goals exact ⟨((((KeepsOthers.setCell _ _ _).trans (KeepsOthers.setCell _ _ _)).trans (KeepsOthers.setCell _ _ _)).trans (KeepsOthers.drew _)).from _, rfl, pre, (k1, k2, k3, k4, k5, k6, k7, k8, k9, k10, k11, k12, k13), rfl, HC.out,
     ⟨heap_other (a := ⟨w.heap.size + 1, 1, none⟩) (by dsimp only; omega) (heap_other (a := ⟨w.heap.size + 1, 0, none⟩) (by dsimp only; omega) (HQ2.out.set _)), heap_put (i := 1) (heap_put (i := 0) (heap_other (a := ⟨w.heap.size, 0, none⟩) (by dsimp only; omega) HQ3.out))⟩,
     (((HB.out.setCell (p := ⟨w.heap.size, 0, none⟩) (Nat.le_refl _) _).setCell (p := ⟨w.heap.size + 1, 0, none⟩) (by dsimp only; omega) _).setCell (p := ⟨w.heap.size + 1, 1, none⟩) (by dsimp only; omega) _).drew⟩
 case done =>
  rintro D ys W hD rfl hi hK
  have hok := toksOut_ok hi.2.2
  obtain ⟨⟨⟨⟨v, hv, hrow, _⟩, hq2⟩, hq3, hqs⟩, hB, hcodes⟩ := hi
  have hvc := hv.cell; have h2c := hq2.cell; have h2f := hq2.frozen
  obtain ⟨d0, d1, e0, e1⟩ := two_cells hq3
  have hsz := hB.size
  have HOK := Lib.hid hok; clear hok
  obtain ⟨A, c, rfl⟩ := own_form hrow
  have HV := Lib.hid hv; have HR := Lib.hid hrow; have HB := Lib.hid hB; have HQ2 := Lib.hid hq2; have HQ3 := Lib.hid hq3; have HK := Lib.hid hK
  clear hv hrow hB hq2 hq3 hqs hcodes hK
  gi_wp2
  have hK3 := (((KeepsOthers.setCell W ⟨w.heap.size, 0, none⟩ (.slice A (P.allE s 0).length c)).trans (KeepsOthers.setCell _ ⟨w.heap.size + 1, 0, none⟩ (.int .i64 0))).trans (KeepsOthers.setCell _ ⟨w.heap.size + 1, 1, none⟩ (.int .i64 0))).same D _ HK.out rfl
  have hB3 := ((HB.out.setCell (p := ⟨w.heap.size, 0, none⟩) (Nat.le_refl _) (.slice A (P.allE s 0).length c)).setCell (p := ⟨w.heap.size + 1, 0, none⟩) (by dsimp only; omega) (.int .i64 0)).setCell (p := ⟨w.heap.size + 1, 1, none⟩) (by dsimp only; omega) (.int .i64 0)
  have h23 : Boxed (((W.setCell ⟨w.heap.size, 0, none⟩ (.slice A (P.allE s 0).length c)).setCell ⟨w.heap.size + 1, 0, none⟩ (.int .i64 0)).setCell ⟨w.heap.size + 1, 1, none⟩ (.int .i64 0)) w.heap.size 45 (.slice A (P.allE s 0).length c) := heap_other (a := ⟨w.heap.size + 1, 1, none⟩) (by dsimp only; omega) (heap_other (a := ⟨w.heap.size + 1, 0, none⟩) (by dsimp only; omega) (HQ2.out.set _))
  have h33 : (((W.setCell ⟨w.heap.size, 0, none⟩ (.slice A (P.allE s 0).length c)).setCell ⟨w.heap.size + 1, 0, none⟩ (.int .i64 0)).setCell ⟨w.heap.size + 1, 1, none⟩ (.int .i64 0)).heap[w.heap.size + 1]? = some (.cells #[.int .i64 0, .int .i64 0] 31 (0, 0)) := heap_put (i := 1) (heap_put (i := 0) (heap_other (a := ⟨w.heap.size, 0, none⟩) (by dsimp only; omega) HQ3.out))
  have hO3 := own_other (w1 := ((W.setCell ⟨w.heap.size, 0, none⟩ (.slice A (P.allE s 0).length c)).setCell ⟨w.heap.size + 1, 0, none⟩ (.int .i64 0)).setCell ⟨w.heap.size + 1, 1, none⟩ (.int .i64 0)) HR.out (fun g o ho hg => by
   have g2 : g ≠ w.heap.size := fun e => (HQ2.out.not_row (by decide) HR.out) (by rw [hg, e])
   have g3 : g ≠ w.heap.size + 1 := fun e => (not_row2 HQ3.out (by decide) HR.out) (by rw [hg, e])
   exact heap_other (a := ⟨w.heap.size + 1, 1, none⟩) g3 (heap_other (a := ⟨w.heap.size + 1, 0, none⟩) g3 (heap_other (a := ⟨w.heap.size, 0, none⟩) g2 ho)))
  refine ⟨by simp, .inl ⟨_, _, rfl, run_takeDeferred hK3, ?_⟩⟩
  have hgp := fun {p : Addr} {v : Value} (h : (((W.setCell ⟨w.heap.size, 0, none⟩ (.slice A (P.allE s 0).length c)).setCell ⟨w.heap.size + 1, 0, none⟩ (.int .i64 0)).setCell ⟨w.heap.size + 1, 1, none⟩ (.int .i64 0)).cell? p = some v) => cell_kept h (grownBy_putObj' _ D (.deferred none)) (fun r e => by cases e; exact ⟨_, hK3, rfl⟩)
  have x2 := hgp h23.cell
  obtain ⟨y0, y1, _, _⟩ := two_cells h33
  have x30 := hgp y0
  have x31 := hgp y1
  exact ⟨_, by simp [results, Try.results15, go_sem, x2, x30, x31]; rfl, _, by rw [HOK.out], by rw [HOK.out]; exact ownsRow_putObj hO3 _ hK3 rfl, hB3.trans (belowK_b (w := w) (Nat.le_refl _) _ D _ _ (by omega) hK3 rfl rfl)⟩
 case stop =>
  rintro D co pre W hD hSp ⟨rfl, pre', t, rfl, hc, ⟨hq2, hq3⟩, hB⟩ hK
  have hbad := toksOut_bad hSp hc
  have HBAD := Lib.hid hbad; clear hbad
  have h2c := hq2.cell
  obtain ⟨d0, d1, e0, e1⟩ := two_cells hq3
  gi_wp2
  refine ⟨by simp, .inl ⟨_, _, rfl, run_takeDeferred hK, ?_⟩⟩
  have hgp := fun {p : Addr} {v : Value} (h : W.cell? p = some v) => cell_kept h (grownBy_putObj' _ D (.deferred none)) (fun r e => by cases e; exact ⟨_, hK, rfl⟩)
  have x2 := hgp h2c
  have x30 := hgp d0
  have x31 := hgp d1
  have hsz := hB.size
  exact ⟨_, by simp [results, Try.results15, go_sem, x2, x30, x31]; rfl, _, by rw [HBAD.out], by rw [HBAD.out]; exact World.ownsRow_nil _ _ _ _, hB.trans (belowK_b (w := w) (Nat.le_refl _) _ D _ _ (by omega) hK rfl rfl)⟩
end Go.Proofs.Ytldjdcdoegjmoaa

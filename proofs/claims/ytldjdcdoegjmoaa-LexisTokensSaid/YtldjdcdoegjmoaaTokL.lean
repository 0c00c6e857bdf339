/- LexisTokens: the walk. -/
import Derived.Test.YtldjdcdoegjmoaaLxTok
import Derived.Test.YtldjdcdoegjmoaaFrT
import Derived.WalkKit
import Derived.BigQuiet
import Derived.Deep.QuietTactic
set_option linter.unusedVariables false
set_option linter.unusedSimpArgs false
namespace Go.Proofs.Ytldjdcdoegjmoaa
open Go.RowKit
theorem told_tok {W : World} {B g n c t : Nat} {ts : List TV} {x : TV} (h : Fr.Told W B 28 11 (.slice (some ⟨g, 0, none⟩) n c) n (tcells ts)) (hx : ts[t]? = some x) (ht : t < n) :
 (W.cell? ⟨g, t * 11, none⟩ = some (.int .i64 x.1) ∧ W.cell? ⟨g, t * 11 + 1, none⟩ = some (.int .i64 x.2.1) ∧ W.cell? ⟨g, t * 11 + 2, none⟩ = some (.int .i64 x.2.2.1) ∧ W.cell? ⟨g, t * 11 + 3, none⟩ = some (.string x.2.2.2.1) ∧ W.cell? ⟨g, t * 11 + 4, none⟩ = some (.bool x.2.2.2.2.1) ∧ W.cell? ⟨g, t * 11 + 5, none⟩ = some (.int .u64 x.2.2.2.2.2.1) ∧
 W.cell? ⟨g, t * 11 + 6, none⟩ = some (.int .u64 x.2.2.2.2.2.2.1) ∧ W.cell? ⟨g, t * 11 + 7, none⟩ = some (.int .u64 x.2.2.2.2.2.2.2.1) ∧ W.cell? ⟨g, t * 11 + 8, none⟩ = some (.int .u64 x.2.2.2.2.2.2.2.2.1) ∧ W.cell? ⟨g, t * 11 + 9, none⟩ = some (.int .i64 x.2.2.2.2.2.2.2.2.2.1) ∧ W.cell? ⟨g, t * 11 + 10, none⟩ = some (.int .i64 x.2.2.2.2.2.2.2.2.2.2.1)) := by
 have hk : ∀ j v, j < 11 → (tvals x)[j]? = some v → W.cell? ⟨g, t * 11 + j, none⟩ = some v := fun j v hj hv => by rw [Fr.Told.cell h _ (by omega), tcells_at ts t x hx j v hv]
 exact ⟨hk 0 _ (by omega) rfl, hk 1 _ (by omega) rfl, hk 2 _ (by omega) rfl, hk 3 _ (by omega) rfl, hk 4 _ (by omega) rfl, hk 5 _ (by omega) rfl, hk 6 _ (by omega) rfl, hk 7 _ (by omega) rfl, hk 8 _ (by omega) rfl, hk 9 _ (by omega) rfl, hk 10 _ (by omega) rfl⟩
theorem neqTok_me (x : TV) : neqTok x x = false := by unfold neqTok; simp
set_option maxRecDepth 100000 in
set_option maxHeartbeats 1000000 in
theorem eqTok_c (ts : List TV) (hn : ts.length ≤ 65537) (B1 B2 : Nat) (A1 A2 : Option Addr) (c1 c2 : Nat) (w : World) (h1 : Fr.Told w B1 28 11 (.slice A1 ts.length c1) ts.length (tcells ts)) (h2 : Fr.Told w B2 28 11 (.slice A2 ts.length c2) ts.length (tcells ts)) :
 Calls Try.prog 17 #[.slice A1 ts.length c1, .slice A2 ts.length c2] w fun e w' => e = .returned (.bool true) ∧ ∃ n, w' = w.drewN n := by
 have H1 := Lib.hid h1; have H2 := Lib.hid h2; clear h1 h2
 go_enter Try.func17, Try.ntmps17
 go_wp2
 go_loopw [5] (fun i wr => ∃ k j : Nat, k ≤ ts.length ∧ i = .int .i64 k ∧ wr = w.drewN j) (fun i _ => ts.length - (intOf i).toNat)
 case atStart => exact ⟨0, 0, by omega, rfl, rfl⟩
 case round =>
  obtain ⟨k, j, hk, rfl, rfl⟩ := hrel
  by_cases hlt : k < ts.length
  · obtain ⟨g1, d1, e1, _⟩ := H1.out.cons (by omega)
    obtain ⟨g2, d2, e2, _⟩ := H2.out.cons (by omega)
    injection e1 with e1a _ e1c
    injection e2 with e2a _ e2c
    subst e1a e1c e2a e2c
    obtain ⟨x, hx⟩ : ∃ x, ts[k]? = some x := ⟨_, List.getElem?_eq_getElem hlt⟩
    obtain ⟨a0, a1, a2, a3, a4, a5, a6, a7, a8, a9, a10⟩ := told_tok H1.out hx hlt
    obtain ⟨b0, b1, b2, b3, b4, b5, b6, b7, b8, b9, b10⟩ := told_tok H2.out hx hlt
    have i1 : (0 : Int) ≤ (k : Int) ∧ (k : Int) < (ts.length : Int) := by omega
    have hne := fun W => (neq28_run W x.1 x.1 x.2.1 x.2.1 x.2.2.1 x.2.2.1 x.2.2.2.1 x.2.2.2.1 x.2.2.2.2.1 x.2.2.2.2.1 x.2.2.2.2.2.1 x.2.2.2.2.2.1 x.2.2.2.2.2.2.1 x.2.2.2.2.2.2.1 x.2.2.2.2.2.2.2.1 x.2.2.2.2.2.2.2.1 x.2.2.2.2.2.2.2.2.1 x.2.2.2.2.2.2.2.2.1 x.2.2.2.2.2.2.2.2.2.1 x.2.2.2.2.2.2.2.2.2.1 x.2.2.2.2.2.2.2.2.2.2.1 x.2.2.2.2.2.2.2.2.2.2.1).trans (congrArg (fun b => Result.ok (Value.bool b) W) (neqTok_me x))
    clear hx
    go_wp2
    go_quiet (fail)
    go_wp2
    go_roundw
    case rel => exact ⟨k + 1, _, by omega, by go_num, by first | rfl | (rw [World.drewN_drewN])⟩
    case measure => simp [intOf]; omega
  · obtain rfl : k = ts.length := by omega
    go_wp2
    go_ret
    exact ⟨rfl, _, rfl⟩
theorem own_lower {W : World} {base base' n : Nat} {e : TypeId} {size : Nat} {v : Value} {xs : List Value} (h : W.ownsRow base e size v n xs) (hb : base' ≤ base) : W.ownsRow base' e size v n xs := by
 refine ⟨h.1, ?_⟩
 rcases h.2 with q | ⟨g, cap, cur, hv, hg, r⟩
 · exact .inl q
 · exact .inr ⟨g, cap, cur, hv, Nat.le_trans hb hg, r⟩
theorem toks_cases (s : ByteArray) : (toksOut s = (P.allE s 0, 0, 0) ∧ goods s = P.allE s 0 ∧ flt1 s = 0 ∧ flt2 s = 0) ∨ (toksOut s = ([], flt1 s, flt2 s) ∧ flt2 s ≠ 0) := by
 rcases P.all_split s with ⟨h1, h2, h3⟩ | ⟨L, p, c, hc, h1, h2, h3, h4⟩
 · refine .inl ⟨toksOut_ok fun t ht => (h3 t ht).1, h2, ?_, h1⟩
   unfold flt1 P.fltE
   rcases q : (P.allE s 0).getLast? with _ | t
   · rfl
   · exact (h3 t (List.mem_of_getLast? q)).2
 · refine .inr ⟨?_, by show (P.fltE (P.allE s 0)).2 ≠ 0; rw [h3]; exact hc⟩
   have e := toksOut_bad (s := s) (pre := L) (t := P.faultV p c) (by rw [h1]; exact List.prefix_refl _) (by rw [P.code_fault]; exact hc)
   rw [e]
   show _ = (([] : List TV), (P.fltE (P.allE s 0)).1, (P.fltE (P.allE s 0)).2)
   rw [h3]
   rfl
def ToksC (w : World) (s : ByteArray) (e : Ending) (W : World) : Prop := ∃ A c, e = .returned (.tuple #[.slice A (toksOut s).1.length c, .agg #[.int .i64 (toksOut s).2.1, .int .i64 (toksOut s).2.2]]) ∧ W.ownsRow w.heap.size 28 11 (.slice A (toksOut s).1.length c) (toksOut s).1.length (tcells (toksOut s).1) ∧ Below w.heap.size w W
theorem tokens_c (s : ByteArray) (hs : s.size ≤ P.bnd) (w : World) : Calls Try.prog 15 #[.string s] w (ToksC w s) := by
 refine (callsIn_wide.1 (tokens_in 8 (Nat.le_refl _) s hs w)).mono ?_
 rintro e W ⟨v, he, ho, hb⟩
 obtain ⟨A, c, rfl⟩ := own_form ho
 exact ⟨A, c, he, ho, hb⟩
set_option maxHeartbeats 1000000 in
theorem told_c (s : ByteArray) (hs : s.size ≤ P.bnd) (w : World) : Calls Try.prog 16 #[.string s] w (ToksC w s) := by
 have HR := fun W => (callsIn_wide.1 (refTok_in 3 (Nat.le_refl _) s hs W))
 rcases toks_cases s with ⟨t1, t2, t3, t4⟩ | ⟨t1, t2⟩
 · have T1 := Lib.hid t1; have T2 := Lib.hid t2; have T3 := Lib.hid t3; have T4 := Lib.hid t4; clear t1 t2 t3 t4
   go_enter Try.func16, Try.ntmps16
   go_wp2_with fail
   refine (HR _).mono ?_
   rintro e w1 ⟨v, rfl, ho, hb⟩
   rw [T3.out, T4.out]
   obtain ⟨A, c, rfl⟩ := own_form ho
   have HO := Lib.hid ho
   have hz := hb.size
   simp at hz
   have hlt : w.heap.size < w1.heap.size := hz
   have g0 := (hb.block w.heap.size (by simp)).trans (heap_alloc_new w (.cells #[.int .i64 0, .int .i64 0] 35 (0, 0)))
   have HB := Lib.hid hb
   have hc0 := fun j => cell_of_row w1 w.heap.size j _ _ _ g0
   have hf0 := fun j => frozen_of_row w1 w.heap.size j _ _ g0
   have c0 := hc0 0
   have c1 := hc0 1
   have f0 := hf0 0
   have f1 := hf0 1
   simp at c0 c1
   have G0 := Lib.hid g0
   clear ho hb hc0 hf0 g0
   go_wp2
   go_region
   all_goals go_wp2
   all_goals
    have gF : ((((w1.setCell ⟨w.heap.size, 0, none⟩ (.int .i64 0)).setCell ⟨w.heap.size, 1, none⟩ (.int .i64 0)).alloc (.cells #[.int .i64 0, .int .i64 0] 35)).drew).heap[w.heap.size]? = some (.cells #[.int .i64 0, .int .i64 0] 35 (0, 0)) :=
     ((World.grownBy_alloc _ _ none).block w.heap.size (by simpa using hlt) (by simp)).trans (heap_setCell_same _ w.heap.size 1 _ 35 _ (heap_setCell_same _ w.heap.size 0 _ 35 _ G0.out))
    have j0 := cell_of_row _ w.heap.size 0 _ _ _ gF
    have j1 := cell_of_row _ w.heap.size 1 _ _ _ gF
    simp at j0 j1
    have hBF : Below w.heap.size w ((((w1.setCell ⟨w.heap.size, 0, none⟩ (.int .i64 0)).setCell ⟨w.heap.size, 1, none⟩ (.int .i64 0)).alloc (.cells #[.int .i64 0, .int .i64 0] 35)).drew) := (((((Below.refl w.heap.size w).alloc (Nat.le_refl _) _).trans (HB.out.mono (by simp))).setCell (p := ⟨w.heap.size, 0, none⟩) (Nat.le_refl _) _).setCell (p := ⟨w.heap.size, 1, none⟩) (Nat.le_refl _) _).alloc (by simpa using Nat.le_of_lt hlt) _ |>.drew
    refine bodyPost_ret (v := .tuple #[.slice A (goods s).length c, .agg #[.int .i64 0, .int .i64 0]]) (by simp [results, Try.results16, go_sem, j0, j1]) rfl ⟨A, c, by rw [T1.out, T2.out], ?_, hBF⟩
    rw [T1.out, ← T2.out]
    refine own_lower (Fr.own_move HO.out fun g hg => ?_) (by simp)
    have hg1 := (Fr.told_own HO.out).lt hg
    simp at hg1
    have hne : g ≠ w.heap.size := by omega
    refine ((World.grownBy_alloc _ _ none).block g (by simpa using hg1.2.1) (by simp)).trans ?_
    rw [heap_setCell_other _ _ _ _ (fun e => hne e), heap_setCell_other _ _ _ _ (fun e => hne e)]
 · have T1 := Lib.hid t1
   have e1 : (flt2 s == 0) = false := by simp [t2]
   have e2 : (flt2 s != 0) = true := by simp [t2]
   clear t1 t2
   go_enter Try.func16, Try.ntmps16
   go_wp2_with fail
   refine (HR _).mono ?_
   rintro e w1 ⟨v, rfl, ho, hb⟩
   obtain ⟨A, c, rfl⟩ := own_form ho
   have HO := Lib.hid ho
   have hz := hb.size
   simp at hz
   have hlt : w.heap.size < w1.heap.size := hz
   have g0 := (hb.block w.heap.size (by simp)).trans (heap_alloc_new w (.cells #[.int .i64 0, .int .i64 0] 35 (0, 0)))
   have HB := Lib.hid hb
   have hc0 := fun j => cell_of_row w1 w.heap.size j _ _ _ g0
   have hf0 := fun j => frozen_of_row w1 w.heap.size j _ _ g0
   have c0 := hc0 0
   have c1 := hc0 1
   have f0 := hf0 0
   have f1 := hf0 1
   simp at c0 c1
   have G0 := Lib.hid g0
   clear ho hb hc0 hf0 g0
   go_wp2
   go_region
   all_goals go_wp2
   all_goals
    have gF : ((((w1.setCell ⟨w.heap.size, 0, none⟩ (.int .i64 (flt1 s))).setCell ⟨w.heap.size, 1, none⟩ (.int .i64 (flt2 s))).alloc (.cells #[.int .i64 (flt1 s), .int .i64 (flt2 s)] 35)).drew).heap[w.heap.size]? = some (.cells #[.int .i64 (flt1 s), .int .i64 (flt2 s)] 35 (0, 0)) :=
     ((World.grownBy_alloc _ _ none).block w.heap.size (by simpa using hlt) (by simp)).trans (heap_setCell_same _ w.heap.size 1 _ 35 _ (heap_setCell_same _ w.heap.size 0 _ 35 _ G0.out))
    have j0 := cell_of_row _ w.heap.size 0 _ _ _ gF
    have j1 := cell_of_row _ w.heap.size 1 _ _ _ gF
    simp at j0 j1
    have hBF : Below w.heap.size w ((((w1.setCell ⟨w.heap.size, 0, none⟩ (.int .i64 (flt1 s))).setCell ⟨w.heap.size, 1, none⟩ (.int .i64 (flt2 s))).alloc (.cells #[.int .i64 (flt1 s), .int .i64 (flt2 s)] 35)).drew) := (((((Below.refl w.heap.size w).alloc (Nat.le_refl _) _).trans (HB.out.mono (by simp))).setCell (p := ⟨w.heap.size, 0, none⟩) (Nat.le_refl _) _).setCell (p := ⟨w.heap.size, 1, none⟩) (Nat.le_refl _) _).alloc (by simpa using Nat.le_of_lt hlt) _ |>.drew
    refine bodyPost_ret (v := .tuple #[.slice none 0 0, .agg #[.int .i64 (flt1 s), .int .i64 (flt2 s)]]) (by simp [results, Try.results16, go_sem, j0, j1]) rfl ⟨none, 0, by rw [T1.out]; rfl, by rw [T1.out]; exact World.ownsRow_nil _ _ _ _, hBF⟩
theorem bel_alloc {U U2 : World} {o : Obj} (h : Below (U.alloc o).heap.size (U.alloc o) U2) : Below U.heap.size U U2 := ((Below.refl _ _).alloc (Nat.le_refl _) _).trans (h.mono (by simp))
theorem bel_then {U U2 U3 : World} (h : Below U.heap.size U U2) (k : Below U2.heap.size U2 U3) : Below U.heap.size U U3 := h.trans (k.mono h.size)
theorem bel_own {U U2 : World} (h : Below U.heap.size U U2) {base n : Nat} {v : Value} {xs : List Value} (ho : U.ownsRow base 28 11 v n xs) : U2.ownsRow base 28 11 v n xs := Fr.own_move ho fun g hg => h.block g ((Fr.told_own ho).lt hg).2.1
theorem bel_box {U U2 : World} {o : Obj} (h : Below U.heap.size U U2) {b : Nat} (ho : U.heap[b]? = some o) : U2.heap[b]? = some o := (h.block b (Fr.heap_lt' ho)).trans ho
theorem bel_new {U U2 : World} {cs : Array Value} {t : TypeId} (h : Below (U.alloc (.cells cs t)).heap.size (U.alloc (.cells cs t)) U2) : U2.heap[U.heap.size]? = some (.cells cs t (0, 0)) := (h.block U.heap.size (by simp)).trans (heap_alloc_new U (.cells cs t))
theorem bel_from {U U2 : World} {n : Nat} (h : Below (U.drewN n).heap.size (U.drewN n) U2) : Below U.heap.size U U2 := ⟨h.os, h.tape, h.output, h.size, h.block⟩
theorem same_me (f1 f2 : Int) (w : World) : Calls Try.prog 12 #[.agg #[.int .i64 f1, .int .i64 f2], .agg #[.int .i64 f1, .int .i64 f2]] w fun e w' => e = .returned (.bool true) ∧ Below w.heap.size w w' := by
 refine (same_c f1 f2 f1 f2 w).mono ?_
 rintro e w' ⟨he, hb⟩
 refine ⟨?_, hb⟩
 rw [he]
 unfold difFlt
 simp
theorem neq_mk (x : Int) (W : World) : (binOp .neq 28 (Fr.mkV x) (Fr.mkV x)).run Try.prog W = .ok (.bool false) W :=
 (neq28_run W x x 0 0 0 0 ⟨#[]⟩ ⟨#[]⟩ false false 0 0 0 0 0 0 0 0 0 0 0 0).trans (congrArg (fun b => Result.ok (Value.bool b) W) (neqTok_me (x, 0, 0, ⟨#[]⟩, false, 0, 0, 0, 0, 0, 0, 0, 0)))
theorem toks_len (s : ByteArray) : (toksOut s).1.length ≤ 65537 := by
 have h := P.allE_len s
 rcases toks_cases s with ⟨h1, _⟩ | ⟨h1, _⟩
 · rw [h1]; exact h
 · rw [h1]; simp
theorem two_box {U : World} {b : Nat} {x y : Value} {t : TypeId} (h : U.heap[b]? = some (.cells #[x, y] t (0, 0))) : U.cell? ⟨b, 0, none⟩ = some x ∧ U.cell? ⟨b, 1, none⟩ = some y :=
 ⟨by rw [cell_of_row _ _ _ _ _ _ h]; rfl, by rw [cell_of_row _ _ _ _ _ _ h]; rfl⟩
def rv3 (a b c : Value) (j : Nat) : Value := match j with | 0 => a | 1 => b | _ => c
def rn3 (a b c : Nat) (j : Nat) : Nat := match j with | 0 => a | 1 => b | _ => c
theorem ahead3 {U : World} {B m1 m2 : Nat} {a b c : Value} {n1 n2 n3 : Nat} {x1 x2 x3 : List Value} (ha : U.ownsRow B 28 11 a n1 x1) (hb : U.ownsRow m1 28 11 b n2 x2) (hc : U.ownsRow m2 28 11 c n3 x3)
 (l1 : ∀ g, a.ownBlock = some g → g < m1) (l2 : ∀ g, b.ownBlock = some g → g < m2) (hB : B ≤ m1) (h12 : m1 ≤ m2) (hU : B ≤ U.heap.size) (k1 : n1 ≤ 65537) (k2 : n2 ≤ 65537) (k3 : n3 ≤ 65537) :
 Fr.Ahead (U.alloc (.cells #[a, b, c] 45)) U.heap.size 3 B #[a, b, c] (rv3 a b c) (rn3 n1 n2 n3) := by
 refine ⟨heap_alloc_new U _, fun j hj => ?_, by omega, fun j hj => ?_, fun j hj => ?_, ?_, by simp; omega⟩
 · match j, hj with
   | 0, _ => rfl
   | 1, _ => rfl
   | 2, _ => rfl
 · match j, hj with
   | 0, _ => exact ⟨x1, ha.alloc _⟩
   | 1, _ => exact ⟨x2, (own_lower hb hB).alloc _⟩
   | 2, _ => exact ⟨x3, (own_lower hc (Nat.le_trans hB h12)).alloc _⟩
 · match j, hj with
   | 0, _ => show n1 ≤ _; omega
   | 1, _ => show n2 ≤ _; omega
   | 2, _ => show n3 ≤ _; omega
 · intro i j g hi hj hij h1 h2
   have q1 : ∀ g, b.ownBlock = some g → m1 ≤ g := fun g hg => ((Fr.told_own hb).lt hg).1
   have q2 : ∀ g, c.ownBlock = some g → m2 ≤ g := fun g hg => ((Fr.told_own hc).lt hg).1
   have p12 : a.ownBlock = some g → b.ownBlock = some g → False := fun u v => by have := l1 g u; have := q1 g v; omega
   have p13 : a.ownBlock = some g → c.ownBlock = some g → False := fun u v => by have := l1 g u; have := q2 g v; omega
   have p23 : b.ownBlock = some g → c.ownBlock = some g → False := fun u v => by have := l2 g u; have := q2 g v; omega
   match i, j, hi, hj with
   | 0, 0, _, _ => exact hij rfl
   | 0, 1, _, _ => exact p12 h1 h2
   | 0, 2, _, _ => exact p13 h1 h2
   | 1, 0, _, _ => exact p12 h2 h1
   | 1, 1, _, _ => exact hij rfl
   | 1, 2, _, _ => exact p23 h1 h2
   | 2, 0, _, _ => exact p13 h2 h1
   | 2, 1, _, _ => exact p23 h2 h1
   | 2, 2, _, _ => exact hij rfl
set_option maxRecDepth 100000 in
set_option maxHeartbeats 2000000 in
theorem lexTokens_w (s t : ByteArray) (w : World) (hs : s.size ≤ P.bnd) (ht : t.size ≤ P.bnd) : Calls Try.prog 7 #[.string s, .string t] w fun e w' => e = .returned (.bool true) ∧ Below w.heap.size w w' := by
 have hls := toks_len s
 have hlt := toks_len t
 go_enter Try.func7, Try.ntmps7
 go_wp2_with fail
 refine (tokens_c s hs _).mono ?_
 rintro e U1 ⟨A1, c1, rfl, ho1, hb1⟩
 have O1 := Lib.hid ho1; have K1 := Lib.hid hb1; clear ho1 hb1
 go_wp2_with fail
 refine (tokens_c t ht _).mono ?_
 rintro e U2 ⟨A2, c2, rfl, ho2, hb2⟩
 have O2 := Lib.hid ho2; have K2 := Lib.hid hb2; clear ho2 hb2
 go_wp2_with fail
 refine (tokens_c s hs _).mono ?_
 rintro e U3 ⟨A3, c3, rfl, ho3, hb3⟩
 have O3 := Lib.hid ho3; have K3 := Lib.hid hb3; clear ho3 hb3
 go_wp2_with fail
 refine (told_c s hs _).mono ?_
 rintro e U4 ⟨A4, c4, rfl, ho4, hb4⟩
 have O4 := Lib.hid ho4; have K4 := Lib.hid hb4; clear ho4 hb4
 go_wp2_with fail
 refine (told_c t ht _).mono ?_
 rintro e U5 ⟨A5, c5, rfl, ho5, hb5⟩
 have O5 := Lib.hid ho5; have K5 := Lib.hid hb5; clear ho5 hb5
 go_wp2_with fail
 have k12 := bel_alloc K2.out; have k23 := bel_alloc K3.out; have k34 := bel_alloc K4.out; have k45 := bel_alloc K5.out
 have k5V : Below U5.heap.size U5 (U5.alloc (.cells #[.int .i64 (toksOut t).2.1, .int .i64 (toksOut t).2.2] 35)) := (Below.refl _ _).alloc (Nat.le_refl _) _
 have k4V := bel_then k45 k5V; have k3V := bel_then k34 k4V; have k2V := bel_then k23 k3V; have k1V := bel_then k12 k2V
 have R1 := Lib.hid (bel_own k1V O1.out); have R2 := Lib.hid (bel_own k2V O2.out); have R3 := Lib.hid (bel_own k3V O3.out); have R4 := Lib.hid (bel_own k4V O4.out); have R5 := Lib.hid (bel_own k5V O5.out)
 have B1 := Lib.hid (bel_box k2V (bel_new K2.out)); have B2 := Lib.hid (bel_box k3V (bel_new K3.out)); have B3 := Lib.hid (bel_box k4V (bel_new K4.out)); have B4 := Lib.hid (bel_box k5V (bel_new K5.out)); have B5 := Lib.hid (heap_alloc_new U5 (.cells #[.int .i64 (toksOut t).2.1, .int .i64 (toksOut t).2.2] 35 (0, 0)))
 have z12 := K2.out.size; have z23 := K3.out.size; have z34 := K4.out.size; have z45 := K5.out.size; have z1 := K1.out.size
 simp only [World.size_alloc] at z12 z23 z34 z45
 have HW := Lib.hid (K1.out.trans (k1V.mono z1))
 have HV0 := Lib.hid (show Below (U5.alloc (.cells #[.int .i64 (toksOut t).2.1, .int .i64 (toksOut t).2.2] 35)).heap.size (U5.alloc (.cells #[.int .i64 (toksOut t).2.1, .int .i64 (toksOut t).2.2] 35)) (U5.alloc (.cells #[.int .i64 (toksOut t).2.1, .int .i64 (toksOut t).2.2] 35)) from Below.refl _ _)
 have zV : U5.heap.size < (U5.alloc (.cells #[.int .i64 (toksOut t).2.1, .int .i64 (toksOut t).2.2] 35)).heap.size := by simp
 clear k12 k23 k34 k45 k5V k4V k3V k2V k1V
 generalize U5.alloc (.cells #[.int .i64 (toksOut t).2.1, .int .i64 (toksOut t).2.2] 35) = V at R1 R2 R3 R4 R5 B1 B2 B3 B4 B5 HW HV0 zV ⊢
 refine (eqTok_c (toksOut s).1 hls _ _ A1 A4 c1 c4 _ (Fr.told_own (bel_own HV0.out R1.out)) (Fr.told_own (bel_own HV0.out R4.out))).mono ?_
 rintro e w' ⟨rfl, nVa, rfl⟩
 have f0 := (two_box (bel_box HV0.out B1.out)).1; have f1 := (two_box (bel_box HV0.out B1.out)).2; have f2 := (two_box (bel_box HV0.out B4.out)).1; have f3 := (two_box (bel_box HV0.out B4.out)).2
 go_wp2_with fail
 refine (same_me _ _ _).mono ?_
 rintro e Va ⟨rfl, hb⟩
 have HVa := Lib.hid (bel_then HV0.out (bel_from hb))
 clear hb f0 f1 f2 f3
 go_wp2_with fail
 refine (eqTok_c (toksOut t).1 hlt _ _ A2 A5 c2 c5 _ (Fr.told_own (bel_own HVa.out R2.out)) (Fr.told_own (bel_own HVa.out R5.out))).mono ?_
 rintro e w' ⟨rfl, nVb, rfl⟩
 have f0 := (two_box (bel_box HVa.out B2.out)).1; have f1 := (two_box (bel_box HVa.out B2.out)).2; have f2 := (two_box (bel_box HVa.out B5.out)).1; have f3 := (two_box (bel_box HVa.out B5.out)).2
 go_wp2_with fail
 refine (same_me _ _ _).mono ?_
 rintro e Vb ⟨rfl, hb⟩
 have HVb := Lib.hid (bel_then HVa.out (bel_from hb))
 clear hb f0 f1 f2 f3
 go_wp2_with fail
 refine (eqTok_c (toksOut s).1 hls _ _ A3 A4 c3 c4 _ (Fr.told_own (bel_own HVb.out R3.out)) (Fr.told_own (bel_own HVb.out R4.out))).mono ?_
 rintro e w' ⟨rfl, nVc, rfl⟩
 have f0 := (two_box (bel_box HVb.out B3.out)).1; have f1 := (two_box (bel_box HVb.out B3.out)).2; have f2 := (two_box (bel_box HVb.out B4.out)).1; have f3 := (two_box (bel_box HVb.out B4.out)).2
 go_wp2_with fail
 refine (same_me _ _ _).mono ?_
 rintro e Vc ⟨rfl, hb⟩
 have HVc := Lib.hid (bel_then HVb.out (bel_from hb))
 clear hb f0 f1 f2 f3
 go_wp2_with fail
 have zc := HVc.out.size
 have S1 := Lib.hid (bel_own HVc.out R1.out); have S2 := Lib.hid (bel_own HVc.out R2.out); have S3 := Lib.hid (bel_own HVc.out R3.out); have S4 := Lib.hid (bel_own HVc.out R4.out)
 refine (Fr.freeTokens_c _ Vc.heap.size 3 3 w.heap.size _ (rv3 (.slice A1 (toksOut s).1.length c1) (.slice A2 (toksOut t).1.length c2) (.slice A3 (toksOut s).1.length c3)) (rn3 (toksOut s).1.length (toksOut t).1.length (toksOut s).1.length)
  (ahead3 S1.out S2.out S3.out (fun g hg => by have := ((Fr.told_own O1.out).lt hg).2.1; simp; omega) (fun g hg => by have := ((Fr.told_own O2.out).lt hg).2.1; simp; omega) (by simp; omega) (by simp; omega) (by omega) hls hlt hls) neq_mk).mono ?_
 rintro e V6 ⟨rfl, hoth⟩
 have OT := Lib.hid hoth; clear hoth
 go_wp2_with fail
 refine (tokens_c s hs _).mono ?_
 rintro e U7 ⟨A7, c7, rfl, ho7, hb7⟩
 have O7 := Lib.hid ho7; have K7 := Lib.hid hb7; clear ho7 hb7
 go_wp2_with fail
 have T7 := Fr.told_own (O7.out.alloc (.cells #[.int .i64 (toksOut s).2.1, .int .i64 (toksOut s).2.2] 31))
 have L4 := S4.out.alloc (.cells #[.slice A1 (toksOut s).1.length c1, .slice A2 (toksOut t).1.length c2, .slice A3 (toksOut s).1.length c3] 45)
 have M4 := Fr.own_move L4 fun g hg => OT.out.block g ((Fr.told_own L4).lt hg).2.1 (by
  rintro ⟨j, hj, hb⟩
  have g4 := ((Fr.told_own O4.out).lt hg).1
  simp at g4
  match j, hj, hb with
  | 0, _, hb => have := ((Fr.told_own O1.out).lt hb).2.1; omega
  | 1, _, hb => have := ((Fr.told_own O2.out).lt hb).2.1; omega
  | 2, _, hb => have := ((Fr.told_own O3.out).lt hb).2.1; omega)
 have N4 := Fr.told_own ((bel_own K7.out M4).alloc (.cells #[.int .i64 (toksOut s).2.1, .int .i64 (toksOut s).2.2] 31))
 refine (eqTok_c (toksOut s).1 hls _ _ A7 A4 c7 c4 _ T7 N4).mono ?_
 rintro e w' ⟨rfl, n7, rfl⟩
 have hB6 : Below w.heap.size w V6 := ((HW.out.trans (HVc.out.mono HW.out.size)).alloc (by have := HW.out.size; omega) _).trans (OT.out.to (fun g hg => by
  obtain ⟨j, hj, hb⟩ := hg
  match j, hj, hb with
  | 0, _, hb => exact ((Fr.told_own O1.out).lt hb).1
  | 1, _, hb => have := ((Fr.told_own O2.out).lt hb).1; simp at this; omega
  | 2, _, hb => have := ((Fr.told_own O3.out).lt hb).1; simp at this; omega) (by have := HW.out.size; simp; omega))
 have hB7 : Below w.heap.size w U7 := hB6.trans (K7.out.mono hB6.size)
 clear T7 L4 M4 N4
 have HB7 := Lib.hid (hB7.alloc hB7.size (.cells #[.int .i64 (toksOut s).2.1, .int .i64 (toksOut s).2.2] 31))
 clear hB6 hB7
 go_wp2
 go_ret
 exact ⟨rfl, ⟨HB7.out.os, HB7.out.tape, HB7.out.output, HB7.out.size, HB7.out.block⟩⟩
end Go.Proofs.Ytldjdcdoegjmoaa

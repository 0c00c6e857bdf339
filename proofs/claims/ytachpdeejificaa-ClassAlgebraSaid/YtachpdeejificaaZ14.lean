import Derived.Deep.CutRange
import Derived.Deep.DeepCutAuto
import Derived.WalkKit
import Derived.Test.YtachpdeejificaaZ2
import Derived.Test.YtachpdeejificaaZ13
set_option linter.unusedVariables false
set_option linter.unusedSimpArgs false
namespace Go.Proofs.Ytachpdeejificaa
open Go.RowKit
theorem load_cls {o : Oper} {a : Act} {w : World} {K : Act → World → Prop} {Q : Exit → Act → World → Prop} {x : Operand} {g : Nat} {c : Cls} (ho : o.op = .load 24 x) (hx : a.eval x = .pointer (some ⟨g, 0, none⟩))
    (hg : w.heap[g]? = some (.cells c.cells 24 (0, 0))) (h : K (a.put o.dst (V4 c)) w) : o.wp Try.prog a w K Q :=
  wp_load_row 24 x ho g hx 24 c.cells (0, 0) _ hg Try.underlying24 rfl (infoCls c) h
theorem loads_cls {ops : Array Oper} {rest : List Oper} {o : Oper} {a : Act} {w : World} {Q : Exit → Act → World → Prop} {x : Operand} {g : Nat} {c : Cls} (hgd : o.guard = none) (ho : o.op = .load 24 x) (hx : a.eval x = .pointer (some ⟨g, 0, none⟩))
    (hg : w.heap[g]? = some (.cells c.cells 24 (0, 0))) (h : wpList Try.prog ops Q rest (a.put o.dst (V4 c)) w) : wpList Try.prog ops Q (o :: rest) a w :=
  wpList_load_row hgd 24 x ho g hx 24 c.cells (0, 0) _ hg Try.underlying24 rfl (infoCls c) h
theorem wp_abs {P : Program} {c : Code} {Q : Exit → Act → World → Prop} {a : Act} {w : World} (F : Act → Prop) (hF : F a) (h : ∀ a, F a → c.wp P Q a w) : c.wp P Q a w := h a hF
theorem put_all {ops : Array Oper} {f : Nat → Value} {a : Act} {n : Nat} {Q : Exit → Act → World → Prop} {W : World} (F : Act → Prop) (hF : F (putAll ops f a n)) (h : ∀ A, F A → Q .normal A W) : Q .normal (putAll ops f a n) W := h _ hF
structure AlgF (B g9 g10 g11 : Nat) (A : Act) : Prop where
  size : A.tmps.size = 163
  defers : A.defers = []
  t4 : A.tmps[4]? = some (.pointer (some ⟨B, 0, none⟩))
  t5 : A.tmps[5]? = some (.pointer (some ⟨B + 1, 0, none⟩))
  t6 : A.tmps[6]? = some (.pointer (some ⟨B + 1 + 1, 0, none⟩))
  t9 : A.tmps[9]? = some (.pointer (some ⟨g9, 0, none⟩))
  t10 : A.tmps[10]? = some (.pointer (some ⟨g10, 0, none⟩))
  t11 : A.tmps[11]? = some (.pointer (some ⟨g11, 0, none⟩))
theorem getD_of {a : Act} {t : Tmp} {v : Value} (h : a.tmps[t]? = some v) : a.tmps[t]?.getD undef = v := by rw [h]; rfl
theorem not_dst' {ops : Array Oper} {t : Tmp} (h : (ops.all fun o => o.dst != some t) = true) (i : Nat) : dstOf ops i ≠ some t := by
  unfold dstOf
  intro q
  cases ho : ops[i]? with
  | none => rw [ho] at q; cases q
  | some o =>
    rw [ho] at q
    obtain ⟨hi, rfl⟩ := Array.getElem?_eq_some_iff.1 ho
    have := Array.all_eq_true.1 h i hi
    simp at q this
    exact this q
theorem put_kept {ops : Array Oper} {f : Nat → Value} {a : Act} {t : Tmp} {v : Value} {n : Nat} (h : a.tmps[t]? = some v) (hd : (ops.all fun o => o.dst != some t) = true) : (putAll ops f a n).tmps[t]? = some v := (putAll_other ops f a t n fun i _ => not_dst' hd i).trans h
theorem AlgF.put {B g9 g10 g11 : Nat} {ops : Array Oper} {f : Nat → Value} {a : Act} {n : Nat} (h : AlgF B g9 g10 g11 a) (hd : ([4, 5, 6, 9, 10, 11].all fun t => ops.all fun o => o.dst != some t) = true) : AlgF B g9 g10 g11 (putAll ops f a n) := by
  simp only [List.all_cons, List.all_nil, Bool.and_true, Bool.and_eq_true] at hd
  obtain ⟨d4, d5, d6, d9, d10, d11⟩ := hd
  exact ⟨(putAll_size _ _ _ _).trans h.size, (putAll_defers _ _ _ _).trans h.defers, put_kept h.t4 d4, put_kept h.t5 d5, put_kept h.t6 d6, put_kept h.t9 d9, put_kept h.t10 d10, put_kept h.t11 d11⟩
theorem wpL {P : Program} {ops : Array Oper} {rest : List Oper} {o : Oper} {a : Act} {w : World} {Q : Exit → Act → World → Prop} (hgd : o.guard = none) (h : o.wp P a w (wpList P ops Q rest) Q) : wpList P ops Q (o :: rest) a w := by
  unfold wpList
  rw [if_pos (by unfold Region.wanted; rw [hgd])]
  exact .inl h
theorem wpL_abs {P : Program} {ops : Array Oper} {rest : List Oper} {Q : Exit → Act → World → Prop} {a : Act} {w : World} (F : Act → Prop) (hF : F a) (h : ∀ a, F a → wpList P ops Q rest a w) : wpList P ops Q rest a w := h a hF
theorem one_got {a : Act} {t : Tmp} {v : Value} (h : t < a.tmps.size) : (a.put (some t) v).tmps[t]? = some v := by rw [put_tmps, if_pos ⟨rfl, h⟩]
theorem one_kept {a : Act} {t s : Tmp} {v u : Value} (h : a.tmps[s]? = some u) (hne : t ≠ s) : (a.put (some t) v).tmps[s]? = some u := by rw [put_tmps, if_neg (fun q => hne (Option.some.inj q.1))]; exact h
theorem AlgF.put1 {B g9 g10 g11 : Nat} {a : Act} {t : Tmp} {v : Value} (h : AlgF B g9 g10 g11 a) (hd : t ≠ 4 ∧ t ≠ 5 ∧ t ≠ 6 ∧ t ≠ 9 ∧ t ≠ 10 ∧ t ≠ 11) : AlgF B g9 g10 g11 (a.put (some t) v) :=
  ⟨(put_size _ _ _).trans h.size, (put_defers _ _ _).trans h.defers, one_kept h.t4 hd.1, one_kept h.t5 hd.2.1, one_kept h.t6 hd.2.2.1, one_kept h.t9 hd.2.2.2.1, one_kept h.t10 hd.2.2.2.2.1, one_kept h.t11 hd.2.2.2.2.2⟩
theorem put_got {ops : Array Oper} {f : Nat → Value} {a : Act} {t i n : Nat} {v : Value} (ht : t < a.tmps.size) (hi : dstOf ops i = some t) (hd : dstsApart ops = true) (hn : i < n) (hv : f i = v) : (putAll ops f a n).tmps[t]? = some v := by
  rw [putAll_at ops f a t ht i hi (fun j hj => apart_of hd hi hj) n hn, hv]
/-- What lies in memory behind the first region. -/
structure AlgJ (w0 : World) (ca cb cc : Cls) (g9 g10 g11 : Nat) (W : World) : Prop where
  bel : Below w0.heap.size w0 W
  h4 : W.heap[w0.heap.size]? = some (.cells ca.cells 24 (0, 0))
  h5 : W.heap[w0.heap.size + 1]? = some (.cells cb.cells 24 (0, 0))
  h6 : W.heap[w0.heap.size + 1 + 1]? = some (.cells cc.cells 24 (0, 0))
  h9 : W.heap[g9]? = some (.cells (ca.union cb).cells 24 (0, 0))
  h10 : W.heap[g10]? = some (.cells (ca.meet cb).cells 24 (0, 0))
  h11 : W.heap[g11]? = some (.cells (ca.minus cb).cells 24 (0, 0))
theorem AlgJ.step {w0 : World} {ca cb cc : Cls} {g9 g10 g11 : Nat} {W W' : World} (h : AlgJ w0 ca cb cc g9 g10 g11 W) (hb : Below W.heap.size W W') : AlgJ w0 ca cb cc g9 g10 g11 W' :=
  ⟨h.bel.trans (hb.mono h.bel.size), heap_same hb h.h4, heap_same hb h.h5, heap_same hb h.h6, heap_same hb h.h9, heap_same hb h.h10, heap_same hb h.h11⟩
theorem AlgJ.drew {w0 : World} {ca cb cc : Cls} {g9 g10 g11 : Nat} {W : World} (h : AlgJ w0 ca cb cc g9 g10 g11 W) : AlgJ w0 ca cb cc g9 g10 g11 { W with drawn := W.drawn + 1 } := ⟨h.bel.drew, h.h4, h.h5, h.h6, h.h9, h.h10, h.h11⟩
structure AlgJ2 (w0 : World) (ca cb cc : Cls) (g9 g10 g11 g14 : Nat) (W : World) : Prop extends AlgJ w0 ca cb cc g9 g10 g11 W where
  h14 : W.heap[g14]? = some (.cells ca.fold.cells 24 (0, 0))
theorem AlgJ2.step {w0 : World} {ca cb cc : Cls} {g9 g10 g11 g14 : Nat} {W W' : World} (h : AlgJ2 w0 ca cb cc g9 g10 g11 g14 W) (hb : Below W.heap.size W W') : AlgJ2 w0 ca cb cc g9 g10 g11 g14 W' := ⟨h.toAlgJ.step hb, heap_same hb h.h14⟩
theorem AlgJ2.drew {w0 : World} {ca cb cc : Cls} {g9 g10 g11 g14 : Nat} {W : World} (h : AlgJ2 w0 ca cb cc g9 g10 g11 g14 W) : AlgJ2 w0 ca cb cc g9 g10 g11 g14 { W with drawn := W.drawn + 1 } := ⟨h.toAlgJ.drew, h.h14⟩
/-- A slot of a region that draws its order. -/
def Vl (L : Array Bool) (i : Nat) (v x : Value) : Prop := L.getD i false = true → v = x
theorem Vl.step {L : Array Bool} {i j : Nat} {v x : Value} (h : Vl L i v x) (hne : i ≠ j) : Vl (L.setIfInBounds j true) i v x := fun k => h (getD_set k hne)
theorem Vl.now {L : Array Bool} {i : Nat} {x : Value} : Vl L i x x := fun _ => rfl
theorem Vl.nil {n i : Nat} {v x : Value} : Vl (Array.replicate n false) i v x := fun h => by simp [Array.getD_eq_getD_getElem?, Array.getElem?_replicate] at h; split at h <;> simp at h
/-- A block that the region lays and fills. -/
def Al (B : Nat) (W : World) (L : Array Bool) (i s : Nat) (v : Value) (c : Cls) : Prop :=
  (L.getD i false = true → ∃ g z, v = .pointer (some ⟨g, 0, none⟩) ∧ B ≤ g ∧ W.heap[g]? = some (.cells (Cls.cells z) 24 (0, 0)) ∧ (L.getD s false = true → z = c)) ∧ (L.getD s false = true → L.getD i false = true)
theorem Al.nil {B n i s : Nat} {W : World} {v : Value} {c : Cls} : Al B W (Array.replicate n false) i s v c := ⟨fun h => by simp [Array.getD_eq_getD_getElem?, Array.getElem?_replicate] at h; split at h <;> simp at h, fun h => by simp [Array.getD_eq_getD_getElem?, Array.getElem?_replicate] at h; split at h <;> simp at h⟩
theorem Al.step {B i s j : Nat} {W W' : World} {L : Array Bool} {v : Value} {c : Cls} (h : Al B W L i s v c) (hi : i ≠ j) (hs : s ≠ j) (hk : ∀ (g : Nat) (o : Obj), W.heap[g]? = some o → W'.heap[g]? = some o) : Al B W' (L.setIfInBounds j true) i s v c :=
  ⟨fun k => by obtain ⟨g, z, e, hg, ho, hz⟩ := h.1 (getD_set k hi); exact ⟨g, z, e, hg, hk _ _ ho, fun q => hz (getD_set q hs)⟩, fun k => getD_set_true (h.2 (getD_set k hs))⟩
theorem Al.new {B i s : Nat} {W : World} {L : Array Bool} {v : Value} {c : Cls} (h : Al B W L i s v c) (hn : L.getD i false = false) (his : s ≠ i) (hB : B ≤ W.heap.size) : Al B (W.alloc (.cells Cls.none.cells 24)) (L.setIfInBounds i true) i s (.pointer (some ⟨W.heap.size, 0, none⟩)) c :=
  ⟨fun _ => ⟨W.heap.size, Cls.none, rfl, hB, heap_new _ _, fun q => by rw [h.2 (getD_set q his)] at hn; cases hn⟩, fun k => getD_set_true (h.2 (getD_set k his))⟩
theorem Al.put {B i s g : Nat} {W : World} {L : Array Bool} {z c : Cls} (h : Al B W L i s (.pointer (some ⟨g, 0, none⟩)) c) (hi : L.getD i false = true) (hg : B ≤ g) (hc : W.heap[g]? = some (.cells z.cells 24 (0, 0))) : Al B (W.setRow g c.cells) (L.setIfInBounds s true) i s (.pointer (some ⟨g, 0, none⟩)) c :=
  ⟨fun _ => ⟨g, c, rfl, hg, setRow_heap _ _ _ _ _ _ hc, fun _ => rfl⟩, fun _ => getD_set_true hi⟩
theorem Al.other {B i s j g : Nat} {W : World} {L : Array Bool} {v : Value} {c : Cls} {cs : Array Value} (h : Al B W L i s v c) (hi : i ≠ j) (hs : s ≠ j) (hne : L.getD i false = true → v ≠ .pointer (some ⟨g, 0, none⟩)) : Al B (W.setRow g cs) (L.setIfInBounds j true) i s v c :=
  ⟨fun k => by obtain ⟨g', z, e, hg, ho, hz⟩ := h.1 (getD_set k hi); exact ⟨g', z, e, hg, heap_row_other (by rintro rfl; exact hne (getD_set k hi) e) ho, fun q => hz (getD_set q hs)⟩, fun k => getD_set_true (h.2 (getD_set k hs))⟩
def Ap (L : Array Bool) (i j : Nat) (u v : Value) : Prop := L.getD i false = true → L.getD j false = true → u ≠ v
theorem Ap.nil {n i j : Nat} {u v : Value} : Ap (Array.replicate n false) i j u v := fun h => by simp [Array.getD_eq_getD_getElem?, Array.getElem?_replicate] at h; split at h <;> simp at h
theorem Ap.step {L : Array Bool} {i j k : Nat} {u v : Value} (h : Ap L i j u v) (hi : i ≠ k) (hj : j ≠ k) : Ap (L.setIfInBounds k true) i j u v := fun p q => h (getD_set p hi) (getD_set q hj)
theorem ptr_ne {B : Nat} {W : World} {L : Array Bool} {j s : Nat} {v : Value} {c : Cls} (h : Al B W L j s v c) (hj : L.getD j false = true) : .pointer (some ⟨W.heap.size, 0, none⟩) ≠ v := by
  obtain ⟨g, z, e, _, ho, _⟩ := h.1 hj
  have := heap_lt ho
  rw [e]
  intro q
  simp at q
theorem Ap.newL {B : Nat} {W : World} {L : Array Bool} {i j s : Nat} {v : Value} {c : Cls} (h : Al B W L j s v c) (hji : j ≠ i) : Ap (L.setIfInBounds i true) i j (.pointer (some ⟨W.heap.size, 0, none⟩)) v := fun _ q => ptr_ne h (getD_set q hji)
theorem Ap.newR {B : Nat} {W : World} {L : Array Bool} {i j s : Nat} {v : Value} {c : Cls} (h : Al B W L j s v c) (hji : j ≠ i) : Ap (L.setIfInBounds i true) j i v (.pointer (some ⟨W.heap.size, 0, none⟩)) := fun q _ => (ptr_ne h (getD_set q hji)).symm
/-- What stands between two operations of 'u, m, d := ..'. -/
structure AlgW (w0 : World) (ca cb cc : Cls) (W : World) : Prop where
  bel : Below w0.heap.size w0 W
  h4 : W.heap[w0.heap.size]? = some (.cells ca.cells 24 (0, 0))
  h5 : W.heap[w0.heap.size + 1]? = some (.cells cb.cells 24 (0, 0))
  h6 : W.heap[w0.heap.size + 1 + 1]? = some (.cells cc.cells 24 (0, 0))
theorem AlgW.step {w0 : World} {ca cb cc : Cls} {W W' : World} (h : AlgW w0 ca cb cc W) (hb : Below W.heap.size W W') : AlgW w0 ca cb cc W' := ⟨h.bel.trans (hb.mono h.bel.size), heap_same hb h.h4, heap_same hb h.h5, heap_same hb h.h6⟩
theorem AlgW.lay {w0 : World} {ca cb cc : Cls} {W : World} (h : AlgW w0 ca cb cc W) (o : Obj) : AlgW w0 ca cb cc (W.alloc o) := ⟨h.bel.alloc h.bel.size _, heap_keep h.h4, heap_keep h.h5, heap_keep h.h6⟩
theorem AlgW.row {w0 : World} {ca cb cc : Cls} {W : World} (h : AlgW w0 ca cb cc W) {g : Nat} (hg : w0.heap.size + 1 + 1 + 1 ≤ g) (cs : Array Value) : AlgW w0 ca cb cc (W.setRow g cs) := ⟨below_setRow h.bel (by omega) _, heap_row_other (by omega) h.h4, heap_row_other (by omega) h.h5, heap_row_other (by omega) h.h6⟩
theorem AlgW.room {w0 : World} {ca cb cc : Cls} {W : World} (h : AlgW w0 ca cb cc W) : w0.heap.size + 1 + 1 + 1 ≤ W.heap.size := heap_lt h.h6
def AlgI (w0 : World) (ca cb cc : Cls) (x : Nat) (L : Array Bool) (A : Act) (W : World) : Prop :=
  ∃ v9 v10 v11 v17 v18 v19 v20 v21 v22 v23 v24 v25 : Value, A = { tmps := #[V4 ca, V4 cb, V4 cc, .int .u8 (x : Int), .pointer (some ⟨w0.heap.size, 0, none⟩), .pointer (some ⟨w0.heap.size + 1, 0, none⟩), .pointer (some ⟨w0.heap.size + 1 + 1, 0, none⟩), undef, .bool false, v9, v10, v11, undef, undef, undef, .bool true, .bool false, v17, v18, v19, v20, v21, v22, v23, v24, v25, undef, undef, undef, undef, undef, undef, undef, undef, undef, undef, undef, undef, undef, undef, undef, undef, undef, undef, undef, undef, undef, undef, undef, undef, undef, undef, undef, undef, undef, undef, undef, undef, undef, undef, undef, undef, undef, undef, undef, undef, undef, undef, undef, undef, undef, undef, undef, undef, undef, undef, undef, undef, undef, undef, undef, undef, undef, undef, undef, undef, undef, undef, undef, undef, undef, undef, undef, undef, undef, undef, undef, undef, undef, undef, undef, undef, undef, undef, undef, undef, undef, undef, undef, undef, undef, undef, undef, undef, undef, undef, undef, undef, undef, undef, undef, undef, undef, undef, undef, undef, undef, undef, undef, undef, undef, undef, undef, undef, undef, undef, undef, undef, undef, undef, undef, undef, undef, undef, undef, undef, undef, undef, undef, undef, undef, undef, undef, undef, undef, undef, undef, undef, undef, undef, undef, undef, undef], defers := [] } ∧
    Vl L 0 v17 (V4 ca) ∧ Vl L 1 v18 (V4 cb) ∧ Vl L 2 v19 (V4 (ca.union cb)) ∧ Vl L 3 v20 (V4 ca) ∧ Vl L 4 v21 (V4 cb) ∧ Vl L 5 v22 (V4 (ca.meet cb)) ∧ Vl L 6 v23 (V4 ca) ∧ Vl L 7 v24 (V4 cb) ∧ Vl L 8 v25 (V4 (ca.minus cb)) ∧
    Al (w0.heap.size + 1 + 1 + 1) W L 9 12 v9 (ca.union cb) ∧ Al (w0.heap.size + 1 + 1 + 1) W L 10 13 v10 (ca.meet cb) ∧ Al (w0.heap.size + 1 + 1 + 1) W L 11 14 v11 (ca.minus cb) ∧
    Ap L 9 10 v9 v10 ∧ Ap L 9 11 v9 v11 ∧ Ap L 10 11 v10 v11 ∧ AlgW w0 ca cb cc W
def AlgV4 (ca cb cc : Cls) (x : Nat) : Nat → Value → Prop
  | 0 => fun v => v = (V4 ca)
  | 1 => fun v => v = (.int .u8 (x : Int))
  | 2 => fun v => v = (.bool (ca.mem x))
  | 3 => fun v => v = (V4 cb)
  | 4 => fun v => v = (.int .u8 (x : Int))
  | 5 => fun v => v = (.bool (cb.mem x))
  | 6 => fun v => v = (.bool (ca.mem x))
  | 7 => fun v => v = (.bool (cb.mem x))
  | _ => fun _ => True
def AlgV5 (ca cb cc : Cls) (x : Nat) : Nat → Value → Prop
  | 0 => fun v => v = (V4 (ca.union cb))
  | 1 => fun v => v = (.int .u8 (x : Int))
  | 2 => fun v => v = (.bool (ca.mem x || cb.mem x))
  | 3 => fun v => v = (.bool (ca.mem x))
  | 4 => fun v => v = (.bool (ca.mem x))
  | 5 => fun v => v = (if ca.mem x = true then undef else (.bool (cb.mem x)))
  | 6 => fun v => v = (.bool (ca.mem x || cb.mem x))
  | 7 => fun v => v = (.bool false)
  | 8 => fun v => v = (.bool false)
  | 9 => fun v => v = (V4 (ca.meet cb))
  | 10 => fun v => v = (.int .u8 (x : Int))
  | 11 => fun v => v = (.bool (ca.mem x && cb.mem x))
  | 12 => fun v => v = (.bool (ca.mem x))
  | 13 => fun v => v = (.bool (ca.mem x))
  | 14 => fun v => v = (if ca.mem x = true then (.bool (cb.mem x)) else undef)
  | 15 => fun v => v = (.bool (ca.mem x && cb.mem x))
  | 16 => fun v => v = (.bool false)
  | 17 => fun v => v = (.bool false)
  | 18 => fun v => v = (.bool false)
  | 19 => fun v => v = (V4 (ca.minus cb))
  | 20 => fun v => v = (.int .u8 (x : Int))
  | 21 => fun v => v = (.bool (ca.mem x && !cb.mem x))
  | 22 => fun v => v = (.bool (ca.mem x))
  | 23 => fun v => v = (.bool (ca.mem x))
  | 24 => fun v => v = (if ca.mem x = true then (.bool (cb.mem x)) else undef)
  | 25 => fun v => v = (if ca.mem x = true then (.bool (!cb.mem x)) else undef)
  | 26 => fun v => v = (.bool (ca.mem x && !cb.mem x))
  | 27 => fun v => v = (.bool false)
  | 28 => fun v => v = (.bool false)
  | 29 => fun v => v = (.bool false)
  | 30 => fun v => v = (V4 ca)
  | 31 => fun v => v = (V4 ca.not)
  | 32 => fun v => v = (.int .u8 (x : Int))
  | 33 => fun v => v = (.bool (!ca.mem x))
  | 34 => fun v => v = (.bool (ca.mem x))
  | 35 => fun v => v = (.bool false)
  | 36 => fun v => v = (.bool false)
  | _ => fun _ => True
def AlgV7 (ca cb cc : Cls) (x : Nat) : Nat → Value → Prop
  | 0 => fun v => v = (V4 (ca.union cb))
  | 1 => fun v => v = (V4 cb)
  | 2 => fun v => v = (V4 ca)
  | 3 => fun v => v = (V4 (ca.union cb))
  | 4 => fun v => v = (.bool false)
  | 5 => fun v => v = (.bool false)
  | 6 => fun v => v = (V4 (ca.meet cb))
  | 7 => fun v => v = (V4 cb)
  | 8 => fun v => v = (V4 ca)
  | 9 => fun v => v = (V4 (ca.meet cb))
  | 10 => fun v => v = (.bool false)
  | 11 => fun v => v = (.bool false)
  | 12 => fun v => v = (.bool false)
  | 13 => fun v => v = (V4 ca)
  | 14 => fun v => v = (V4 ca.not)
  | 15 => fun v => v = (V4 ca)
  | 16 => fun v => v = (V4 ca)
  | 17 => fun v => v = (.bool false)
  | 18 => fun v => v = (.bool false)
  | 19 => fun v => v = (.bool false)
  | 20 => fun v => v = (V4 (ca.union cb))
  | 21 => fun v => v = (V4 (ca.not.meet cb.not))
  | 22 => fun v => v = (V4 ca)
  | 23 => fun v => v = (V4 ca.not)
  | 24 => fun v => v = (V4 cb)
  | 25 => fun v => v = (V4 cb.not)
  | 26 => fun v => v = (V4 (ca.not.meet cb.not))
  | 27 => fun v => v = (.bool false)
  | 28 => fun v => v = (.bool false)
  | 29 => fun v => v = (.bool false)
  | 30 => fun v => v = (V4 (ca.minus cb))
  | 31 => fun v => v = (V4 ca)
  | 32 => fun v => v = (V4 cb)
  | 33 => fun v => v = (V4 cb.not)
  | 34 => fun v => v = (V4 (ca.minus cb))
  | 35 => fun v => v = (.bool false)
  | 36 => fun v => v = (.bool false)
  | _ => fun _ => True
def AlgV9 (ca cb cc : Cls) (x : Nat) : Nat → Value → Prop
  | 0 => fun v => v = (V4 (ca.union cb))
  | 1 => fun v => v = (V4 cc)
  | 2 => fun v => v = (V4 (ca.union (cb.union cc)))
  | 3 => fun v => v = (V4 ca)
  | 4 => fun v => v = (V4 cb)
  | 5 => fun v => v = (V4 cc)
  | 6 => fun v => v = (V4 (cb.union cc))
  | 7 => fun v => v = (V4 (ca.union (cb.union cc)))
  | 8 => fun v => v = (.bool false)
  | 9 => fun v => v = (.bool false)
  | 10 => fun v => v = (V4 ca)
  | 11 => fun v => v = (V4 cb)
  | 12 => fun v => v = (V4 cc)
  | 13 => fun v => v = (V4 (cb.union cc))
  | 14 => fun v => v = (V4 ((ca.meet cb).union (ca.meet cc)))
  | 15 => fun v => v = (V4 (ca.meet cb))
  | 16 => fun v => v = (V4 ca)
  | 17 => fun v => v = (V4 cc)
  | 18 => fun v => v = (V4 (ca.meet cc))
  | 19 => fun v => v = (V4 ((ca.meet cb).union (ca.meet cc)))
  | 20 => fun v => v = (.bool false)
  | 21 => fun v => v = (.bool false)
  | _ => fun _ => True
def AlgV12 (ca cb cc : Cls) (x : Nat) : Nat → Value → Prop
  | 0 => fun v => v = (V4 (ca.union cb))
  | 1 => fun v => v = (.int .i64 ((ca.union cb).bytes.length : Int))
  | 2 => fun v => v = (V4 (ca.meet cb))
  | 3 => fun v => v = (.int .i64 ((ca.meet cb).bytes.length : Int))
  | 4 => fun v => v = (.int .i64 ((ca.bytes.length : Int) + (cb.bytes.length : Int)))
  | 5 => fun v => v = (V4 ca)
  | 6 => fun v => v = (.int .i64 (ca.bytes.length : Int))
  | 7 => fun v => v = (V4 cb)
  | 8 => fun v => v = (.int .i64 (cb.bytes.length : Int))
  | 9 => fun v => v = (.int .i64 ((ca.bytes.length : Int) + (cb.bytes.length : Int)))
  | 10 => fun v => v = (.bool true)
  | 11 => fun v => v = (.bool true)
  | 12 => fun v => v = (V4 ca.fold)
  | 13 => fun v => v = (V4 ca.fold)
  | 14 => fun v => v = (V4 ca.fold)
  | 15 => fun v => v = (.bool true)
  | 16 => fun v => v = (.bool true)
  | 17 => fun v => v = (.bool true)
  | 18 => fun v => v = (V4 ca)
  | 19 => fun v => v = (V4 ca.fold)
  | 20 => fun v => v = (V4 Cls.none)
  | 21 => fun v => v = (V4 Cls.none)
  | 22 => fun v => v = (.bool true)
  | 23 => fun v => v = (.bool true)
  | 24 => fun v => v = (.bool true)
  | 25 => fun v => v = (V4 (ca.union cb))
  | 26 => fun v => v = (V4 (ca.fold.union cb.fold))
  | 27 => fun v => v = (V4 ca.fold)
  | 28 => fun v => v = (V4 cb)
  | 29 => fun v => v = (V4 cb.fold)
  | 30 => fun v => v = (V4 (ca.fold.union cb.fold))
  | 31 => fun v => v = (.bool true)
  | 32 => fun v => v = (.bool true)
  | 33 => fun v => v = (.bool true)
  | _ => fun _ => True
theorem eqSelf (c : Cls) (w : World) : (Op.equalIn 10000 24 (.agg #[.int .u64 (c.c0 : Int), .int .u64 (c.c1 : Int), .int .u64 (c.c2 : Int), .int .u64 (c.c3 : Int)]) (.agg #[.int .u64 (c.c0 : Int), .int .u64 (c.c1 : Int), .int .u64 (c.c2 : Int), .int .u64 (c.c3 : Int)])).run Try.prog w = .ok true w := by rw [eqCls]; simp
theorem alg_store {w0 : World} {ca cb cc : Cls} {g9 g10 g11 : Nat} {W : World} (h : AlgJ w0 ca cb cc g9 g10 g11 W) : AlgJ2 w0 ca cb cc g9 g10 g11 W.heap.size ((W.alloc (.cells Cls.none.cells 24)).setRow W.heap.size ca.fold.cells) :=
  have l4 := heap_lt h.h4; have l5 := heap_lt h.h5; have l6 := heap_lt h.h6; have l9 := heap_lt h.h9; have l10 := heap_lt h.h10; have l11 := heap_lt h.h11
  ⟨⟨below_setRow (h.bel.alloc h.bel.size _) h.bel.size _, heap_row_other (by omega) (heap_keep h.h4), heap_row_other (by omega) (heap_keep h.h5), heap_row_other (by omega) (heap_keep h.h6), heap_row_other (by omega) (heap_keep h.h9), heap_row_other (by omega) (heap_keep h.h10), heap_row_other (by omega) (heap_keep h.h11)⟩, setRow_heap _ _ _ _ _ _ (heap_new _ _)⟩
set_option maxRecDepth 100000 in
set_option maxHeartbeats 4000000 in
theorem algebra_w (ca cb cc : Cls) (x : Nat) (ha : ca.ok) (hb : cb.ok) (hc : cc.ok) (hx : x < 256) (w0 : World) :
    Calls Try.prog 10 #[V4 ca, V4 cb, V4 cc, .int .u8 (x : Int)] w0 fun e w' => e = .returned (.bool true) ∧ Below w0.heap.size w0 w' := by
  have HA := Lib.hid ha; have HB := Lib.hid hb; have HC := Lib.hid hc
  go_enter Try.func10, Try.ntmps10
  go_upto_region 3 with (go_at_call 34; refine (works_c _).mono ?_; rintro e w1 ⟨rfl, hb1⟩)
  have hW0 : AlgW w0 ca cb cc w1 := ⟨((((Below.refl _ w0).alloc (Nat.le_refl _) _).alloc (by simp) _).alloc (by simp; omega) _).trans (hb1.mono (by simp; omega)), heap_same hb1 (heap_keep (heap_keep (heap_new _ _))), heap_same hb1 (heap_keep (heap_new1 _ _ _)), heap_same hb1 (heap_new2 _ _ _ _)⟩
  clear hb1
  go_cut [9, 10, 11] (fun s9 s10 s11 wx => ∃ g9 g10 g11 : Nat, s9 = .pointer (some ⟨g9, 0, none⟩) ∧ s10 = .pointer (some ⟨g10, 0, none⟩) ∧ s11 = .pointer (some ⟨g11, 0, none⟩) ∧ AlgJ w0 ca cb cc g9 g10 g11 wx)
  case first =>
    refine wp_region_inv (by kernel_rfl) (by kernel_rfl) (AlgI w0 ca cb cc x) ?h0 ?hs ?hd
    case h0 => exact ⟨_, _, _, _, _, _, _, _, _, _, _, _, rfl, Vl.nil, Vl.nil, Vl.nil, Vl.nil, Vl.nil, Vl.nil, Vl.nil, Vl.nil, Vl.nil, Al.nil, Al.nil, Al.nil, Ap.nil, Ap.nil, Ap.nil, ⟨hW0.bel.drew, hW0.h4, hW0.h5, hW0.h6⟩⟩
    case hs =>
      intro L A W i hz hI hi
      obtain ⟨hni, o, ho, hdep⟩ := mem_ready.1 hi
      have hi15 : i < 15 := by have := (Array.getElem?_eq_some_iff.1 ho).1; simpa using this
      obtain ⟨v9, v10, v11, v17, v18, v19, v20, v21, v22, v23, v24, v25, rfl, e0, e1, e2, e3, e4, e5, e6, e7, e8, d9, d10, d11, p1, p2, p3, hW⟩ := hI
      have hi' : i = 0 ∨ i = 1 ∨ i = 2 ∨ i = 3 ∨ i = 4 ∨ i = 5 ∨ i = 6 ∨ i = 7 ∨ i = 8 ∨ i = 9 ∨ i = 10 ∨ i = 11 ∨ i = 12 ∨ i = 13 ∨ i = 14 := by omega
      rcases hi' with rfl | rfl | rfl | rfl | rfl | rfl | rfl | rfl | rfl | rfl | rfl | rfl | rfl | rfl | rfl
      · exact wpOp_list rfl rfl (load_cls rfl rfl hW.h4 ⟨_, _, _, _, _, _, _, _, _, _, _, _, rfl, Vl.now, Vl.step e1 (by decide), Vl.step e2 (by decide), Vl.step e3 (by decide), Vl.step e4 (by decide), Vl.step e5 (by decide), Vl.step e6 (by decide), Vl.step e7 (by decide), Vl.step e8 (by decide), Al.step d9 (by decide) (by decide) fun _ _ h => h, Al.step d10 (by decide) (by decide) fun _ _ h => h, Al.step d11 (by decide) (by decide) fun _ _ h => h, Ap.step p1 (by decide) (by decide), Ap.step p2 (by decide) (by decide), Ap.step p3 (by decide) (by decide), hW⟩)
      · exact wpOp_list rfl rfl (load_cls rfl rfl hW.h5 ⟨_, _, _, _, _, _, _, _, _, _, _, _, rfl, Vl.step e0 (by decide), Vl.now, Vl.step e2 (by decide), Vl.step e3 (by decide), Vl.step e4 (by decide), Vl.step e5 (by decide), Vl.step e6 (by decide), Vl.step e7 (by decide), Vl.step e8 (by decide), Al.step d9 (by decide) (by decide) fun _ _ h => h, Al.step d10 (by decide) (by decide) fun _ _ h => h, Al.step d11 (by decide) (by decide) fun _ _ h => h, Ap.step p1 (by decide) (by decide), Ap.step p2 (by decide) (by decide), Ap.step p3 (by decide) (by decide), hW⟩)
      · have y1 := e0 (hdep ⟨0, .data⟩ (by cases ho; simp) rfl)
        have y2 := e1 (hdep ⟨1, .data⟩ (by cases ho; simp) rfl)
        subst y1 y2
        obtain rfl := Option.some.inj ho
        refine wpOp_list rfl rfl (st_call (w' := W) (f := 17) (args := #[V4 ca, V4 cb]) (by go_simp) ((union_c ca cb HA.out HB.out _).mono ?_))
        rintro e w1 ⟨rfl, hb1⟩
        exact ⟨_, rfl, _, _, _, _, _, _, _, _, _, _, _, _, rfl, Vl.step e0 (by decide), Vl.step e1 (by decide), Vl.now, Vl.step e3 (by decide), Vl.step e4 (by decide), Vl.step e5 (by decide), Vl.step e6 (by decide), Vl.step e7 (by decide), Vl.step e8 (by decide), Al.step d9 (by decide) (by decide) fun _ _ h => heap_same hb1 h, Al.step d10 (by decide) (by decide) fun _ _ h => heap_same hb1 h, Al.step d11 (by decide) (by decide) fun _ _ h => heap_same hb1 h, Ap.step p1 (by decide) (by decide), Ap.step p2 (by decide) (by decide), Ap.step p3 (by decide) (by decide), hW.step hb1⟩
      · exact wpOp_list rfl rfl (load_cls rfl rfl hW.h4 ⟨_, _, _, _, _, _, _, _, _, _, _, _, rfl, Vl.step e0 (by decide), Vl.step e1 (by decide), Vl.step e2 (by decide), Vl.now, Vl.step e4 (by decide), Vl.step e5 (by decide), Vl.step e6 (by decide), Vl.step e7 (by decide), Vl.step e8 (by decide), Al.step d9 (by decide) (by decide) fun _ _ h => h, Al.step d10 (by decide) (by decide) fun _ _ h => h, Al.step d11 (by decide) (by decide) fun _ _ h => h, Ap.step p1 (by decide) (by decide), Ap.step p2 (by decide) (by decide), Ap.step p3 (by decide) (by decide), hW⟩)
      · exact wpOp_list rfl rfl (load_cls rfl rfl hW.h5 ⟨_, _, _, _, _, _, _, _, _, _, _, _, rfl, Vl.step e0 (by decide), Vl.step e1 (by decide), Vl.step e2 (by decide), Vl.step e3 (by decide), Vl.now, Vl.step e5 (by decide), Vl.step e6 (by decide), Vl.step e7 (by decide), Vl.step e8 (by decide), Al.step d9 (by decide) (by decide) fun _ _ h => h, Al.step d10 (by decide) (by decide) fun _ _ h => h, Al.step d11 (by decide) (by decide) fun _ _ h => h, Ap.step p1 (by decide) (by decide), Ap.step p2 (by decide) (by decide), Ap.step p3 (by decide) (by decide), hW⟩)
      · have y1 := e3 (hdep ⟨3, .data⟩ (by cases ho; simp) rfl)
        have y2 := e4 (hdep ⟨4, .data⟩ (by cases ho; simp) rfl)
        subst y1 y2
        obtain rfl := Option.some.inj ho
        refine wpOp_list rfl rfl (st_call (w' := W) (f := 19) (args := #[V4 ca, V4 cb]) (by go_simp) ((meet_c ca cb HA.out HB.out _).mono ?_))
        rintro e w1 ⟨rfl, hb1⟩
        exact ⟨_, rfl, _, _, _, _, _, _, _, _, _, _, _, _, rfl, Vl.step e0 (by decide), Vl.step e1 (by decide), Vl.step e2 (by decide), Vl.step e3 (by decide), Vl.step e4 (by decide), Vl.now, Vl.step e6 (by decide), Vl.step e7 (by decide), Vl.step e8 (by decide), Al.step d9 (by decide) (by decide) fun _ _ h => heap_same hb1 h, Al.step d10 (by decide) (by decide) fun _ _ h => heap_same hb1 h, Al.step d11 (by decide) (by decide) fun _ _ h => heap_same hb1 h, Ap.step p1 (by decide) (by decide), Ap.step p2 (by decide) (by decide), Ap.step p3 (by decide) (by decide), hW.step hb1⟩
      · exact wpOp_list rfl rfl (load_cls rfl rfl hW.h4 ⟨_, _, _, _, _, _, _, _, _, _, _, _, rfl, Vl.step e0 (by decide), Vl.step e1 (by decide), Vl.step e2 (by decide), Vl.step e3 (by decide), Vl.step e4 (by decide), Vl.step e5 (by decide), Vl.now, Vl.step e7 (by decide), Vl.step e8 (by decide), Al.step d9 (by decide) (by decide) fun _ _ h => h, Al.step d10 (by decide) (by decide) fun _ _ h => h, Al.step d11 (by decide) (by decide) fun _ _ h => h, Ap.step p1 (by decide) (by decide), Ap.step p2 (by decide) (by decide), Ap.step p3 (by decide) (by decide), hW⟩)
      · exact wpOp_list rfl rfl (load_cls rfl rfl hW.h5 ⟨_, _, _, _, _, _, _, _, _, _, _, _, rfl, Vl.step e0 (by decide), Vl.step e1 (by decide), Vl.step e2 (by decide), Vl.step e3 (by decide), Vl.step e4 (by decide), Vl.step e5 (by decide), Vl.step e6 (by decide), Vl.now, Vl.step e8 (by decide), Al.step d9 (by decide) (by decide) fun _ _ h => h, Al.step d10 (by decide) (by decide) fun _ _ h => h, Al.step d11 (by decide) (by decide) fun _ _ h => h, Ap.step p1 (by decide) (by decide), Ap.step p2 (by decide) (by decide), Ap.step p3 (by decide) (by decide), hW⟩)
      · have y1 := e6 (hdep ⟨6, .data⟩ (by cases ho; simp) rfl)
        have y2 := e7 (hdep ⟨7, .data⟩ (by cases ho; simp) rfl)
        subst y1 y2
        obtain rfl := Option.some.inj ho
        refine wpOp_list rfl rfl (st_call (w' := W) (f := 20) (args := #[V4 ca, V4 cb]) (by go_simp) ((minus_c ca cb HA.out HB.out _).mono ?_))
        rintro e w1 ⟨rfl, hb1⟩
        exact ⟨_, rfl, _, _, _, _, _, _, _, _, _, _, _, _, rfl, Vl.step e0 (by decide), Vl.step e1 (by decide), Vl.step e2 (by decide), Vl.step e3 (by decide), Vl.step e4 (by decide), Vl.step e5 (by decide), Vl.step e6 (by decide), Vl.step e7 (by decide), Vl.now, Al.step d9 (by decide) (by decide) fun _ _ h => heap_same hb1 h, Al.step d10 (by decide) (by decide) fun _ _ h => heap_same hb1 h, Al.step d11 (by decide) (by decide) fun _ _ h => heap_same hb1 h, Ap.step p1 (by decide) (by decide), Ap.step p2 (by decide) (by decide), Ap.step p3 (by decide) (by decide), hW.step hb1⟩
      · have hn : L.getD 9 false = false := getD_false hz (by decide) hni
        obtain rfl := Option.some.inj ho
        refine wpOp_list rfl rfl (st_run (v := .pointer (some ⟨W.heap.size, 0, none⟩)) (w' := W.alloc (.cells Cls.none.cells 24)) (by go_simp; rfl) ?_)
        exact ⟨_, _, _, _, _, _, _, _, _, _, _, _, rfl, Vl.step e0 (by decide), Vl.step e1 (by decide), Vl.step e2 (by decide), Vl.step e3 (by decide), Vl.step e4 (by decide), Vl.step e5 (by decide), Vl.step e6 (by decide), Vl.step e7 (by decide), Vl.step e8 (by decide), Al.new d9 hn (by decide) hW.room, Al.step d10 (by decide) (by decide) fun _ _ h => heap_keep h, Al.step d11 (by decide) (by decide) fun _ _ h => heap_keep h, Ap.newL d10 (by decide), Ap.newL d11 (by decide), Ap.step p3 (by decide) (by decide), hW.lay _⟩
      · have hn : L.getD 10 false = false := getD_false hz (by decide) hni
        obtain rfl := Option.some.inj ho
        refine wpOp_list rfl rfl (st_run (v := .pointer (some ⟨W.heap.size, 0, none⟩)) (w' := W.alloc (.cells Cls.none.cells 24)) (by go_simp; rfl) ?_)
        exact ⟨_, _, _, _, _, _, _, _, _, _, _, _, rfl, Vl.step e0 (by decide), Vl.step e1 (by decide), Vl.step e2 (by decide), Vl.step e3 (by decide), Vl.step e4 (by decide), Vl.step e5 (by decide), Vl.step e6 (by decide), Vl.step e7 (by decide), Vl.step e8 (by decide), Al.step d9 (by decide) (by decide) fun _ _ h => heap_keep h, Al.new d10 hn (by decide) hW.room, Al.step d11 (by decide) (by decide) fun _ _ h => heap_keep h, Ap.newR d9 (by decide), Ap.step p2 (by decide) (by decide), Ap.newL d11 (by decide), hW.lay _⟩
      · have hn : L.getD 11 false = false := getD_false hz (by decide) hni
        obtain rfl := Option.some.inj ho
        refine wpOp_list rfl rfl (st_run (v := .pointer (some ⟨W.heap.size, 0, none⟩)) (w' := W.alloc (.cells Cls.none.cells 24)) (by go_simp; rfl) ?_)
        exact ⟨_, _, _, _, _, _, _, _, _, _, _, _, rfl, Vl.step e0 (by decide), Vl.step e1 (by decide), Vl.step e2 (by decide), Vl.step e3 (by decide), Vl.step e4 (by decide), Vl.step e5 (by decide), Vl.step e6 (by decide), Vl.step e7 (by decide), Vl.step e8 (by decide), Al.step d9 (by decide) (by decide) fun _ _ h => heap_keep h, Al.step d10 (by decide) (by decide) fun _ _ h => heap_keep h, Al.new d11 hn (by decide) hW.room, Ap.step p1 (by decide) (by decide), Ap.newR d9 (by decide), Ap.newR d10 (by decide), hW.lay _⟩
      · have dv := e2 (hdep ⟨2, .data⟩ (by cases ho; simp) rfl)
        have dd := hdep ⟨9, .data⟩ (by cases ho; simp) rfl
        obtain ⟨g, z, hv, hg, hc, _⟩ := d9.1 dd
        subst dv hv
        refine wpOp_list rfl rfl (wp_store_row 24 _ _ rfl g (ca.union cb).cells rfl rfl 24 _ hc (infoCls _) rfl (Cls.cells_one _) ?_)
        exact ⟨_, _, _, _, _, _, _, _, _, _, _, _, rfl, Vl.step e0 (by decide), Vl.step e1 (by decide), Vl.step e2 (by decide), Vl.step e3 (by decide), Vl.step e4 (by decide), Vl.step e5 (by decide), Vl.step e6 (by decide), Vl.step e7 (by decide), Vl.step e8 (by decide), Al.put d9 dd hg hc, Al.other d10 (by decide) (by decide) (fun q => fun r => p1 dd q r.symm), Al.other d11 (by decide) (by decide) (fun q => fun r => p2 dd q r.symm), Ap.step p1 (by decide) (by decide), Ap.step p2 (by decide) (by decide), Ap.step p3 (by decide) (by decide), hW.row hg _⟩
      · have dv := e5 (hdep ⟨5, .data⟩ (by cases ho; simp) rfl)
        have dd := hdep ⟨10, .data⟩ (by cases ho; simp) rfl
        obtain ⟨g, z, hv, hg, hc, _⟩ := d10.1 dd
        subst dv hv
        refine wpOp_list rfl rfl (wp_store_row 24 _ _ rfl g (ca.meet cb).cells rfl rfl 24 _ hc (infoCls _) rfl (Cls.cells_one _) ?_)
        exact ⟨_, _, _, _, _, _, _, _, _, _, _, _, rfl, Vl.step e0 (by decide), Vl.step e1 (by decide), Vl.step e2 (by decide), Vl.step e3 (by decide), Vl.step e4 (by decide), Vl.step e5 (by decide), Vl.step e6 (by decide), Vl.step e7 (by decide), Vl.step e8 (by decide), Al.other d9 (by decide) (by decide) (fun q => fun r => p1 q dd r), Al.put d10 dd hg hc, Al.other d11 (by decide) (by decide) (fun q => fun r => p3 dd q r.symm), Ap.step p1 (by decide) (by decide), Ap.step p2 (by decide) (by decide), Ap.step p3 (by decide) (by decide), hW.row hg _⟩
      · have dv := e8 (hdep ⟨8, .data⟩ (by cases ho; simp) rfl)
        have dd := hdep ⟨11, .data⟩ (by cases ho; simp) rfl
        obtain ⟨g, z, hv, hg, hc, _⟩ := d11.1 dd
        subst dv hv
        refine wpOp_list rfl rfl (wp_store_row 24 _ _ rfl g (ca.minus cb).cells rfl rfl 24 _ hc (infoCls _) rfl (Cls.cells_one _) ?_)
        exact ⟨_, _, _, _, _, _, _, _, _, _, _, _, rfl, Vl.step e0 (by decide), Vl.step e1 (by decide), Vl.step e2 (by decide), Vl.step e3 (by decide), Vl.step e4 (by decide), Vl.step e5 (by decide), Vl.step e6 (by decide), Vl.step e7 (by decide), Vl.step e8 (by decide), Al.other d9 (by decide) (by decide) (fun q => fun r => p2 q dd r), Al.other d10 (by decide) (by decide) (fun q => fun r => p3 q dd r), Al.put d11 dd hg hc, Ap.step p1 (by decide) (by decide), Ap.step p2 (by decide) (by decide), Ap.step p3 (by decide) (by decide), hW.row hg _⟩
    case hd =>
      intro L A W hL hI
      obtain ⟨v9, v10, v11, v17, v18, v19, v20, v21, v22, v23, v24, v25, rfl, e0, e1, e2, e3, e4, e5, e6, e7, e8, d9, d10, d11, p1, p2, p3, hW⟩ := hI
      obtain ⟨g9, z9, rfl, hg9, hc9, hz9⟩ := d9.1 (hL 9 (by decide))
      obtain ⟨g10, z10, rfl, hg10, hc10, hz10⟩ := d10.1 (hL 10 (by decide))
      obtain ⟨g11, z11, rfl, hg11, hc11, hz11⟩ := d11.1 (hL 11 (by decide))
      obtain rfl := hz9 (hL 12 (by decide)); obtain rfl := hz10 (hL 13 (by decide)); obtain rfl := hz11 (hL 14 (by decide))
      have hJ0 : AlgJ w0 ca cb cc g9 g10 g11 W := ⟨hW.bel, hW.h4, hW.h5, hW.h6, hc9, hc10, hc11⟩
      clear hL hW0 hz9 hz10 hz11 hc9 hc10 hc11 e0 e1 e2 e3 e4 e5 e6 e7 e8 d9 d10 d11 p1 p2 p3
      go_wp2_with fail
      go_meet
      exact ⟨g9, g10, g11, rfl, rfl, rfl, hJ0⟩
  case rest =>
  obtain ⟨g9, g10, g11, rfl, rfl, rfl, hJ⟩ := hcut
  clear hW0
  go_upto_region 4 with fail
  refine wp_region_vals (by kernel_rfl) (by kernel_rfl) (by kernel_rfl) (by kernel_rfl) (AlgJ w0 ca cb cc g9 g10 g11) (AlgV4 ca cb cc x) hJ.drew ?hs4 ?hq4
  case hs4 =>
    intro i o ho a w hJ hl
    have hi : i < 8 := (Array.getElem?_eq_some_iff.1 ho).1
    by_cases q4 : i < 4
    ·
      by_cases q2 : i < 2
      ·
        by_cases q1 : i < 1
        ·
          obtain rfl : i = 0 := by omega
          obtain rfl := Option.some.inj ho
          have x4 : a.tmps[4]?.getD undef = (.pointer (some ⟨w0.heap.size, 0, none⟩)) := hl.free 4 (by kernel_rfl)
          refine wpOp_list rfl rfl ?_
          exact load_cls rfl (eval_tmp x4) hJ.h4 ⟨_, rfl, rfl, hJ⟩
        ·
          obtain rfl : i = 1 := by omega
          obtain rfl := Option.some.inj ho
          have x3 : a.tmps[3]?.getD undef = (.int .u8 (x : Int)) := hl.free 3 (by kernel_rfl)
          refine wpOp_list rfl rfl ?_
          exact st_run (v := (.int .u8 (x : Int))) (by go_simp) ⟨_, rfl, rfl, hJ⟩
      ·
        by_cases q3 : i < 3
        ·
          obtain rfl : i = 2 := by omega
          obtain rfl := Option.some.inj ho
          have x26 : a.tmps[26]?.getD undef = (V4 ca) := by obtain ⟨v, h1, h2⟩ := hl.dep 0 26 (by kernel_rfl) (by kernel_rfl); exact h1.trans h2
          have x27 : a.tmps[27]?.getD undef = (.int .u8 (x : Int)) := by obtain ⟨v, h1, h2⟩ := hl.dep 1 27 (by kernel_rfl) (by kernel_rfl); exact h1.trans h2
          refine wpOp_list rfl rfl ?_
          refine st_call (w' := w) (f := 15) (args := #[(V4 ca), (.int .u8 (x : Int))]) (by go_simp) ((has_c ca ha x hx _).mono ?_)
          rintro e w'' ⟨rfl, hb2⟩
          exact ⟨_, rfl, _, rfl, rfl, hJ.step hb2⟩
        ·
          obtain rfl : i = 3 := by omega
          obtain rfl := Option.some.inj ho
          have x5 : a.tmps[5]?.getD undef = (.pointer (some ⟨w0.heap.size + 1, 0, none⟩)) := hl.free 5 (by kernel_rfl)
          refine wpOp_list rfl rfl ?_
          exact load_cls rfl (eval_tmp x5) hJ.h5 ⟨_, rfl, rfl, hJ⟩
    ·
      by_cases q6 : i < 6
      ·
        by_cases q5 : i < 5
        ·
          obtain rfl : i = 4 := by omega
          obtain rfl := Option.some.inj ho
          have x3 : a.tmps[3]?.getD undef = (.int .u8 (x : Int)) := hl.free 3 (by kernel_rfl)
          refine wpOp_list rfl rfl ?_
          exact st_run (v := (.int .u8 (x : Int))) (by go_simp) ⟨_, rfl, rfl, hJ⟩
        ·
          obtain rfl : i = 5 := by omega
          obtain rfl := Option.some.inj ho
          have x29 : a.tmps[29]?.getD undef = (V4 cb) := by obtain ⟨v, h1, h2⟩ := hl.dep 3 29 (by kernel_rfl) (by kernel_rfl); exact h1.trans h2
          have x30 : a.tmps[30]?.getD undef = (.int .u8 (x : Int)) := by obtain ⟨v, h1, h2⟩ := hl.dep 4 30 (by kernel_rfl) (by kernel_rfl); exact h1.trans h2
          refine wpOp_list rfl rfl ?_
          refine st_call (w' := w) (f := 15) (args := #[(V4 cb), (.int .u8 (x : Int))]) (by go_simp) ((has_c cb hb x hx _).mono ?_)
          rintro e w'' ⟨rfl, hb2⟩
          exact ⟨_, rfl, _, rfl, rfl, hJ.step hb2⟩
      ·
        by_cases q7 : i < 7
        ·
          obtain rfl : i = 6 := by omega
          obtain rfl := Option.some.inj ho
          have x28 : a.tmps[28]?.getD undef = (.bool (ca.mem x)) := by obtain ⟨v, h1, h2⟩ := hl.dep 2 28 (by kernel_rfl) (by kernel_rfl); exact h1.trans h2
          refine wpOp_list rfl rfl ?_
          exact st_run (v := (.bool (ca.mem x))) (by go_simp) ⟨_, rfl, rfl, hJ⟩
        ·
          obtain rfl : i = 7 := by omega
          obtain rfl := Option.some.inj ho
          have x31 : a.tmps[31]?.getD undef = (.bool (cb.mem x)) := by obtain ⟨v, h1, h2⟩ := hl.dep 5 31 (by kernel_rfl) (by kernel_rfl); exact h1.trans h2
          refine wpOp_list rfl rfl ?_
          exact st_run (v := (.bool (cb.mem x))) (by go_simp) ⟨_, rfl, rfl, hJ⟩
  case hq4 =>
  intro f W4 hJ hV
  refine put_all (fun A => AlgF w0.heap.size g9 g10 g11 A ∧ A.tmps[3]? = some (.int .u8 (x : Int)) ∧ A.tmps[12]? = some (.bool (ca.mem x)) ∧ A.tmps[13]? = some (.bool (cb.mem x))) ⟨AlgF.put ⟨rfl, rfl, rfl, rfl, rfl, rfl, rfl, rfl⟩ (by kernel_rfl), put_kept rfl (by kernel_rfl), put_got (t := 12) (i := 6) (v := .bool (ca.mem x)) (by simp) (by kernel_rfl) (by kernel_rfl) (by decide) (hV 6 12 (by kernel_rfl)), put_got (t := 13) (i := 7) (v := .bool (cb.mem x)) (by simp) (by kernel_rfl) (by kernel_rfl) (by decide) (hV 7 13 (by kernel_rfl))⟩ ?_
  rintro B4 ⟨hF, hF3, hF12, hF13⟩
  go_upto_region 5 with fail
  refine wp_region_seq (by kernel_rfl) (by rw [hF.size]; kernel_rfl) (AlgJ w0 ca cb cc g9 g10 g11) (AlgV5 ca cb cc x) hJ ?hs5 ?hq5
  case hs5 =>
    intro i o ho a w hJ hl
    have hi : i < 37 := (Array.getElem?_eq_some_iff.1 ho).1
    by_cases q18 : i < 18
    ·
      by_cases q9 : i < 9
      ·
        by_cases q4 : i < 4
        ·
          by_cases q2 : i < 2
          ·
            by_cases q1 : i < 1
            ·
              obtain rfl : i = 0 := by omega
              obtain rfl := Option.some.inj ho
              have x9 : a.tmps[9]?.getD undef = (.pointer (some ⟨g9, 0, none⟩)) := (hl.free 9 (by kernel_rfl)).trans (getD_of hF.t9)
              refine wpOp_list rfl rfl ?_
              exact load_cls rfl (eval_tmp x9) hJ.h9 ⟨_, rfl, rfl, hJ⟩
            ·
              obtain rfl : i = 1 := by omega
              obtain rfl := Option.some.inj ho
              have x3 : a.tmps[3]?.getD undef = (.int .u8 (x : Int)) := (hl.free 3 (by kernel_rfl)).trans (getD_of hF3)
              refine wpOp_list rfl rfl ?_
              exact st_run (v := (.int .u8 (x : Int))) (by go_simp) ⟨_, rfl, rfl, hJ⟩
          ·
            by_cases q3 : i < 3
            ·
              obtain rfl : i = 2 := by omega
              obtain rfl := Option.some.inj ho
              have x32 : a.tmps[32]?.getD undef = (V4 (ca.union cb)) := by obtain ⟨v, h1, h2⟩ := hl.dep 0 32 (by kernel_rfl) (by kernel_rfl); exact h1.trans h2
              have x33 : a.tmps[33]?.getD undef = (.int .u8 (x : Int)) := by obtain ⟨v, h1, h2⟩ := hl.dep 1 33 (by kernel_rfl) (by kernel_rfl); exact h1.trans h2
              refine wpOp_list rfl rfl ?_
              refine st_call (w' := w) (f := 15) (args := #[(V4 (ca.union cb)), (.int .u8 (x : Int))]) (by go_simp) ((has_c (ca.union cb) (Cls.ok_union ha hb) x hx _).mono ?_)
              rintro e w'' ⟨rfl, hb2⟩
              exact ⟨_, rfl, _, rfl, congrArg Value.bool (Cls.mem_union ca cb x), hJ.step hb2⟩
            ·
              obtain rfl : i = 3 := by omega
              obtain rfl := Option.some.inj ho
              have x12 : a.tmps[12]?.getD undef = (.bool (ca.mem x)) := (hl.free 12 (by kernel_rfl)).trans (getD_of hF12)
              refine wpOp_list rfl rfl ?_
              exact st_run (v := (.bool (ca.mem x))) (by go_simp) ⟨_, rfl, rfl, hJ⟩
        ·
          by_cases q6 : i < 6
          ·
            by_cases q5 : i < 5
            ·
              obtain rfl : i = 4 := by omega
              obtain rfl := Option.some.inj ho
              have x35 : a.tmps[35]?.getD undef = (.bool (ca.mem x)) := by obtain ⟨v, h1, h2⟩ := hl.dep 3 35 (by kernel_rfl) (by kernel_rfl); exact h1.trans h2
              refine wpOp_list rfl rfl ?_
              exact st_run (v := (.bool (ca.mem x))) (by go_simp) ⟨_, rfl, rfl, hJ⟩
            ·
              obtain rfl : i = 5 := by omega
              obtain rfl := Option.some.inj ho
              have x13 : a.tmps[13]?.getD undef = (.bool (cb.mem x)) := (hl.free 13 (by kernel_rfl)).trans (getD_of hF13)
              have x13 : a.tmps[13]?.getD undef = (.bool (cb.mem x)) := (hl.free 13 (by kernel_rfl)).trans (getD_of hF13)
              cases hp : ca.mem x
              · refine st_wanted rfl ((wanted_at hl 4 36 false false rfl (by kernel_rfl) (by kernel_rfl) (fun v h => h.trans (congrArg Value.bool hp))).trans rfl) ?_; exact st_run (v := (.bool (cb.mem x))) (by go_simp) ⟨_, rfl, (by show _ = (if ca.mem x = true then _ else _); rw [hp]; rfl), hJ⟩
              · exact st_skip rfl ((wanted_at hl 4 36 false true rfl (by kernel_rfl) (by kernel_rfl) (fun v h => h.trans (congrArg Value.bool hp))).trans rfl) ⟨_, rfl, (by show _ = (if ca.mem x = true then _ else _); rw [hp]; rfl), hJ⟩
          ·
            by_cases q7 : i < 7
            ·
              obtain rfl : i = 6 := by omega
              obtain rfl := Option.some.inj ho
              have x36 : a.tmps[36]?.getD undef = (.bool (ca.mem x)) := by obtain ⟨v, h1, h2⟩ := hl.dep 4 36 (by kernel_rfl) (by kernel_rfl); exact h1.trans h2
              have x37 : a.tmps[37]?.getD undef = (if ca.mem x = true then undef else (.bool (cb.mem x))) := by obtain ⟨v, h1, h2⟩ := hl.dep 5 37 (by kernel_rfl) (by kernel_rfl); exact h1.trans h2
              refine wpOp_list rfl rfl ?_
              exact st_run (v := (.bool (ca.mem x || cb.mem x))) (by cases hp : ca.mem x <;> (simp only [hp, if_true, Bool.false_eq_true, if_false] at x36 x37; go_simp)) ⟨_, rfl, rfl, hJ⟩
            ·
              by_cases q8 : i < 8
              ·
                obtain rfl : i = 7 := by omega
                obtain rfl := Option.some.inj ho
                have x34 : a.tmps[34]?.getD undef = (.bool (ca.mem x || cb.mem x)) := by obtain ⟨v, h1, h2⟩ := hl.dep 2 34 (by kernel_rfl) (by kernel_rfl); exact h1.trans h2
                have x38 : a.tmps[38]?.getD undef = (.bool (ca.mem x || cb.mem x)) := by obtain ⟨v, h1, h2⟩ := hl.dep 6 38 (by kernel_rfl) (by kernel_rfl); exact h1.trans h2
                refine wpOp_list rfl rfl ?_
                exact st_run (v := (.bool false)) (by go_simp) ⟨_, rfl, rfl, hJ⟩
              ·
                obtain rfl : i = 8 := by omega
                obtain rfl := Option.some.inj ho
                have x39 : a.tmps[39]?.getD undef = (.bool false) := by obtain ⟨v, h1, h2⟩ := hl.dep 7 39 (by kernel_rfl) (by kernel_rfl); exact h1.trans h2
                refine wpOp_list rfl rfl ?_
                exact st_run (v := (.bool false)) (by go_simp) ⟨_, rfl, rfl, hJ⟩
      ·
        by_cases q13 : i < 13
        ·
          by_cases q11 : i < 11
          ·
            by_cases q10 : i < 10
            ·
              obtain rfl : i = 9 := by omega
              obtain rfl := Option.some.inj ho
              have x10 : a.tmps[10]?.getD undef = (.pointer (some ⟨g10, 0, none⟩)) := (hl.free 10 (by kernel_rfl)).trans (getD_of hF.t10)
              refine st_wanted rfl (hl.wanted 8 40 false rfl (by kernel_rfl) (by kernel_rfl) (fun v h => h)) ?_
              exact load_cls rfl (eval_tmp x10) hJ.h10 ⟨_, rfl, rfl, hJ⟩
            ·
              obtain rfl : i = 10 := by omega
              obtain rfl := Option.some.inj ho
              have x3 : a.tmps[3]?.getD undef = (.int .u8 (x : Int)) := (hl.free 3 (by kernel_rfl)).trans (getD_of hF3)
              refine st_wanted rfl (hl.wanted 8 40 false rfl (by kernel_rfl) (by kernel_rfl) (fun v h => h)) ?_
              exact st_run (v := (.int .u8 (x : Int))) (by go_simp) ⟨_, rfl, rfl, hJ⟩
          ·
            by_cases q12 : i < 12
            ·
              obtain rfl : i = 11 := by omega
              obtain rfl := Option.some.inj ho
              have x41 : a.tmps[41]?.getD undef = (V4 (ca.meet cb)) := by obtain ⟨v, h1, h2⟩ := hl.dep 9 41 (by kernel_rfl) (by kernel_rfl); exact h1.trans h2
              have x42 : a.tmps[42]?.getD undef = (.int .u8 (x : Int)) := by obtain ⟨v, h1, h2⟩ := hl.dep 10 42 (by kernel_rfl) (by kernel_rfl); exact h1.trans h2
              refine st_wanted rfl (hl.wanted 8 40 false rfl (by kernel_rfl) (by kernel_rfl) (fun v h => h)) ?_
              refine st_call (w' := w) (f := 15) (args := #[(V4 (ca.meet cb)), (.int .u8 (x : Int))]) (by go_simp) ((has_c (ca.meet cb) (Cls.ok_meet ha) x hx _).mono ?_)
              rintro e w'' ⟨rfl, hb2⟩
              exact ⟨_, rfl, _, rfl, congrArg Value.bool (Cls.mem_meet ca cb x), hJ.step hb2⟩
            ·
              obtain rfl : i = 12 := by omega
              obtain rfl := Option.some.inj ho
              have x12 : a.tmps[12]?.getD undef = (.bool (ca.mem x)) := (hl.free 12 (by kernel_rfl)).trans (getD_of hF12)
              refine st_wanted rfl (hl.wanted 8 40 false rfl (by kernel_rfl) (by kernel_rfl) (fun v h => h)) ?_
              exact st_run (v := (.bool (ca.mem x))) (by go_simp) ⟨_, rfl, rfl, hJ⟩
        ·
          by_cases q15 : i < 15
          ·
            by_cases q14 : i < 14
            ·
              obtain rfl : i = 13 := by omega
              obtain rfl := Option.some.inj ho
              have x44 : a.tmps[44]?.getD undef = (.bool (ca.mem x)) := by obtain ⟨v, h1, h2⟩ := hl.dep 12 44 (by kernel_rfl) (by kernel_rfl); exact h1.trans h2
              refine st_wanted rfl (hl.wanted 8 40 false rfl (by kernel_rfl) (by kernel_rfl) (fun v h => h)) ?_
              exact st_run (v := (.bool (ca.mem x))) (by go_simp) ⟨_, rfl, rfl, hJ⟩
            ·
              obtain rfl : i = 14 := by omega
              obtain rfl := Option.some.inj ho
              have x13 : a.tmps[13]?.getD undef = (.bool (cb.mem x)) := (hl.free 13 (by kernel_rfl)).trans (getD_of hF13)
              have x13 : a.tmps[13]?.getD undef = (.bool (cb.mem x)) := (hl.free 13 (by kernel_rfl)).trans (getD_of hF13)
              cases hp : ca.mem x
              · exact st_skip rfl ((wanted_at hl 13 45 true false rfl (by kernel_rfl) (by kernel_rfl) (fun v h => h.trans (congrArg Value.bool hp))).trans rfl) ⟨_, rfl, (by show _ = (if ca.mem x = true then _ else _); rw [hp]; rfl), hJ⟩
              · refine st_wanted rfl ((wanted_at hl 13 45 true true rfl (by kernel_rfl) (by kernel_rfl) (fun v h => h.trans (congrArg Value.bool hp))).trans rfl) ?_; exact st_run (v := (.bool (cb.mem x))) (by go_simp) ⟨_, rfl, (by show _ = (if ca.mem x = true then _ else _); rw [hp]; rfl), hJ⟩
          ·
            by_cases q16 : i < 16
            ·
              obtain rfl : i = 15 := by omega
              obtain rfl := Option.some.inj ho
              have x45 : a.tmps[45]?.getD undef = (.bool (ca.mem x)) := by obtain ⟨v, h1, h2⟩ := hl.dep 13 45 (by kernel_rfl) (by kernel_rfl); exact h1.trans h2
              have x46 : a.tmps[46]?.getD undef = (if ca.mem x = true then (.bool (cb.mem x)) else undef) := by obtain ⟨v, h1, h2⟩ := hl.dep 14 46 (by kernel_rfl) (by kernel_rfl); exact h1.trans h2
              refine st_wanted rfl (hl.wanted 8 40 false rfl (by kernel_rfl) (by kernel_rfl) (fun v h => h)) ?_
              exact st_run (v := (.bool (ca.mem x && cb.mem x))) (by cases hp : ca.mem x <;> (simp only [hp, if_true, Bool.false_eq_true, if_false] at x45 x46; go_simp)) ⟨_, rfl, rfl, hJ⟩
            ·
              by_cases q17 : i < 17
              ·
                obtain rfl : i = 16 := by omega
                obtain rfl := Option.some.inj ho
                have x43 : a.tmps[43]?.getD undef = (.bool (ca.mem x && cb.mem x)) := by obtain ⟨v, h1, h2⟩ := hl.dep 11 43 (by kernel_rfl) (by kernel_rfl); exact h1.trans h2
                have x47 : a.tmps[47]?.getD undef = (.bool (ca.mem x && cb.mem x)) := by obtain ⟨v, h1, h2⟩ := hl.dep 15 47 (by kernel_rfl) (by kernel_rfl); exact h1.trans h2
                refine st_wanted rfl (hl.wanted 8 40 false rfl (by kernel_rfl) (by kernel_rfl) (fun v h => h)) ?_
                exact st_run (v := (.bool false)) (by go_simp) ⟨_, rfl, rfl, hJ⟩
              ·
                obtain rfl : i = 17 := by omega
                obtain rfl := Option.some.inj ho
                have x40 : a.tmps[40]?.getD undef = (.bool false) := by obtain ⟨v, h1, h2⟩ := hl.dep 8 40 (by kernel_rfl) (by kernel_rfl); exact h1.trans h2
                have x48 : a.tmps[48]?.getD undef = (.bool false) := by obtain ⟨v, h1, h2⟩ := hl.dep 16 48 (by kernel_rfl) (by kernel_rfl); exact h1.trans h2
                refine wpOp_list rfl rfl ?_
                exact st_run (v := (.bool false)) (by go_simp) ⟨_, rfl, rfl, hJ⟩
    ·
      by_cases q27 : i < 27
      ·
        by_cases q22 : i < 22
        ·
          by_cases q20 : i < 20
          ·
            by_cases q19 : i < 19
            ·
              obtain rfl : i = 18 := by omega
              obtain rfl := Option.some.inj ho
              have x49 : a.tmps[49]?.getD undef = (.bool false) := by obtain ⟨v, h1, h2⟩ := hl.dep 17 49 (by kernel_rfl) (by kernel_rfl); exact h1.trans h2
              refine wpOp_list rfl rfl ?_
              exact st_run (v := (.bool false)) (by go_simp) ⟨_, rfl, rfl, hJ⟩
            ·
              obtain rfl : i = 19 := by omega
              obtain rfl := Option.some.inj ho
              have x11 : a.tmps[11]?.getD undef = (.pointer (some ⟨g11, 0, none⟩)) := (hl.free 11 (by kernel_rfl)).trans (getD_of hF.t11)
              refine st_wanted rfl (hl.wanted 18 50 false rfl (by kernel_rfl) (by kernel_rfl) (fun v h => h)) ?_
              exact load_cls rfl (eval_tmp x11) hJ.h11 ⟨_, rfl, rfl, hJ⟩
          ·
            by_cases q21 : i < 21
            ·
              obtain rfl : i = 20 := by omega
              obtain rfl := Option.some.inj ho
              have x3 : a.tmps[3]?.getD undef = (.int .u8 (x : Int)) := (hl.free 3 (by kernel_rfl)).trans (getD_of hF3)
              refine st_wanted rfl (hl.wanted 18 50 false rfl (by kernel_rfl) (by kernel_rfl) (fun v h => h)) ?_
              exact st_run (v := (.int .u8 (x : Int))) (by go_simp) ⟨_, rfl, rfl, hJ⟩
            ·
              obtain rfl : i = 21 := by omega
              obtain rfl := Option.some.inj ho
              have x51 : a.tmps[51]?.getD undef = (V4 (ca.minus cb)) := by obtain ⟨v, h1, h2⟩ := hl.dep 19 51 (by kernel_rfl) (by kernel_rfl); exact h1.trans h2
              have x52 : a.tmps[52]?.getD undef = (.int .u8 (x : Int)) := by obtain ⟨v, h1, h2⟩ := hl.dep 20 52 (by kernel_rfl) (by kernel_rfl); exact h1.trans h2
              refine st_wanted rfl (hl.wanted 18 50 false rfl (by kernel_rfl) (by kernel_rfl) (fun v h => h)) ?_
              refine st_call (w' := w) (f := 15) (args := #[(V4 (ca.minus cb)), (.int .u8 (x : Int))]) (by go_simp) ((has_c (ca.minus cb) (Cls.ok_minus ha) x hx _).mono ?_)
              rintro e w'' ⟨rfl, hb2⟩
              exact ⟨_, rfl, _, rfl, congrArg Value.bool (Cls.mem_minus hb x), hJ.step hb2⟩
        ·
          by_cases q24 : i < 24
          ·
            by_cases q23 : i < 23
            ·
              obtain rfl : i = 22 := by omega
              obtain rfl := Option.some.inj ho
              have x12 : a.tmps[12]?.getD undef = (.bool (ca.mem x)) := (hl.free 12 (by kernel_rfl)).trans (getD_of hF12)
              refine st_wanted rfl (hl.wanted 18 50 false rfl (by kernel_rfl) (by kernel_rfl) (fun v h => h)) ?_
              exact st_run (v := (.bool (ca.mem x))) (by go_simp) ⟨_, rfl, rfl, hJ⟩
            ·
              obtain rfl : i = 23 := by omega
              obtain rfl := Option.some.inj ho
              have x54 : a.tmps[54]?.getD undef = (.bool (ca.mem x)) := by obtain ⟨v, h1, h2⟩ := hl.dep 22 54 (by kernel_rfl) (by kernel_rfl); exact h1.trans h2
              refine st_wanted rfl (hl.wanted 18 50 false rfl (by kernel_rfl) (by kernel_rfl) (fun v h => h)) ?_
              exact st_run (v := (.bool (ca.mem x))) (by go_simp) ⟨_, rfl, rfl, hJ⟩
          ·
            by_cases q25 : i < 25
            ·
              obtain rfl : i = 24 := by omega
              obtain rfl := Option.some.inj ho
              have x13 : a.tmps[13]?.getD undef = (.bool (cb.mem x)) := (hl.free 13 (by kernel_rfl)).trans (getD_of hF13)
              have x13 : a.tmps[13]?.getD undef = (.bool (cb.mem x)) := (hl.free 13 (by kernel_rfl)).trans (getD_of hF13)
              cases hp : ca.mem x
              · exact st_skip rfl ((wanted_at hl 23 55 true false rfl (by kernel_rfl) (by kernel_rfl) (fun v h => h.trans (congrArg Value.bool hp))).trans rfl) ⟨_, rfl, (by show _ = (if ca.mem x = true then _ else _); rw [hp]; rfl), hJ⟩
              · refine st_wanted rfl ((wanted_at hl 23 55 true true rfl (by kernel_rfl) (by kernel_rfl) (fun v h => h.trans (congrArg Value.bool hp))).trans rfl) ?_; exact st_run (v := (.bool (cb.mem x))) (by go_simp) ⟨_, rfl, (by show _ = (if ca.mem x = true then _ else _); rw [hp]; rfl), hJ⟩
            ·
              by_cases q26 : i < 26
              ·
                obtain rfl : i = 25 := by omega
                obtain rfl := Option.some.inj ho
                have x56 : a.tmps[56]?.getD undef = (if ca.mem x = true then (.bool (cb.mem x)) else undef) := by obtain ⟨v, h1, h2⟩ := hl.dep 24 56 (by kernel_rfl) (by kernel_rfl); exact h1.trans h2
                have x56 : ca.mem x = true → a.tmps[56]?.getD undef = (.bool (cb.mem x)) := fun hp => by obtain ⟨v, h1, h2⟩ := hl.dep 24 56 (by kernel_rfl) (by kernel_rfl); exact h1.trans (h2.trans (by rw [hp]; rfl))
                cases hp : ca.mem x
                · exact st_skip rfl ((wanted_at hl 23 55 true false rfl (by kernel_rfl) (by kernel_rfl) (fun v h => h.trans (congrArg Value.bool hp))).trans rfl) ⟨_, rfl, (by show _ = (if ca.mem x = true then _ else _); rw [hp]; rfl), hJ⟩
                · refine st_wanted rfl ((wanted_at hl 23 55 true true rfl (by kernel_rfl) (by kernel_rfl) (fun v h => h.trans (congrArg Value.bool hp))).trans rfl) ?_; have x56 := x56 hp; exact st_run (v := (.bool (!cb.mem x))) (by go_simp) ⟨_, rfl, (by show _ = (if ca.mem x = true then _ else _); rw [hp]; rfl), hJ⟩
              ·
                obtain rfl : i = 26 := by omega
                obtain rfl := Option.some.inj ho
                have x55 : a.tmps[55]?.getD undef = (.bool (ca.mem x)) := by obtain ⟨v, h1, h2⟩ := hl.dep 23 55 (by kernel_rfl) (by kernel_rfl); exact h1.trans h2
                have x57 : a.tmps[57]?.getD undef = (if ca.mem x = true then (.bool (!cb.mem x)) else undef) := by obtain ⟨v, h1, h2⟩ := hl.dep 25 57 (by kernel_rfl) (by kernel_rfl); exact h1.trans h2
                refine st_wanted rfl (hl.wanted 18 50 false rfl (by kernel_rfl) (by kernel_rfl) (fun v h => h)) ?_
                exact st_run (v := (.bool (ca.mem x && !cb.mem x))) (by cases hp : ca.mem x <;> (simp only [hp, if_true, Bool.false_eq_true, if_false] at x55 x57; go_simp)) ⟨_, rfl, rfl, hJ⟩
      ·
        by_cases q32 : i < 32
        ·
          by_cases q29 : i < 29
          ·
            by_cases q28 : i < 28
            ·
              obtain rfl : i = 27 := by omega
              obtain rfl := Option.some.inj ho
              have x53 : a.tmps[53]?.getD undef = (.bool (ca.mem x && !cb.mem x)) := by obtain ⟨v, h1, h2⟩ := hl.dep 21 53 (by kernel_rfl) (by kernel_rfl); exact h1.trans h2
              have x58 : a.tmps[58]?.getD undef = (.bool (ca.mem x && !cb.mem x)) := by obtain ⟨v, h1, h2⟩ := hl.dep 26 58 (by kernel_rfl) (by kernel_rfl); exact h1.trans h2
              refine st_wanted rfl (hl.wanted 18 50 false rfl (by kernel_rfl) (by kernel_rfl) (fun v h => h)) ?_
              exact st_run (v := (.bool false)) (by go_simp) ⟨_, rfl, rfl, hJ⟩
            ·
              obtain rfl : i = 28 := by omega
              obtain rfl := Option.some.inj ho
              have x50 : a.tmps[50]?.getD undef = (.bool false) := by obtain ⟨v, h1, h2⟩ := hl.dep 18 50 (by kernel_rfl) (by kernel_rfl); exact h1.trans h2
              have x59 : a.tmps[59]?.getD undef = (.bool false) := by obtain ⟨v, h1, h2⟩ := hl.dep 27 59 (by kernel_rfl) (by kernel_rfl); exact h1.trans h2
              refine wpOp_list rfl rfl ?_
              exact st_run (v := (.bool false)) (by go_simp) ⟨_, rfl, rfl, hJ⟩
          ·
            by_cases q30 : i < 30
            ·
              obtain rfl : i = 29 := by omega
              obtain rfl := Option.some.inj ho
              have x60 : a.tmps[60]?.getD undef = (.bool false) := by obtain ⟨v, h1, h2⟩ := hl.dep 28 60 (by kernel_rfl) (by kernel_rfl); exact h1.trans h2
              refine wpOp_list rfl rfl ?_
              exact st_run (v := (.bool false)) (by go_simp) ⟨_, rfl, rfl, hJ⟩
            ·
              by_cases q31 : i < 31
              ·
                obtain rfl : i = 30 := by omega
                obtain rfl := Option.some.inj ho
                have x4 : a.tmps[4]?.getD undef = (.pointer (some ⟨w0.heap.size, 0, none⟩)) := (hl.free 4 (by kernel_rfl)).trans (getD_of hF.t4)
                refine st_wanted rfl (hl.wanted 29 61 false rfl (by kernel_rfl) (by kernel_rfl) (fun v h => h)) ?_
                exact load_cls rfl (eval_tmp x4) hJ.h4 ⟨_, rfl, rfl, hJ⟩
              ·
                obtain rfl : i = 31 := by omega
                obtain rfl := Option.some.inj ho
                have x62 : a.tmps[62]?.getD undef = (V4 ca) := by obtain ⟨v, h1, h2⟩ := hl.dep 30 62 (by kernel_rfl) (by kernel_rfl); exact h1.trans h2
                refine st_wanted rfl (hl.wanted 29 61 false rfl (by kernel_rfl) (by kernel_rfl) (fun v h => h)) ?_
                refine st_call (w' := w) (f := 21) (args := #[(V4 ca)]) (by go_simp) ((not_c ca ha _).mono ?_)
                rintro e w'' ⟨rfl, hb2⟩
                exact ⟨_, rfl, _, rfl, rfl, hJ.step hb2⟩
        ·
          by_cases q34 : i < 34
          ·
            by_cases q33 : i < 33
            ·
              obtain rfl : i = 32 := by omega
              obtain rfl := Option.some.inj ho
              have x3 : a.tmps[3]?.getD undef = (.int .u8 (x : Int)) := (hl.free 3 (by kernel_rfl)).trans (getD_of hF3)
              refine st_wanted rfl (hl.wanted 29 61 false rfl (by kernel_rfl) (by kernel_rfl) (fun v h => h)) ?_
              exact st_run (v := (.int .u8 (x : Int))) (by go_simp) ⟨_, rfl, rfl, hJ⟩
            ·
              obtain rfl : i = 33 := by omega
              obtain rfl := Option.some.inj ho
              have x63 : a.tmps[63]?.getD undef = (V4 ca.not) := by obtain ⟨v, h1, h2⟩ := hl.dep 31 63 (by kernel_rfl) (by kernel_rfl); exact h1.trans h2
              have x64 : a.tmps[64]?.getD undef = (.int .u8 (x : Int)) := by obtain ⟨v, h1, h2⟩ := hl.dep 32 64 (by kernel_rfl) (by kernel_rfl); exact h1.trans h2
              refine st_wanted rfl (hl.wanted 29 61 false rfl (by kernel_rfl) (by kernel_rfl) (fun v h => h)) ?_
              refine st_call (w' := w) (f := 15) (args := #[(V4 ca.not), (.int .u8 (x : Int))]) (by go_simp) ((has_c ca.not (Cls.ok_not ca) x hx _).mono ?_)
              rintro e w'' ⟨rfl, hb2⟩
              exact ⟨_, rfl, _, rfl, congrArg Value.bool (Cls.mem_not ha x), hJ.step hb2⟩
          ·
            by_cases q35 : i < 35
            ·
              obtain rfl : i = 34 := by omega
              obtain rfl := Option.some.inj ho
              have x12 : a.tmps[12]?.getD undef = (.bool (ca.mem x)) := (hl.free 12 (by kernel_rfl)).trans (getD_of hF12)
              refine st_wanted rfl (hl.wanted 29 61 false rfl (by kernel_rfl) (by kernel_rfl) (fun v h => h)) ?_
              exact st_run (v := (.bool (ca.mem x))) (by go_simp) ⟨_, rfl, rfl, hJ⟩
            ·
              by_cases q36 : i < 36
              ·
                obtain rfl : i = 35 := by omega
                obtain rfl := Option.some.inj ho
                have x65 : a.tmps[65]?.getD undef = (.bool (!ca.mem x)) := by obtain ⟨v, h1, h2⟩ := hl.dep 33 65 (by kernel_rfl) (by kernel_rfl); exact h1.trans h2
                have x66 : a.tmps[66]?.getD undef = (.bool (ca.mem x)) := by obtain ⟨v, h1, h2⟩ := hl.dep 34 66 (by kernel_rfl) (by kernel_rfl); exact h1.trans h2
                refine st_wanted rfl (hl.wanted 29 61 false rfl (by kernel_rfl) (by kernel_rfl) (fun v h => h)) ?_
                exact st_run (v := (.bool false)) (by cases hp : ca.mem x <;> (simp only [hp, Bool.not_true, Bool.not_false] at x65 x66; go_simp)) ⟨_, rfl, rfl, hJ⟩
              ·
                obtain rfl : i = 36 := by omega
                obtain rfl := Option.some.inj ho
                have x61 : a.tmps[61]?.getD undef = (.bool false) := by obtain ⟨v, h1, h2⟩ := hl.dep 29 61 (by kernel_rfl) (by kernel_rfl); exact h1.trans h2
                have x67 : a.tmps[67]?.getD undef = (.bool false) := by obtain ⟨v, h1, h2⟩ := hl.dep 35 67 (by kernel_rfl) (by kernel_rfl); exact h1.trans h2
                refine wpOp_list rfl rfl ?_
                exact st_run (v := (.bool false)) (by go_simp) ⟨_, rfl, rfl, hJ⟩
  case hq5 =>
  intro f W5 hJ hV
  refine put_all (fun A => AlgF w0.heap.size g9 g10 g11 A ∧ A.tmps[68]? = some (.bool false)) ⟨hF.put (by kernel_rfl), put_got (t := 68) (i := 36) (v := .bool false) (by rw [hF.size]; decide) (by kernel_rfl) (by kernel_rfl) (by decide) (hV 36 68 (by kernel_rfl))⟩ ?_
  rintro B5 ⟨hF, hcd⟩
  go_upto_region 7 with fail
  refine wp_cond_false (eval_tmp (getD_of hcd)) ?_
  go_upto_region 7 with fail
  refine wp_abs (AlgF w0.heap.size g9 g10 g11) hF ?_
  intro A7 hF
  refine wp_region_vals (by kernel_rfl) (by kernel_rfl) (by kernel_rfl) (by rw [hF.size]; kernel_rfl) (AlgJ w0 ca cb cc g9 g10 g11) (AlgV7 ca cb cc x) hJ.drew ?hs7 ?hq7
  case hs7 =>
    intro i o ho a w hJ hl
    have hi : i < 37 := (Array.getElem?_eq_some_iff.1 ho).1
    by_cases q18 : i < 18
    ·
      by_cases q9 : i < 9
      ·
        by_cases q4 : i < 4
        ·
          by_cases q2 : i < 2
          ·
            by_cases q1 : i < 1
            ·
              obtain rfl : i = 0 := by omega
              obtain rfl := Option.some.inj ho
              have x9 : a.tmps[9]?.getD undef = (.pointer (some ⟨g9, 0, none⟩)) := (hl.free 9 (by kernel_rfl)).trans (getD_of hF.t9)
              refine wpOp_list rfl rfl ?_
              exact load_cls rfl (eval_tmp x9) hJ.h9 ⟨_, rfl, rfl, hJ⟩
            ·
              obtain rfl : i = 1 := by omega
              obtain rfl := Option.some.inj ho
              have x5 : a.tmps[5]?.getD undef = (.pointer (some ⟨w0.heap.size + 1, 0, none⟩)) := (hl.free 5 (by kernel_rfl)).trans (getD_of hF.t5)
              refine wpOp_list rfl rfl ?_
              exact load_cls rfl (eval_tmp x5) hJ.h5 ⟨_, rfl, rfl, hJ⟩
          ·
            by_cases q3 : i < 3
            ·
              obtain rfl : i = 2 := by omega
              obtain rfl := Option.some.inj ho
              have x4 : a.tmps[4]?.getD undef = (.pointer (some ⟨w0.heap.size, 0, none⟩)) := (hl.free 4 (by kernel_rfl)).trans (getD_of hF.t4)
              refine wpOp_list rfl rfl ?_
              exact load_cls rfl (eval_tmp x4) hJ.h4 ⟨_, rfl, rfl, hJ⟩
            ·
              obtain rfl : i = 3 := by omega
              obtain rfl := Option.some.inj ho
              have x70 : a.tmps[70]?.getD undef = (V4 cb) := by obtain ⟨v, h1, h2⟩ := hl.dep 1 70 (by kernel_rfl) (by kernel_rfl); exact h1.trans h2
              have x71 : a.tmps[71]?.getD undef = (V4 ca) := by obtain ⟨v, h1, h2⟩ := hl.dep 2 71 (by kernel_rfl) (by kernel_rfl); exact h1.trans h2
              refine wpOp_list rfl rfl ?_
              refine st_call (w' := w) (f := 17) (args := #[(V4 cb), (V4 ca)]) (by go_simp) ((union_c cb ca hb ha _).mono ?_)
              rintro e w'' ⟨rfl, hb2⟩
              exact ⟨_, rfl, _, rfl, congrArg V4 (union_comm), hJ.step hb2⟩
        ·
          by_cases q6 : i < 6
          ·
            by_cases q5 : i < 5
            ·
              obtain rfl : i = 4 := by omega
              obtain rfl := Option.some.inj ho
              have x69 : a.tmps[69]?.getD undef = (V4 (ca.union cb)) := by obtain ⟨v, h1, h2⟩ := hl.dep 0 69 (by kernel_rfl) (by kernel_rfl); exact h1.trans h2
              have x72 : a.tmps[72]?.getD undef = (V4 (ca.union cb)) := by obtain ⟨v, h1, h2⟩ := hl.dep 3 72 (by kernel_rfl) (by kernel_rfl); exact h1.trans h2
              refine wpOp_list rfl rfl ?_
              exact st_run (v := (.bool false)) (by go_simp; rw [eqSelf]; rfl) ⟨_, rfl, rfl, hJ⟩
            ·
              obtain rfl : i = 5 := by omega
              obtain rfl := Option.some.inj ho
              have x73 : a.tmps[73]?.getD undef = (.bool false) := by obtain ⟨v, h1, h2⟩ := hl.dep 4 73 (by kernel_rfl) (by kernel_rfl); exact h1.trans h2
              refine wpOp_list rfl rfl ?_
              exact st_run (v := (.bool false)) (by go_simp) ⟨_, rfl, rfl, hJ⟩
          ·
            by_cases q7 : i < 7
            ·
              obtain rfl : i = 6 := by omega
              obtain rfl := Option.some.inj ho
              have x10 : a.tmps[10]?.getD undef = (.pointer (some ⟨g10, 0, none⟩)) := (hl.free 10 (by kernel_rfl)).trans (getD_of hF.t10)
              refine st_wanted rfl (hl.wanted 5 74 false rfl (by kernel_rfl) (by kernel_rfl) (fun v h => h)) ?_
              exact load_cls rfl (eval_tmp x10) hJ.h10 ⟨_, rfl, rfl, hJ⟩
            ·
              by_cases q8 : i < 8
              ·
                obtain rfl : i = 7 := by omega
                obtain rfl := Option.some.inj ho
                have x5 : a.tmps[5]?.getD undef = (.pointer (some ⟨w0.heap.size + 1, 0, none⟩)) := (hl.free 5 (by kernel_rfl)).trans (getD_of hF.t5)
                refine st_wanted rfl (hl.wanted 5 74 false rfl (by kernel_rfl) (by kernel_rfl) (fun v h => h)) ?_
                exact load_cls rfl (eval_tmp x5) hJ.h5 ⟨_, rfl, rfl, hJ⟩
              ·
                obtain rfl : i = 8 := by omega
                obtain rfl := Option.some.inj ho
                have x4 : a.tmps[4]?.getD undef = (.pointer (some ⟨w0.heap.size, 0, none⟩)) := (hl.free 4 (by kernel_rfl)).trans (getD_of hF.t4)
                refine st_wanted rfl (hl.wanted 5 74 false rfl (by kernel_rfl) (by kernel_rfl) (fun v h => h)) ?_
                exact load_cls rfl (eval_tmp x4) hJ.h4 ⟨_, rfl, rfl, hJ⟩
      ·
        by_cases q13 : i < 13
        ·
          by_cases q11 : i < 11
          ·
            by_cases q10 : i < 10
            ·
              obtain rfl : i = 9 := by omega
              obtain rfl := Option.some.inj ho
              have x76 : a.tmps[76]?.getD undef = (V4 cb) := by obtain ⟨v, h1, h2⟩ := hl.dep 7 76 (by kernel_rfl) (by kernel_rfl); exact h1.trans h2
              have x77 : a.tmps[77]?.getD undef = (V4 ca) := by obtain ⟨v, h1, h2⟩ := hl.dep 8 77 (by kernel_rfl) (by kernel_rfl); exact h1.trans h2
              refine st_wanted rfl (hl.wanted 5 74 false rfl (by kernel_rfl) (by kernel_rfl) (fun v h => h)) ?_
              refine st_call (w' := w) (f := 19) (args := #[(V4 cb), (V4 ca)]) (by go_simp) ((meet_c cb ca hb ha _).mono ?_)
              rintro e w'' ⟨rfl, hb2⟩
              exact ⟨_, rfl, _, rfl, congrArg V4 (meet_comm), hJ.step hb2⟩
            ·
              obtain rfl : i = 10 := by omega
              obtain rfl := Option.some.inj ho
              have x75 : a.tmps[75]?.getD undef = (V4 (ca.meet cb)) := by obtain ⟨v, h1, h2⟩ := hl.dep 6 75 (by kernel_rfl) (by kernel_rfl); exact h1.trans h2
              have x78 : a.tmps[78]?.getD undef = (V4 (ca.meet cb)) := by obtain ⟨v, h1, h2⟩ := hl.dep 9 78 (by kernel_rfl) (by kernel_rfl); exact h1.trans h2
              refine st_wanted rfl (hl.wanted 5 74 false rfl (by kernel_rfl) (by kernel_rfl) (fun v h => h)) ?_
              exact st_run (v := (.bool false)) (by go_simp; rw [eqSelf]; rfl) ⟨_, rfl, rfl, hJ⟩
          ·
            by_cases q12 : i < 12
            ·
              obtain rfl : i = 11 := by omega
              obtain rfl := Option.some.inj ho
              have x74 : a.tmps[74]?.getD undef = (.bool false) := by obtain ⟨v, h1, h2⟩ := hl.dep 5 74 (by kernel_rfl) (by kernel_rfl); exact h1.trans h2
              have x79 : a.tmps[79]?.getD undef = (.bool false) := by obtain ⟨v, h1, h2⟩ := hl.dep 10 79 (by kernel_rfl) (by kernel_rfl); exact h1.trans h2
              refine wpOp_list rfl rfl ?_
              exact st_run (v := (.bool false)) (by go_simp) ⟨_, rfl, rfl, hJ⟩
            ·
              obtain rfl : i = 12 := by omega
              obtain rfl := Option.some.inj ho
              have x80 : a.tmps[80]?.getD undef = (.bool false) := by obtain ⟨v, h1, h2⟩ := hl.dep 11 80 (by kernel_rfl) (by kernel_rfl); exact h1.trans h2
              refine wpOp_list rfl rfl ?_
              exact st_run (v := (.bool false)) (by go_simp) ⟨_, rfl, rfl, hJ⟩
        ·
          by_cases q15 : i < 15
          ·
            by_cases q14 : i < 14
            ·
              obtain rfl : i = 13 := by omega
              obtain rfl := Option.some.inj ho
              have x4 : a.tmps[4]?.getD undef = (.pointer (some ⟨w0.heap.size, 0, none⟩)) := (hl.free 4 (by kernel_rfl)).trans (getD_of hF.t4)
              refine st_wanted rfl (hl.wanted 12 81 false rfl (by kernel_rfl) (by kernel_rfl) (fun v h => h)) ?_
              exact load_cls rfl (eval_tmp x4) hJ.h4 ⟨_, rfl, rfl, hJ⟩
            ·
              obtain rfl : i = 14 := by omega
              obtain rfl := Option.some.inj ho
              have x82 : a.tmps[82]?.getD undef = (V4 ca) := by obtain ⟨v, h1, h2⟩ := hl.dep 13 82 (by kernel_rfl) (by kernel_rfl); exact h1.trans h2
              refine st_wanted rfl (hl.wanted 12 81 false rfl (by kernel_rfl) (by kernel_rfl) (fun v h => h)) ?_
              refine st_call (w' := w) (f := 21) (args := #[(V4 ca)]) (by go_simp) ((not_c ca ha _).mono ?_)
              rintro e w'' ⟨rfl, hb2⟩
              exact ⟨_, rfl, _, rfl, rfl, hJ.step hb2⟩
          ·
            by_cases q16 : i < 16
            ·
              obtain rfl : i = 15 := by omega
              obtain rfl := Option.some.inj ho
              have x83 : a.tmps[83]?.getD undef = (V4 ca.not) := by obtain ⟨v, h1, h2⟩ := hl.dep 14 83 (by kernel_rfl) (by kernel_rfl); exact h1.trans h2
              refine st_wanted rfl (hl.wanted 12 81 false rfl (by kernel_rfl) (by kernel_rfl) (fun v h => h)) ?_
              refine st_call (w' := w) (f := 21) (args := #[(V4 ca.not)]) (by go_simp) ((not_c ca.not (Cls.ok_not ca) _).mono ?_)
              rintro e w'' ⟨rfl, hb2⟩
              exact ⟨_, rfl, _, rfl, congrArg V4 (not_not ha), hJ.step hb2⟩
            ·
              by_cases q17 : i < 17
              ·
                obtain rfl : i = 16 := by omega
                obtain rfl := Option.some.inj ho
                have x4 : a.tmps[4]?.getD undef = (.pointer (some ⟨w0.heap.size, 0, none⟩)) := (hl.free 4 (by kernel_rfl)).trans (getD_of hF.t4)
                refine st_wanted rfl (hl.wanted 12 81 false rfl (by kernel_rfl) (by kernel_rfl) (fun v h => h)) ?_
                exact load_cls rfl (eval_tmp x4) hJ.h4 ⟨_, rfl, rfl, hJ⟩
              ·
                obtain rfl : i = 17 := by omega
                obtain rfl := Option.some.inj ho
                have x84 : a.tmps[84]?.getD undef = (V4 ca) := by obtain ⟨v, h1, h2⟩ := hl.dep 15 84 (by kernel_rfl) (by kernel_rfl); exact h1.trans h2
                have x85 : a.tmps[85]?.getD undef = (V4 ca) := by obtain ⟨v, h1, h2⟩ := hl.dep 16 85 (by kernel_rfl) (by kernel_rfl); exact h1.trans h2
                refine st_wanted rfl (hl.wanted 12 81 false rfl (by kernel_rfl) (by kernel_rfl) (fun v h => h)) ?_
                exact st_run (v := (.bool false)) (by go_simp; rw [eqSelf]; rfl) ⟨_, rfl, rfl, hJ⟩
    ·
      by_cases q27 : i < 27
      ·
        by_cases q22 : i < 22
        ·
          by_cases q20 : i < 20
          ·
            by_cases q19 : i < 19
            ·
              obtain rfl : i = 18 := by omega
              obtain rfl := Option.some.inj ho
              have x81 : a.tmps[81]?.getD undef = (.bool false) := by obtain ⟨v, h1, h2⟩ := hl.dep 12 81 (by kernel_rfl) (by kernel_rfl); exact h1.trans h2
              have x86 : a.tmps[86]?.getD undef = (.bool false) := by obtain ⟨v, h1, h2⟩ := hl.dep 17 86 (by kernel_rfl) (by kernel_rfl); exact h1.trans h2
              refine wpOp_list rfl rfl ?_
              exact st_run (v := (.bool false)) (by go_simp) ⟨_, rfl, rfl, hJ⟩
            ·
              obtain rfl : i = 19 := by omega
              obtain rfl := Option.some.inj ho
              have x87 : a.tmps[87]?.getD undef = (.bool false) := by obtain ⟨v, h1, h2⟩ := hl.dep 18 87 (by kernel_rfl) (by kernel_rfl); exact h1.trans h2
              refine wpOp_list rfl rfl ?_
              exact st_run (v := (.bool false)) (by go_simp) ⟨_, rfl, rfl, hJ⟩
          ·
            by_cases q21 : i < 21
            ·
              obtain rfl : i = 20 := by omega
              obtain rfl := Option.some.inj ho
              have x9 : a.tmps[9]?.getD undef = (.pointer (some ⟨g9, 0, none⟩)) := (hl.free 9 (by kernel_rfl)).trans (getD_of hF.t9)
              refine st_wanted rfl (hl.wanted 19 88 false rfl (by kernel_rfl) (by kernel_rfl) (fun v h => h)) ?_
              exact load_cls rfl (eval_tmp x9) hJ.h9 ⟨_, rfl, rfl, hJ⟩
            ·
              obtain rfl : i = 21 := by omega
              obtain rfl := Option.some.inj ho
              have x89 : a.tmps[89]?.getD undef = (V4 (ca.union cb)) := by obtain ⟨v, h1, h2⟩ := hl.dep 20 89 (by kernel_rfl) (by kernel_rfl); exact h1.trans h2
              refine st_wanted rfl (hl.wanted 19 88 false rfl (by kernel_rfl) (by kernel_rfl) (fun v h => h)) ?_
              refine st_call (w' := w) (f := 21) (args := #[(V4 (ca.union cb))]) (by go_simp) ((not_c (ca.union cb) (Cls.ok_union ha hb) _).mono ?_)
              rintro e w'' ⟨rfl, hb2⟩
              exact ⟨_, rfl, _, rfl, congrArg V4 (not_union ha hb), hJ.step hb2⟩
        ·
          by_cases q24 : i < 24
          ·
            by_cases q23 : i < 23
            ·
              obtain rfl : i = 22 := by omega
              obtain rfl := Option.some.inj ho
              have x4 : a.tmps[4]?.getD undef = (.pointer (some ⟨w0.heap.size, 0, none⟩)) := (hl.free 4 (by kernel_rfl)).trans (getD_of hF.t4)
              refine st_wanted rfl (hl.wanted 19 88 false rfl (by kernel_rfl) (by kernel_rfl) (fun v h => h)) ?_
              exact load_cls rfl (eval_tmp x4) hJ.h4 ⟨_, rfl, rfl, hJ⟩
            ·
              obtain rfl : i = 23 := by omega
              obtain rfl := Option.some.inj ho
              have x91 : a.tmps[91]?.getD undef = (V4 ca) := by obtain ⟨v, h1, h2⟩ := hl.dep 22 91 (by kernel_rfl) (by kernel_rfl); exact h1.trans h2
              refine st_wanted rfl (hl.wanted 19 88 false rfl (by kernel_rfl) (by kernel_rfl) (fun v h => h)) ?_
              refine st_call (w' := w) (f := 21) (args := #[(V4 ca)]) (by go_simp) ((not_c ca ha _).mono ?_)
              rintro e w'' ⟨rfl, hb2⟩
              exact ⟨_, rfl, _, rfl, rfl, hJ.step hb2⟩
          ·
            by_cases q25 : i < 25
            ·
              obtain rfl : i = 24 := by omega
              obtain rfl := Option.some.inj ho
              have x5 : a.tmps[5]?.getD undef = (.pointer (some ⟨w0.heap.size + 1, 0, none⟩)) := (hl.free 5 (by kernel_rfl)).trans (getD_of hF.t5)
              refine st_wanted rfl (hl.wanted 19 88 false rfl (by kernel_rfl) (by kernel_rfl) (fun v h => h)) ?_
              exact load_cls rfl (eval_tmp x5) hJ.h5 ⟨_, rfl, rfl, hJ⟩
            ·
              by_cases q26 : i < 26
              ·
                obtain rfl : i = 25 := by omega
                obtain rfl := Option.some.inj ho
                have x93 : a.tmps[93]?.getD undef = (V4 cb) := by obtain ⟨v, h1, h2⟩ := hl.dep 24 93 (by kernel_rfl) (by kernel_rfl); exact h1.trans h2
                refine st_wanted rfl (hl.wanted 19 88 false rfl (by kernel_rfl) (by kernel_rfl) (fun v h => h)) ?_
                refine st_call (w' := w) (f := 21) (args := #[(V4 cb)]) (by go_simp) ((not_c cb hb _).mono ?_)
                rintro e w'' ⟨rfl, hb2⟩
                exact ⟨_, rfl, _, rfl, rfl, hJ.step hb2⟩
              ·
                obtain rfl : i = 26 := by omega
                obtain rfl := Option.some.inj ho
                have x92 : a.tmps[92]?.getD undef = (V4 ca.not) := by obtain ⟨v, h1, h2⟩ := hl.dep 23 92 (by kernel_rfl) (by kernel_rfl); exact h1.trans h2
                have x94 : a.tmps[94]?.getD undef = (V4 cb.not) := by obtain ⟨v, h1, h2⟩ := hl.dep 25 94 (by kernel_rfl) (by kernel_rfl); exact h1.trans h2
                refine st_wanted rfl (hl.wanted 19 88 false rfl (by kernel_rfl) (by kernel_rfl) (fun v h => h)) ?_
                refine st_call (w' := w) (f := 19) (args := #[(V4 ca.not), (V4 cb.not)]) (by go_simp) ((meet_c ca.not cb.not (Cls.ok_not ca) (Cls.ok_not cb) _).mono ?_)
                rintro e w'' ⟨rfl, hb2⟩
                exact ⟨_, rfl, _, rfl, rfl, hJ.step hb2⟩
      ·
        by_cases q32 : i < 32
        ·
          by_cases q29 : i < 29
          ·
            by_cases q28 : i < 28
            ·
              obtain rfl : i = 27 := by omega
              obtain rfl := Option.some.inj ho
              have x90 : a.tmps[90]?.getD undef = (V4 (ca.not.meet cb.not)) := by obtain ⟨v, h1, h2⟩ := hl.dep 21 90 (by kernel_rfl) (by kernel_rfl); exact h1.trans h2
              have x95 : a.tmps[95]?.getD undef = (V4 (ca.not.meet cb.not)) := by obtain ⟨v, h1, h2⟩ := hl.dep 26 95 (by kernel_rfl) (by kernel_rfl); exact h1.trans h2
              refine st_wanted rfl (hl.wanted 19 88 false rfl (by kernel_rfl) (by kernel_rfl) (fun v h => h)) ?_
              exact st_run (v := (.bool false)) (by go_simp; rw [eqSelf]; rfl) ⟨_, rfl, rfl, hJ⟩
            ·
              obtain rfl : i = 28 := by omega
              obtain rfl := Option.some.inj ho
              have x88 : a.tmps[88]?.getD undef = (.bool false) := by obtain ⟨v, h1, h2⟩ := hl.dep 19 88 (by kernel_rfl) (by kernel_rfl); exact h1.trans h2
              have x96 : a.tmps[96]?.getD undef = (.bool false) := by obtain ⟨v, h1, h2⟩ := hl.dep 27 96 (by kernel_rfl) (by kernel_rfl); exact h1.trans h2
              refine wpOp_list rfl rfl ?_
              exact st_run (v := (.bool false)) (by go_simp) ⟨_, rfl, rfl, hJ⟩
          ·
            by_cases q30 : i < 30
            ·
              obtain rfl : i = 29 := by omega
              obtain rfl := Option.some.inj ho
              have x97 : a.tmps[97]?.getD undef = (.bool false) := by obtain ⟨v, h1, h2⟩ := hl.dep 28 97 (by kernel_rfl) (by kernel_rfl); exact h1.trans h2
              refine wpOp_list rfl rfl ?_
              exact st_run (v := (.bool false)) (by go_simp) ⟨_, rfl, rfl, hJ⟩
            ·
              by_cases q31 : i < 31
              ·
                obtain rfl : i = 30 := by omega
                obtain rfl := Option.some.inj ho
                have x11 : a.tmps[11]?.getD undef = (.pointer (some ⟨g11, 0, none⟩)) := (hl.free 11 (by kernel_rfl)).trans (getD_of hF.t11)
                refine st_wanted rfl (hl.wanted 29 98 false rfl (by kernel_rfl) (by kernel_rfl) (fun v h => h)) ?_
                exact load_cls rfl (eval_tmp x11) hJ.h11 ⟨_, rfl, rfl, hJ⟩
              ·
                obtain rfl : i = 31 := by omega
                obtain rfl := Option.some.inj ho
                have x4 : a.tmps[4]?.getD undef = (.pointer (some ⟨w0.heap.size, 0, none⟩)) := (hl.free 4 (by kernel_rfl)).trans (getD_of hF.t4)
                refine st_wanted rfl (hl.wanted 29 98 false rfl (by kernel_rfl) (by kernel_rfl) (fun v h => h)) ?_
                exact load_cls rfl (eval_tmp x4) hJ.h4 ⟨_, rfl, rfl, hJ⟩
        ·
          by_cases q34 : i < 34
          ·
            by_cases q33 : i < 33
            ·
              obtain rfl : i = 32 := by omega
              obtain rfl := Option.some.inj ho
              have x5 : a.tmps[5]?.getD undef = (.pointer (some ⟨w0.heap.size + 1, 0, none⟩)) := (hl.free 5 (by kernel_rfl)).trans (getD_of hF.t5)
              refine st_wanted rfl (hl.wanted 29 98 false rfl (by kernel_rfl) (by kernel_rfl) (fun v h => h)) ?_
              exact load_cls rfl (eval_tmp x5) hJ.h5 ⟨_, rfl, rfl, hJ⟩
            ·
              obtain rfl : i = 33 := by omega
              obtain rfl := Option.some.inj ho
              have x101 : a.tmps[101]?.getD undef = (V4 cb) := by obtain ⟨v, h1, h2⟩ := hl.dep 32 101 (by kernel_rfl) (by kernel_rfl); exact h1.trans h2
              refine st_wanted rfl (hl.wanted 29 98 false rfl (by kernel_rfl) (by kernel_rfl) (fun v h => h)) ?_
              refine st_call (w' := w) (f := 21) (args := #[(V4 cb)]) (by go_simp) ((not_c cb hb _).mono ?_)
              rintro e w'' ⟨rfl, hb2⟩
              exact ⟨_, rfl, _, rfl, rfl, hJ.step hb2⟩
          ·
            by_cases q35 : i < 35
            ·
              obtain rfl : i = 34 := by omega
              obtain rfl := Option.some.inj ho
              have x100 : a.tmps[100]?.getD undef = (V4 ca) := by obtain ⟨v, h1, h2⟩ := hl.dep 31 100 (by kernel_rfl) (by kernel_rfl); exact h1.trans h2
              have x102 : a.tmps[102]?.getD undef = (V4 cb.not) := by obtain ⟨v, h1, h2⟩ := hl.dep 33 102 (by kernel_rfl) (by kernel_rfl); exact h1.trans h2
              refine st_wanted rfl (hl.wanted 29 98 false rfl (by kernel_rfl) (by kernel_rfl) (fun v h => h)) ?_
              refine st_call (w' := w) (f := 19) (args := #[(V4 ca), (V4 cb.not)]) (by go_simp) ((meet_c ca cb.not ha (Cls.ok_not cb) _).mono ?_)
              rintro e w'' ⟨rfl, hb2⟩
              exact ⟨_, rfl, _, rfl, congrArg V4 (minus_not ha hb), hJ.step hb2⟩
            ·
              by_cases q36 : i < 36
              ·
                obtain rfl : i = 35 := by omega
                obtain rfl := Option.some.inj ho
                have x99 : a.tmps[99]?.getD undef = (V4 (ca.minus cb)) := by obtain ⟨v, h1, h2⟩ := hl.dep 30 99 (by kernel_rfl) (by kernel_rfl); exact h1.trans h2
                have x103 : a.tmps[103]?.getD undef = (V4 (ca.minus cb)) := by obtain ⟨v, h1, h2⟩ := hl.dep 34 103 (by kernel_rfl) (by kernel_rfl); exact h1.trans h2
                refine st_wanted rfl (hl.wanted 29 98 false rfl (by kernel_rfl) (by kernel_rfl) (fun v h => h)) ?_
                exact st_run (v := (.bool false)) (by go_simp; rw [eqSelf]; rfl) ⟨_, rfl, rfl, hJ⟩
              ·
                obtain rfl : i = 36 := by omega
                obtain rfl := Option.some.inj ho
                have x98 : a.tmps[98]?.getD undef = (.bool false) := by obtain ⟨v, h1, h2⟩ := hl.dep 29 98 (by kernel_rfl) (by kernel_rfl); exact h1.trans h2
                have x104 : a.tmps[104]?.getD undef = (.bool false) := by obtain ⟨v, h1, h2⟩ := hl.dep 35 104 (by kernel_rfl) (by kernel_rfl); exact h1.trans h2
                refine wpOp_list rfl rfl ?_
                exact st_run (v := (.bool false)) (by go_simp) ⟨_, rfl, rfl, hJ⟩
  case hq7 =>
  intro f W7 hJ hV
  refine put_all (fun A => AlgF w0.heap.size g9 g10 g11 A ∧ A.tmps[105]? = some (.bool false)) ⟨hF.put (by kernel_rfl), put_got (t := 105) (i := 36) (v := (.bool false)) (by rw [hF.size]; decide) (by kernel_rfl) (by kernel_rfl) (by decide) (hV 36 105 (by kernel_rfl))⟩ ?_
  rintro B7 ⟨hF, hcd⟩
  go_upto_region 9 with fail
  refine wp_cond_false (eval_tmp (getD_of hcd)) ?_
  go_upto_region 9 with fail
  refine wp_abs (AlgF w0.heap.size g9 g10 g11) hF ?_
  intro A9 hF
  refine wp_region_vals (by kernel_rfl) (by kernel_rfl) (by kernel_rfl) (by rw [hF.size]; kernel_rfl) (AlgJ w0 ca cb cc g9 g10 g11) (AlgV9 ca cb cc x) hJ.drew ?hs9 ?hq9
  case hs9 =>
    intro i o ho a w hJ hl
    have hi : i < 22 := (Array.getElem?_eq_some_iff.1 ho).1
    by_cases q11 : i < 11
    ·
      by_cases q5 : i < 5
      ·
        by_cases q2 : i < 2
        ·
          by_cases q1 : i < 1
          ·
            obtain rfl : i = 0 := by omega
            obtain rfl := Option.some.inj ho
            have x9 : a.tmps[9]?.getD undef = (.pointer (some ⟨g9, 0, none⟩)) := (hl.free 9 (by kernel_rfl)).trans (getD_of hF.t9)
            refine wpOp_list rfl rfl ?_
            exact load_cls rfl (eval_tmp x9) hJ.h9 ⟨_, rfl, rfl, hJ⟩
          ·
            obtain rfl : i = 1 := by omega
            obtain rfl := Option.some.inj ho
            have x6 : a.tmps[6]?.getD undef = (.pointer (some ⟨w0.heap.size + 1 + 1, 0, none⟩)) := (hl.free 6 (by kernel_rfl)).trans (getD_of hF.t6)
            refine wpOp_list rfl rfl ?_
            exact load_cls rfl (eval_tmp x6) hJ.h6 ⟨_, rfl, rfl, hJ⟩
        ·
          by_cases q3 : i < 3
          ·
            obtain rfl : i = 2 := by omega
            obtain rfl := Option.some.inj ho
            have x106 : a.tmps[106]?.getD undef = (V4 (ca.union cb)) := by obtain ⟨v, h1, h2⟩ := hl.dep 0 106 (by kernel_rfl) (by kernel_rfl); exact h1.trans h2
            have x107 : a.tmps[107]?.getD undef = (V4 cc) := by obtain ⟨v, h1, h2⟩ := hl.dep 1 107 (by kernel_rfl) (by kernel_rfl); exact h1.trans h2
            refine wpOp_list rfl rfl ?_
            refine st_call (w' := w) (f := 17) (args := #[(V4 (ca.union cb)), (V4 cc)]) (by go_simp) ((union_c (ca.union cb) cc (Cls.ok_union ha hb) hc _).mono ?_)
            rintro e w'' ⟨rfl, hb2⟩
            exact ⟨_, rfl, _, rfl, congrArg V4 (union_assoc), hJ.step hb2⟩
          ·
            by_cases q4 : i < 4
            ·
              obtain rfl : i = 3 := by omega
              obtain rfl := Option.some.inj ho
              have x4 : a.tmps[4]?.getD undef = (.pointer (some ⟨w0.heap.size, 0, none⟩)) := (hl.free 4 (by kernel_rfl)).trans (getD_of hF.t4)
              refine wpOp_list rfl rfl ?_
              exact load_cls rfl (eval_tmp x4) hJ.h4 ⟨_, rfl, rfl, hJ⟩
            ·
              obtain rfl : i = 4 := by omega
              obtain rfl := Option.some.inj ho
              have x5 : a.tmps[5]?.getD undef = (.pointer (some ⟨w0.heap.size + 1, 0, none⟩)) := (hl.free 5 (by kernel_rfl)).trans (getD_of hF.t5)
              refine wpOp_list rfl rfl ?_
              exact load_cls rfl (eval_tmp x5) hJ.h5 ⟨_, rfl, rfl, hJ⟩
      ·
        by_cases q8 : i < 8
        ·
          by_cases q6 : i < 6
          ·
            obtain rfl : i = 5 := by omega
            obtain rfl := Option.some.inj ho
            have x6 : a.tmps[6]?.getD undef = (.pointer (some ⟨w0.heap.size + 1 + 1, 0, none⟩)) := (hl.free 6 (by kernel_rfl)).trans (getD_of hF.t6)
            refine wpOp_list rfl rfl ?_
            exact load_cls rfl (eval_tmp x6) hJ.h6 ⟨_, rfl, rfl, hJ⟩
          ·
            by_cases q7 : i < 7
            ·
              obtain rfl : i = 6 := by omega
              obtain rfl := Option.some.inj ho
              have x110 : a.tmps[110]?.getD undef = (V4 cb) := by obtain ⟨v, h1, h2⟩ := hl.dep 4 110 (by kernel_rfl) (by kernel_rfl); exact h1.trans h2
              have x111 : a.tmps[111]?.getD undef = (V4 cc) := by obtain ⟨v, h1, h2⟩ := hl.dep 5 111 (by kernel_rfl) (by kernel_rfl); exact h1.trans h2
              refine wpOp_list rfl rfl ?_
              refine st_call (w' := w) (f := 17) (args := #[(V4 cb), (V4 cc)]) (by go_simp) ((union_c cb cc hb hc _).mono ?_)
              rintro e w'' ⟨rfl, hb2⟩
              exact ⟨_, rfl, _, rfl, rfl, hJ.step hb2⟩
            ·
              obtain rfl : i = 7 := by omega
              obtain rfl := Option.some.inj ho
              have x109 : a.tmps[109]?.getD undef = (V4 ca) := by obtain ⟨v, h1, h2⟩ := hl.dep 3 109 (by kernel_rfl) (by kernel_rfl); exact h1.trans h2
              have x112 : a.tmps[112]?.getD undef = (V4 (cb.union cc)) := by obtain ⟨v, h1, h2⟩ := hl.dep 6 112 (by kernel_rfl) (by kernel_rfl); exact h1.trans h2
              refine wpOp_list rfl rfl ?_
              refine st_call (w' := w) (f := 17) (args := #[(V4 ca), (V4 (cb.union cc))]) (by go_simp) ((union_c ca (cb.union cc) ha (Cls.ok_union hb hc) _).mono ?_)
              rintro e w'' ⟨rfl, hb2⟩
              exact ⟨_, rfl, _, rfl, rfl, hJ.step hb2⟩
        ·
          by_cases q9 : i < 9
          ·
            obtain rfl : i = 8 := by omega
            obtain rfl := Option.some.inj ho
            have x108 : a.tmps[108]?.getD undef = (V4 (ca.union (cb.union cc))) := by obtain ⟨v, h1, h2⟩ := hl.dep 2 108 (by kernel_rfl) (by kernel_rfl); exact h1.trans h2
            have x113 : a.tmps[113]?.getD undef = (V4 (ca.union (cb.union cc))) := by obtain ⟨v, h1, h2⟩ := hl.dep 7 113 (by kernel_rfl) (by kernel_rfl); exact h1.trans h2
            refine wpOp_list rfl rfl ?_
            exact st_run (v := (.bool false)) (by go_simp; rw [eqSelf]; rfl) ⟨_, rfl, rfl, hJ⟩
          ·
            by_cases q10 : i < 10
            ·
              obtain rfl : i = 9 := by omega
              obtain rfl := Option.some.inj ho
              have x114 : a.tmps[114]?.getD undef = (.bool false) := by obtain ⟨v, h1, h2⟩ := hl.dep 8 114 (by kernel_rfl) (by kernel_rfl); exact h1.trans h2
              refine wpOp_list rfl rfl ?_
              exact st_run (v := (.bool false)) (by go_simp) ⟨_, rfl, rfl, hJ⟩
            ·
              obtain rfl : i = 10 := by omega
              obtain rfl := Option.some.inj ho
              have x4 : a.tmps[4]?.getD undef = (.pointer (some ⟨w0.heap.size, 0, none⟩)) := (hl.free 4 (by kernel_rfl)).trans (getD_of hF.t4)
              refine st_wanted rfl (hl.wanted 9 115 false rfl (by kernel_rfl) (by kernel_rfl) (fun v h => h)) ?_
              exact load_cls rfl (eval_tmp x4) hJ.h4 ⟨_, rfl, rfl, hJ⟩
    ·
      by_cases q16 : i < 16
      ·
        by_cases q13 : i < 13
        ·
          by_cases q12 : i < 12
          ·
            obtain rfl : i = 11 := by omega
            obtain rfl := Option.some.inj ho
            have x5 : a.tmps[5]?.getD undef = (.pointer (some ⟨w0.heap.size + 1, 0, none⟩)) := (hl.free 5 (by kernel_rfl)).trans (getD_of hF.t5)
            refine st_wanted rfl (hl.wanted 9 115 false rfl (by kernel_rfl) (by kernel_rfl) (fun v h => h)) ?_
            exact load_cls rfl (eval_tmp x5) hJ.h5 ⟨_, rfl, rfl, hJ⟩
          ·
            obtain rfl : i = 12 := by omega
            obtain rfl := Option.some.inj ho
            have x6 : a.tmps[6]?.getD undef = (.pointer (some ⟨w0.heap.size + 1 + 1, 0, none⟩)) := (hl.free 6 (by kernel_rfl)).trans (getD_of hF.t6)
            refine st_wanted rfl (hl.wanted 9 115 false rfl (by kernel_rfl) (by kernel_rfl) (fun v h => h)) ?_
            exact load_cls rfl (eval_tmp x6) hJ.h6 ⟨_, rfl, rfl, hJ⟩
        ·
          by_cases q14 : i < 14
          ·
            obtain rfl : i = 13 := by omega
            obtain rfl := Option.some.inj ho
            have x117 : a.tmps[117]?.getD undef = (V4 cb) := by obtain ⟨v, h1, h2⟩ := hl.dep 11 117 (by kernel_rfl) (by kernel_rfl); exact h1.trans h2
            have x118 : a.tmps[118]?.getD undef = (V4 cc) := by obtain ⟨v, h1, h2⟩ := hl.dep 12 118 (by kernel_rfl) (by kernel_rfl); exact h1.trans h2
            refine st_wanted rfl (hl.wanted 9 115 false rfl (by kernel_rfl) (by kernel_rfl) (fun v h => h)) ?_
            refine st_call (w' := w) (f := 17) (args := #[(V4 cb), (V4 cc)]) (by go_simp) ((union_c cb cc hb hc _).mono ?_)
            rintro e w'' ⟨rfl, hb2⟩
            exact ⟨_, rfl, _, rfl, rfl, hJ.step hb2⟩
          ·
            by_cases q15 : i < 15
            ·
              obtain rfl : i = 14 := by omega
              obtain rfl := Option.some.inj ho
              have x116 : a.tmps[116]?.getD undef = (V4 ca) := by obtain ⟨v, h1, h2⟩ := hl.dep 10 116 (by kernel_rfl) (by kernel_rfl); exact h1.trans h2
              have x119 : a.tmps[119]?.getD undef = (V4 (cb.union cc)) := by obtain ⟨v, h1, h2⟩ := hl.dep 13 119 (by kernel_rfl) (by kernel_rfl); exact h1.trans h2
              refine st_wanted rfl (hl.wanted 9 115 false rfl (by kernel_rfl) (by kernel_rfl) (fun v h => h)) ?_
              refine st_call (w' := w) (f := 19) (args := #[(V4 ca), (V4 (cb.union cc))]) (by go_simp) ((meet_c ca (cb.union cc) ha (Cls.ok_union hb hc) _).mono ?_)
              rintro e w'' ⟨rfl, hb2⟩
              exact ⟨_, rfl, _, rfl, congrArg V4 (meet_dist ha hb hc), hJ.step hb2⟩
            ·
              obtain rfl : i = 15 := by omega
              obtain rfl := Option.some.inj ho
              have x10 : a.tmps[10]?.getD undef = (.pointer (some ⟨g10, 0, none⟩)) := (hl.free 10 (by kernel_rfl)).trans (getD_of hF.t10)
              refine st_wanted rfl (hl.wanted 9 115 false rfl (by kernel_rfl) (by kernel_rfl) (fun v h => h)) ?_
              exact load_cls rfl (eval_tmp x10) hJ.h10 ⟨_, rfl, rfl, hJ⟩
      ·
        by_cases q19 : i < 19
        ·
          by_cases q17 : i < 17
          ·
            obtain rfl : i = 16 := by omega
            obtain rfl := Option.some.inj ho
            have x4 : a.tmps[4]?.getD undef = (.pointer (some ⟨w0.heap.size, 0, none⟩)) := (hl.free 4 (by kernel_rfl)).trans (getD_of hF.t4)
            refine st_wanted rfl (hl.wanted 9 115 false rfl (by kernel_rfl) (by kernel_rfl) (fun v h => h)) ?_
            exact load_cls rfl (eval_tmp x4) hJ.h4 ⟨_, rfl, rfl, hJ⟩
          ·
            by_cases q18 : i < 18
            ·
              obtain rfl : i = 17 := by omega
              obtain rfl := Option.some.inj ho
              have x6 : a.tmps[6]?.getD undef = (.pointer (some ⟨w0.heap.size + 1 + 1, 0, none⟩)) := (hl.free 6 (by kernel_rfl)).trans (getD_of hF.t6)
              refine st_wanted rfl (hl.wanted 9 115 false rfl (by kernel_rfl) (by kernel_rfl) (fun v h => h)) ?_
              exact load_cls rfl (eval_tmp x6) hJ.h6 ⟨_, rfl, rfl, hJ⟩
            ·
              obtain rfl : i = 18 := by omega
              obtain rfl := Option.some.inj ho
              have x122 : a.tmps[122]?.getD undef = (V4 ca) := by obtain ⟨v, h1, h2⟩ := hl.dep 16 122 (by kernel_rfl) (by kernel_rfl); exact h1.trans h2
              have x123 : a.tmps[123]?.getD undef = (V4 cc) := by obtain ⟨v, h1, h2⟩ := hl.dep 17 123 (by kernel_rfl) (by kernel_rfl); exact h1.trans h2
              refine st_wanted rfl (hl.wanted 9 115 false rfl (by kernel_rfl) (by kernel_rfl) (fun v h => h)) ?_
              refine st_call (w' := w) (f := 19) (args := #[(V4 ca), (V4 cc)]) (by go_simp) ((meet_c ca cc ha hc _).mono ?_)
              rintro e w'' ⟨rfl, hb2⟩
              exact ⟨_, rfl, _, rfl, rfl, hJ.step hb2⟩
        ·
          by_cases q20 : i < 20
          ·
            obtain rfl : i = 19 := by omega
            obtain rfl := Option.some.inj ho
            have x121 : a.tmps[121]?.getD undef = (V4 (ca.meet cb)) := by obtain ⟨v, h1, h2⟩ := hl.dep 15 121 (by kernel_rfl) (by kernel_rfl); exact h1.trans h2
            have x124 : a.tmps[124]?.getD undef = (V4 (ca.meet cc)) := by obtain ⟨v, h1, h2⟩ := hl.dep 18 124 (by kernel_rfl) (by kernel_rfl); exact h1.trans h2
            refine st_wanted rfl (hl.wanted 9 115 false rfl (by kernel_rfl) (by kernel_rfl) (fun v h => h)) ?_
            refine st_call (w' := w) (f := 17) (args := #[(V4 (ca.meet cb)), (V4 (ca.meet cc))]) (by go_simp) ((union_c (ca.meet cb) (ca.meet cc) (Cls.ok_meet ha) (Cls.ok_meet ha) _).mono ?_)
            rintro e w'' ⟨rfl, hb2⟩
            exact ⟨_, rfl, _, rfl, rfl, hJ.step hb2⟩
          ·
            by_cases q21 : i < 21
            ·
              obtain rfl : i = 20 := by omega
              obtain rfl := Option.some.inj ho
              have x120 : a.tmps[120]?.getD undef = (V4 ((ca.meet cb).union (ca.meet cc))) := by obtain ⟨v, h1, h2⟩ := hl.dep 14 120 (by kernel_rfl) (by kernel_rfl); exact h1.trans h2
              have x125 : a.tmps[125]?.getD undef = (V4 ((ca.meet cb).union (ca.meet cc))) := by obtain ⟨v, h1, h2⟩ := hl.dep 19 125 (by kernel_rfl) (by kernel_rfl); exact h1.trans h2
              refine st_wanted rfl (hl.wanted 9 115 false rfl (by kernel_rfl) (by kernel_rfl) (fun v h => h)) ?_
              exact st_run (v := (.bool false)) (by go_simp; rw [eqSelf]; rfl) ⟨_, rfl, rfl, hJ⟩
            ·
              obtain rfl : i = 21 := by omega
              obtain rfl := Option.some.inj ho
              have x115 : a.tmps[115]?.getD undef = (.bool false) := by obtain ⟨v, h1, h2⟩ := hl.dep 9 115 (by kernel_rfl) (by kernel_rfl); exact h1.trans h2
              have x126 : a.tmps[126]?.getD undef = (.bool false) := by obtain ⟨v, h1, h2⟩ := hl.dep 20 126 (by kernel_rfl) (by kernel_rfl); exact h1.trans h2
              refine wpOp_list rfl rfl ?_
              exact st_run (v := (.bool false)) (by go_simp) ⟨_, rfl, rfl, hJ⟩
  case hq9 =>
  intro f W9 hJ hV
  refine put_all (fun A => AlgF w0.heap.size g9 g10 g11 A ∧ A.tmps[127]? = some (.bool false)) ⟨hF.put (by kernel_rfl), put_got (t := 127) (i := 21) (v := (.bool false)) (by rw [hF.size]; decide) (by kernel_rfl) (by kernel_rfl) (by decide) (hV 21 127 (by kernel_rfl))⟩ ?_
  rintro B9 ⟨hF, hcd⟩
  go_upto_region 11 with fail
  refine wp_cond_false (eval_tmp (getD_of hcd)) ?_
  go_upto_region 11 with fail
  refine wp_region_list ?_
  refine loads_cls rfl rfl (eval_tmp (getD_of hF.t4)) hJ.h4 ?_
  refine wpL_abs (fun A => AlgF w0.heap.size g9 g10 g11 A ∧ A.tmps[128]? = some (V4 ca)) ⟨hF.put1 (by decide), one_got (by rw [hF.size]; decide)⟩ ?_
  rintro A1 ⟨hF, h128⟩
  have x128 := getD_of h128
  refine wpL rfl (st_call (w' := W9) (f := 23) (args := #[V4 ca]) (by go_simp) ((fold_c ca HA.out _).mono ?_))
  rintro e w2 ⟨rfl, hb2⟩
  replace hJ := hJ.step hb2
  refine ⟨_, rfl, ?_⟩
  refine wpL_abs (fun A => AlgF w0.heap.size g9 g10 g11 A ∧ A.tmps[129]? = some (V4 ca.fold)) ⟨hF.put1 (by decide), one_got (by rw [hF.size]; decide)⟩ ?_
  rintro A2 ⟨hF, h129⟩
  refine wpL rfl (st_run (v := .pointer (some ⟨w2.heap.size, 0, none⟩)) (w' := w2.alloc (.cells Cls.none.cells 24)) (by go_simp; rfl) ?_)
  refine wpL_abs (fun A => AlgF w0.heap.size g9 g10 g11 A ∧ A.tmps[129]? = some (V4 ca.fold) ∧ A.tmps[14]? = some (.pointer (some ⟨w2.heap.size, 0, none⟩))) ⟨hF.put1 (by decide), one_kept h129 (by decide), one_got (by rw [hF.size]; decide)⟩ ?_
  rintro A3 ⟨hF, h129, h14⟩
  refine wpL rfl (wp_store_row 24 _ _ rfl w2.heap.size ca.fold.cells (eval_tmp (getD_of h14)) (eval_tmp (getD_of h129)) 24 _ (heap_new _ _) (infoCls _) rfl (Cls.cells_one _) ?_)
  replace hJ := alg_store hJ
  obtain ⟨g14, hg14⟩ : ∃ g, g = w2.heap.size := ⟨_, rfl⟩
  rw [← hg14] at hJ h14 ⊢
  generalize World.setRow _ g14 _ = W11 at hJ ⊢
  unfold wpList
  go_upto_region 12 with fail
  refine wp_abs (fun A => AlgF w0.heap.size g9 g10 g11 A ∧ A.tmps[14]? = some (.pointer (some ⟨g14, 0, none⟩))) ⟨hF, h14⟩ ?_
  rintro A12 ⟨hF, hF14⟩
  refine wp_region_vals (by kernel_rfl) (by kernel_rfl) (by kernel_rfl) (by rw [hF.size]; kernel_rfl) (AlgJ2 w0 ca cb cc g9 g10 g11 g14) (AlgV12 ca cb cc x) hJ.drew ?hs12 ?hq12
  case hs12 =>
    intro i o ho a w hJ hl
    have hi : i < 34 := (Array.getElem?_eq_some_iff.1 ho).1
    by_cases q17 : i < 17
    ·
      by_cases q8 : i < 8
      ·
        by_cases q4 : i < 4
        ·
          by_cases q2 : i < 2
          ·
            by_cases q1 : i < 1
            ·
              obtain rfl : i = 0 := by omega
              obtain rfl := Option.some.inj ho
              have x9 : a.tmps[9]?.getD undef = (.pointer (some ⟨g9, 0, none⟩)) := (hl.free 9 (by kernel_rfl)).trans (getD_of hF.t9)
              refine wpOp_list rfl rfl ?_
              exact load_cls rfl (eval_tmp x9) hJ.h9 ⟨_, rfl, rfl, hJ⟩
            ·
              obtain rfl : i = 1 := by omega
              obtain rfl := Option.some.inj ho
              have x130 : a.tmps[130]?.getD undef = (V4 (ca.union cb)) := by obtain ⟨v, h1, h2⟩ := hl.dep 0 130 (by kernel_rfl) (by kernel_rfl); exact h1.trans h2
              refine wpOp_list rfl rfl ?_
              refine st_call (w' := w) (f := 25) (args := #[(V4 (ca.union cb))]) (by go_simp) ((count_c (ca.union cb) (Cls.ok_union ha hb) _).mono ?_)
              rintro e w'' ⟨rfl, hb2⟩
              exact ⟨_, rfl, _, rfl, rfl, hJ.step hb2⟩
          ·
            by_cases q3 : i < 3
            ·
              obtain rfl : i = 2 := by omega
              obtain rfl := Option.some.inj ho
              have x10 : a.tmps[10]?.getD undef = (.pointer (some ⟨g10, 0, none⟩)) := (hl.free 10 (by kernel_rfl)).trans (getD_of hF.t10)
              refine wpOp_list rfl rfl ?_
              exact load_cls rfl (eval_tmp x10) hJ.h10 ⟨_, rfl, rfl, hJ⟩
            ·
              obtain rfl : i = 3 := by omega
              obtain rfl := Option.some.inj ho
              have x132 : a.tmps[132]?.getD undef = (V4 (ca.meet cb)) := by obtain ⟨v, h1, h2⟩ := hl.dep 2 132 (by kernel_rfl) (by kernel_rfl); exact h1.trans h2
              refine wpOp_list rfl rfl ?_
              refine st_call (w' := w) (f := 25) (args := #[(V4 (ca.meet cb))]) (by go_simp) ((count_c (ca.meet cb) (Cls.ok_meet ha) _).mono ?_)
              rintro e w'' ⟨rfl, hb2⟩
              exact ⟨_, rfl, _, rfl, rfl, hJ.step hb2⟩
        ·
          by_cases q6 : i < 6
          ·
            by_cases q5 : i < 5
            ·
              obtain rfl : i = 4 := by omega
              obtain rfl := Option.some.inj ho
              have x131 : a.tmps[131]?.getD undef = (.int .i64 ((ca.union cb).bytes.length : Int)) := by obtain ⟨v, h1, h2⟩ := hl.dep 1 131 (by kernel_rfl) (by kernel_rfl); exact h1.trans h2
              have x133 : a.tmps[133]?.getD undef = (.int .i64 ((ca.meet cb).bytes.length : Int)) := by obtain ⟨v, h1, h2⟩ := hl.dep 3 133 (by kernel_rfl) (by kernel_rfl); exact h1.trans h2
              refine wpOp_list rfl rfl ?_
              exact st_run (v := (.int .i64 ((ca.bytes.length : Int) + (cb.bytes.length : Int)))) (by have h1 := count_um ca cb; have h2 := bytes_le ca; have h3 := bytes_le cb; have hw : IntKind.i64.wrap ((ca.bytes.length : Int) + (cb.bytes.length : Int)) = (ca.bytes.length : Int) + (cb.bytes.length : Int) := (by rw [IntKind.wrap_i64]; omega); go_simp) ⟨_, rfl, rfl, hJ⟩
            ·
              obtain rfl : i = 5 := by omega
              obtain rfl := Option.some.inj ho
              have x4 : a.tmps[4]?.getD undef = (.pointer (some ⟨w0.heap.size, 0, none⟩)) := (hl.free 4 (by kernel_rfl)).trans (getD_of hF.t4)
              refine wpOp_list rfl rfl ?_
              exact load_cls rfl (eval_tmp x4) hJ.h4 ⟨_, rfl, rfl, hJ⟩
          ·
            by_cases q7 : i < 7
            ·
              obtain rfl : i = 6 := by omega
              obtain rfl := Option.some.inj ho
              have x135 : a.tmps[135]?.getD undef = (V4 ca) := by obtain ⟨v, h1, h2⟩ := hl.dep 5 135 (by kernel_rfl) (by kernel_rfl); exact h1.trans h2
              refine wpOp_list rfl rfl ?_
              refine st_call (w' := w) (f := 25) (args := #[(V4 ca)]) (by go_simp) ((count_c ca ha _).mono ?_)
              rintro e w'' ⟨rfl, hb2⟩
              exact ⟨_, rfl, _, rfl, rfl, hJ.step hb2⟩
            ·
              obtain rfl : i = 7 := by omega
              obtain rfl := Option.some.inj ho
              have x5 : a.tmps[5]?.getD undef = (.pointer (some ⟨w0.heap.size + 1, 0, none⟩)) := (hl.free 5 (by kernel_rfl)).trans (getD_of hF.t5)
              refine wpOp_list rfl rfl ?_
              exact load_cls rfl (eval_tmp x5) hJ.h5 ⟨_, rfl, rfl, hJ⟩
      ·
        by_cases q12 : i < 12
        ·
          by_cases q10 : i < 10
          ·
            by_cases q9 : i < 9
            ·
              obtain rfl : i = 8 := by omega
              obtain rfl := Option.some.inj ho
              have x137 : a.tmps[137]?.getD undef = (V4 cb) := by obtain ⟨v, h1, h2⟩ := hl.dep 7 137 (by kernel_rfl) (by kernel_rfl); exact h1.trans h2
              refine wpOp_list rfl rfl ?_
              refine st_call (w' := w) (f := 25) (args := #[(V4 cb)]) (by go_simp) ((count_c cb hb _).mono ?_)
              rintro e w'' ⟨rfl, hb2⟩
              exact ⟨_, rfl, _, rfl, rfl, hJ.step hb2⟩
            ·
              obtain rfl : i = 9 := by omega
              obtain rfl := Option.some.inj ho
              have x136 : a.tmps[136]?.getD undef = (.int .i64 (ca.bytes.length : Int)) := by obtain ⟨v, h1, h2⟩ := hl.dep 6 136 (by kernel_rfl) (by kernel_rfl); exact h1.trans h2
              have x138 : a.tmps[138]?.getD undef = (.int .i64 (cb.bytes.length : Int)) := by obtain ⟨v, h1, h2⟩ := hl.dep 8 138 (by kernel_rfl) (by kernel_rfl); exact h1.trans h2
              refine wpOp_list rfl rfl ?_
              exact st_run (v := (.int .i64 ((ca.bytes.length : Int) + (cb.bytes.length : Int)))) (by have h2 := bytes_le ca; have h3 := bytes_le cb; have hw : IntKind.i64.wrap ((ca.bytes.length : Int) + (cb.bytes.length : Int)) = (ca.bytes.length : Int) + (cb.bytes.length : Int) := (by rw [IntKind.wrap_i64]; omega); go_simp) ⟨_, rfl, rfl, hJ⟩
          ·
            by_cases q11 : i < 11
            ·
              obtain rfl : i = 10 := by omega
              obtain rfl := Option.some.inj ho
              have x134 : a.tmps[134]?.getD undef = (.int .i64 ((ca.bytes.length : Int) + (cb.bytes.length : Int))) := by obtain ⟨v, h1, h2⟩ := hl.dep 4 134 (by kernel_rfl) (by kernel_rfl); exact h1.trans h2
              have x139 : a.tmps[139]?.getD undef = (.int .i64 ((ca.bytes.length : Int) + (cb.bytes.length : Int))) := by obtain ⟨v, h1, h2⟩ := hl.dep 9 139 (by kernel_rfl) (by kernel_rfl); exact h1.trans h2
              refine wpOp_list rfl rfl ?_
              exact st_run (v := (.bool true)) (by go_simp) ⟨_, rfl, rfl, hJ⟩
            ·
              obtain rfl : i = 11 := by omega
              obtain rfl := Option.some.inj ho
              have x140 : a.tmps[140]?.getD undef = (.bool true) := by obtain ⟨v, h1, h2⟩ := hl.dep 10 140 (by kernel_rfl) (by kernel_rfl); exact h1.trans h2
              refine wpOp_list rfl rfl ?_
              exact st_run (v := (.bool true)) (by go_simp) ⟨_, rfl, rfl, hJ⟩
        ·
          by_cases q14 : i < 14
          ·
            by_cases q13 : i < 13
            ·
              obtain rfl : i = 12 := by omega
              obtain rfl := Option.some.inj ho
              have x14 : a.tmps[14]?.getD undef = (.pointer (some ⟨g14, 0, none⟩)) := (hl.free 14 (by kernel_rfl)).trans (getD_of hF14)
              refine st_wanted rfl (hl.wanted 11 141 true rfl (by kernel_rfl) (by kernel_rfl) (fun v h => h)) ?_
              exact load_cls rfl (eval_tmp x14) hJ.h14 ⟨_, rfl, rfl, hJ⟩
            ·
              obtain rfl : i = 13 := by omega
              obtain rfl := Option.some.inj ho
              have x142 : a.tmps[142]?.getD undef = (V4 ca.fold) := by obtain ⟨v, h1, h2⟩ := hl.dep 12 142 (by kernel_rfl) (by kernel_rfl); exact h1.trans h2
              refine st_wanted rfl (hl.wanted 11 141 true rfl (by kernel_rfl) (by kernel_rfl) (fun v h => h)) ?_
              refine st_call (w' := w) (f := 23) (args := #[(V4 ca.fold)]) (by go_simp) ((fold_c ca.fold (Cls.ok_fold ha) _).mono ?_)
              rintro e w'' ⟨rfl, hb2⟩
              exact ⟨_, rfl, _, rfl, congrArg V4 (fold_fold ha), hJ.step hb2⟩
          ·
            by_cases q15 : i < 15
            ·
              obtain rfl : i = 14 := by omega
              obtain rfl := Option.some.inj ho
              have x14 : a.tmps[14]?.getD undef = (.pointer (some ⟨g14, 0, none⟩)) := (hl.free 14 (by kernel_rfl)).trans (getD_of hF14)
              refine st_wanted rfl (hl.wanted 11 141 true rfl (by kernel_rfl) (by kernel_rfl) (fun v h => h)) ?_
              exact load_cls rfl (eval_tmp x14) hJ.h14 ⟨_, rfl, rfl, hJ⟩
            ·
              by_cases q16 : i < 16
              ·
                obtain rfl : i = 15 := by omega
                obtain rfl := Option.some.inj ho
                have x143 : a.tmps[143]?.getD undef = (V4 ca.fold) := by obtain ⟨v, h1, h2⟩ := hl.dep 13 143 (by kernel_rfl) (by kernel_rfl); exact h1.trans h2
                have x144 : a.tmps[144]?.getD undef = (V4 ca.fold) := by obtain ⟨v, h1, h2⟩ := hl.dep 14 144 (by kernel_rfl) (by kernel_rfl); exact h1.trans h2
                refine st_wanted rfl (hl.wanted 11 141 true rfl (by kernel_rfl) (by kernel_rfl) (fun v h => h)) ?_
                exact st_run (v := (.bool true)) (by go_simp; rw [eqSelf]; rfl) ⟨_, rfl, rfl, hJ⟩
              ·
                obtain rfl : i = 16 := by omega
                obtain rfl := Option.some.inj ho
                have x141 : a.tmps[141]?.getD undef = (.bool true) := by obtain ⟨v, h1, h2⟩ := hl.dep 11 141 (by kernel_rfl) (by kernel_rfl); exact h1.trans h2
                have x145 : a.tmps[145]?.getD undef = (.bool true) := by obtain ⟨v, h1, h2⟩ := hl.dep 15 145 (by kernel_rfl) (by kernel_rfl); exact h1.trans h2
                refine wpOp_list rfl rfl ?_
                exact st_run (v := (.bool true)) (by go_simp) ⟨_, rfl, rfl, hJ⟩
    ·
      by_cases q25 : i < 25
      ·
        by_cases q21 : i < 21
        ·
          by_cases q19 : i < 19
          ·
            by_cases q18 : i < 18
            ·
              obtain rfl : i = 17 := by omega
              obtain rfl := Option.some.inj ho
              have x146 : a.tmps[146]?.getD undef = (.bool true) := by obtain ⟨v, h1, h2⟩ := hl.dep 16 146 (by kernel_rfl) (by kernel_rfl); exact h1.trans h2
              refine wpOp_list rfl rfl ?_
              exact st_run (v := (.bool true)) (by go_simp) ⟨_, rfl, rfl, hJ⟩
            ·
              obtain rfl : i = 18 := by omega
              obtain rfl := Option.some.inj ho
              have x4 : a.tmps[4]?.getD undef = (.pointer (some ⟨w0.heap.size, 0, none⟩)) := (hl.free 4 (by kernel_rfl)).trans (getD_of hF.t4)
              refine st_wanted rfl (hl.wanted 17 147 true rfl (by kernel_rfl) (by kernel_rfl) (fun v h => h)) ?_
              exact load_cls rfl (eval_tmp x4) hJ.h4 ⟨_, rfl, rfl, hJ⟩
          ·
            by_cases q20 : i < 20
            ·
              obtain rfl : i = 19 := by omega
              obtain rfl := Option.some.inj ho
              have x14 : a.tmps[14]?.getD undef = (.pointer (some ⟨g14, 0, none⟩)) := (hl.free 14 (by kernel_rfl)).trans (getD_of hF14)
              refine st_wanted rfl (hl.wanted 17 147 true rfl (by kernel_rfl) (by kernel_rfl) (fun v h => h)) ?_
              exact load_cls rfl (eval_tmp x14) hJ.h14 ⟨_, rfl, rfl, hJ⟩
            ·
              obtain rfl : i = 20 := by omega
              obtain rfl := Option.some.inj ho
              have x148 : a.tmps[148]?.getD undef = (V4 ca) := by obtain ⟨v, h1, h2⟩ := hl.dep 18 148 (by kernel_rfl) (by kernel_rfl); exact h1.trans h2
              have x149 : a.tmps[149]?.getD undef = (V4 ca.fold) := by obtain ⟨v, h1, h2⟩ := hl.dep 19 149 (by kernel_rfl) (by kernel_rfl); exact h1.trans h2
              refine st_wanted rfl (hl.wanted 17 147 true rfl (by kernel_rfl) (by kernel_rfl) (fun v h => h)) ?_
              refine st_call (w' := w) (f := 20) (args := #[(V4 ca), (V4 ca.fold)]) (by go_simp) ((minus_c ca ca.fold ha (Cls.ok_fold ha) _).mono ?_)
              rintro e w'' ⟨rfl, hb2⟩
              exact ⟨_, rfl, _, rfl, congrArg V4 (minus_fold ha), hJ.step hb2⟩
        ·
          by_cases q23 : i < 23
          ·
            by_cases q22 : i < 22
            ·
              obtain rfl : i = 21 := by omega
              obtain rfl := Option.some.inj ho
              refine st_wanted rfl (hl.wanted 17 147 true rfl (by kernel_rfl) (by kernel_rfl) (fun v h => h)) ?_
              exact st_run (v := (V4 Cls.none)) (by go_simp; exact ⟨rfl, rfl, rfl, rfl⟩) ⟨_, rfl, rfl, hJ⟩
            ·
              obtain rfl : i = 22 := by omega
              obtain rfl := Option.some.inj ho
              have x150 : a.tmps[150]?.getD undef = (V4 Cls.none) := by obtain ⟨v, h1, h2⟩ := hl.dep 20 150 (by kernel_rfl) (by kernel_rfl); exact h1.trans h2
              have x151 : a.tmps[151]?.getD undef = (V4 Cls.none) := by obtain ⟨v, h1, h2⟩ := hl.dep 21 151 (by kernel_rfl) (by kernel_rfl); exact h1.trans h2
              refine st_wanted rfl (hl.wanted 17 147 true rfl (by kernel_rfl) (by kernel_rfl) (fun v h => h)) ?_
              exact st_run (v := (.bool true)) (by go_simp; rw [eqSelf]; rfl) ⟨_, rfl, rfl, hJ⟩
          ·
            by_cases q24 : i < 24
            ·
              obtain rfl : i = 23 := by omega
              obtain rfl := Option.some.inj ho
              have x147 : a.tmps[147]?.getD undef = (.bool true) := by obtain ⟨v, h1, h2⟩ := hl.dep 17 147 (by kernel_rfl) (by kernel_rfl); exact h1.trans h2
              have x152 : a.tmps[152]?.getD undef = (.bool true) := by obtain ⟨v, h1, h2⟩ := hl.dep 22 152 (by kernel_rfl) (by kernel_rfl); exact h1.trans h2
              refine wpOp_list rfl rfl ?_
              exact st_run (v := (.bool true)) (by go_simp) ⟨_, rfl, rfl, hJ⟩
            ·
              obtain rfl : i = 24 := by omega
              obtain rfl := Option.some.inj ho
              have x153 : a.tmps[153]?.getD undef = (.bool true) := by obtain ⟨v, h1, h2⟩ := hl.dep 23 153 (by kernel_rfl) (by kernel_rfl); exact h1.trans h2
              refine wpOp_list rfl rfl ?_
              exact st_run (v := (.bool true)) (by go_simp) ⟨_, rfl, rfl, hJ⟩
      ·
        by_cases q29 : i < 29
        ·
          by_cases q27 : i < 27
          ·
            by_cases q26 : i < 26
            ·
              obtain rfl : i = 25 := by omega
              obtain rfl := Option.some.inj ho
              have x9 : a.tmps[9]?.getD undef = (.pointer (some ⟨g9, 0, none⟩)) := (hl.free 9 (by kernel_rfl)).trans (getD_of hF.t9)
              refine st_wanted rfl (hl.wanted 24 154 true rfl (by kernel_rfl) (by kernel_rfl) (fun v h => h)) ?_
              exact load_cls rfl (eval_tmp x9) hJ.h9 ⟨_, rfl, rfl, hJ⟩
            ·
              obtain rfl : i = 26 := by omega
              obtain rfl := Option.some.inj ho
              have x155 : a.tmps[155]?.getD undef = (V4 (ca.union cb)) := by obtain ⟨v, h1, h2⟩ := hl.dep 25 155 (by kernel_rfl) (by kernel_rfl); exact h1.trans h2
              refine st_wanted rfl (hl.wanted 24 154 true rfl (by kernel_rfl) (by kernel_rfl) (fun v h => h)) ?_
              refine st_call (w' := w) (f := 23) (args := #[(V4 (ca.union cb))]) (by go_simp) ((fold_c (ca.union cb) (Cls.ok_union ha hb) _).mono ?_)
              rintro e w'' ⟨rfl, hb2⟩
              exact ⟨_, rfl, _, rfl, congrArg V4 (fold_union ha hb), hJ.step hb2⟩
          ·
            by_cases q28 : i < 28
            ·
              obtain rfl : i = 27 := by omega
              obtain rfl := Option.some.inj ho
              have x14 : a.tmps[14]?.getD undef = (.pointer (some ⟨g14, 0, none⟩)) := (hl.free 14 (by kernel_rfl)).trans (getD_of hF14)
              refine st_wanted rfl (hl.wanted 24 154 true rfl (by kernel_rfl) (by kernel_rfl) (fun v h => h)) ?_
              exact load_cls rfl (eval_tmp x14) hJ.h14 ⟨_, rfl, rfl, hJ⟩
            ·
              obtain rfl : i = 28 := by omega
              obtain rfl := Option.some.inj ho
              have x5 : a.tmps[5]?.getD undef = (.pointer (some ⟨w0.heap.size + 1, 0, none⟩)) := (hl.free 5 (by kernel_rfl)).trans (getD_of hF.t5)
              refine st_wanted rfl (hl.wanted 24 154 true rfl (by kernel_rfl) (by kernel_rfl) (fun v h => h)) ?_
              exact load_cls rfl (eval_tmp x5) hJ.h5 ⟨_, rfl, rfl, hJ⟩
        ·
          by_cases q31 : i < 31
          ·
            by_cases q30 : i < 30
            ·
              obtain rfl : i = 29 := by omega
              obtain rfl := Option.some.inj ho
              have x158 : a.tmps[158]?.getD undef = (V4 cb) := by obtain ⟨v, h1, h2⟩ := hl.dep 28 158 (by kernel_rfl) (by kernel_rfl); exact h1.trans h2
              refine st_wanted rfl (hl.wanted 24 154 true rfl (by kernel_rfl) (by kernel_rfl) (fun v h => h)) ?_
              refine st_call (w' := w) (f := 23) (args := #[(V4 cb)]) (by go_simp) ((fold_c cb hb _).mono ?_)
              rintro e w'' ⟨rfl, hb2⟩
              exact ⟨_, rfl, _, rfl, rfl, hJ.step hb2⟩
            ·
              obtain rfl : i = 30 := by omega
              obtain rfl := Option.some.inj ho
              have x157 : a.tmps[157]?.getD undef = (V4 ca.fold) := by obtain ⟨v, h1, h2⟩ := hl.dep 27 157 (by kernel_rfl) (by kernel_rfl); exact h1.trans h2
              have x159 : a.tmps[159]?.getD undef = (V4 cb.fold) := by obtain ⟨v, h1, h2⟩ := hl.dep 29 159 (by kernel_rfl) (by kernel_rfl); exact h1.trans h2
              refine st_wanted rfl (hl.wanted 24 154 true rfl (by kernel_rfl) (by kernel_rfl) (fun v h => h)) ?_
              refine st_call (w' := w) (f := 17) (args := #[(V4 ca.fold), (V4 cb.fold)]) (by go_simp) ((union_c ca.fold cb.fold (Cls.ok_fold ha) (Cls.ok_fold hb) _).mono ?_)
              rintro e w'' ⟨rfl, hb2⟩
              exact ⟨_, rfl, _, rfl, rfl, hJ.step hb2⟩
          ·
            by_cases q32 : i < 32
            ·
              obtain rfl : i = 31 := by omega
              obtain rfl := Option.some.inj ho
              have x156 : a.tmps[156]?.getD undef = (V4 (ca.fold.union cb.fold)) := by obtain ⟨v, h1, h2⟩ := hl.dep 26 156 (by kernel_rfl) (by kernel_rfl); exact h1.trans h2
              have x160 : a.tmps[160]?.getD undef = (V4 (ca.fold.union cb.fold)) := by obtain ⟨v, h1, h2⟩ := hl.dep 30 160 (by kernel_rfl) (by kernel_rfl); exact h1.trans h2
              refine st_wanted rfl (hl.wanted 24 154 true rfl (by kernel_rfl) (by kernel_rfl) (fun v h => h)) ?_
              exact st_run (v := (.bool true)) (by go_simp; rw [eqSelf]; rfl) ⟨_, rfl, rfl, hJ⟩
            ·
              by_cases q33 : i < 33
              ·
                obtain rfl : i = 32 := by omega
                obtain rfl := Option.some.inj ho
                have x154 : a.tmps[154]?.getD undef = (.bool true) := by obtain ⟨v, h1, h2⟩ := hl.dep 24 154 (by kernel_rfl) (by kernel_rfl); exact h1.trans h2
                have x161 : a.tmps[161]?.getD undef = (.bool true) := by obtain ⟨v, h1, h2⟩ := hl.dep 31 161 (by kernel_rfl) (by kernel_rfl); exact h1.trans h2
                refine wpOp_list rfl rfl ?_
                exact st_run (v := (.bool true)) (by go_simp) ⟨_, rfl, rfl, hJ⟩
              ·
                obtain rfl : i = 33 := by omega
                obtain rfl := Option.some.inj ho
                have x162 : a.tmps[162]?.getD undef = (.bool true) := by obtain ⟨v, h1, h2⟩ := hl.dep 32 162 (by kernel_rfl) (by kernel_rfl); exact h1.trans h2
                refine wpOp_list rfl rfl ?_
                exact st_run (v := (.bool true)) (by go_simp) ⟨_, rfl, rfl, hJ⟩
  case hq12 =>
  intro f W12 hJ hV
  refine put_all (fun A => AlgF w0.heap.size g9 g10 g11 A ∧ A.tmps[8]? = some (.bool true)) ⟨hF.put (by kernel_rfl), put_got (t := 8) (i := 33) (v := (.bool true)) (by rw [hF.size]; decide) (by kernel_rfl) (by kernel_rfl) (by decide) (hV 33 8 (by kernel_rfl))⟩ ?_
  rintro B12 ⟨hF, hcd⟩
  have hBel := hJ.bel
  have hD := hF.defers
  go_wp2
  exact bodyPost_ret (v := .bool true) (by simp [results, Try.results10, go_sem, hcd]) hD ⟨rfl, hBel⟩
theorem algebra_r (a b c : Cls) (x : Int) (w : World) (ha : a.ok) (hb : b.ok) (hc : c.ok) (hx : (Lit.int .u8 x).wf = true) :
    Calls Try.prog 10 #[V4 a, V4 b, V4 c, .int .u8 x] w fun e w' => e = .returned (.bool true) ∧ Below w.heap.size w w' := by
  have h : IntKind.u8.min ≤ x ∧ x ≤ IntKind.u8.max := by simpa [Lit.wf] using hx
  have h0 : IntKind.u8.min = 0 := rfl
  have h1 : IntKind.u8.max = 255 := rfl
  rw [h0, h1] at h
  have e : x = ((x.toNat : Nat) : Int) := by omega
  rw [e]
  exact algebra_w a b c x.toNat ha hb hc (by omega) w
end Go.Proofs.Ytachpdeejificaa

import Derived.ChangeArms
import Derived.ChangeOld
import Derived.ChangeSlices
import Derived.Laws.CopyOwn
import Derived.Laws.CopyRow
import Derived.OpenShut
import Derived.ProofKit
import Derived.SizedLaws
import Derived.Test.YtflkgoggnomehaaRows
import Derived.WideShapes
import Derived.Test.YtflkgoggnomehaaZ4
import Derived.Test.YtflkgoggnomehaaZ14
import Derived.Test.YtflkgoggnomehaaZ16
import Derived.Test.YtflkgoggnomehaaZ17
set_option linter.unusedVariables false
set_option linter.unusedSimpArgs false
namespace Go.Proofs.Ytflkgoggnomehaa.Ap
open Go.RowKit Go.Proofs.Ytflkgoggnomehaa Go.Proofs.YtflkgoggnomehaaW.PrintWords Go.Proofs.YtflkgoggnomehaaW.PrintLast Go.Proofs.YtflkgoggnomehaaW.PrintMore Go.Proofs.Ytflkgoggnomehaa.P
def enc (x : S45) : List Value := [.int .i64 x.f0, .int .u64 x.f1.f0, .int .u64 x.f1.f1, .int .u64 x.f1.f2, .int .u64 x.f1.f3]
def flat (l : List S45) : List Value := l.flatMap enc
theorem flat_len : ∀ l : List S45, (flat l).length = l.length * 5
  | [] => rfl
  | x :: l => by show (enc x ++ flat l).length = _; rw [List.length_append, flat_len l]; simp [enc]; omega
theorem flat_at (l : List S45) : ∀ (j : Nat) (x : S45) (i : Nat), l[j]? = some x → i < 5 → (flat l)[j * 5 + i]? = (enc x)[i]? := by
  induction l with
  | nil => intro j x i h; simp at h
  | cons y l ih =>
    intro j x i h hi
    show (enc y ++ flat l)[_]? = _
    have hl : (enc y).length = 5 := rfl
    cases j with
    | zero =>
      obtain rfl : y = x := by simpa using h
      rw [List.getElem?_append_left (by omega)]; simp
    | succ j =>
      rw [List.getElem?_append_right (by omega), hl, show (j + 1) * 5 + i - 5 = j * 5 + i by omega]
      exact ih j x i (by simpa using h) hi
theorem flat_one (l : List S45) : ∀ u ∈ flat l, u.oneCell' = true := by
  intro u hu
  obtain ⟨x, _, hx⟩ := List.mem_flatMap.1 hu
  simp only [enc, List.mem_cons, List.not_mem_nil, or_false] at hx
  rcases hx with rfl | rfl | rfl | rfl | rfl <;> rfl
/-- A row read is its cells, one behind the other. -/
theorem flat_cells {w : World} {A : Option Addr} {l : List S45} (h : Kd.C k45 w A l.length l) (h0 : 0 < l.length) : ∃ ad, A = some ad ∧ ∀ j v, (flat l)[j]? = some v → w.cell? (ad.add j) = some v := by
  obtain ⟨ad, e, hc⟩ := h.2.2 h0
  refine ⟨ad, e, fun j v hv => ?_⟩
  have hj : j < (flat l).length := by
    rcases Nat.lt_or_ge j (flat l).length with q | q
    · exact q
    · rw [List.getElem?_eq_none q] at hv; cases hv
  rw [flat_len] at hj
  have hd : j / 5 < l.length := by omega
  obtain ⟨c, hcl, hK, hcc⟩ := hc (j / 5) l[j / 5] (List.getElem?_eq_getElem hd)
  obtain rfl := k45_open hK
  have q := flat_at l (j / 5) l[j / 5] (j % 5) (List.getElem?_eq_getElem hd) (Nat.mod_lt _ (by omega))
  have e1 : j / 5 * 5 + j % 5 = j := by omega
  rw [e1, hv] at q
  have := hcc (j % 5) v q.symm
  rwa [show j / 5 * k45.sz + j % 5 = j from e1] at this
/-- Cells that stand one behind the other are a row read. -/
theorem row_read {w : World} {g : Nat} {cs : Array Value} {t : TypeId} {fr : Nat × Nat} (l : List S45) (more : List Value) (hg : w.heap[g]? = some (.cells cs t fr)) (hcs : cs.toList = flat l ++ more) (hn : l.length ≤ 9223372036854775807) : Kd.C k45 w (some ⟨g, 0, none⟩) l.length l := by
  refine ⟨rfl, hn, fun _ => ⟨⟨g, 0, none⟩, rfl, fun j p hp => ⟨enc p, rfl, k45_mk w p, fun i u hu => ?_⟩⟩⟩
  have hi : i < 5 := by
    rcases Nat.lt_or_ge i 5 with q | q
    · exact q
    · rw [List.getElem?_eq_none (by simp [enc]; omega)] at hu; cases hu
  have hj : j < l.length := by
    rcases Nat.lt_or_ge j l.length with q | q
    · exact q
    · rw [List.getElem?_eq_none q] at hp; cases hp
  have e : ((⟨g, 0, none⟩ : Addr).add (j * k45.sz + i)) = ⟨g, j * 5 + i, none⟩ := by show (⟨g, 0, none⟩ : Addr).add (j * 5 + i) = _; unfold Addr.add; split <;> simp_all
  rw [e, cell_of_row w g _ cs t fr hg, ← hu, ← flat_at l j p i hp hi, ← Array.getElem?_toList, hcs, List.getElem?_append_left (by rw [flat_len]; omega)]
/-- copy(v, y) over elements of more than one cell. -/
theorem wpList_copy_many {P : Program} {w : World} {ops : Array Oper} {rest : List Oper} {o : Oper} {a : Act} {Q : Exit → Act → World → Prop} (hgd : o.guard = none) (d s : Operand) (dT sT : TypeId)
    (ho : o.op = .call { callee := .builtin .copy, args := #[d, s], argTypes := #[dT, sT] }) (elem : TypeId) (hu : P.underlying dT = some (.slice elem)) (size : Nat) (hsz : (P.info? elem).map (·.size) = some size)
    (g dLen dCap : Nat) (A : Option Addr) (sLen sCap : Nat) (hd : a.eval d = .slice (some ⟨g, 0, none⟩) dLen dCap) (hs : a.eval s = .slice A sLen sCap)
    (cur : Array Value) (t : TypeId) (hg : w.heap[g]? = some (.cells cur t (0, 0))) (cs : List Value) (hle : sLen ≤ dLen) (hn : cs.length = sLen * size)
    (hsrc : 0 < sLen → ∃ ad, A = some ad ∧ ∀ j v, cs[j]? = some v → w.cell? (ad.add j) = some v) (hA : sLen = 0 → A = none ∨ ∃ ad, A = some ad) (hfit : cs.length ≤ cur.size) (h1 : ∀ v ∈ cs, v.oneCell' = true)
    (h : wpList P ops Q rest (a.put o.dst (goInt sLen)) (w.setRow g (cs ++ cur.toList.drop cs.length).toArray)) : wpList P ops Q (o :: rest) a w := by
  refine wpList_plain hgd fun K hK => ?_
  have hmin : Nat.min sLen dLen = sLen := Nat.min_eq_left hle
  have hst := run_storeCells_at P g 0 t cs 0 cur w hg (by simpa using hfit) h1
  have hrun : (Builtin.copy_ #[dT, sT] o.type #[.slice (some ⟨g, 0, none⟩) dLen dCap, .slice A sLen sCap]).run P w = .ok (goInt sLen) (w.setRow g (cs ++ cur.toList.drop cs.length).toArray) := by
    cases hq : P.info? elem with
    | none => simp [hq] at hsz
    | some i =>
      have hi : i.size = size := by simpa [hq] using hsz
      by_cases h0 : 0 < sLen
      · obtain ⟨ad, rfl, hc⟩ := hsrc h0
        have hl := run_loadCells_list (P := P) w ad cs hc
        rw [hn] at hl
        simp [Builtin.copy_, run_underlying hu, Builtin.lenOf, Builtin.firstCells, sizeOf, typeInfo, hq, hi, hmin, hl, hst]
      · obtain rfl : sLen = 0 := by omega
        obtain rfl : cs = [] := List.eq_nil_of_length_eq_zero (by simpa using hn)
        have hl : ∀ (x : Addr), (loadCells x 0).run P w = .ok #[] w := fun x => by simpa using run_loadCells_list (P := P) w x [] (by simp)
        cases A <;> simp [Builtin.copy_, run_underlying hu, Builtin.lenOf, Builtin.firstCells, sizeOf, typeInfo, hq, hi, storeCells, hl, setRow_self w g cur t (0, 0) hg]
  unfold Oper.wp
  simp [execOp, ho, resolve, invoke, builtin, hd, hs, hrun, Result.andThen]
  exact hK _ _ h
def mk77 : S45 := ⟨-78, ⟨0, 0, 0, 0⟩⟩
def mo77 : S45 := ⟨-100077, ⟨0, 0, 0, 0⟩⟩
theorem row_owned {w : World} {B g c m : Nat} (l : List S45) (more xs : List Value) (h : w.ownsRow B 45 5 (.slice (some ⟨g, 0, none⟩) m c) m xs) (hx : xs = flat l ++ more) (hm : l.length ≤ m) (hn : l.length ≤ 9223372036854775807) : Kd.C k45 w (some ⟨g, 0, none⟩) l.length l := by
  refine ⟨rfl, hn, fun _ => ⟨⟨g, 0, none⟩, rfl, fun j p hp => ⟨enc p, rfl, k45_mk w p, fun i u hu => ?_⟩⟩⟩
  have hi : i < 5 := by
    rcases Nat.lt_or_ge i 5 with q | q
    · exact q
    · rw [List.getElem?_eq_none (by simp [enc]; omega)] at hu; cases hu
  have hj : j < l.length := by
    rcases Nat.lt_or_ge j l.length with q | q
    · exact q
    · rw [List.getElem?_eq_none q] at hp; cases hp
  have e : ((⟨g, 0, none⟩ : Addr).add (j * k45.sz + i)) = ⟨g, j * 5 + i, none⟩ := by show (⟨g, 0, none⟩ : Addr).add (j * 5 + i) = _; unfold Addr.add; split <;> simp_all
  rw [e, World.ownsRow.cellAt h _ (by omega), ← hu, ← flat_at l j p i hp hi, hx, List.getElem?_append_left (by rw [flat_len]; omega)]
theorem own_copied {W : World} {B e size n g c : Nat} {xs cs : List Value} {cur : Array Value} (h : W.ownsRow B e size (.slice (some ⟨g, 0, none⟩) n c) n xs) (hg : W.heap[g]? = some (.cells cur e (0, 0))) (hc : cs.length ≤ n * size) :
    (W.setRow g (cs ++ cur.toList.drop cs.length).toArray).ownsRow B e size (.slice (some ⟨g, 0, none⟩) n c) n (cs ++ xs.drop cs.length) := by
  have h1 := h.1
  refine ⟨by simp; omega, .inr ?_⟩
  rcases h.2 with ⟨q, _⟩ | ⟨g', cap, cur', hv, hb, hh, r1, r2, r3, r4⟩
  · cases q
  · injection hv with hv1 _ hv3
    obtain rfl : g = g' := by simpa using hv1
    subst hv3
    rw [hg] at hh
    cases hh
    have hcs : n * size ≤ cur.size := by rw [r3]; exact Nat.mul_le_mul_right _ r1
    refine ⟨g, c, _, rfl, hb, setRow_heap W g cur _ e (0, 0) hg, r1, r2, ?_, ?_⟩
    · simp; omega
    · rw [List.take_append, List.take_of_length_le hc, List.take_drop, ← r4]
      congr 1
      rw [show cs.length + (n * size - cs.length) = n * size by omega]
theorem mark_c (w : World) : Calls Try.prog 32 #[.int .i64 77] w fun e w' => e = .returned (.agg (enc mk77).toArray) ∧ Below w.heap.size w w' := by
  refine (dowelbook_partsMark.calls 77 (-78) 0 0 0 0 w (by kernel_rfl)).mono ?_
  rintro e w' ⟨h1, h2⟩
  exact ⟨h1, h2⟩
theorem more_c (w : World) : Calls Try.prog 33 #[.int .i64 77] w fun e w' => e = .returned (.agg (enc mo77).toArray) ∧ Below w.heap.size w w' := by
  refine (dowelbook_partsMore.calls 77 (-100077) 0 0 0 0 w (by kernel_rfl)).mono ?_
  rintro e w' ⟨h1, h2⟩
  exact ⟨h1, h2⟩
theorem info45' : (Try.prog.info? 45).map (·.size) = some 5 := by kernel_rfl
theorem own_cells {W : World} {B g n c t : Nat} {xs : List Value} (h : W.ownsRow B 45 5 (.slice (some ⟨g, 0, none⟩) n c) n xs) (ht : t < n) : ∃ u0 u1 u2 u3 u4 : Value,
    (W.cell? ⟨g, t * 5, none⟩ = some u0 ∧ W.cell? ⟨g, t * 5 + 1, none⟩ = some u1 ∧ W.cell? ⟨g, t * 5 + 2, none⟩ = some u2 ∧ W.cell? ⟨g, t * 5 + 3, none⟩ = some u3 ∧ W.cell? ⟨g, t * 5 + 4, none⟩ = some u4) := by
  have hl := h.1
  have hk : ∀ j, j < 5 → ∃ u, W.cell? ⟨g, t * 5 + j, none⟩ = some u := fun j hj => by
    have hlt : t * 5 + j < n * 5 := by omega
    exact ⟨xs[t * 5 + j]'(by omega), by rw [World.ownsRow.cellAt h _ hlt, List.getElem?_eq_getElem]⟩
  obtain ⟨u0, h0⟩ := hk 0 (by omega); obtain ⟨u1, h1⟩ := hk 1 (by omega); obtain ⟨u2, h2⟩ := hk 2 (by omega); obtain ⟨u3, h3⟩ := hk 3 (by omega); obtain ⟨u4, h4⟩ := hk 4 (by omega)
  exact ⟨u0, u1, u2, u3, u4, h0, h1, h2, h3, h4⟩
theorem below_grown' {B : Nat} {w0 w1 w2 : World} {g : Nat} (hb : Below B w0 w1) (hB : B ≤ w1.heap.size) (h : w1.grownBy w2 (some g)) (hg : B ≤ g) : Below B w0 w2 :=
  ⟨h.os.trans hb.os, h.tape.trans hb.tape, h.output.trans hb.output, Nat.le_trans hb.size h.size, fun k hk => (h.block k (by omega) (by simp; omega)).trans (hb.block k hk)⟩
theorem two_set (l : List S45) (R : List Value) (hR : R.length = 10) : Fr.setList (Fr.setList (flat l ++ R) (l.length * 5) (enc mk77)) ((l.length + 1) * 5) (enc mo77) = flat (l ++ [mk77, mo77]) := by
  have e1 : R = R.take 5 ++ R.drop 5 := (List.take_append_drop 5 R).symm
  have e2 : (R.drop 5).length = 5 := by simp [hR]
  have e3 : (R.take 5).length = 5 := by simp [hR]
  generalize R.take 5 = R1 at e1 e3
  generalize R.drop 5 = R2 at e1 e2
  subst e1
  rw [Fr.setList_mid _ _ _ _ _ (flat_len l).symm (by rw [e3]; rfl), ← List.append_assoc, ← List.append_nil R2, Fr.setList_mid _ _ _ _ _ (by rw [List.length_append, flat_len]; show _ = l.length * 5 + 5; omega) (by rw [e2]; rfl)]
  unfold flat
  simp
theorem made {w1 : World} {base n : Nat} {ok : Nat → Prop} {v1 : Value} (h : Kd.R k45 45 w1 base ok v1 (List.replicate ((n : Int) + 2).toNat z45)) :
    ∃ g c' inner cur, v1 = .slice (some ⟨g, 0, none⟩) (n + 2) c' ∧ n + 2 ≤ c' ∧ base ≤ g ∧ w1.heap[g]? = some (.cells cur 45 (0, 0)) ∧ (n + 2) * 5 ≤ cur.size ∧ w1.ownsRow base 45 5 (.slice (some ⟨g, 0, none⟩) (n + 2) c') (n + 2) inner := by
  obtain ⟨_, inner, ho, _⟩ := h
  have e : (List.replicate ((n : Int) + 2).toNat z45).length = n + 2 := by rw [List.length_replicate]; omega
  rw [e] at ho
  rcases ho.2 with ⟨_, q⟩ | ⟨g, cap, cur, rfl, hb, hh, r1, r2, r3, r4⟩
  · omega
  · exact ⟨g, cap, inner, cur, rfl, r1, hb, hh, by rw [r3]; exact Nat.mul_le_mul_right _ r1, ho⟩
set_option maxRecDepth 100000 in
set_option maxHeartbeats 2000000 in
theorem lend_c (A : Option Addr) (c : Nat) (l : List S45) (w : World) (hr : Kd.C k45 w A l.length l) (hc : l.length ≤ c) (hsm : l.length ≤ 1048576) :
    Calls Try.prog 11 #[.slice A l.length c] w fun e w' => ∃ g c', e = .returned (.slice (some ⟨g, 0, none⟩) l.length c') ∧ l.length + 2 ≤ c' ∧ w'.ownsRow w.heap.size 45 5 (.slice (some ⟨g, 0, none⟩) (l.length + 2) c') (l.length + 2) (flat (l ++ [mk77, mo77])) ∧ Below w.heap.size w w' := by
  have HR := Lib.hid hr; clear hr
  go_enter Try.func11, Try.ntmps11
  go_wp2_with (first | ((with_reducible refine gate_dst (N := 7) rfl ?_); refine Kd.R_make k45 w.heap.size 45 rfl (N := 7) rfl 23 _ _ rfl ((l.length : Int) + 2) rfl rfl Try.underlying23 (.agg #[(.int .i64 0), (.int .u64 0), (.int .u64 0), (.int .u64 0), (.int .u64 0)]) 40 info45 rfl (by decide) (by omega) z45 (ok := fun _ => True) (okp := fun _ => True) (k45_mkM _ _ _ z45) (fun _ hk => hk) trivial (by omega) (by omega) (Below.refl _ _) (Nat.le_refl _) ?_; intro v1 w1 hR hb hg hnew; obtain ⟨g, c', inner, cur, hv, hc', hbg, hh, hsz, hown⟩ := made hR; subst hv; have HB1 := Lib.hid hb; have HH1 := Lib.hid hh; have HO1 := Lib.hid hown; have HI0 := Lib.hid hown.1; clear hR hb hg hnew hh hown) | ((with_reducible refine gate_dst (N := 10) rfl ?_); refine wpList_copy_many rfl (.tmp 8) (.tmp 9) 23 23 rfl 45 Try.underlying23 5 info45' g (l.length + 2) c' A l.length c rfl rfl cur 45 HH1.out (flat l) (by omega) (flat_len l) (fun h0 => flat_cells (Kd.C_below HR.out HB1.out) h0) (fun _ => by cases A <;> simp) (by rw [flat_len]; omega) (flat_one l) ?_; have HO2 := Lib.hid (own_copied HO1.out HH1.out (cs := flat l) (by rw [flat_len]; omega)); have HB2 := Lib.hid (below_setRow HB1.out hbg (flat l ++ cur.toList.drop (flat l).length).toArray); generalize w1.setRow g (flat l ++ cur.toList.drop (flat l).length).toArray = w2 at HO2 HB2 ⊢; clear HH1 HO1 HB1))
  obtain ⟨u0, u1, u2, u3, u4, f0, f1, f2, f3, f4⟩ := own_cells HO2.out (t := l.length) (by omega)
  have hf := fun j => World.ownsRow.frozenAt HO2.out j
  have hgl : g < w2.heap.size := ((Fr.told_own HO2.out).lt rfl).2.1
  have hz : (0 : Int) ≤ (l.length : Int) ∧ (l.length : Int) < ((l.length + 2 : Nat) : Int) := by omega
  have hz2 : (0 : Int) ≤ (l.length : Int) ∧ (l.length : Int) < (l.length : Int) + 2 := by omega
  refine (mark_c _).mono ?_
  rintro e w3 ⟨rfl, hb3⟩
  obtain ⟨hc1, hf1⟩ := Fr.bcell hb3
  have p0 := (hc1 _ _ hgl).trans f0
  have p1 := (hc1 _ _ hgl).trans f1
  have p2 := (hc1 _ _ hgl).trans f2
  have p3 := (hc1 _ _ hgl).trans f3
  have p4 := (hc1 _ _ hgl).trans f4
  have q0 := (hf1 _ _ hgl).trans (hf (l.length * 5))
  have q1 := (hf1 _ _ hgl).trans (hf (l.length * 5 + 1))
  have q2 := (hf1 _ _ hgl).trans (hf (l.length * 5 + 2))
  have q3 := (hf1 _ _ hgl).trans (hf (l.length * 5 + 3))
  have q4 := (hf1 _ _ hgl).trans (hf (l.length * 5 + 4))
  have HO3 := Lib.hid (Fr.setL_own (enc mk77) (l.length * 5) w3 _ (Fr.own_move HO2.out fun b hb => hb3.block b ((Fr.told_own HO2.out).lt hb).2.1))
  have HB3 := Lib.hid (HB2.out.trans (hb3.mono HB2.out.size))
  clear hc1 hf1 f0 f1 f2 f3 f4 hf
  unfold enc mk77
  go_wp2_with fail
  change Calls Try.prog 33 _ (Fr.setL g w3 (l.length * 5) (enc mk77)) _
  have HO4 := Lib.hid HO3.out.1
  have HB4 := Lib.hid (below_grown' HB3.out (Nat.le_trans (Nat.le_refl _) HB3.out.size) HO3.out.2 hbg)
  clear HO3 HB3 HO2 HB2 p0 p1 p2 p3 p4 q0 q1 q2 q3 q4 hb3
  generalize Fr.setL g w3 (l.length * 5) (enc mk77) = w4 at HO4 HB4 ⊢
  obtain ⟨u0, u1, u2, u3, u4, f0, f1, f2, f3, f4⟩ := own_cells HO4.out (t := l.length + 1) (by omega)
  have hf := fun j => World.ownsRow.frozenAt HO4.out j
  have hgl : g < w4.heap.size := ((Fr.told_own HO4.out).lt rfl).2.1
  have hz3 : (0 : Int) ≤ (l.length : Int) + 1 ∧ (l.length : Int) + 1 < (l.length : Int) + 2 := by omega
  refine (more_c _).mono ?_
  rintro e w5 ⟨rfl, hb3⟩
  obtain ⟨hc1, hf1⟩ := Fr.bcell hb3
  have p0 := (hc1 _ _ hgl).trans f0
  have p1 := (hc1 _ _ hgl).trans f1
  have p2 := (hc1 _ _ hgl).trans f2
  have p3 := (hc1 _ _ hgl).trans f3
  have p4 := (hc1 _ _ hgl).trans f4
  have q0 := (hf1 _ _ hgl).trans (hf ((l.length + 1) * 5))
  have q1 := (hf1 _ _ hgl).trans (hf ((l.length + 1) * 5 + 1))
  have q2 := (hf1 _ _ hgl).trans (hf ((l.length + 1) * 5 + 2))
  have q3 := (hf1 _ _ hgl).trans (hf ((l.length + 1) * 5 + 3))
  have q4 := (hf1 _ _ hgl).trans (hf ((l.length + 1) * 5 + 4))
  have HO5 := Lib.hid (Fr.setL_own (enc mo77) ((l.length + 1) * 5) w5 _ (Fr.own_move HO4.out fun b hb => hb3.block b ((Fr.told_own HO4.out).lt hb).2.1))
  have HB5 := Lib.hid (HB4.out.trans (hb3.mono HB4.out.size))
  have HI : inner.length = (l.length + 2) * 5 := HI0.out
  clear hc1 hf1 f0 f1 f2 f3 f4 hf
  unfold enc mo77
  have hroom : l.length ≤ c' := by omega
  go_wp2
  go_ret
  refine ⟨g, c', rfl, hc', ?_, below_grown' HB5.out (Nat.le_trans (Nat.le_refl _) HB5.out.size) HO5.out.2 hbg⟩
  have h := HO5.out.1
  rw [two_set l _ (by rw [List.length_drop, flat_len, HI]; omega)] at h
  exact h
end Go.Proofs.Ytflkgoggnomehaa.Ap
set_option linter.unusedVariables false
set_option linter.unusedSimpArgs false
namespace Go.Proofs.Ytflkgoggnomehaa
open Go.ChangeShapes Go.WideShapes Go.ChangeAt Go.RowKit Go.Proofs.YtflkgoggnomehaaW.PrintWords Go.Proofs.Ytflkgoggnomehaa.P
theorem add_add (a : Addr) (i j : Nat) : (a.add i).add j = a.add (i + j) := by
  unfold Addr.add
  by_cases h1 : i = 0 <;> by_cases h2 : j = 0 <;> simp [h1, h2, Nat.add_assoc]
structure PSl where
  A : Option Addr
  c : Nat
  l : List S45
def PSl.ok (w : World) (a : PSl) : Prop := Kd.C k45 w a.A a.l.length a.l ∧ a.l.length ≤ a.c ∧ ∀ x ∈ a.l, Pt.okC x.f1
theorem list5 {α : Type} (l : List α) (h : l.length = 5) : ∃ a b c d e, l = [a, b, c, d, e] := by
  match l, h with
  | [a, b, c, d, e], _ => exact ⟨a, b, c, d, e, rfl⟩
theorem cells_part : Try.prog.cellsOf 45 = 5 := by kernel_rfl
set_option maxRecDepth 100000 in
theorem part_cells {H : Type} {enc : TypeId × Value → H} {W : World} {base m : Nat} {spare : Nat → Bool} {held : Bool} {cs : List Value} {y : DataW H × List MemPlace} (h : DataW.trod enc Try.prog W base spare held m 45 cs = some y) : ∃ p : S45, cs = Ap.enc p ∧ Pt.okC p.f1 := by
  obtain ⟨xs, n, _, rfl, hlen, hl, hf⟩ := DataW.trod_struct Try.underlying45 h
  rw [cells_part] at hlen
  obtain ⟨c0, c1, c2, c3, c4, rfl⟩ := list5 cs hlen
  have k3 : Try.prog.cellsOf 3 = 1 := by kernel_rfl
  have g : ∀ i, i < 2 → ∃ z, xs[i]? = some z := fun i hi => ⟨_, List.getElem?_eq_getElem (by rw [hl]; exact hi)⟩
  obtain ⟨z0, e0⟩ := g 0 (by omega)
  obtain ⟨z1, e1⟩ := g 1 (by omega)
  have h0 := (hf 0 _ rfl).trans e0
  have h5 := (hf 1 _ rfl).trans e1
  obtain ⟨x0, q0, _, _⟩ := DataW.trod_int Try.underlying3 h0
  simp [k3] at q0
  subst q0
  simp [cells_cls] at h5
  obtain ⟨y0, y1, y2, y3, m, hx, hy0, hy1, hy2, hy3⟩ := trod_array4 Try.underlying43 cells_u64 h5
  obtain ⟨u0, f0, _, w0⟩ := DataW.trod_int Try.underlying41 hy0
  obtain ⟨u1, f1, _, w1⟩ := DataW.trod_int Try.underlying41 hy1
  obtain ⟨u2, f2, _, w2⟩ := DataW.trod_int Try.underlying41 hy2
  obtain ⟨u3, f3, _, w3⟩ := DataW.trod_int Try.underlying41 hy3
  simp at f0 f1 f2 f3
  subst f0 f1 f2 f3
  obtain ⟨n0, l0, rfl⟩ := nat_of_u64 w0
  obtain ⟨n1, l1, rfl⟩ := nat_of_u64 w1
  obtain ⟨n2, l2, rfl⟩ := nat_of_u64 w2
  obtain ⟨n3, l3, rfl⟩ := nat_of_u64 w3
  refine ⟨⟨x0, ⟨(n0 : Int), (n1 : Int), (n2 : Int), (n3 : Int)⟩⟩, rfl, ?_⟩
  unfold Pt.okC
  exact c4_ok (c := ⟨n0, n1, n2, n3⟩) ⟨l0, l1, l2, l3⟩
set_option maxRecDepth 100000 in
theorem open_pat {H : Type} {enc : TypeId × Value → H} {W : World} {base : Nat} {v : Value} {d : DataW H} {ps : List MemPlace} {ts : List TypeId} {ds : List (DataW H)}
    (hsz : (DataW.weightsEach Try.prog ts ds).all (· ≤ reachBytes) = true) {j : Nat} (hts : ts[j]? = some 24) (hds : ds[j]? = some d)
    (hv : Value.okWide Try.prog W .any base 24 v) (h : DataW.Trod enc Try.prog W 0 (fun _ => true) true 24 v d ps) : ∃ a : PSl, a.ok W ∧ v = .slice a.A a.l.length a.c := by
  obtain ⟨A, n, cap, rfl⟩ := okWide_slice Try.underlying24 hv
  obtain ⟨fuel, hf⟩ := h
  rcases DataW.trod_slice Try.underlying24 hf with ⟨hcs, hx⟩ | ⟨a, len, cap', elems, rest, m, _, hcs, hx, _, hl, hm, hlen, hel, _, _⟩
  · simp [Value.cells] at hcs
    obtain ⟨rfl, rfl, rfl⟩ := hcs
    exact ⟨⟨none, 0, []⟩, ⟨⟨rfl, by simp, fun h => by simp at h⟩, by simp, fun x hx => by cases hx⟩, rfl⟩
  · simp [Value.cells] at hcs
    obtain ⟨rfl, rfl, rfl⟩ := hcs
    have each : ∀ i, i < n → ∃ p : S45, Pt.okC p.f1 ∧ ∀ j u, (Ap.enc p)[j]? = some u → W.cell? (a.add (i * 5 + j)) = some u := by
      intro i hi
      have h1 := hel i hi
      rw [List.getElem?_eq_getElem (by omega), cells_part, Option.bind_eq_some_iff] at h1
      obtain ⟨cs, hcs, hy⟩ := h1
      have hs := World.cells?_some hcs
      obtain ⟨p, rfl, hp⟩ := part_cells hy
      refine ⟨p, hp, fun j u hu => ?_⟩
      have hj : j < 5 := by have := (List.getElem?_eq_some_iff.1 hu).1; exact this
      rw [← add_add, hs.2.2 j hj]
      exact hu
    let l : List S45 := List.ofFn fun i : Fin n => Classical.choose (each i.1 i.2)
    have hll : l.length = n := by simp [l]
    have hli : ∀ i (hi : i < n), ∀ j u, (Ap.enc (l[i]'(by omega)))[j]? = some u → W.cell? (a.add (i * 5 + j)) = some u := fun i hi => by
      have := (Classical.choose_spec (each i hi)).2
      simpa [l] using this
    have hlo : ∀ x ∈ l, Pt.okC x.f1 := fun x hx => by
      obtain ⟨i, hi, rfl⟩ := List.mem_iff_getElem.1 hx
      have q := (Classical.choose_spec (each i (by omega))).1
      simpa [l] using q
    refine ⟨⟨some a, cap, l⟩, ⟨⟨rfl, by simp only [maxLen] at hm; show l.length ≤ _; omega, fun _ => ⟨a, rfl, fun j p hp => ⟨Ap.enc p, rfl, k45_mk W p, fun i u hu => ?_⟩⟩⟩, by show l.length ≤ cap; omega, hlo⟩, by show Value.slice (some a) n cap = .slice (some a) l.length cap; rw [hll]⟩
    obtain ⟨hi, rfl⟩ := List.getElem?_eq_some_iff.1 hp
    exact hli j (by have q : j < l.length := hi; omega) i u hu
end Go.Proofs.Ytflkgoggnomehaa

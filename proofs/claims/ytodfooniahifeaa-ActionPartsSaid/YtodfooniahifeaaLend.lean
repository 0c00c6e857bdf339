/- A list is lent: the walk. -/
import Derived.Test.YtodfooniahifeaaPActionPartsx2
import Derived.Test.YtodfooniahifeaaPActionPartsx6
import Derived.Test.YtodfooniahifeaaFr1
import Derived.Laws.CopyRow
import Derived.Laws.CopyOwn
set_option linter.unusedVariables false
set_option linter.unusedSimpArgs false
namespace Go.Proofs.Ytodfooniahifeaa.Ap
open Go.RowKit Go.Proofs.YtodfooniahifeaaW.PrintWords Go.Proofs.YtodfooniahifeaaW.PrintLast Go.Proofs.YtodfooniahifeaaW.PrintMore Go.Proofs.Ytodfooniahifeaa.PActionParts
def enc (x : S33) : List Value := [.int .i64 x.f0, .int .i64 x.f1, .string x.f2, .string x.f3, .int .i64 x.f4.f0, .int .i64 x.f4.f1]
def flat (l : List S33) : List Value := l.flatMap enc
theorem flat_len : ∀ l : List S33, (flat l).length = l.length * 6
  | [] => rfl
  | x :: l => by show (enc x ++ flat l).length = _; rw [List.length_append, flat_len l]; simp [enc]; omega
theorem flat_at (l : List S33) : ∀ (j : Nat) (x : S33) (i : Nat), l[j]? = some x → i < 6 → (flat l)[j * 6 + i]? = (enc x)[i]? := by
  induction l with
  | nil => intro j x i h; simp at h
  | cons y l ih =>
    intro j x i h hi
    show (enc y ++ flat l)[_]? = _
    have hl : (enc y).length = 6 := rfl
    cases j with
    | zero =>
      obtain rfl : y = x := by simpa using h
      rw [List.getElem?_append_left (by omega)]; simp
    | succ j =>
      rw [List.getElem?_append_right (by omega), hl, show (j + 1) * 6 + i - 6 = j * 6 + i by omega]
      exact ih j x i (by simpa using h) hi
theorem flat_one (l : List S33) : ∀ u ∈ flat l, u.oneCell' = true := by
  intro u hu
  obtain ⟨x, _, hx⟩ := List.mem_flatMap.1 hu
  simp only [enc, List.mem_cons, List.not_mem_nil, or_false] at hx
  rcases hx with rfl | rfl | rfl | rfl | rfl | rfl <;> rfl
/-- A row read is its cells, one behind the other. -/
theorem flat_cells {w : World} {A : Option Addr} {l : List S33} (h : Kd.C k33 w A l.length l) (h0 : 0 < l.length) : ∃ ad, A = some ad ∧ ∀ j v, (flat l)[j]? = some v → w.cell? (ad.add j) = some v := by
  obtain ⟨ad, e, hc⟩ := h.2.2 h0
  refine ⟨ad, e, fun j v hv => ?_⟩
  have hj : j < (flat l).length := by
    rcases Nat.lt_or_ge j (flat l).length with q | q
    · exact q
    · rw [List.getElem?_eq_none q] at hv; cases hv
  rw [flat_len] at hj
  have hd : j / 6 < l.length := by omega
  obtain ⟨c, hcl, hK, hcc⟩ := hc (j / 6) l[j / 6] (List.getElem?_eq_getElem hd)
  obtain rfl := k33_open hK
  have q := flat_at l (j / 6) l[j / 6] (j % 6) (List.getElem?_eq_getElem hd) (Nat.mod_lt _ (by omega))
  have e1 : j / 6 * 6 + j % 6 = j := by omega
  rw [e1, hv] at q
  have := hcc (j % 6) v q.symm
  rwa [show j / 6 * k33.sz + j % 6 = j from e1] at this
/-- Cells that stand one behind the other are a row read. -/
theorem row_read {w : World} {g : Nat} {cs : Array Value} {t : TypeId} {fr : Nat × Nat} (l : List S33) (more : List Value) (hg : w.heap[g]? = some (.cells cs t fr)) (hcs : cs.toList = flat l ++ more) (hn : l.length ≤ 9223372036854775807) : Kd.C k33 w (some ⟨g, 0, none⟩) l.length l := by
  refine ⟨rfl, hn, fun _ => ⟨⟨g, 0, none⟩, rfl, fun j p hp => ⟨enc p, rfl, k33_mk w p, fun i u hu => ?_⟩⟩⟩
  have hi : i < 6 := by
    rcases Nat.lt_or_ge i 6 with q | q
    · exact q
    · rw [List.getElem?_eq_none (by simp [enc]; omega)] at hu; cases hu
  have hj : j < l.length := by
    rcases Nat.lt_or_ge j l.length with q | q
    · exact q
    · rw [List.getElem?_eq_none q] at hp; cases hp
  have e : ((⟨g, 0, none⟩ : Addr).add (j * k33.sz + i)) = ⟨g, j * 6 + i, none⟩ := by show (⟨g, 0, none⟩ : Addr).add (j * 6 + i) = _; unfold Addr.add; split <;> simp_all
  rw [e, cell_of_row w g _ cs t fr hg, ← hu, ← flat_at l j p i hp hi, ← Array.getElem?_toList, hcs, List.getElem?_append_left (by rw [flat_len]; omega)]
/-- copy(v, y) over elements of more than one cell. -/
theorem wpList_copy_many {P : Program} {w : World} {ops : Array Oper} {rest : List Oper} {o : Oper} {a : Act} {Q : Exit → Act → World → Prop} (hgd : o.guard = none) (d s : Operand) (dT sT : TypeId)
    (ho : o.op = .call { callee := .builtin .copy, args := #[d, s], argTypes := #[dT, sT] }) (elem : TypeId) (hu : P.underlying dT = some (.slice elem)) (size : Nat) (hsz : (P.info? elem).map (·.size) = some size)
    (g dLen dCap : Nat) (A : Option Addr) (sLen sCap : Nat) (hd : a.eval d = .slice (some ⟨g, 0, none⟩) dLen dCap) (hs : a.eval s = .slice A sLen sCap)
    (cur : Array Value) (t : TypeId) (hg : w.heap[g]? = some (.cells cur t (0, 0))) (cs : List Value) (hle : sLen ≤ dLen) (hn : cs.length = sLen * size)
    (hsrc : 0 < sLen → ∃ ad, A = some ad ∧ ∀ j v, cs[j]? = some v → w.cell? (ad.add j) = some v) (hA : sLen = 0 → A = none ∨ ∃ ad, A = some ad) (hfit : cs.length ≤ cur.size) (h1 : ∀ v ∈ cs, v.oneCell' = true)
    (h : wpList P ops Q rest (a.put o.dst (goInt sLen)) (w.setRow g (cs ++ cur.toList.drop cs.length).toArray)) : wpList P ops Q (o :: rest) a w := by
  refine wpList_plain hgd fun K hK => ?_
  have hmin : Nat.min sLen dLen = sLen := Nat.min_eq_left hle
  have hst := run_storeCells_at P g 0 t cs 0 cur w hg (by simpa using hfit) h1
  have hrun : (Builtin.copy_ #[dT, sT] o.type #[.slice (some ⟨g, 0, none⟩) dLen dCap, .slice A sLen sCap]).run P w = .ok (goInt sLen) (w.setRow g (cs ++ cur.toList.drop cs.length).toArray) := by
    cases hq : P.info? elem with
    | none => simp [hq] at hsz
    | some i =>
      have hi : i.size = size := by simpa [hq] using hsz
      by_cases h0 : 0 < sLen
      · obtain ⟨ad, rfl, hc⟩ := hsrc h0
        have hl := run_loadCells_list (P := P) w ad cs hc
        rw [hn] at hl
        simp [Builtin.copy_, run_underlying hu, Builtin.lenOf, Builtin.firstCells, sizeOf, typeInfo, hq, hi, hmin, hl, hst]
      · obtain rfl : sLen = 0 := by omega
        obtain rfl : cs = [] := List.eq_nil_of_length_eq_zero (by simpa using hn)
        have hl : ∀ (x : Addr), (loadCells x 0).run P w = .ok #[] w := fun x => by simpa using run_loadCells_list (P := P) w x [] (by simp)
        cases A <;> simp [Builtin.copy_, run_underlying hu, Builtin.lenOf, Builtin.firstCells, sizeOf, typeInfo, hq, hi, storeCells, hl, setRow_self w g cur t (0, 0) hg]
  unfold Oper.wp
  simp [execOp, ho, resolve, invoke, builtin, hd, hs, hrun, Result.andThen]
  exact hK _ _ h

def mk77 : S33 := ⟨-78, 0, ⟨#[]⟩, ⟨#[]⟩, ⟨0, 0⟩⟩
def mo77 : S33 := ⟨-100077, 0, ⟨#[]⟩, ⟨#[]⟩, ⟨0, 0⟩⟩
theorem row_owned {w : World} {B g c m : Nat} (l : List S33) (more xs : List Value) (h : w.ownsRow B 33 6 (.slice (some ⟨g, 0, none⟩) m c) m xs) (hx : xs = flat l ++ more) (hm : l.length ≤ m) (hn : l.length ≤ 9223372036854775807) : Kd.C k33 w (some ⟨g, 0, none⟩) l.length l := by
  refine ⟨rfl, hn, fun _ => ⟨⟨g, 0, none⟩, rfl, fun j p hp => ⟨enc p, rfl, k33_mk w p, fun i u hu => ?_⟩⟩⟩
  have hi : i < 6 := by
    rcases Nat.lt_or_ge i 6 with q | q
    · exact q
    · rw [List.getElem?_eq_none (by simp [enc]; omega)] at hu; cases hu
  have hj : j < l.length := by
    rcases Nat.lt_or_ge j l.length with q | q
    · exact q
    · rw [List.getElem?_eq_none q] at hp; cases hp
  have e : ((⟨g, 0, none⟩ : Addr).add (j * k33.sz + i)) = ⟨g, j * 6 + i, none⟩ := by show (⟨g, 0, none⟩ : Addr).add (j * 6 + i) = _; unfold Addr.add; split <;> simp_all
  rw [e, World.ownsRow.cellAt h _ (by omega), ← hu, ← flat_at l j p i hp hi, hx, List.getElem?_append_left (by rw [flat_len]; omega)]
theorem own_copied {W : World} {B e size n g c : Nat} {xs cs : List Value} {cur : Array Value} (h : W.ownsRow B e size (.slice (some ⟨g, 0, none⟩) n c) n xs) (hg : W.heap[g]? = some (.cells cur e (0, 0))) (hc : cs.length ≤ n * size) :
    (W.setRow g (cs ++ cur.toList.drop cs.length).toArray).ownsRow B e size (.slice (some ⟨g, 0, none⟩) n c) n (cs ++ xs.drop cs.length) := by
  have h1 := h.1
  refine ⟨by simp; omega, .inr ?_⟩
  rcases h.2 with ⟨q, _⟩ | ⟨g', cap, cur', hv, hb, hh, r1, r2, r3, r4⟩
  · cases q
  · injection hv with hv1 _ hv3
    obtain rfl : g = g' := by simpa using hv1
    subst hv3
    rw [hg] at hh
    cases hh
    have hcs : n * size ≤ cur.size := by rw [r3]; exact Nat.mul_le_mul_right _ r1
    refine ⟨g, c, _, rfl, hb, setRow_heap W g cur _ e (0, 0) hg, r1, r2, ?_, ?_⟩
    · simp; omega
    · rw [List.take_append, List.take_of_length_le hc, List.take_drop, ← r4]
      congr 1
      rw [show cs.length + (n * size - cs.length) = n * size by omega]

theorem mark_c (w : World) : Calls Try.prog 16 #[.int .i64 77] w fun e w' => e = .returned (.agg (enc mk77).toArray) ∧ Below w.heap.size w w' := by
  refine (dowelbook_actsMark.calls 77 (-78) 0 ⟨#[]⟩ ⟨#[]⟩ 0 0 w (by kernel_rfl)).mono ?_
  rintro e w' ⟨h1, h2⟩
  exact ⟨h1, h2⟩
theorem more_c (w : World) : Calls Try.prog 17 #[.int .i64 77] w fun e w' => e = .returned (.agg (enc mo77).toArray) ∧ Below w.heap.size w w' := by
  refine (dowelbook_actsMore.calls 77 (-100077) 0 ⟨#[]⟩ ⟨#[]⟩ 0 0 w (by kernel_rfl)).mono ?_
  rintro e w' ⟨h1, h2⟩
  exact ⟨h1, h2⟩
theorem info33' : (Try.prog.info? 33).map (·.size) = some 6 := by kernel_rfl
theorem own_cells {W : World} {B g n c t : Nat} {xs : List Value} (h : W.ownsRow B 33 6 (.slice (some ⟨g, 0, none⟩) n c) n xs) (ht : t < n) : ∃ u0 u1 u2 u3 u4 u5 : Value,
    (W.cell? ⟨g, t * 6, none⟩ = some u0 ∧ W.cell? ⟨g, t * 6 + 1, none⟩ = some u1 ∧ W.cell? ⟨g, t * 6 + 2, none⟩ = some u2 ∧ W.cell? ⟨g, t * 6 + 3, none⟩ = some u3 ∧ W.cell? ⟨g, t * 6 + 4, none⟩ = some u4 ∧ W.cell? ⟨g, t * 6 + 5, none⟩ = some u5) := by
  have hl := h.1
  have hk : ∀ j, j < 6 → ∃ u, W.cell? ⟨g, t * 6 + j, none⟩ = some u := fun j hj => by
    have hlt : t * 6 + j < n * 6 := by omega
    exact ⟨xs[t * 6 + j]'(by omega), by rw [World.ownsRow.cellAt h _ hlt, List.getElem?_eq_getElem]⟩
  obtain ⟨u0, h0⟩ := hk 0 (by omega); obtain ⟨u1, h1⟩ := hk 1 (by omega); obtain ⟨u2, h2⟩ := hk 2 (by omega); obtain ⟨u3, h3⟩ := hk 3 (by omega); obtain ⟨u4, h4⟩ := hk 4 (by omega); obtain ⟨u5, h5⟩ := hk 5 (by omega)
  exact ⟨u0, u1, u2, u3, u4, u5, h0, h1, h2, h3, h4, h5⟩
theorem below_grown' {B : Nat} {w0 w1 w2 : World} {g : Nat} (hb : Below B w0 w1) (hB : B ≤ w1.heap.size) (h : w1.grownBy w2 (some g)) (hg : B ≤ g) : Below B w0 w2 :=
  ⟨h.os.trans hb.os, h.tape.trans hb.tape, h.output.trans hb.output, Nat.le_trans hb.size h.size, fun k hk => (h.block k (by omega) (by simp; omega)).trans (hb.block k hk)⟩
theorem two_set (l : List S33) (R : List Value) (hR : R.length = 12) : Fr.setList (Fr.setList (flat l ++ R) (l.length * 6) (enc mk77)) ((l.length + 1) * 6) (enc mo77) = flat (l ++ [mk77, mo77]) := by
  have e1 : R = R.take 6 ++ R.drop 6 := (List.take_append_drop 6 R).symm
  have e2 : (R.drop 6).length = 6 := by simp [hR]
  have e3 : (R.take 6).length = 6 := by simp [hR]
  generalize R.take 6 = R1 at e1 e3
  generalize R.drop 6 = R2 at e1 e2
  subst e1
  rw [Fr.setList_mid _ _ _ _ _ (flat_len l).symm (by rw [e3]; rfl), ← List.append_assoc, ← List.append_nil R2, Fr.setList_mid _ _ _ _ _ (by rw [List.length_append, flat_len]; show _ = l.length * 6 + 6; omega) (by rw [e2]; rfl)]
  unfold flat
  simp
theorem made {w1 : World} {base n : Nat} {ok : Nat → Prop} {v1 : Value} (h : Kd.R k33 33 w1 base ok v1 (List.replicate ((n : Int) + 2).toNat z33)) :
    ∃ g c' inner cur, v1 = .slice (some ⟨g, 0, none⟩) (n + 2) c' ∧ n + 2 ≤ c' ∧ base ≤ g ∧ w1.heap[g]? = some (.cells cur 33 (0, 0)) ∧ (n + 2) * 6 ≤ cur.size ∧ w1.ownsRow base 33 6 (.slice (some ⟨g, 0, none⟩) (n + 2) c') (n + 2) inner := by
  obtain ⟨_, inner, ho, _⟩ := h
  have e : (List.replicate ((n : Int) + 2).toNat z33).length = n + 2 := by rw [List.length_replicate]; omega
  rw [e] at ho
  rcases ho.2 with ⟨_, q⟩ | ⟨g, cap, cur, rfl, hb, hh, r1, r2, r3, r4⟩
  · omega
  · exact ⟨g, cap, inner, cur, rfl, r1, hb, hh, by rw [r3]; exact Nat.mul_le_mul_right _ r1, ho⟩
set_option maxRecDepth 100000 in
set_option maxHeartbeats 2000000 in
theorem lend_c (A : Option Addr) (c : Nat) (l : List S33) (w : World) (hr : Kd.C k33 w A l.length l) (hc : l.length ≤ c) (hsm : l.length ≤ 1048576) :
    Calls Try.prog 6 #[.slice A l.length c] w fun e w' => ∃ g c', e = .returned (.slice (some ⟨g, 0, none⟩) l.length c') ∧ l.length + 2 ≤ c' ∧ w'.ownsRow w.heap.size 33 6 (.slice (some ⟨g, 0, none⟩) (l.length + 2) c') (l.length + 2) (flat (l ++ [mk77, mo77])) ∧ Below w.heap.size w w' := by
  have HR := Lib.hid hr; clear hr
  go_enter Try.func6, Try.ntmps6
  go_wp2_with (first | ((with_reducible refine gate_dst (N := 7) rfl ?_); refine Kd.R_make k33 w.heap.size 33 rfl (N := 7) rfl 22 _ _ rfl ((l.length : Int) + 2) rfl rfl Try.underlying22 (.agg #[(.int .i64 0), (.int .i64 0), (.string ⟨#[]⟩), (.string ⟨#[]⟩), (.int .i64 0), (.int .i64 0)]) 64 info33 rfl (by decide) (by omega) z33 (ok := fun _ => True) (okp := fun _ => True) (k33_mkM _ _ _ z33) (fun _ hk => hk) trivial (by omega) (by omega) (Below.refl _ _) (Nat.le_refl _) ?_; intro v1 w1 hR hb hg hnew; obtain ⟨g, c', inner, cur, hv, hc', hbg, hh, hsz, hown⟩ := made hR; subst hv; have HB1 := Lib.hid hb; have HH1 := Lib.hid hh; have HO1 := Lib.hid hown; have HI0 := Lib.hid hown.1; clear hR hb hg hnew hh hown) | ((with_reducible refine gate_dst (N := 10) rfl ?_); refine wpList_copy_many rfl (.tmp 8) (.tmp 9) 22 22 rfl 33 Try.underlying22 6 info33' g (l.length + 2) c' A l.length c rfl rfl cur 33 HH1.out (flat l) (by omega) (flat_len l) (fun h0 => flat_cells (Kd.C_below HR.out HB1.out) h0) (fun _ => by cases A <;> simp) (by rw [flat_len]; omega) (flat_one l) ?_; have HO2 := Lib.hid (own_copied HO1.out HH1.out (cs := flat l) (by rw [flat_len]; omega)); have HB2 := Lib.hid (below_setRow HB1.out hbg (flat l ++ cur.toList.drop (flat l).length).toArray); generalize w1.setRow g (flat l ++ cur.toList.drop (flat l).length).toArray = w2 at HO2 HB2 ⊢; clear HH1 HO1 HB1))
  obtain ⟨u0, u1, u2, u3, u4, u5, f0, f1, f2, f3, f4, f5⟩ := own_cells HO2.out (t := l.length) (by omega)
  have hf := fun j => World.ownsRow.frozenAt HO2.out j
  have hgl : g < w2.heap.size := ((Fr.told_own HO2.out).lt rfl).2.1
  have hz : (0 : Int) ≤ (l.length : Int) ∧ (l.length : Int) < ((l.length + 2 : Nat) : Int) := by omega
  have hz2 : (0 : Int) ≤ (l.length : Int) ∧ (l.length : Int) < (l.length : Int) + 2 := by omega
  refine (mark_c _).mono ?_
  rintro e w3 ⟨rfl, hb3⟩
  obtain ⟨hc1, hf1⟩ := Fr.bcell hb3
  have p0 := (hc1 _ _ hgl).trans f0
  have p1 := (hc1 _ _ hgl).trans f1
  have p2 := (hc1 _ _ hgl).trans f2
  have p3 := (hc1 _ _ hgl).trans f3
  have p4 := (hc1 _ _ hgl).trans f4
  have p5 := (hc1 _ _ hgl).trans f5
  have q0 := (hf1 _ _ hgl).trans (hf (l.length * 6))
  have q1 := (hf1 _ _ hgl).trans (hf (l.length * 6 + 1))
  have q2 := (hf1 _ _ hgl).trans (hf (l.length * 6 + 2))
  have q3 := (hf1 _ _ hgl).trans (hf (l.length * 6 + 3))
  have q4 := (hf1 _ _ hgl).trans (hf (l.length * 6 + 4))
  have q5 := (hf1 _ _ hgl).trans (hf (l.length * 6 + 5))
  have HO3 := Lib.hid (Fr.setL_own (enc mk77) (l.length * 6) w3 _ (Fr.own_move HO2.out fun b hb => hb3.block b ((Fr.told_own HO2.out).lt hb).2.1))
  have HB3 := Lib.hid (HB2.out.trans (hb3.mono HB2.out.size))
  clear hc1 hf1 f0 f1 f2 f3 f4 f5 hf
  unfold enc mk77
  go_wp2_with fail
  change Calls Try.prog 17 _ (Fr.setL g w3 (l.length * 6) (enc mk77)) _
  have HO4 := Lib.hid HO3.out.1
  have HB4 := Lib.hid (below_grown' HB3.out (Nat.le_trans (Nat.le_refl _) HB3.out.size) HO3.out.2 hbg)
  clear HO3 HB3 HO2 HB2 p0 p1 p2 p3 p4 p5 q0 q1 q2 q3 q4 q5 hb3
  generalize Fr.setL g w3 (l.length * 6) (enc mk77) = w4 at HO4 HB4 ⊢
  obtain ⟨u0, u1, u2, u3, u4, u5, f0, f1, f2, f3, f4, f5⟩ := own_cells HO4.out (t := l.length + 1) (by omega)
  have hf := fun j => World.ownsRow.frozenAt HO4.out j
  have hgl : g < w4.heap.size := ((Fr.told_own HO4.out).lt rfl).2.1
  have hz3 : (0 : Int) ≤ (l.length : Int) + 1 ∧ (l.length : Int) + 1 < (l.length : Int) + 2 := by omega
  refine (more_c _).mono ?_
  rintro e w5 ⟨rfl, hb3⟩
  obtain ⟨hc1, hf1⟩ := Fr.bcell hb3
  have p0 := (hc1 _ _ hgl).trans f0
  have p1 := (hc1 _ _ hgl).trans f1
  have p2 := (hc1 _ _ hgl).trans f2
  have p3 := (hc1 _ _ hgl).trans f3
  have p4 := (hc1 _ _ hgl).trans f4
  have p5 := (hc1 _ _ hgl).trans f5
  have q0 := (hf1 _ _ hgl).trans (hf ((l.length + 1) * 6))
  have q1 := (hf1 _ _ hgl).trans (hf ((l.length + 1) * 6 + 1))
  have q2 := (hf1 _ _ hgl).trans (hf ((l.length + 1) * 6 + 2))
  have q3 := (hf1 _ _ hgl).trans (hf ((l.length + 1) * 6 + 3))
  have q4 := (hf1 _ _ hgl).trans (hf ((l.length + 1) * 6 + 4))
  have q5 := (hf1 _ _ hgl).trans (hf ((l.length + 1) * 6 + 5))
  have HO5 := Lib.hid (Fr.setL_own (enc mo77) ((l.length + 1) * 6) w5 _ (Fr.own_move HO4.out fun b hb => hb3.block b ((Fr.told_own HO4.out).lt hb).2.1))
  have HB5 := Lib.hid (HB4.out.trans (hb3.mono HB4.out.size))
  have HI : inner.length = (l.length + 2) * 6 := HI0.out
  clear hc1 hf1 f0 f1 f2 f3 f4 f5 hf
  unfold enc mo77
  have hroom : l.length ≤ c' := by omega
  go_wp2
  go_ret
  refine ⟨g, c', rfl, hc', ?_, below_grown' HB5.out (Nat.le_trans (Nat.le_refl _) HB5.out.size) HO5.out.2 hbg⟩
  have h := HO5.out.1
  rw [two_set l _ (by rw [List.length_drop, flat_len, HI]; omega)] at h
  exact h
end Go.Proofs.Ytodfooniahifeaa.Ap

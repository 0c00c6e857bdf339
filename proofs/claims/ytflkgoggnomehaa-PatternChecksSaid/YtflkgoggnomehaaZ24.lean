import Derived.Lib.AppendStr
import Derived.Lib.BufferWrite
import Derived.Test.YtflkgoggnomehaaZ0
import Derived.Test.YtflkgoggnomehaaZ1
import Derived.Test.YtflkgoggnomehaaZ14
import Derived.Test.YtflkgoggnomehaaZ16
import Derived.Test.YtflkgoggnomehaaZ18
import Derived.Test.YtflkgoggnomehaaZ20
import Derived.Test.YtflkgoggnomehaaZ23
set_option linter.unusedVariables false
set_option linter.unusedSimpArgs false
namespace Go.Proofs.Ytflkgoggnomehaa.Pt
open Go.RowKit Go.Proofs.Ytflkgoggnomehaa Go.Proofs.YtflkgoggnomehaaW.PrintWords Go.Proofs.YtflkgoggnomehaaW.PrintLast Go.Proofs.YtflkgoggnomehaaW.PrintMore Go.Proofs.Ytflkgoggnomehaa.P Go.Proofs.Ytflkgoggnomehaa.Pp
theorem inR_row (a : RT) : dowelref22_in.f a.top true true = some (a.row : Int) := by
  cases a <;> rfl
theorem inR_alt (a : RT) : dowelref22_in.f a.top false true = some (a.isAlt : Int) := by
  cases a <;> rfl
/-- A tree ends at each node of a tree. -/
theorem ends_at {p : List S45} {t : RT} (hr : run p [] = some [t]) {i : Nat} (hi : i < p.length) : ∃ (ti : RT) (pre : List S45), p.take (i + 1) = pre ++ ti.enc := by
  have h1 : run (p.take (i + 1) ++ p.drop (i + 1)) [] = some [t] := by rw [List.take_append_drop]; exact hr
  rw [run_app] at h1
  cases hs : run (p.take (i + 1)) [] with
  | none => rw [hs] at h1; cases h1
  | some st =>
    have he := run_encs _ _ _ hs
    rw [show encs_ [] = [] from rfl, List.nil_append] at he
    match st, he with
    | [], he =>
      have := congrArg List.length he
      rw [List.length_take] at this
      simp only [encs_, List.length_nil] at this
      omega
    | a :: r, he => exact ⟨a, encs_ r, he.symm⟩
/-- What is laid so far. -/
structure DRow (p : List S45) (i : Nat) (D : List Int) : Prop where
  len : D.length = p.length
  done : ∀ j, j < i → ∃ (tj : RT) (pre : List S45), p.take (j + 1) = pre ++ tj.enc ∧ D.getD j 0 = (tj.dep : Int)
  rest : ∀ j, i ≤ j → D.getD j 0 = 0
theorem DRow.at {p : List S45} {i : Nat} {D : List Int} (h : DRow p i D) {j : Nat} (hj : j < i) {a : RT} {pre : List S45} (ha : p.take (j + 1) = pre ++ a.enc) : D.getD j 0 = (a.dep : Int) := by
  obtain ⟨tj, pre', h1, h2⟩ := h.done j hj
  rw [ha] at h1
  rw [h2, (enc_inj a tj _ _ h1).2]
theorem getD_set_ne (D : List Int) (i j : Nat) (v : Int) (h : i ≠ j) : (D.set i v).getD j 0 = D.getD j 0 := by
  rw [List.getD_eq_getElem?_getD, List.getD_eq_getElem?_getD, List.getElem?_set_ne h]
theorem DRow.set {p : List S45} {i : Nat} {D : List Int} (h : DRow p i D) (hi : i < p.length) {a : RT} {pre : List S45} (ha : p.take (i + 1) = pre ++ a.enc) (v : Int) (hv : v = (a.dep : Int)) : DRow p (i + 1) (D.set i v) := by
  refine ⟨by rw [List.length_set]; exact h.len, fun j hj => ?_, fun j hj => ?_⟩
  · rcases Nat.lt_or_ge j i with q | q
    · obtain ⟨tj, pre', h1, h2⟩ := h.done j q
      exact ⟨tj, pre', h1, by rw [getD_set_ne D i j v (by omega), h2]⟩
    · obtain rfl : j = i := by omega
      refine ⟨a, pre, ha, ?_⟩
      rw [List.getD_eq_getElem?_getD, List.getElem?_set_self (by rw [h.len]; exact hi), hv]
      rfl
  · rw [getD_set_ne D i j v (by omega)]
    exact h.rest j (by omega)
theorem DRow.skip {p : List S45} {i : Nat} {D : List Int} (h : DRow p i D) {a : RT} {pre : List S45} (ha : p.take (i + 1) = pre ++ a.enc) (hv : a.dep = 0) : DRow p (i + 1) D := by
  refine ⟨h.len, fun j hj => ?_, fun j hj => h.rest j (by omega)⟩
  rcases Nat.lt_or_ge j i with q | q
  · exact h.done j q
  · obtain rfl : j = i := by omega
    exact ⟨a, pre, ha, by rw [h.rest j (Nat.le_refl _), hv]; rfl⟩
theorem rd_nat (D : List Int) (j : Nat) : rd D (j : Int) = D.getD j 0 := by unfold rd; rw [Int.toNat_natCast]
theorem rdL (p : List S45) {i : Nat} (hi : i < p.length) : Q16 (upL p p.length) (i : Int) = Lx p i := by
  unfold Q16
  rw [Int.toNat_natCast]
  exact (up_at p p.length (Nat.le_refl _) i hi).2
theorem dep_small {p : List S45} (hp : p.length ≤ 4096) {j : Nat} {a : RT} {pre : List S45} (ha : p.take (j + 1) = pre ++ a.enc) : a.dep ≤ 4096 := by
  have h := congrArg List.length ha
  have := a.dep_le
  rw [List.length_take, List.length_append, a.len] at h
  omega
set_option maxHeartbeats 2000000 in
theorem depths_l0 (p : List S45) (hp : p.length ≤ 4096) (t : RT) (hr : run p [] = some [t]) : ∀ (d i k : Nat) (D : List Int), p.length - i = d → i ≤ p.length → DRow p i D → d < k → ∃ D', dowelref22_Depths.l0 k p (upL p p.length) D (i : Int) = some D' ∧ DRow p p.length D'
  | 0, i, k, D, hd, hi, hD, hk => by
    obtain ⟨k, rfl⟩ : ∃ m, k = m + 1 := ⟨k - 1, by omega⟩
    obtain rfl : i = p.length := by omega
    exact ⟨D, by rw [dowelref22_Depths.l0, if_neg (by omega)], hD⟩
  | d + 1, i, k, D, hd, hi, hD, hk => by
    obtain ⟨k, rfl⟩ : ∃ m, k = m + 1 := ⟨k - 1, by omega⟩
    have hlt : i < p.length := by omega
    obtain ⟨ti, pre, hti⟩ := ends_at hr hlt
    obtain ⟨g1, g2, g3⟩ := sub_at p ti i pre.length pre hlt rfl hti
    have hbody := (last_of hlt hti).2
    have hLl := upL_len p p.length (Nat.le_refl _)
    have hDl := hD.len
    have hds := dep_small hp hti
    have htop := g3.top
    have c1 : (i : Int) < (p.length : Int) := by omega
    have c2 : (0 : Int) ≤ (i : Int) := by omega
    have c3 : (i : Int) < ((upL p p.length).length : Int) := by omega
    have c4 : (i : Int) < (D.length : Int) := by omega
    have next := fun (D2 : List Int) (h2 : DRow p (i + 1) D2) => depths_l0 p hp t hr d (i + 1) k D2 (by omega) (by omega) h2 (by omega)
    have w2 : wrap64 ((i : Int) + 1) = ((i + 1 : Nat) : Int) := by rw [wr (by omega) (by omega)]; omega
    rw [dowelref22_Depths.l0, if_pos c1, if_pos c2, if_pos c3, rdL p hlt, w2, Int.toNat_natCast]
    clear w2
    show ∃ D', (if (nod p i).f0 = 1 then _ else _) = some D' ∧ _
    rw [htop]
    cases ti with
    | none =>
      rw [if_neg (show ¬ RT.none.top = 1 by decide), if_neg (show ¬ RT.none.top = 5 by decide), if_neg (show ¬ RT.none.top = 3 by decide), if_neg (show ¬ RT.none.top = 4 by decide)]
      exact next D (hD.skip hti rfl)
    | empty =>
      rw [if_pos (show RT.empty.top = 1 from rfl), if_pos c4]
      exact next _ (hD.set hlt hti 1 rfl)
    | cls c =>
      rw [show (RT.cls c).top = 2 from rfl, if_neg (show ¬ (2 : Int) = 1 by decide), if_neg (show ¬ (2 : Int) = 5 by decide), if_neg (show ¬ (2 : Int) = 3 by decide), if_neg (show ¬ (2 : Int) = 4 by decide)]
      exact next D (hD.skip hti rfl)
    | star a =>
      obtain ⟨a1, a2, a3, a4⟩ := g3
      obtain ⟨i1, rfl⟩ : ∃ i1, i = i1 + 1 := ⟨i - 1, by omega⟩
      have ha : p.take (i1 + 1) = pre ++ a.enc := hbody
      have hda := hD.at (j := i1) (by omega) ha
      have e0 : ((i1 + 1 : Nat) : Int) - 1 = (i1 : Int) := by omega
      have hat : (Q13 p (i1 : Int)).f0 = a.top := by have := a4.top; rw [Nat.add_sub_cancel] at this; exact this
      have hsm : a.dep + a.row ≤ 4096 := hds
      rw [show (RT.star a).top = 5 from rfl, if_neg (show ¬ (5 : Int) = 1 by decide), if_pos (show (5 : Int) = 5 by rfl), a2]
      dsimp only
      rw [e0, if_pos (show (0 : Int) ≤ (i1 : Int) by omega), if_pos (show (i1 : Int) < (D.length : Int) by omega), if_pos (show (i1 : Int) < (p.length : Int) by omega), hat, inR_row, Option.bind_some, if_pos c4, rd_nat, hda]
      exact next _ (hD.set hlt hti _ (by rw [wr (by omega) (by omega)]; show (a.dep : Int) + (a.row : Int) = ((a.dep + a.row : Nat) : Int); omega))
    | seq a b =>
      obtain ⟨a1, a2, a3, a4, a5⟩ := g3
      have hpa := a.pos
      obtain ⟨i1, rfl⟩ : ∃ i1, i = i1 + 1 := ⟨i - 1, by omega⟩
      rw [Nat.add_sub_cancel] at a2 a4 a5
      have hb : p.take (i1 + 1) = (pre ++ a.enc) ++ b.enc := by rw [hbody, List.append_assoc]; rfl
      have hdb := hD.at (j := i1) (by omega) hb
      have hl := congrArg List.length hb
      rw [List.length_take, List.length_append, List.length_append, a.len, b.len] at hl
      have ha : p.take (i1 - b.size + 1) = pre ++ a.enc := by
        have h5 : (p.take (i1 + 1)).take (i1 - b.size + 1) = p.take (i1 - b.size + 1) := by rw [List.take_take]; congr 1; omega
        rw [← h5, hb, List.take_append_of_le_length (by rw [List.length_append, a.len]; omega), List.take_of_length_le (by rw [List.length_append, a.len]; omega)]
      have hda := hD.at (j := i1 - b.size) (by omega) ha
      have e0 : ((i1 + 1 : Nat) : Int) - 1 = (i1 : Int) := by omega
      have hat : (Q13 p ((i1 - b.size : Nat) : Int)).f0 = a.top := a4.top
      have hbt : (Q13 p (i1 : Int)).f0 = b.top := a5.top
      have hsm : max (a.dep + a.row) (b.dep + b.isAlt) ≤ 4096 := hds
      have hs1 : a.dep + a.row ≤ 4096 := by omega
      have hs2 : b.dep + b.isAlt ≤ 4096 := by omega
      have x1 : (0 : Int) ≤ ((i1 - b.size : Nat) : Int) := by omega
      have x2 : ((i1 - b.size : Nat) : Int) < (D.length : Int) := by omega
      have x3 : ((i1 - b.size : Nat) : Int) < (p.length : Int) := by omega
      have y1 : (0 : Int) ≤ (i1 : Int) := by omega
      have y2 : (i1 : Int) < (D.length : Int) := by omega
      have y3 : (i1 : Int) < (p.length : Int) := by omega
      rw [show (RT.seq a b).top = 3 from rfl, if_neg (show ¬ (3 : Int) = 1 by decide), if_neg (show ¬ (3 : Int) = 5 by decide), if_pos (show (3 : Int) = 3 by rfl), a2]
      dsimp only
      rw [e0, if_pos x1, if_pos x2, if_pos x3, hat, inR_row, Option.bind_some, if_pos y1, if_pos y2, if_pos y3, hbt, inR_alt, Option.bind_some, if_pos c4, rd_nat, rd_nat, hda, hdb]
      refine next _ (hD.set hlt hti _ ?_)
      rw [wr (by omega) (by omega), wr (by omega) (by omega), ← Int.natCast_add, ← Int.natCast_add, show mx ((a.dep + a.row : Nat) : Int) ((b.dep + b.isAlt : Nat) : Int) = ((max (a.dep + a.row) (b.dep + b.isAlt) : Nat) : Int) by unfold mx; split <;> omega]
      rfl
    | alt a b =>
      obtain ⟨a1, a2, a3, a4, a5⟩ := g3
      have hpa := a.pos
      obtain ⟨i1, rfl⟩ : ∃ i1, i = i1 + 1 := ⟨i - 1, by omega⟩
      rw [Nat.add_sub_cancel] at a2 a4 a5
      have hb : p.take (i1 + 1) = (pre ++ a.enc) ++ b.enc := by rw [hbody, List.append_assoc]; rfl
      have hdb := hD.at (j := i1) (by omega) hb
      have hl := congrArg List.length hb
      rw [List.length_take, List.length_append, List.length_append, a.len, b.len] at hl
      have ha : p.take (i1 - b.size + 1) = pre ++ a.enc := by
        have h5 : (p.take (i1 + 1)).take (i1 - b.size + 1) = p.take (i1 - b.size + 1) := by rw [List.take_take]; congr 1; omega
        rw [← h5, hb, List.take_append_of_le_length (by rw [List.length_append, a.len]; omega), List.take_of_length_le (by rw [List.length_append, a.len]; omega)]
      have hda := hD.at (j := i1 - b.size) (by omega) ha
      have e0 : ((i1 + 1 : Nat) : Int) - 1 = (i1 : Int) := by omega
      have hat : (Q13 p ((i1 - b.size : Nat) : Int)).f0 = a.top := a4.top
      have hsm : max (a.dep + a.isAlt) b.dep ≤ 4096 := hds
      have hs1 : a.dep + a.isAlt ≤ 4096 := by omega
      have x1 : (0 : Int) ≤ ((i1 - b.size : Nat) : Int) := by omega
      have x2 : ((i1 - b.size : Nat) : Int) < (D.length : Int) := by omega
      have x3 : ((i1 - b.size : Nat) : Int) < (p.length : Int) := by omega
      have y1 : (0 : Int) ≤ (i1 : Int) := by omega
      have y2 : (i1 : Int) < (D.length : Int) := by omega
      rw [show (RT.alt a b).top = 4 from rfl, if_neg (show ¬ (4 : Int) = 1 by decide), if_neg (show ¬ (4 : Int) = 5 by decide), if_neg (show ¬ (4 : Int) = 3 by decide), if_pos (show (4 : Int) = 4 by rfl), a2]
      dsimp only
      rw [e0, if_pos x1, if_pos x2, if_pos x3, hat, inR_alt, Option.bind_some, if_pos y1, if_pos y2, if_pos c4, rd_nat, rd_nat, hda, hdb]
      refine next _ (hD.set hlt hti _ ?_)
      rw [wr (by omega) (by omega), ← Int.natCast_add, show mx ((a.dep + a.isAlt : Nat) : Int) (b.dep : Int) = ((max (a.dep + a.isAlt) b.dep : Nat) : Int) by unfold mx; split <;> omega]
      rfl
theorem depths_f {p : List S45} (hp : p.length ≤ 4096) {t : RT} (hr : run p [] = some [t]) {k : Nat} (hk : p.length < k) : ∃ D, dowelref22_Depths.f k p (upL p p.length) = some D ∧ DRow p p.length D := by
  unfold dowelref22_Depths.f
  rw [if_pos (by omega), if_pos (by omega), Int.toNat_natCast]
  refine depths_l0 p hp t hr p.length 0 k _ (by omega) (by omega) ⟨by simp, fun j hj => by omega, fun j _ => ?_⟩ hk
  rw [List.getD_eq_getElem?_getD]
  rcases Nat.lt_or_ge j p.length with q | q
  · rw [List.getElem?_replicate, if_pos q]; rfl
  · rw [List.getElem?_eq_none (by simpa using q)]
    rfl
end Go.Proofs.Ytflkgoggnomehaa.Pt
set_option linter.unusedVariables false
set_option linter.unusedSimpArgs false
namespace Go.Proofs.Ytflkgoggnomehaa.P
open Go.RowKit Go.Proofs.YtflkgoggnomehaaW.PrintWords Go.Proofs.YtflkgoggnomehaaW.PrintLast Go.Proofs.YtflkgoggnomehaaW.PrintMore
theorem cut_cap {P : Program} (t e : TypeId) (kh : IntKind) {i : TypeInfo} (ht : P.underlying t = some (.slice e)) (hi : P.info? e = some i) (A : Option Addr) (n c : Nat) (j : Int) (h0 : 0 ≤ j) (hm : j ≤ c) (hc : n ≤ c) :
    ∀ W : World, (Instr.slice t (.slice A n c) none (some (.int kh j)) none).run P W = .ok (.slice A j.toNat c) W := by
  intro W
  have hel : P.elem t = e := by simp [Program.elem, ht]
  have hu : P.underlying t = some (.slice (P.elem t)) := by rw [hel]; exact ht
  have ha : (A.map fun x => x.add 0) = A := by cases A <;> simp [Addr.add]
  rw [run_slice_h W t A n c hu kh j h0 (by omega), hel]
  simp [sizeOf, typeInfo, hi, sliced, Result.andThen, ha]
end Go.Proofs.Ytflkgoggnomehaa.P
namespace Go.Proofs.Ytflkgoggnomehaa.Pt
open Go.RowKit Go.Proofs.Ytflkgoggnomehaa Go.Proofs.Ytflkgoggnomehaa.P Go.Proofs.Ytflkgoggnomehaa.Pp Go.Proofs.YtflkgoggnomehaaW.PrintWords Go.Proofs.YtflkgoggnomehaaW.PrintLast Go.Proofs.YtflkgoggnomehaaW.PrintMore
/-- The next stack. -/
theorem next_stack {p : List S45} {t : RT} (ht : run p [] = some [t]) {i : Nat} (hi : i < p.length) {st : List RT} (hs : run (p.take i) [] = some st) :
    ∃ x r, bareB (nod p i) = true ∧ stp (nod p i) st = some (x :: r) ∧ run (p.take (i + 1)) [] = some (x :: r) := by
  have h1 : run (p.take (i + 1)) [] = run [nod p i] st := by rw [take_nod p i hi, run_app, hs, Option.bind_some]
  have h2 : run (p.take (i + 1) ++ p.drop (i + 1)) [] = some [t] := by rw [List.take_append_drop]; exact ht
  rw [run_app] at h2
  cases q : run (p.take (i + 1)) [] with
  | none => rw [q] at h2; cases h2
  | some s =>
    rw [q] at h1
    rw [run_one] at h1
    by_cases hb : bareB (nod p i) = true
    · rw [if_pos hb] at h1
      have hs := h1.symm
      have hl := (stp_len hs)
      match s, hs, hl with
      | x :: r, hs, hl => exact ⟨x, r, hb, hs, rfl⟩
      | [], hs, hl => simp only [List.length_nil] at hl; omega
    · rw [if_neg hb] at h1; cases h1
theorem stp_ways {n : S45} {st r : List RT} {x : RT} (h : stp n st = some (x :: r)) :
    (n.f0 = 0 ∧ x = .none ∧ r = st) ∨ (n.f0 = 1 ∧ x = .empty ∧ r = st) ∨ (n.f0 = 2 ∧ x = .cls n.f1 ∧ r = st) ∨ (n.f0 = 5 ∧ ∃ a, st = a :: r ∧ x = .star a) ∨ (n.f0 = 3 ∧ ∃ a b, st = b :: a :: r ∧ x = .seq a b) ∨ (n.f0 = 4 ∧ ∃ a b, st = b :: a :: r ∧ x = .alt a b) := by
  unfold stp at h
  by_cases h0 : n.f0 = 0
  · rw [if_pos h0] at h; obtain ⟨rfl, rfl⟩ := List.cons.inj (Option.some.inj h); exact .inl ⟨h0, rfl, rfl⟩
  rw [if_neg h0] at h
  by_cases h1 : n.f0 = 1
  · rw [if_pos h1] at h; obtain ⟨rfl, rfl⟩ := List.cons.inj (Option.some.inj h); exact .inr (.inl ⟨h1, rfl, rfl⟩)
  rw [if_neg h1] at h
  by_cases h2 : n.f0 = 2
  · rw [if_pos h2] at h; obtain ⟨rfl, rfl⟩ := List.cons.inj (Option.some.inj h); exact .inr (.inr (.inl ⟨h2, rfl, rfl⟩))
  rw [if_neg h2] at h
  by_cases h5 : n.f0 = 5
  · rw [if_pos h5] at h
    match st, h with
    | a :: q, h => obtain ⟨rfl, rfl⟩ := List.cons.inj (Option.some.inj h); exact .inr (.inr (.inr (.inl ⟨h5, a, rfl, rfl⟩)))
  rw [if_neg h5] at h
  by_cases h3 : n.f0 = 3
  · rw [if_pos h3] at h
    match st, h with
    | b :: a :: q, h => obtain ⟨rfl, rfl⟩ := List.cons.inj (Option.some.inj h); exact .inr (.inr (.inr (.inr (.inl ⟨h3, a, b, rfl, rfl⟩))))
  rw [if_neg h3] at h
  by_cases h4 : n.f0 = 4
  · rw [if_pos h4] at h
    match st, h with
    | b :: a :: q, h => obtain ⟨rfl, rfl⟩ := List.cons.inj (Option.some.inj h); exact .inr (.inr (.inr (.inr (.inr ⟨h4, a, b, rfl, rfl⟩))))
  rw [if_neg h4] at h
  cases h
end Go.Proofs.Ytflkgoggnomehaa.Pt
set_option linter.unusedVariables false
set_option linter.unusedSimpArgs false
namespace Go.Proofs.Ytflkgoggnomehaa.Pt
open Go.RowKit Go.Proofs.Ytflkgoggnomehaa Go.Proofs.YtflkgoggnomehaaW.PrintWords Go.Proofs.YtflkgoggnomehaaW.PrintLast Go.Proofs.YtflkgoggnomehaaW.PrintMore Go.Proofs.Ytflkgoggnomehaa.P Go.Proofs.Ytflkgoggnomehaa.Pp
theorem vald_nd {k : Int} (h0 : 0 ≤ k) (h5 : k ≤ 5) : Vald (nd k) := ⟨h0, h5, by unfold bareB; simp [nd, z4B, z4]⟩
theorem enc_vald : ∀ (t : RT), ∀ n ∈ t.enc, Vald n
  | .none, n, h => by rw [List.mem_singleton.1 h]; exact vald_nd (by decide) (by decide)
  | .empty, n, h => by rw [List.mem_singleton.1 h]; exact vald_nd (by decide) (by decide)
  | .cls c, n, h => by rw [List.mem_singleton.1 h]; exact ⟨(by show (0 : Int) ≤ 2; decide), (by show (2 : Int) ≤ 5; decide), rfl⟩
  | .star a, n, h => by
    rcases List.mem_append.1 h with h | h
    · exact enc_vald a n h
    · rw [List.mem_singleton.1 h]; exact vald_nd (by decide) (by decide)
  | .seq a b, n, h => by
    rcases List.mem_append.1 h with h | h
    · exact enc_vald a n h
    · rcases List.mem_append.1 h with h | h
      · exact enc_vald b n h
      · rw [List.mem_singleton.1 h]; exact vald_nd (by decide) (by decide)
  | .alt a b, n, h => by
    rcases List.mem_append.1 h with h | h
    · exact enc_vald a n h
    · rcases List.mem_append.1 h with h | h
      · exact enc_vald b n h
      · rw [List.mem_singleton.1 h]; exact vald_nd (by decide) (by decide)
theorem nod_mem {p : List S45} {j : Nat} (h : j < p.length) : nod p j ∈ p := by
  have er : nod p j = p[j] := by
    unfold nod Q13
    rw [Int.toNat_natCast, List.getD_eq_getElem?_getD, List.getElem?_eq_getElem h]
    rfl
  rw [er]; exact List.getElem_mem h
/-- What Check tells of a pattern that is not too long. -/
def chk2 (o : Option (List RT)) : Int := match o with
  | some [t] => if t.dep > 100 then 3 else 0
  | _ => 6
theorem chk2_bad {p : List S45} {j : Nat} (hj : j < p.length) (h : ¬ Vald (nod p j)) : chk2 (run p []) = 6 := by
  cases hr : run p [] with
  | none => rfl
  | some st =>
    match st, hr with
    | [], _ => rfl
    | [t], hr =>
      exfalso
      have hp := run_iff.1 hr
      refine h (enc_vald t _ ?_)
      have := nod_mem hj
      rwa [← hp]
    | a :: b :: r, _ => rfl
theorem refCheck_l0 (p : List S45) (hp : p.length ≤ 4096) : ∀ (d i k : Nat), p.length - i = d → i ≤ p.length → (∀ j, j < i → Vald (nod p j)) → d + p.length + 2 < k → dowelref22_Check.l0 k p (i : Int) = some (chk2 (run p []))
  | 0, i, k, hd, hi, hv, hk => by
    obtain ⟨k, rfl⟩ : ∃ m, k = m + 1 := ⟨k - 1, by omega⟩
    obtain rfl : i = p.length := by omega
    have hP : dowelref22_Parts.f p = some (partsF p) := by unfold dowelref22_Parts.f; rw [if_pos hp]
    rw [dowelref22_Check.l0, if_neg (by omega), hP, Option.bind_some, parts_ok hv]
    cases hr : run p [] with
    | none => rfl
    | some st =>
      match st, hr with
      | [], _ => rfl
      | [t], hr =>
        have hL : (partsF p).1 = upL p p.length := by unfold partsF upL; rw [List.take_length]
        obtain ⟨D, hD, hDR⟩ := depths_f hp hr (k := k) (by omega)
        have hpe := run_iff.1 hr
        have hlen := congrArg List.length hpe
        have hpos := t.pos
        rw [t.len] at hlen
        have hdt : D.getD (p.length - 1) 0 = (t.dep : Int) := hDR.at (j := p.length - 1) (pre := []) (by omega) (by rw [show p.length - 1 + 1 = p.length by omega, List.take_length]; exact hpe)
        have hDl := hDR.len
        have e1 : (p.length : Int) - 1 = ((p.length - 1 : Nat) : Int) := by omega
        rw [show oneT (some [t]) = true from rfl, if_pos rfl, hL, hD, Option.bind_some, wr (by omega) (by omega), if_pos (by omega), if_pos (by omega), e1, rd_nat, hdt]
        unfold chk2
        by_cases q : t.dep > 100
        · rw [if_pos (by omega)]; simp only [if_pos q]
        · rw [if_neg (by omega)]; simp only [if_neg q]
      | a :: b :: r, _ => rfl
  | d + 1, i, k, hd, hi, hv, hk => by
    obtain ⟨k, rfl⟩ : ∃ m, k = m + 1 := ⟨k - 1, by omega⟩
    have hlt : i < p.length := by omega
    have next := fun (h : Vald (nod p i)) => refCheck_l0 p hp d (i + 1) k (by omega) (by omega) (fun j hj => by
      rcases Nat.lt_or_ge j i with q | q
      · exact hv j q
      · obtain rfl : j = i := by omega
        exact h) (by omega)
    have c1 : (i : Int) < (p.length : Int) := by omega
    have c2 : (0 : Int) ≤ (i : Int) := by omega
    have w2 : wrap64 ((i : Int) + 1) = ((i + 1 : Nat) : Int) := by rw [wr (by omega) (by omega)]; omega
    rw [dowelref22_Check.l0, if_pos c1, if_pos c2, w2, not_z4]
    clear w2
    show (if (nod p i).f0 < 0 then _ else if (nod p i).f0 > 5 then _ else if (nod p i).f0 = 2 then _ else if (!z4B (nod p i).f1) = true then _ else _) = _
    by_cases h0 : (nod p i).f0 < 0
    · rw [if_pos h0, chk2_bad hlt (fun h => by have := h.1; omega)]
    rw [if_neg h0]
    by_cases h5 : (nod p i).f0 > 5
    · rw [if_pos h5, chk2_bad hlt (fun h => by have := h.2.1; omega)]
    rw [if_neg h5]
    by_cases h2 : (nod p i).f0 = 2
    · rw [if_pos h2]
      exact next ⟨by omega, by omega, by unfold bareB; rw [beq_iff_eq.2 h2]; rfl⟩
    rw [if_neg h2]
    have hbe : bareB (nod p i) = z4B (nod p i).f1 := by unfold bareB; rw [beq_eq_false_iff_ne.2 h2]; rfl
    cases hz : z4B (nod p i).f1 with
    | true => rw [if_neg (by decide)]; exact next ⟨by omega, by omega, by rw [hbe, hz]⟩
    | false => rw [if_pos (by decide), chk2_bad hlt (fun h => by have := h.2.2; rw [hbe, hz] at this; cases this)]
theorem chk_eq (p : List S45) : chk p = if p.length > 4096 then 1 else chk2 (run p []) := rfl
theorem refCheck_f (p : List S45) (k : Nat) (hk : 2 * p.length + 2 < k) : dowelref22_Check.f k p = some (chk p) := by
  unfold dowelref22_Check.f
  rw [chk_eq]
  by_cases h : p.length > 4096
  · rw [if_pos (by omega), if_pos h]
  · rw [if_neg (by omega), if_neg h]
    exact refCheck_l0 p (by omega) p.length 0 k (by omega) (by omega) (fun j hj => by omega) (by omega)
end Go.Proofs.Ytflkgoggnomehaa.Pt
set_option linter.unusedVariables false
set_option linter.unusedSimpArgs false
namespace Go.Proofs.Ytflkgoggnomehaa.Rp
open Go.RowKit Go.Proofs.Ytflkgoggnomehaa Go.Proofs.Ytflkgoggnomehaa.P Go.Proofs.Ytflkgoggnomehaa.Pt Go.Proofs.Ytflkgoggnomehaa.Pp Go.Proofs.YtflkgoggnomehaaW.PrintWords Go.Proofs.YtflkgoggnomehaaW.PrintLast Go.Proofs.YtflkgoggnomehaaW.PrintMore
/-- The writer as it stands. -/
def Ws (b : Nat) (pv lv : Value) (acc : List UInt8) (long : Bool) (W : World) : Prop :=
  ∃ A c, W.heap[b]? = some (.cells #[pv, lv, .slice A acc.length c, .bool long] 110 (0, 0)) ∧ W.ownsRow (b + 1) 5 1 (.slice A acc.length c) acc.length (Lib.byteCells acc)
def wput (s : List UInt8) (x : List UInt8 × Bool) : List UInt8 × Bool := if x.2 = true ∨ x.1.length + s.length > 65536 then (x.1, true) else (x.1 ++ s, false)
/-- What becomes of a writer. -/
def Wp (b : Nat) (pv lv : Value) (x : List UInt8 × Bool) (w : World) (e : Ending) (w' : World) : Prop := e = .returned (.tuple #[]) ∧ Ws b pv lv x.1 x.2 w' ∧ Below b w w'
theorem info5' : (Try.prog.info? 5).map (fun i => (i.zero, i.size, i.bytes)) = some (some (.int .u8 0), 1, 1) := by kernel_rfl
theorem ws_lt {b : Nat} {pv lv : Value} {acc : List UInt8} {long : Bool} {W : World} (h : Ws b pv lv acc long W) : b < W.heap.size := by
  obtain ⟨A, c, h1, _⟩ := h
  exact Fr.heap_lt' h1
theorem ws_set {b : Nat} {pv lv : Value} {acc : List UInt8} {W : World} {long : Bool} (h : Ws b pv lv acc long W) : Ws b pv lv acc true (W.setCell ⟨b, 3, none⟩ (.bool true)) := by
  obtain ⟨A, c, h1, h2⟩ := h
  refine ⟨A, c, ?_, ?_⟩
  · simpa using heap_put (i := 3) (v := .bool true) h1
  · exact Fr.own_move h2 fun g hg => heap_setCell_other _ _ _ _ (fun e => by
      have := ((Fr.told_own h2).lt hg).1
      dsimp only at e; omega)
set_option maxRecDepth 100000 in
set_option maxHeartbeats 1000000 in
theorem put_c (b : Nat) (pv lv : Value) (acc : List UInt8) (long : Bool) (s : ByteArray) (w : World) (h : Ws b pv lv acc long w) (ha : acc.length ≤ 65536) (hs : s.size ≤ 1000000) :
    Calls Try.prog 67 #[.pointer (some ⟨b, 0, none⟩), .string s] w (Wp b pv lv (wput s.data.toList (acc, long)) w) := by
  have hlt := ws_lt h
  have HT := Lib.hid (ws_set h)
  obtain ⟨A, c, h1, h2⟩ := h
  have c2 : w.cell? ⟨b, 2, none⟩ = some (.slice A acc.length c) := by simp [World.cell?, h1]
  have c3 : w.cell? ⟨b, 3, none⟩ = some (.bool long) := by simp [World.cell?, h1]
  have f2 : w.frozen? ⟨b, 2, none⟩ = false := by simp [World.frozen?, h1]
  have f3 : w.frozen? ⟨b, 3, none⟩ = false := by simp [World.frozen?, h1]
  have H1 := Lib.hid h1
  have H2 := Lib.hid h2
  clear h1 h2
  have hsz : s.data.toList.length = s.size := rfl
  by_cases hl : long = true
  · subst hl
    have HW := Lib.hid (show wput s.data.toList (acc, true) = (acc, true) from by unfold wput; rw [if_pos (.inl rfl)])
    clear hsz
    go_enter Try.func67, Try.ntmps67
    go_wp2
    go_end0
    exact ⟨rfl, by rw [HW.out]; exact HT.out, (Below.refl b w).setCell (Nat.le_refl _) _⟩
  · obtain rfl : long = false := by simpa using hl
    clear hl
    by_cases hbig : acc.length + s.size > 65536
    · have HW := Lib.hid (show wput s.data.toList (acc, false) = (acc, true) from by unfold wput; rw [if_pos (.inr (by rw [hsz]; exact hbig))])
      clear hsz
      have hd : decide ((acc.length : Int) + (s.size : Int) > 65536) = true := by simp; omega
      clear hbig
      go_enter Try.func67, Try.ntmps67
      go_wp2
      go_end0
      exact ⟨rfl, by rw [HW.out]; exact HT.out, (Below.refl b w).setCell (Nat.le_refl _) _⟩
    · have HW := Lib.hid (show wput s.data.toList (acc, false) = (acc ++ s.data.toList, false) from by unfold wput; rw [if_neg (fun h => h.elim (fun e => by cases e) (fun e => hbig (by rw [hsz] at e; exact e)))])
      have HN := Lib.hid hbig
      have HZ := Lib.hid hsz
      clear hsz
      have hd : decide ((acc.length : Int) + (s.size : Int) > 65536) = false := by simp; omega
      clear hbig
      obtain ⟨i0, hi, hz0, hz1, hz2⟩ := info_parts info5'
      have HI := Lib.hid hi
      have HZ0 := Lib.hid hz0
      have HZ1 := Lib.hid hz1
      have HZ2 := Lib.hid hz2
      clear hi hz0 hz1 hz2
      go_enter Try.func67, Try.ntmps67
      go_wp2_with (at_builtin; refine Lib.wpList_append_own_string _ rfl _ _ 71 9 rfl (b + 1) 5 i0 Try.underlying71 Try.underlying9 HI.out HZ0.out HZ1.out HZ2.out _ _ _ rfl H2.out s rfl (by unfold maxLen; have := HN.out; omega) (by have := HN.out; omega) (by omega) ?_)
      intro v1 w1 ho1 hg1 _
      obtain ⟨A1, c1, rfl⟩ := own_slice ho1
      have hne : (Value.slice A acc.length c).ownBlock ≠ some b := fun e => by have := own_base H2.out b e; omega
      have hb1 : w1.heap[b]? = w.heap[b]? := hg1.block b hlt (fun e => hne e.symm)
      have hB1 := Lib.hid ((Below.refl b w).grown hg1 (by omega) (fun k e => by have := own_base H2.out k e; omega))
      have h1' := hb1.trans H1.out
      have d2 : w1.cell? ⟨b, 2, none⟩ = some (.slice A acc.length c) := by simp [World.cell?, h1']
      have g2 : w1.frozen? ⟨b, 2, none⟩ = false := by simp [World.frozen?, h1']
      have HK := Lib.hid h1'
      have HO := Lib.hid ho1
      clear hb1 hne h1' ho1 hg1
      go_wp2
      go_end0
      refine ⟨rfl, ?_, hB1.out.setCell (Nat.le_refl _) _⟩
      rw [HW.out]
      refine ⟨A1, c1, ?_, ?_⟩
      · have := heap_put (i := 2) (v := .slice A1 (acc.length + s.size) c1) HK.out
        rw [List.length_append, HZ.out]
        simpa using this
      · have hx : Lib.byteCells acc ++ Lib.strCells s = Lib.byteCells (acc ++ s.data.toList) := by unfold Lib.byteCells Lib.strCells; simp
        have ho := HO.out
        rw [hx] at ho
        rw [List.length_append, HZ.out]
        exact Fr.own_move ho fun g hg => heap_setCell_other _ _ _ _ (fun e => by
          have := own_base HO.out g hg
          dsimp only at e; omega)
/-- What a text that is put does. -/
def Put (s : List UInt8) (x y : List UInt8 × Bool) : Prop := y.1.length ≤ 65536 ∧ (x.2 = true → y.2 = true) ∧ (x.2 = false → (x.1.length + s.length ≤ 65536 ∧ y = (x.1 ++ s, false)) ∨ (65536 < x.1.length + s.length ∧ y.2 = true))
theorem put_one (s : List UInt8) {x : List UInt8 × Bool} (h : x.1.length ≤ 65536) : Put s x (wput s x) := by
  unfold Put wput
  by_cases q : x.2 = true ∨ x.1.length + s.length > 65536
  · rw [if_pos q]
    refine ⟨h, fun _ => rfl, fun e => .inr ⟨?_, rfl⟩⟩
    rcases q with q | q
    · rw [e] at q; cases q
    · exact q
  · rw [if_neg q]
    have q1 : ¬ x.2 = true := fun e => q (.inl e)
    have q2 : ¬ x.1.length + s.length > 65536 := fun e => q (.inr e)
    exact ⟨by dsimp only; rw [List.length_append]; omega, fun e => absurd e q1, fun _ => .inl ⟨by omega, rfl⟩⟩
theorem put_two {s u : List UInt8} {x y z : List UInt8 × Bool} (h : Put s x y) (k : Put u y z) : Put (s ++ u) x z := by
  obtain ⟨h1, h2, h3⟩ := h
  obtain ⟨k1, k2, k3⟩ := k
  refine ⟨k1, fun e => k2 (h2 e), fun e => ?_⟩
  rw [List.length_append]
  rcases h3 e with ⟨a, rfl⟩ | ⟨a, b⟩
  · rcases k3 rfl with ⟨c, rfl⟩ | ⟨c, d⟩
    · dsimp only at c ⊢
      rw [List.length_append] at c
      exact .inl ⟨by omega, by rw [List.append_assoc]⟩
    · dsimp only at c
      rw [List.length_append] at c
      exact .inr ⟨by omega, d⟩
  · exact .inr ⟨by omega, k2 b⟩
theorem put_long {s : List UInt8} {x : List UInt8 × Bool} (h : x.1.length ≤ 65536) (e : x.2 = true) : Put s x x := ⟨h, fun e => e, fun q => by rw [e] at q; cases q⟩
/-- What a walk does to a writer. -/
def Wq (b : Nat) (pv lv : Value) (s : List UInt8) (x : List UInt8 × Bool) (w : World) (e : Ending) (w' : World) : Prop := ∃ y, Put s x y ∧ Wp b pv lv y w e w'
theorem put_q (b : Nat) (pv lv : Value) (x : List UInt8 × Bool) (s : ByteArray) (w : World) (h : Ws b pv lv x.1 x.2 w) (ha : x.1.length ≤ 65536) (hs : s.size ≤ 1000000) :
    Calls Try.prog 67 #[.pointer (some ⟨b, 0, none⟩), .string s] w (Wq b pv lv s.data.toList x w) :=
  (put_c b pv lv x.1 x.2 s w h ha hs).mono fun e w' h => ⟨_, put_one _ ha, h⟩
/-- A part of the pattern, in brackets or not. -/
theorem part_c (b : Nat) (pv lv : Value) (x : List UInt8 × Bool) (i : Int) (k : Nat) (s : List UInt8) (w : World) (h : Ws b pv lv x.1 x.2 w) (ha : x.1.length ≤ 65536) (hk : k ≤ 1)
    (H : ∀ (y : List UInt8 × Bool) (w' : World), Ws b pv lv y.1 y.2 w' → y.1.length ≤ 65536 → Below b w w' → Calls Try.prog 48 #[.pointer (some ⟨b, 0, none⟩), .int .i64 i] w' (Wq b pv lv s y w')) :
    Calls Try.prog 69 #[.pointer (some ⟨b, 0, none⟩), .int .i64 i, .int .i64 (k : Int)] w (Wq b pv lv (brT k s) x w) := by
  have hlt := Nat.le_of_lt (ws_lt h)
  have HH := Lib.hid H; clear H
  have HS := Lib.hid h; clear h
  obtain rfl | rfl : k = 0 ∨ k = 1 := by omega
  · go_enter Try.func69, Try.ntmps69
    go_wp2_with fail
    refine (HH.out x w HS.out ha (Below.refl _ _)).mono ?_
    rintro e w1 ⟨y, hy, rfl, hw, hb⟩
    have HY := Lib.hid hy; have HW := Lib.hid hw; have HB := Lib.hid hb
    clear hy hw hb
    go_wp2
    go_end0
    exact ⟨y, HY.out, rfl, HW.out, HB.out⟩
  · go_enter Try.func69, Try.ntmps69
    go_wp2_with fail
    refine (put_q b pv lv x ⟨#[40]⟩ w HS.out ha (by decide)).mono ?_
    rintro e w1 ⟨y, hy, rfl, hw, hb⟩
    have HY := Lib.hid hy; have HW := Lib.hid hw; have HB := Lib.hid hb
    clear hy hw hb
    go_wp2_with fail
    refine (HH.out y w1 HW.out HY.out.1 HB.out).mono ?_
    rintro e w2 ⟨z, hz, rfl, hw, hb⟩
    have HZ := Lib.hid hz; have HW2 := Lib.hid hw; have HB2 := Lib.hid (HB.out.trans (hb.mono (Nat.le_refl _)))
    clear hz hw hb
    go_wp2_with fail
    refine (put_q b pv lv z ⟨#[41]⟩ w2 HW2.out HZ.out.1 (by decide)).mono ?_
    rintro e w3 ⟨u, hu, rfl, hw, hb⟩
    have HU := Lib.hid hu; have HW3 := Lib.hid hw; have HB3 := Lib.hid (HB2.out.trans hb)
    clear hu hw hb
    go_wp2
    go_end0
    refine ⟨u, ?_, rfl, HW3.out, HB3.out⟩
    have := put_two (put_two HY.out HZ.out) HU.out
    simpa [brT] using this
theorem ws_drewN {b : Nat} {pv lv : Value} {acc : List UInt8} {long : Bool} {W : World} (h : Ws b pv lv acc long W) (n : Nat) : Ws b pv lv acc long (W.drewN n) := by
  obtain ⟨A, c, h1, h2⟩ := h
  exact ⟨A, c, h1, Fr.own_move h2 fun _ _ => rfl⟩
theorem below_drewN' {B : Nat} {w W : World} (h : Below B w W) (n : Nat) : Below B w (W.drewN n) := Q7 h n
theorem nat_int {i : Nat} (h : 1 ≤ i) : (i : Int) - 1 = ((i - 1 : Nat) : Int) := by omega
theorem row_le (a : RT) : a.row ≤ 1 := by unfold RT.row; split <;> omega
theorem alt_le (a : RT) : a.isAlt ≤ 1 := by unfold RT.isAlt; split <;> omega
/-- A node's kind, as it is read. -/
theorem kind_at {p : List S45} {ad : Addr} {wB W : World} (hP : Kd.C k45 wB (some ad) p.length p) (hb : Below wB.heap.size wB W) {j : Nat} {t : RT} (hj : j < p.length) (ht : At p j t) : W.cell? (ad.add (j * 5)) = some (.int .i64 t.top) := by
  obtain ⟨_, e1, u0, _⟩ := at_T45 (Kd.C_below hP hb) (j : Int) (by omega) (by omega)
  obtain rfl := Option.some.inj e1
  rw [Int.toNat_natCast, show Q13 p (j : Int) = nod p j from rfl, At.top ht] at u0
  exact u0
/-- A node's parts, as they are read. -/
theorem parts_at {p : List S45} {ad : Addr} {wB W : World} (hL : Kd.C k100 wB (some ad) p.length (upL p p.length)) (hb : Below wB.heap.size wB W) {j : Nat} (hj : j < p.length) : W.cell? (ad.add (j * 2)) = some (.int .i64 (Lx p j).f0) ∧ W.cell? ⟨(ad.add (j * 2)).block, (ad.add (j * 2)).off + 1, none⟩ = some (.int .i64 (Lx p j).f1) := by
  obtain ⟨_, e1, u0, u1⟩ := at_T100 (Kd.C_below hL hb) (j : Int) (by omega) (by omega)
  obtain rfl := Option.some.inj e1
  rw [Int.toNat_natCast, rdL p hj] at u0 u1
  exact ⟨u0, u1⟩
theorem some_at {α : Type} {d : Kd α} {w : World} {A : Option Addr} {xs : List α} (h : d.C w A xs.length xs) (h0 : 0 < xs.length) : ∃ ad, A = some ad := by
  match xs, h0 with
  | x :: xs, _ =>
    obtain ⟨ad, c, h1, _⟩ := Kd.C_get h x 0 (by omega) (by simp)
    exact ⟨ad, h1⟩
theorem ws_below {b : Nat} {pv lv : Value} {acc : List UInt8} {long : Bool} {W W' : World} (h : Ws b pv lv acc long W) (hb : Below W.heap.size W W') : Ws b pv lv acc long W' := by
  have hlt := ws_lt h
  obtain ⟨A, c, h1, h2⟩ := h
  exact ⟨A, c, (hb.block b hlt).trans h1, Fr.own_move h2 fun g hg => hb.block g (own_lt h2 g hg)⟩
set_option maxRecDepth 100000 in
set_option maxHeartbeats 4000000 in
theorem node_c (p : List S45) (ad : Addr) (c : Nat) (ad2 : Addr) (c2 : Nat) (wB : World) (hp : p.length ≤ 4096) (hok : ∀ n ∈ p, okC n.f1)
    (hP : Kd.C k45 wB (some ad) p.length p) (hL : Kd.C k100 wB (some ad2) p.length (upL p p.length)) : ∀ (t : RT) (i : Nat) (x : List UInt8 × Bool) (w : World), i < p.length → At p i t →
    Ws wB.heap.size (.slice (some ad) p.length c) (.slice (some ad2) p.length c2) x.1 x.2 w → x.1.length ≤ 65536 → Below wB.heap.size wB w →
    Calls Try.prog 48 #[.pointer (some ⟨wB.heap.size, 0, none⟩), .int .i64 (i : Int)] w (Wq wB.heap.size (.slice (some ad) p.length c) (.slice (some ad2) p.length c2) t.txt x w) := by
  intro t
  induction t with
  | none =>
    intro i x w hi hat hs hx hb
    obtain ⟨A0, c0, h1, h2⟩ := id hs
    have p0 : w.cell? ⟨wB.heap.size, 0, none⟩ = some (.slice (some ad) p.length c) := by simp [World.cell?, h1]
    have p1 : w.cell? ⟨wB.heap.size, 1, none⟩ = some (.slice (some ad2) p.length c2) := by simp [World.cell?, h1]
    have p3 : w.cell? ⟨wB.heap.size, 3, none⟩ = some (.bool x.2) := by simp [World.cell?, h1]
    clear h1 h2
    have HS := Lib.hid hs
    have HB := Lib.hid hb
    clear hs hb
    by_cases hl : x.2 = true
    · have HLL := Lib.hid hl
      rw [hl] at p3
      clear hl hat
      go_enter Try.func48, Try.ntmps48
      go_wp2
      go_end0
      exact ⟨x, put_long hx HLL.out, rfl, HS.out, Below.refl _ _⟩
    · have hl2 : x.2 = false := by simpa using hl
      rw [hl2] at p3
      clear hl hl2
      have r0 := kind_at hP HB.out hi hat
      obtain ⟨q0, q1⟩ := parts_at hL HB.out hi
      have hz : (0 : Int) ≤ (i : Int) ∧ (i : Int) < (p.length : Int) := by omega
      rw [show RT.none.top = 0 from rfl] at r0
      generalize (Lx p i).f0 = l0 at q0
      generalize (Lx p i).f1 = l1 at q1
      clear hat
      go_enter Try.func48, Try.ntmps48
      go_wp2
      go_quiet (fail)
      go_wp2_with fail
      refine (put_q wB.heap.size _ _ x ⟨#[126]⟩ _ (ws_drewN HS.out _) hx (by decide)).mono ?_
      rintro e w2 ⟨y, hy, rfl, hw, hb⟩
      have HY := Lib.hid hy; have HW := Lib.hid hw; have HB2 := Lib.hid ((below_drewN' (Below.refl _ _) _).trans hb)
      clear hy hw hb
      go_wp2
      go_end0
      exact ⟨y, HY.out, rfl, HW.out, HB2.out⟩
  | empty =>
    intro i x w hi hat hs hx hb
    obtain ⟨A0, c0, h1, h2⟩ := id hs
    have p0 : w.cell? ⟨wB.heap.size, 0, none⟩ = some (.slice (some ad) p.length c) := by simp [World.cell?, h1]
    have p1 : w.cell? ⟨wB.heap.size, 1, none⟩ = some (.slice (some ad2) p.length c2) := by simp [World.cell?, h1]
    have p3 : w.cell? ⟨wB.heap.size, 3, none⟩ = some (.bool x.2) := by simp [World.cell?, h1]
    clear h1 h2
    have HS := Lib.hid hs
    have HB := Lib.hid hb
    clear hs hb
    by_cases hl : x.2 = true
    · have HLL := Lib.hid hl
      rw [hl] at p3
      clear hl hat
      go_enter Try.func48, Try.ntmps48
      go_wp2
      go_end0
      exact ⟨x, put_long hx HLL.out, rfl, HS.out, Below.refl _ _⟩
    · have hl2 : x.2 = false := by simpa using hl
      rw [hl2] at p3
      clear hl hl2
      have r0 := kind_at hP HB.out hi hat
      obtain ⟨q0, q1⟩ := parts_at hL HB.out hi
      have hz : (0 : Int) ≤ (i : Int) ∧ (i : Int) < (p.length : Int) := by omega
      rw [show RT.empty.top = 1 from rfl] at r0
      generalize (Lx p i).f0 = l0 at q0
      generalize (Lx p i).f1 = l1 at q1
      clear hat
      go_enter Try.func48, Try.ntmps48
      go_wp2
      go_quiet (fail)
      go_wp2_with fail
      refine (put_q wB.heap.size _ _ x ⟨#[40, 41]⟩ _ (ws_drewN HS.out _) hx (by decide)).mono ?_
      rintro e w2 ⟨y, hy, rfl, hw, hb⟩
      have HY := Lib.hid hy; have HW := Lib.hid hw; have HB2 := Lib.hid ((below_drewN' (Below.refl _ _) _).trans hb)
      clear hy hw hb
      go_wp2
      go_end0
      exact ⟨y, HY.out, rfl, HW.out, HB2.out⟩
  | cls cl =>
    intro i x w hi hat hs hx hb
    obtain ⟨A0, c0, h1, h2⟩ := id hs
    have p0 : w.cell? ⟨wB.heap.size, 0, none⟩ = some (.slice (some ad) p.length c) := by simp [World.cell?, h1]
    have p1 : w.cell? ⟨wB.heap.size, 1, none⟩ = some (.slice (some ad2) p.length c2) := by simp [World.cell?, h1]
    have p3 : w.cell? ⟨wB.heap.size, 3, none⟩ = some (.bool x.2) := by simp [World.cell?, h1]
    clear h1 h2
    have HS := Lib.hid hs
    have HB := Lib.hid hb
    clear hs hb
    by_cases hl : x.2 = true
    · have HLL := Lib.hid hl
      rw [hl] at p3
      clear hl hat
      go_enter Try.func48, Try.ntmps48
      go_wp2
      go_end0
      exact ⟨x, put_long hx HLL.out, rfl, HS.out, Below.refl _ _⟩
    · have hl2 : x.2 = false := by simpa using hl
      rw [hl2] at p3
      clear hl hl2
      have hnod : nod p i = ⟨2, cl⟩ := hat
      have r0 := kind_at hP HB.out hi hat
      obtain ⟨q0, q1⟩ := parts_at hL HB.out hi
      have hz : (0 : Int) ≤ (i : Int) ∧ (i : Int) < (p.length : Int) := by omega
      rw [show (RT.cls cl).top = 2 from rfl] at r0
      obtain ⟨_, e1, _, r1, r2, r3, r4⟩ := at_T45 (Kd.C_below hP HB.out) (i : Int) (by omega) (by omega)
      obtain rfl := Option.some.inj e1
      rw [Int.toNat_natCast, show Q13 p (i : Int) = nod p i from rfl, hnod] at r1 r2 r3 r4
      dsimp only at r1 r2 r3 r4
      have HC := Lib.hid (show okC cl from by have := hok _ (nod_mem hi); rw [hnod] at this; exact this)
      generalize (Lx p i).f0 = l0 at q0
      generalize (Lx p i).f1 = l1 at q1
      clear e1 hnod hat
      go_enter Try.func48, Try.ntmps48
      go_wp2
      go_quiet (fail)
      go_wp2_with fail
      refine (dowelref22_atom.calls 300 cl.f0 cl.f1 cl.f2 cl.f3 (clsT cl) _ (atom_f HC.out (Nat.le_refl 300))).mono ?_
      rintro e w1 ⟨rfl, hb1⟩
      have HB1 := Lib.hid ((below_drewN' (Below.refl wB.heap.size w) _).trans (hb1.mono (by exact HB.out.size)))
      have HW1 := Lib.hid (ws_below (ws_drewN HS.out _) hb1)
      clear hb1
      go_wp2_with fail
      refine (put_q wB.heap.size _ _ x (clsT cl) _ HW1.out hx (by have := clsT_size cl; omega)).mono ?_
      rintro e w2 ⟨y, hy, rfl, hw, hb⟩
      have HY := Lib.hid hy; have HW := Lib.hid hw; have HB2 := Lib.hid (HB1.out.trans hb)
      clear hy hw hb
      go_wp2
      go_end0
      exact ⟨y, HY.out, rfl, HW.out, HB2.out⟩
  | seq a b iha ihb =>
    intro i x w hi hat hs hx hb
    obtain ⟨A0, c0, h1, h2⟩ := id hs
    have p0 : w.cell? ⟨wB.heap.size, 0, none⟩ = some (.slice (some ad) p.length c) := by simp [World.cell?, h1]
    have p1 : w.cell? ⟨wB.heap.size, 1, none⟩ = some (.slice (some ad2) p.length c2) := by simp [World.cell?, h1]
    have p3 : w.cell? ⟨wB.heap.size, 3, none⟩ = some (.bool x.2) := by simp [World.cell?, h1]
    clear h1 h2
    have HS := Lib.hid hs
    have HB := Lib.hid hb
    clear hs hb
    by_cases hl : x.2 = true
    · have HLL := Lib.hid hl
      rw [hl] at p3
      clear hl hat iha ihb
      go_enter Try.func48, Try.ntmps48
      go_wp2
      go_end0
      exact ⟨x, put_long hx HLL.out, rfl, HS.out, Below.refl _ _⟩
    · have hl2 : x.2 = false := by simpa using hl
      rw [hl2] at p3
      clear hl hl2
      have r0 := kind_at hP HB.out hi hat
      obtain ⟨q0, q1⟩ := parts_at hL HB.out hi
      have hz : (0 : Int) ≤ (i : Int) ∧ (i : Int) < (p.length : Int) := by omega
      rw [show (RT.seq a b).top = 3 from rfl] at r0
      obtain ⟨t1, t2, t3, t4, t5⟩ := hat
      have hla : i - 1 - b.size < p.length := by omega
      have hlb : i - 1 < p.length := by omega
      have u0 := kind_at hP HB.out hla t4
      rw [t2] at q0 q1
      dsimp only at q0 q1
      rw [nat_int (by omega)] at q1
      have hza : (0 : Int) ≤ ((i - 1 - b.size : Nat) : Int) ∧ ((i - 1 - b.size : Nat) : Int) < (p.length : Int) := by omega
      have hzb : (0 : Int) ≤ ((i - 1 : Nat) : Int) ∧ ((i - 1 : Nat) : Int) < (p.length : Int) := by omega
      generalize i - 1 - b.size = ia at q0 u0 hza hla t4
      generalize i - 1 = ib at q1 hzb hlb t5
      have T4 := Lib.hid t4
      have T5 := Lib.hid t5
      clear t1 t2 t3 t4 t5
      go_enter Try.func48, Try.ntmps48
      go_wp2
      go_quiet (fail)
      go_wp2_with fail
      refine (dowelref22_in.calls a.top true true (a.row : Int) _ (inR_row a)).mono ?_
      rintro e w1 ⟨rfl, ⟨nd, rfl⟩⟩
      go_wp2_with fail
      refine (part_c wB.heap.size _ _ x (ia : Int) a.row a.txt _ (ws_drewN HS.out _) hx (row_le a) (fun y w' h1 h2 h3 => iha ia y w' hla T4.out h1 h2 (HB.out.trans ((below_drewN' (Below.refl _ _) _).trans h3)))).mono ?_
      rintro e w2 ⟨y, hy, rfl, hw, hb⟩
      have HY := Lib.hid hy; have HW := Lib.hid hw; have HB2 := Lib.hid ((below_drewN' (Below.refl _ _) _).trans hb)
      clear hy hw hb
      have v0 := kind_at hP (HB.out.trans HB2.out) hlb T5.out
      go_wp2_with fail
      refine (dowelref22_in.calls b.top false true (b.isAlt : Int) _ (inR_alt b)).mono ?_
      rintro e w1 ⟨rfl, ⟨nd, rfl⟩⟩
      go_wp2_with fail
      refine (part_c wB.heap.size _ _ y (ib : Int) b.isAlt b.txt _ (ws_drewN HW.out _) HY.out.1 (alt_le b) (fun z w' h1 h2 h3 => ihb ib z w' hlb T5.out h1 h2 (HB.out.trans (HB2.out.trans ((below_drewN' (Below.refl _ _) _).trans h3))))).mono ?_
      rintro e w3 ⟨z, hz, rfl, hw, hb⟩
      have HZ := Lib.hid hz; have HW3 := Lib.hid hw; have HB3 := Lib.hid (HB2.out.trans ((below_drewN' (Below.refl _ _) _).trans hb))
      clear hz hw hb
      go_wp2
      go_end0
      exact ⟨z, put_two HY.out HZ.out, rfl, HW3.out, HB3.out⟩
  | alt a b iha ihb =>
    intro i x w hi hat hs hx hb
    obtain ⟨A0, c0, h1, h2⟩ := id hs
    have p0 : w.cell? ⟨wB.heap.size, 0, none⟩ = some (.slice (some ad) p.length c) := by simp [World.cell?, h1]
    have p1 : w.cell? ⟨wB.heap.size, 1, none⟩ = some (.slice (some ad2) p.length c2) := by simp [World.cell?, h1]
    have p3 : w.cell? ⟨wB.heap.size, 3, none⟩ = some (.bool x.2) := by simp [World.cell?, h1]
    clear h1 h2
    have HS := Lib.hid hs
    have HB := Lib.hid hb
    clear hs hb
    by_cases hl : x.2 = true
    · have HLL := Lib.hid hl
      rw [hl] at p3
      clear hl hat iha ihb
      go_enter Try.func48, Try.ntmps48
      go_wp2
      go_end0
      exact ⟨x, put_long hx HLL.out, rfl, HS.out, Below.refl _ _⟩
    · have hl2 : x.2 = false := by simpa using hl
      rw [hl2] at p3
      clear hl hl2
      have r0 := kind_at hP HB.out hi hat
      obtain ⟨q0, q1⟩ := parts_at hL HB.out hi
      have hz : (0 : Int) ≤ (i : Int) ∧ (i : Int) < (p.length : Int) := by omega
      rw [show (RT.alt a b).top = 4 from rfl] at r0
      obtain ⟨t1, t2, t3, t4, t5⟩ := hat
      have hla : i - 1 - b.size < p.length := by omega
      have hlb : i - 1 < p.length := by omega
      have u0 := kind_at hP HB.out hla t4
      rw [t2] at q0 q1
      dsimp only at q0 q1
      rw [nat_int (by omega)] at q1
      have hza : (0 : Int) ≤ ((i - 1 - b.size : Nat) : Int) ∧ ((i - 1 - b.size : Nat) : Int) < (p.length : Int) := by omega
      have hzb : (0 : Int) ≤ ((i - 1 : Nat) : Int) ∧ ((i - 1 : Nat) : Int) < (p.length : Int) := by omega
      generalize i - 1 - b.size = ia at q0 u0 hza hla t4
      generalize i - 1 = ib at q1 hzb hlb t5
      have T4 := Lib.hid t4
      have T5 := Lib.hid t5
      clear t1 t2 t3 t4 t5
      go_enter Try.func48, Try.ntmps48
      go_wp2
      go_quiet (fail)
      go_wp2_with fail
      refine (dowelref22_in.calls a.top false true (a.isAlt : Int) _ (inR_alt a)).mono ?_
      rintro e w1 ⟨rfl, ⟨nd, rfl⟩⟩
      go_wp2_with fail
      refine (part_c wB.heap.size _ _ x (ia : Int) a.isAlt a.txt _ (ws_drewN HS.out _) hx (alt_le a) (fun y w' h1 h2 h3 => iha ia y w' hla T4.out h1 h2 (HB.out.trans ((below_drewN' (Below.refl _ _) _).trans h3)))).mono ?_
      rintro e w2 ⟨y, hy, rfl, hw, hb⟩
      have HY := Lib.hid hy; have HW := Lib.hid hw; have HB2 := Lib.hid ((below_drewN' (Below.refl _ _) _).trans hb)
      clear hy hw hb
      go_wp2_with fail
      refine (put_q wB.heap.size _ _ y ⟨#[124]⟩ _ HW.out HY.out.1 (by decide)).mono ?_
      rintro e w3 ⟨z, hz, rfl, hw, hb⟩
      have HZ := Lib.hid hz; have HW3 := Lib.hid hw; have HB3 := Lib.hid (HB2.out.trans hb)
      clear hz hw hb
      go_wp2_with fail
      refine (ihb ib z _ hlb T5.out HW3.out HZ.out.1 (HB.out.trans HB3.out)).mono ?_
      rintro e w4 ⟨u, hu, rfl, hw, hb⟩
      have HU := Lib.hid hu; have HW4 := Lib.hid hw; have HB4 := Lib.hid (HB3.out.trans hb)
      clear hu hw hb
      go_wp2
      go_end0
      refine ⟨u, ?_, rfl, HW4.out, HB4.out⟩
      have := put_two (put_two HY.out HZ.out) HU.out
      rw [List.append_assoc] at this
      exact this
  | star a iha =>
    intro i x w hi hat hs hx hb
    obtain ⟨A0, c0, h1, h2⟩ := id hs
    have p0 : w.cell? ⟨wB.heap.size, 0, none⟩ = some (.slice (some ad) p.length c) := by simp [World.cell?, h1]
    have p1 : w.cell? ⟨wB.heap.size, 1, none⟩ = some (.slice (some ad2) p.length c2) := by simp [World.cell?, h1]
    have p3 : w.cell? ⟨wB.heap.size, 3, none⟩ = some (.bool x.2) := by simp [World.cell?, h1]
    clear h1 h2
    have HS := Lib.hid hs
    have HB := Lib.hid hb
    clear hs hb
    by_cases hl : x.2 = true
    · have HLL := Lib.hid hl
      rw [hl] at p3
      clear hl hat iha
      go_enter Try.func48, Try.ntmps48
      go_wp2
      go_end0
      exact ⟨x, put_long hx HLL.out, rfl, HS.out, Below.refl _ _⟩
    · have hl2 : x.2 = false := by simpa using hl
      rw [hl2] at p3
      clear hl hl2
      have r0 := kind_at hP HB.out hi hat
      obtain ⟨q0, q1⟩ := parts_at hL HB.out hi
      have hz : (0 : Int) ≤ (i : Int) ∧ (i : Int) < (p.length : Int) := by omega
      rw [show (RT.star a).top = 5 from rfl] at r0
      obtain ⟨t1, t2, t3, t4⟩ := hat
      have hla : i - 1 < p.length := by omega
      have u0 := kind_at hP HB.out hla t4
      rw [t2] at q0 q1
      dsimp only at q0 q1
      rw [nat_int (by omega)] at q0
      have hza : (0 : Int) ≤ ((i - 1 : Nat) : Int) ∧ ((i - 1 : Nat) : Int) < (p.length : Int) := by omega
      generalize i - 1 = ia at q0 u0 hza hla t4
      have T4 := Lib.hid t4
      clear t1 t2 t3 t4
      go_enter Try.func48, Try.ntmps48
      go_wp2
      go_quiet (fail)
      go_wp2_with fail
      refine (dowelref22_in.calls a.top true true (a.row : Int) _ (inR_row a)).mono ?_
      rintro e w1 ⟨rfl, ⟨nd, rfl⟩⟩
      go_wp2_with fail
      refine (part_c wB.heap.size _ _ x (ia : Int) a.row a.txt _ (ws_drewN HS.out _) hx (row_le a) (fun y w' h1 h2 h3 => iha ia y w' hla T4.out h1 h2 (HB.out.trans ((below_drewN' (Below.refl _ _) _).trans h3)))).mono ?_
      rintro e w2 ⟨y, hy, rfl, hw, hb⟩
      have HY := Lib.hid hy; have HW := Lib.hid hw; have HB2 := Lib.hid ((below_drewN' (Below.refl _ _) _).trans hb)
      clear hy hw hb
      go_wp2_with fail
      refine (put_q wB.heap.size _ _ y ⟨#[42]⟩ _ HW.out HY.out.1 (by decide)).mono ?_
      rintro e w3 ⟨z, hz, rfl, hw, hb⟩
      have HZ := Lib.hid hz; have HW3 := Lib.hid hw; have HB3 := Lib.hid (HB2.out.trans hb)
      clear hz hw hb
      go_wp2
      go_end0
      exact ⟨z, put_two HY.out HZ.out, rfl, HW3.out, HB3.out⟩
theorem bytes_nums (acc : List UInt8) : Lib.byteCells acc = nums .u8 (acc.map fun b => (b.toNat : Int)) := by unfold Lib.byteCells nums; rw [List.map_map]; rfl
theorem str_acc (acc : List UInt8) : strOfNums (acc.map fun b => (b.toNat : Int)) = ⟨acc.toArray⟩ := by
  unfold strOfNums
  rw [List.map_map]
  congr 2
  refine (List.map_congr_left fun b _ => ?_).trans (List.map_id _)
  simp [Function.comp]
theorem enc_top {p : List S45} {t : RT} (h : run p [] = some [t]) : 0 < p.length ∧ At p (p.length - 1) t := by
  have e := run_iff.1 h
  have hl := congrArg List.length e
  rw [t.len] at hl
  have := t.pos
  refine ⟨by omega, (sub_at p t (p.length - 1) 0 [] (by omega) rfl (by rw [show p.length - 1 + 1 = p.length by omega, List.take_length]; exact e)).2.2⟩
set_option maxRecDepth 100000 in
set_option maxHeartbeats 4000000 in
theorem print_c (A : Option Addr) (c : Nat) (p : List S45) (w : World) (hr : Kd.C k45 w A p.length p) (hc : p.length ≤ c) (hok : ∀ n ∈ p, okC n.f1) :
    Calls Try.prog 18 #[.slice A p.length c] w fun e w' => e = .returned (.tuple #[.string (prt p).1, .int .i64 (prt p).2]) ∧ Below w.heap.size w w' := by
  have HR := Lib.hid hr
  have HCK := Lib.hid (dowelref22_Check.calls (2 * p.length + 3) A c p (chk p) w hr hc (refCheck_f p _ (by omega)))
  clear hr
  by_cases h0 : chk p = 0
  · obtain ⟨hl, t, ht, hd⟩ := chk_zero h0
    obtain ⟨hpos, hat⟩ := enc_top ht
    have HP := Lib.hid (prt_ok h0 ht)
    obtain ⟨ad, rfl⟩ := some_at HR.out hpos
    have HAT := Lib.hid hat
    rw [h0] at HCK
    clear hat hd ht h0
    go_enter Try.func18, Try.ntmps18
    go_wp2_with fail
    refine (HCK.out).mono ?_
    rintro e w1 ⟨rfl, hb1⟩
    have HB1 := Lib.hid hb1
    clear hb1
    go_wp2_with fail
    refine (dowelref22_Parts.calls (some ad) c p _ _ _ w1 (Kd.C_below HR.out HB1.out) hc (by unfold dowelref22_Parts.f; rw [if_pos hl])).mono ?_
    rintro e w2 ⟨v0, v1, rfl, hv0, hv1, hb2⟩
    have HB2 := Lib.hid (HB1.out.trans (hb2.mono HB1.out.size))
    obtain ⟨B2, c2, rfl, hc2, hL⟩ := Kd.R_reads hv0
    obtain ⟨B3, c3, rfl⟩ := Kd.R_slice hv1
    have eL : (partsF p).1 = upL p p.length := by unfold partsF upL; rw [List.take_length]
    have lL := upL_len p p.length (Nat.le_refl _)
    rw [eL, lL] at hL hc2
    rw [eL, lL]
    obtain ⟨ad2, rfl⟩ : ∃ ad2, B2 = some ad2 := by
      have h' : Kd.C k100 w2 B2 (upL p p.length).length (upL p p.length) := by rw [lL]; exact hL
      exact some_at h' (by rw [lL]; exact hpos)
    have HL := Lib.hid hL
    have HP2 := Lib.hid (Kd.C_below HR.out HB2.out)
    clear hv0 hv1 hb2 hL eL lL HB1
    have e1 : ((p.length - 1 : Nat) : Int) = (p.length : Int) - 1 := by omega
    have hN := fun W h1 h2 => node_c p ad c ad2 c2 w2 hl hok HP2.out HL.out t (p.length - 1) ([], false) W (by omega) HAT.out h1 (by decide) h2
    rw [e1] at hN
    have HN := Lib.hid hN
    clear hN e1
    go_wp2_with fail
    have hws : Ws w2.heap.size (.slice (some ad) p.length c) (.slice (some ad2) p.length c2) [] false (w2.alloc (.cells #[.slice (some ad) p.length c, .slice (some ad2) p.length c2, .slice none 0 0, .bool false] 110)) := ⟨none, 0, heap_alloc_new w2 _, own_nil _ _ _ _⟩
    refine (HN.out _ hws ((Below.refl _ w2).alloc (Nat.le_refl _) _)).mono ?_
    rintro e w3 ⟨⟨acc, long⟩, hy, rfl, hw, hb⟩
    have HB3 := Lib.hid (HB2.out.trans ((((Below.refl _ w2).alloc (Nat.le_refl _) _).trans hb).mono HB2.out.size))
    obtain ⟨A0, c0, h1, h2⟩ := hw
    have p2 : w3.cell? ⟨w2.heap.size, 2, none⟩ = some (.slice A0 acc.length c0) := by simp [World.cell?, h1]
    have p3 : w3.cell? ⟨w2.heap.size, 3, none⟩ = some (.bool long) := by simp [World.cell?, h1]
    obtain ⟨_, _, hy3⟩ := hy
    have hy4 := hy3 rfl
    simp only [List.length_nil, Nat.zero_add, List.nil_append] at hy4
    clear h1 hy3 hws hb HN
    rcases hy4 with ⟨q1, q2⟩ | ⟨q1, q2⟩
    · obtain ⟨rfl, rfl⟩ := Prod.mk.inj q2
      rw [bytes_nums] at h2
      have hcv := own_string (P := Try.prog) Try.underlying71 Try.underlying5 Try.underlying9 h2
      rw [str_acc] at hcv
      have HQ := Lib.hid q1
      clear h2 q1 q2
      go_wp2
      go_ret2
      refine ⟨?_, HB3.out⟩
      rw [HP.out, if_neg (by have := HQ.out; omega)]; rfl
    · have q2 : long = true := q2
      subst q2
      have HQ := Lib.hid q1
      clear h2 q1
      go_wp2
      go_ret2
      refine ⟨?_, HB3.out⟩
      rw [HP.out, if_pos HQ.out]; rfl
  · have HP := Lib.hid (prt_bad h0)
    have hne : (chk p != 0) = true := by simpa using h0
    have hne2 : (chk p == 0) = false := by simpa using h0
    generalize chk p = k at hne hne2 HCK HP
    clear h0
    go_enter Try.func18, Try.ntmps18
    go_wp2_with fail
    refine (HCK.out).mono ?_
    rintro e w1 ⟨rfl, hb1⟩
    have HB1 := Lib.hid hb1
    clear hb1
    go_wp2
    go_ret2
    refine ⟨?_, HB1.out⟩
    rw [HP.out]; rfl
end Go.Proofs.Ytflkgoggnomehaa.Rp
set_option linter.unusedVariables false
namespace Go.Proofs.Ytflkgoggnomehaa.P
open Go.RowKit Go.Proofs.YtflkgoggnomehaaW.PrintWords Go.Proofs.YtflkgoggnomehaaW.PrintLast
variable {P : Program} {ops : Array Oper} {Q : Exit → Act → World → Prop}
theorem goesV_ {oi : Oper} {N : Option Tmp} {a : Act} {w : World} {K : Act → World → Prop} {f : FuncId} {x : Operand} {fn : Func} {ags : Array Operand} {ts : Array TypeId} (hf : P.funcs[f]? = some fn) (hname : (fn.name == "runtime.NumGoroutine") = false) (hb : fn.body.isSome = true) (args : Array Value)
    (hw : Region.wanted oi (yielded ops a.tmps) = true) (hN : oi.dst = N) (hop : oi.op = .call { callee := .value x, args := ags, argTypes := ts }) (hx : a.eval x = a.eval (.func f)) (hargs : ags.map a.eval = args)
    (h : Calls P f args w fun e w' => ∃ v, e = .returned v ∧ K (a.put N v) w') : if Region.wanted oi (yielded ops a.tmps) = true then Oper.wp P oi a w K Q else K (a.put N undef) w := by
  refine call_ f args hw hN ?_ h
  have he := enters_ hf hname hb args w
  unfold execOp
  rw [hop]
  simp [resolve, hx, Deferred.ofValue, invoke, hargs]
  simp [Act.eval, he]
end Go.Proofs.Ytflkgoggnomehaa.P

import Derived.BigQuiet
import Derived.KernelRfl
import Derived.Lib.Hide
import Derived.WalkKit
import Derived.Test.YtflkgoggnomehaaZ3
import Derived.Test.YtflkgoggnomehaaZ4
import Derived.Test.YtflkgoggnomehaaZ14
import Derived.Test.YtflkgoggnomehaaZ19
set_option linter.unusedVariables false
set_option linter.unusedSimpArgs false
namespace Go.Proofs.Ytflkgoggnomehaa.Pt
open Go.RowKit Go.Proofs.Ytflkgoggnomehaa Go.Proofs.YtflkgoggnomehaaW.PrintWords Go.Proofs.YtflkgoggnomehaaW.PrintLast Go.Proofs.YtflkgoggnomehaaW.PrintMore Go.Proofs.Ytflkgoggnomehaa.P
theorem wr {x : Int} (h1 : -9223372036854775808 ≤ x) (h2 : x < 9223372036854775808) : wrap64 x = x := by unfold wrap64; omega
/-- How many parts a kind has; -1: there is no such kind. -/
def arI (op : Int) : Int := if op = 0 ∨ op = 1 ∨ op = 2 then 0 else if op = 5 then 1 else if op = 3 ∨ op = 4 then 2 else -1
theorem parts_f (k : Nat) (op : Int) : pattern_parts.f (k + 1) op = some (arI op) := by
  unfold pattern_parts.f arI
  by_cases h0 : op = 0
  · subst h0; rfl
  by_cases h1 : op = 1
  · subst h1; rfl
  rw [if_neg h0, if_neg h1]
  rw [pattern_parts.j0]
  by_cases h2 : op = 2
  · subst h2; rfl
  rw [if_neg (by simpa using h2), if_neg (c := op = 0 ∨ op = 1 ∨ op = 2) (by omega)]
  by_cases h5 : op = 5
  · rw [if_pos h5, if_pos h5]
  rw [if_neg h5, if_neg h5]
  by_cases h3 : op = 3
  · rw [if_pos h3, if_pos (.inl h3)]
  rw [if_neg h3]
  by_cases h4 : op = 4
  · rw [if_pos h4, if_pos (.inr h4)]
  rw [if_neg h4, if_neg (by omega)]
theorem rd_drop (p : List S45) (i : Nat) (h : i < p.length) : p.drop i = Q13 p (i : Int) :: p.drop (i + 1) := by
  have er : Q13 p (i : Int) = p[i] := by
    unfold Q13
    rw [Int.toNat_natCast, List.getD_eq_getElem?_getD, List.getElem?_eq_getElem h]
    rfl
  rw [er]
  exact List.drop_eq_getElem_cons h
theorem not_z4 (n : S45) : (!(n.f1.f0 == 0) || (!(n.f1.f1 == 0) || (!(n.f1.f2 == 0) || (!(n.f1.f3 == 0))))) = !z4B n.f1 := by
  unfold z4B
  simp only [Bool.not_and]
/-- What a node does to the number of trees. -/
theorem stp_len {n : S45} {st s : List RT} (h : stp n st = some s) : 0 ≤ arI n.f0 ∧ arI n.f0 ≤ st.length ∧ (s.length : Int) = st.length + (1 - arI n.f0) := by
  unfold stp at h
  unfold arI
  by_cases h0 : n.f0 = 0
  · rw [if_pos h0] at h; obtain rfl := Option.some.inj h; rw [if_pos (.inl h0)]; simp
  rw [if_neg h0] at h
  by_cases h1 : n.f0 = 1
  · rw [if_pos h1] at h; obtain rfl := Option.some.inj h; rw [if_pos (.inr (.inl h1))]; simp
  rw [if_neg h1] at h
  by_cases h2 : n.f0 = 2
  · rw [if_pos h2] at h; obtain rfl := Option.some.inj h; rw [if_pos (.inr (.inr h2))]; simp
  rw [if_neg h2] at h
  rw [if_neg (by omega)]
  by_cases h5 : n.f0 = 5
  · rw [if_pos h5] at h
    rw [if_pos h5]
    match st, h with
    | a :: r, h => obtain rfl := Option.some.inj h; simp only [List.length_cons]; omega
  rw [if_neg h5] at h
  rw [if_neg h5]
  by_cases h3 : n.f0 = 3
  · rw [if_pos h3] at h
    rw [if_pos (.inl h3)]
    match st, h with
    | b :: a :: r, h => obtain rfl := Option.some.inj h; simp only [List.length_cons]; omega
  rw [if_neg h3] at h
  by_cases h4 : n.f0 = 4
  · rw [if_pos h4] at h
    rw [if_pos (.inr h4)]
    match st, h with
    | b :: a :: r, h => obtain rfl := Option.some.inj h; simp only [List.length_cons]; omega
  rw [if_neg h4] at h
  cases h
theorem stp_none {n : S45} {st : List RT} (h : stp n st = none) : arI n.f0 < 0 ∨ (st.length : Int) < arI n.f0 := by
  unfold stp at h
  unfold arI
  by_cases h0 : n.f0 = 0
  · rw [if_pos h0] at h; cases h
  rw [if_neg h0] at h
  by_cases h1 : n.f0 = 1
  · rw [if_pos h1] at h; cases h
  rw [if_neg h1] at h
  by_cases h2 : n.f0 = 2
  · rw [if_pos h2] at h; cases h
  rw [if_neg h2] at h
  rw [if_neg (by omega)]
  by_cases h5 : n.f0 = 5
  · rw [if_pos h5] at h
    rw [if_pos h5]
    match st, h with
    | [], h => simp
  rw [if_neg h5] at h
  rw [if_neg h5]
  by_cases h3 : n.f0 = 3
  · rw [if_pos h3] at h
    rw [if_pos (.inl h3)]
    match st, h with
    | [], h => simp
    | [a], h => simp
  rw [if_neg h3] at h
  by_cases h4 : n.f0 = 4
  · rw [if_pos h4] at h
    rw [if_pos (.inr h4)]
    match st, h with
    | [], h => simp
    | [a], h => simp
  rw [if_neg h4] at h
  rw [if_neg (by omega)]
  exact .inl (by decide)
/-- Does a stack end with one tree alone? -/
def oneT : Option (List RT) → Bool
  | some [_] => true
  | _ => false
theorem shaped_l0 (p : List S45) (hp : p.length ≤ 4096) : ∀ (d i k : Nat) (st : List RT), p.length - i = d → i ≤ p.length → st.length ≤ i → d + 1 < k → pattern_shaped.l0 k (st.length : Int) p (p.length : Int) (i : Int) = some (oneT (run (p.drop i) st))
  | 0, i, k, st, hd, hi, hs, hk => by
    obtain ⟨k, rfl⟩ : ∃ m, k = m + 1 := ⟨k - 1, by omega⟩
    obtain rfl : i = p.length := by omega
    rw [pattern_shaped.l0, if_neg (by omega), List.drop_length]
    unfold run oneT
    match st with
    | [] => rfl
    | [t] => rfl
    | a :: b :: r =>
      have e : (((a :: b :: r).length : Nat) : Int) ≠ 1 := by simp only [List.length_cons]; omega
      rw [beq_eq_false_iff_ne.2 e]
  | d + 1, i, k, st, hd, hi, hs, hk => by
    obtain ⟨k, rfl⟩ : ∃ m, k = m + 2 := ⟨k - 2, by omega⟩
    have hlt : i < p.length := by omega
    have w2 : wrap64 ((i : Int) + 1) = ((i + 1 : Nat) : Int) := by rw [wr (by omega) (by omega)]; omega
    rw [pattern_shaped.l0, if_pos (by omega), if_pos (by omega), if_pos (by omega), parts_f, Option.bind_some, rd_drop p i hlt]
    generalize Q13 p (i : Int) = n
    rw [not_z4]
    cases hst : stp n st with
    | none =>
      have h := stp_none hst
      have hr : oneT (run (n :: p.drop (i + 1)) st) = false := by
        unfold run
        split
        · rw [hst]; rfl
        · rfl
      rw [hr]
      by_cases q : arI n.f0 < 0
      · rw [if_pos q]
      · rw [if_neg q, if_pos (by omega)]
    | some s =>
      obtain ⟨h0, h1, h2⟩ := stp_len hst
      have hle : (arI n.f0) ≤ 2 := by
        unfold arI
        repeat' split
        all_goals decide
      have hs' : s.length ≤ i + 1 := by omega
      rw [if_neg (by omega), if_neg (by omega)]
      have w1 : wrap64 ((st.length : Int) + wrap64 (1 - arI n.f0)) = (s.length : Int) := by rw [wr (x := 1 - arI n.f0) (by omega) (by omega), wr (by omega) (by omega)]; omega
      rw [w1, w2]
      have ih := shaped_l0 p hp d (i + 1) (k + 1) s (by omega) (by omega) hs' (by omega)
      have hrun : run (n :: p.drop (i + 1)) st = if bareB n = true then run (p.drop (i + 1)) s else none := by
        show (if bareB n = true then (stp n st).bind (run (p.drop (i + 1))) else none) = _
        rw [hst]
        rfl
      rw [hrun]
      by_cases q2 : n.f0 = 2
      · have hb : bareB n = true := by unfold bareB; rw [beq_iff_eq.2 q2]; rfl
        rw [if_pos q2, if_pos hb]
        exact ih
      · rw [if_neg q2]
        have hbe : bareB n = z4B n.f1 := by unfold bareB; rw [beq_eq_false_iff_ne.2 q2]; rfl
        rw [hbe]
        cases hz : z4B n.f1 with
        | true => rw [if_neg (by decide), if_pos rfl]; exact ih
        | false => rw [if_pos (by decide), if_neg (by decide)]; rfl
theorem shaped_f (p : List S45) (hp : p.length ≤ 4096) (k : Nat) (hk : p.length + 1 < k) : pattern_shaped.f k p = some (oneT (run p [])) :=
  shaped_l0 p hp p.length 0 k [] (by omega) (by omega) (by simp) hk
end Go.Proofs.Ytflkgoggnomehaa.Pt
set_option linter.unusedVariables false
set_option linter.unusedSimpArgs false
namespace Go.Proofs.Ytflkgoggnomehaa.Pp
open Go.RowKit Go.Proofs.Ytflkgoggnomehaa Go.Proofs.YtflkgoggnomehaaW.PrintWords Go.Proofs.YtflkgoggnomehaaW.PrintLast Go.Proofs.YtflkgoggnomehaaW.PrintMore Go.Proofs.Ytflkgoggnomehaa.P
/-- How many parts a kind has. -/
def ar (op : Int) : Nat := if op = 5 then 1 else if op = 3 ∨ op = 4 then 2 else 0
/-- What is told of one node: its parts' last nodes, and where its extent begins; F: what was told of those ahead. -/
def step (F : List Int) (op : Int) : S100 × Int :=
  if ar op = 0 then (⟨-1, -1⟩, F.length)
  else if F.length = 0 ∨ F.getD (F.length - 1) 0 < 0 then (⟨-1, -1⟩, -1)
  else if ar op = 1 then (⟨(F.length : Int) - 1, -1⟩, F.getD (F.length - 1) 0)
  else if F.getD (F.length - 1) 0 = 0 ∨ F.getD ((F.getD (F.length - 1) 0).toNat - 1) 0 < 0 then (⟨-1, (F.length : Int) - 1⟩, -1)
  else (⟨F.getD (F.length - 1) 0 - 1, (F.length : Int) - 1⟩, F.getD ((F.getD (F.length - 1) 0).toNat - 1) 0)
def goP : List S45 → List S100 → List Int → List S100 × List Int
  | [], L, F => (L, F)
  | p :: ps, L, F => goP ps (L ++ [(step F p.f0).1]) (F ++ [(step F p.f0).2])
def partsF (p : List S45) : List S100 × List Int × Bool :=
  ((goP p [] []).1, (goP p [] []).2, decide (0 < p.length) && decide ((goP p [] []).2.getD (p.length - 1) 0 = 0))
theorem goP_app : ∀ (l m : List S45) (L : List S100) (F : List Int), goP (l ++ m) L F = goP m (goP l L F).1 (goP l L F).2
  | [], m, L, F => rfl
  | p :: l, m, L, F => goP_app l m _ _
theorem goP_len : ∀ (l : List S45) (L : List S100) (F : List Int), (goP l L F).1.length = L.length + l.length ∧ (goP l L F).2.length = F.length + l.length
  | [], L, F => ⟨rfl, rfl⟩
  | p :: l, L, F => by
    have h := goP_len l (L ++ [(step F p.f0).1]) (F ++ [(step F p.f0).2])
    simp only [List.length_append, List.length_cons, List.length_nil] at h ⊢
    exact ⟨by rw [goP, h.1]; omega, by rw [goP, h.2]; omega⟩
theorem step_le (F : List Int) (op : Int) (hF : ∀ j, j < F.length → -1 ≤ F.getD j 0 ∧ F.getD j 0 ≤ (j : Int)) : -1 ≤ (step F op).2 ∧ (step F op).2 ≤ (F.length : Int) := by
  unfold step
  by_cases h0 : ar op = 0
  · rw [if_pos h0]; exact ⟨by show -1 ≤ (F.length : Int); omega, by show (F.length : Int) ≤ _; omega⟩
  rw [if_neg h0]
  by_cases h1 : F.length = 0 ∨ F.getD (F.length - 1) 0 < 0
  · rw [if_pos h1]; exact ⟨Int.le_refl _, by show (-1 : Int) ≤ _; omega⟩
  rw [if_neg h1]
  have hl := hF (F.length - 1) (by omega)
  by_cases h2 : ar op = 1
  · rw [if_pos h2]; exact ⟨hl.1, by have := hl.2; show F.getD (F.length - 1) 0 ≤ _; omega⟩
  rw [if_neg h2]
  by_cases h3 : F.getD (F.length - 1) 0 = 0 ∨ F.getD ((F.getD (F.length - 1) 0).toNat - 1) 0 < 0
  · rw [if_pos h3]; exact ⟨Int.le_refl _, by show (-1 : Int) ≤ _; omega⟩
  rw [if_neg h3]
  have := hF ((F.getD (F.length - 1) 0).toNat - 1) (by omega)
  exact ⟨this.1, by show F.getD ((F.getD (F.length - 1) 0).toNat - 1) 0 ≤ _; omega⟩
theorem goP_le : ∀ (l : List S45) (L : List S100) (F : List Int), (∀ j, j < F.length → -1 ≤ F.getD j 0 ∧ F.getD j 0 ≤ (j : Int)) → ∀ j, j < (goP l L F).2.length → -1 ≤ (goP l L F).2.getD j 0 ∧ (goP l L F).2.getD j 0 ≤ (j : Int)
  | [], L, F, hF => hF
  | p :: l, L, F, hF => by
    refine goP_le l _ _ fun j hj => ?_
    have hs := step_le F p.f0 hF
    simp only [List.length_append, List.length_cons, List.length_nil] at hj
    rcases Nat.lt_or_ge j F.length with q | q
    · have e : (F ++ [(step F p.f0).2]).getD j 0 = F.getD j 0 := by simp [List.getD, List.getElem?_append_left q]
      rw [e]; exact hF j q
    · obtain rfl : j = F.length := by omega
      have e : (F ++ [(step F p.f0).2]).getD F.length 0 = (step F p.f0).2 := by simp [List.getD]
      rw [e]; exact hs
/-- What is told of the first i nodes. -/
def upL (p : List S45) (i : Nat) : List S100 := (goP (p.take i) [] []).1
def upF (p : List S45) (i : Nat) : List Int := (goP (p.take i) [] []).2
theorem upL_len (p : List S45) (i : Nat) (h : i ≤ p.length) : (upL p i).length = i := by unfold upL; rw [(goP_len _ _ _).1, List.length_take]; simp; omega
theorem upF_len (p : List S45) (i : Nat) (h : i ≤ p.length) : (upF p i).length = i := by unfold upF; rw [(goP_len _ _ _).2, List.length_take]; simp; omega
theorem up_succ (p : List S45) (i : Nat) (h : i < p.length) : upL p (i + 1) = upL p i ++ [(step (upF p i) (Q13 p i).f0).1] ∧ upF p (i + 1) = upF p i ++ [(step (upF p i) (Q13 p i).f0).2] := by
  have e : p.take (i + 1) = p.take i ++ [p[i]] := by rw [List.take_succ_eq_append_getElem h]
  have er : Q13 p i = p[i] := by
    unfold Q13
    rw [Int.toNat_natCast, List.getD_eq_getElem?_getD, List.getElem?_eq_getElem h]
    rfl
  unfold upL upF
  rw [e, goP_app, er]
  exact ⟨rfl, rfl⟩
theorem upF_le (p : List S45) (i : Nat) (hi : i ≤ p.length) (j : Nat) (hj : j < i) : -1 ≤ (upF p i).getD j 0 ∧ (upF p i).getD j 0 ≤ (j : Int) :=
  goP_le _ _ _ (fun j hj => by simp at hj) j (by have := upF_len p i hi; unfold upF at this; omega)
end Go.Proofs.Ytflkgoggnomehaa.Pp
set_option linter.unusedVariables false
set_option linter.unusedSimpArgs false
namespace Go.Proofs.Ytflkgoggnomehaa.Pt
open Go.RowKit Go.Proofs.Ytflkgoggnomehaa Go.Proofs.YtflkgoggnomehaaW.PrintWords Go.Proofs.YtflkgoggnomehaaW.PrintLast Go.Proofs.YtflkgoggnomehaaW.PrintMore Go.Proofs.Ytflkgoggnomehaa.P Go.Proofs.Ytflkgoggnomehaa.Pp
abbrev nod (p : List S45) (j : Nat) : S45 := Q13 p (j : Int)
def Fx (p : List S45) (j : Nat) : Int := (Pp.step (upF p j) (nod p j).f0).2
def Lx (p : List S45) (j : Nat) : S100 := (Pp.step (upF p j) (nod p j).f0).1
theorem up_at (p : List S45) : ∀ (j : Nat), j ≤ p.length → ∀ k, k < j → (upF p j).getD k 0 = Fx p k ∧ (upL p j).getD k z100 = Lx p k
  | 0, h, k, hk => by omega
  | j + 1, h, k, hk => by
    obtain ⟨e1, e2⟩ := up_succ p j (by omega)
    have l1 := upL_len p j (by omega)
    have l2 := upF_len p j (by omega)
    rw [e1, e2]
    rcases Nat.lt_or_ge k j with q | q
    · have ih := up_at p j (by omega) k q
      rw [List.getD_eq_getElem?_getD, List.getD_eq_getElem?_getD, List.getElem?_append_left (by omega), List.getElem?_append_left (by omega), ← List.getD_eq_getElem?_getD, ← List.getD_eq_getElem?_getD]
      exact ih
    · obtain rfl : k = j := by omega
      rw [List.getD_eq_getElem?_getD, List.getD_eq_getElem?_getD, List.getElem?_append_right (by omega), List.getElem?_append_right (by omega), l1, l2, Nat.sub_self]
      exact ⟨rfl, rfl⟩
theorem take_nod (p : List S45) (j : Nat) (h : j < p.length) : p.take (j + 1) = p.take j ++ [nod p j] := by
  have er : nod p j = p[j] := by
    unfold nod Q13
    rw [Int.toNat_natCast, List.getD_eq_getElem?_getD, List.getElem?_eq_getElem h]
    rfl
  rw [er, List.take_succ_eq_append_getElem h]
/-- The tree's nodes as the document's parts lead to them; j: its last node. -/
def At (p : List S45) : Nat → RT → Prop
  | j, .none => (nod p j).f0 = 0
  | j, .empty => (nod p j).f0 = 1
  | j, .cls c => nod p j = ⟨2, c⟩
  | j, .star a => (nod p j).f0 = 5 ∧ Lx p j = ⟨(j : Int) - 1, -1⟩ ∧ 1 ≤ j ∧ At p (j - 1) a
  | j, .seq a b => (nod p j).f0 = 3 ∧ Lx p j = ⟨((j - 1 - b.size : Nat) : Int), (j : Int) - 1⟩ ∧ b.size + 1 ≤ j ∧ At p (j - 1 - b.size) a ∧ At p (j - 1) b
  | j, .alt a b => (nod p j).f0 = 4 ∧ Lx p j = ⟨((j - 1 - b.size : Nat) : Int), (j : Int) - 1⟩ ∧ b.size + 1 ≤ j ∧ At p (j - 1 - b.size) a ∧ At p (j - 1) b
theorem At.top {p : List S45} {j : Nat} {t : RT} (h : At p j t) : (nod p j).f0 = t.top := by
  cases t with
  | none => exact h
  | empty => exact h
  | cls c => rw [show nod p j = ⟨2, c⟩ from h]; rfl
  | star a => exact h.1
  | seq a b => exact h.1
  | alt a b => exact h.1
theorem last_of {p : List S45} {e : Nat} {pre : List S45} {t : RT} (he : e < p.length) (h : p.take (e + 1) = pre ++ t.enc) : nod p e = t.last ∧ p.take e = pre ++ t.body := by
  rw [take_nod p e he, t.split_last, ← List.append_assoc] at h
  obtain ⟨h1, h2⟩ := List.append_inj' h rfl
  exact ⟨List.singleton_inj.1 h2, h1⟩
theorem sub_at (p : List S45) : ∀ (t : RT) (e s : Nat) (pre : List S45), e < p.length → pre.length = s → p.take (e + 1) = pre ++ t.enc → e + 1 = s + t.size ∧ Fx p e = (s : Int) ∧ At p e t := by
  intro t
  induction t with
  | none =>
    intro e s pre he hs h
    obtain ⟨h1, h2⟩ := last_of he h
    have hl := congrArg List.length h
    rw [List.length_take, List.length_append, hs] at hl
    simp only [RT.enc, List.length_cons, List.length_nil] at hl
    refine ⟨by show e + 1 = s + 1; omega, ?_, by show (nod p e).f0 = 0; rw [h1]; rfl⟩
    unfold Fx Pp.step
    rw [h1, if_pos (show ar (RT.none.last).f0 = 0 from rfl), upF_len p e (by omega)]
    show (e : Int) = (s : Int)
    omega
  | empty =>
    intro e s pre he hs h
    obtain ⟨h1, h2⟩ := last_of he h
    have hl := congrArg List.length h
    rw [List.length_take, List.length_append, hs] at hl
    simp only [RT.enc, List.length_cons, List.length_nil] at hl
    refine ⟨by show e + 1 = s + 1; omega, ?_, by show (nod p e).f0 = 1; rw [h1]; rfl⟩
    unfold Fx Pp.step
    rw [h1, if_pos (show ar (RT.empty.last).f0 = 0 from rfl), upF_len p e (by omega)]
    show (e : Int) = (s : Int)
    omega
  | cls c =>
    intro e s pre he hs h
    obtain ⟨h1, h2⟩ := last_of he h
    have hl := congrArg List.length h
    rw [List.length_take, List.length_append, hs] at hl
    simp only [RT.enc, List.length_cons, List.length_nil] at hl
    refine ⟨by show e + 1 = s + 1; omega, ?_, h1⟩
    unfold Fx Pp.step
    rw [h1, if_pos (show ar ((RT.cls c).last).f0 = 0 from rfl), upF_len p e (by omega)]
    show (e : Int) = (s : Int)
    omega
  | star a ih =>
    intro e s pre he hs h
    obtain ⟨h1, h2⟩ := last_of he h
    have hp := a.pos
    have hl := congrArg List.length h2
    rw [List.length_take, List.length_append, hs] at hl
    simp only [RT.body, a.len] at hl
    obtain ⟨e1, rfl⟩ : ∃ e1, e = e1 + 1 := ⟨e - 1, by omega⟩
    obtain ⟨i1, i2, i3⟩ := ih e1 s pre (by omega) hs h2
    have hF := (up_at p (e1 + 1) (by omega) e1 (by omega)).1
    have hlen := upF_len p (e1 + 1) (by omega)
    have hst : Pp.step (upF p (e1 + 1)) (nod p (e1 + 1)).f0 = (⟨((e1 + 1 : Nat) : Int) - 1, -1⟩, (s : Int)) := by
      unfold Pp.step
      rw [h1, show ((RT.star a).last).f0 = 5 from rfl, if_neg (show ¬ ar (5 : Int) = 0 by decide), hlen, Nat.add_sub_cancel, hF, i2, if_neg (by omega), if_pos (show ar (5 : Int) = 1 from rfl)]
    refine ⟨by simp only [RT.size]; omega, by unfold Fx; rw [hst], by rw [h1]; rfl, by unfold Lx; rw [hst], by omega, ?_⟩
    rw [Nat.add_sub_cancel]; exact i3
  | seq a b iha ihb =>
    intro e s pre he hs h
    obtain ⟨h1, h2⟩ := last_of he h
    have hpa := a.pos
    have hpb := b.pos
    have hl := congrArg List.length h2
    rw [List.length_take, List.length_append, hs] at hl
    simp only [RT.body, List.length_append, a.len, b.len] at hl
    obtain ⟨e1, rfl⟩ : ∃ e1, e = e1 + 1 := ⟨e - 1, by omega⟩
    have h3 : p.take (e1 + 1) = (pre ++ a.enc) ++ b.enc := by rw [h2, List.append_assoc]; rfl
    obtain ⟨i1, i2, i3⟩ := ihb e1 (s + a.size) (pre ++ a.enc) (by omega) (by rw [List.length_append, hs, a.len]) h3
    obtain ⟨e2, he2⟩ : ∃ e2, s + a.size = e2 + 1 := ⟨s + a.size - 1, by omega⟩
    have h4 : p.take (e2 + 1) = pre ++ a.enc := by
      have h5 : (p.take (e1 + 1)).take (e2 + 1) = p.take (e2 + 1) := by rw [List.take_take]; congr 1; omega
      rw [← h5, h3, List.take_append_of_le_length (by rw [List.length_append, hs, a.len]; omega), List.take_of_length_le (by rw [List.length_append, hs, a.len]; omega)]
    obtain ⟨j1, j2, j3⟩ := iha e2 s pre (by omega) hs h4
    have hF := (up_at p (e1 + 1) (by omega) e1 (by omega)).1
    have hF2 := (up_at p (e1 + 1) (by omega) e2 (by omega)).1
    have hlen := upF_len p (e1 + 1) (by omega)
    have hst : Pp.step (upF p (e1 + 1)) (nod p (e1 + 1)).f0 = (⟨((e1 + 1 - 1 - b.size : Nat) : Int), ((e1 + 1 : Nat) : Int) - 1⟩, (s : Int)) := by
      unfold Pp.step
      rw [h1, show ((RT.seq a b).last).f0 = 3 from rfl, if_neg (show ¬ ar (3 : Int) = 0 by decide), hlen, Nat.add_sub_cancel, hF, i2, if_neg (by omega), if_neg (show ¬ ar (3 : Int) = 1 by decide)]
      rw [Int.toNat_natCast, show s + a.size - 1 = e2 by omega, hF2, j2, if_neg (by omega), show ((s + a.size : Nat) : Int) - 1 = ((e1 - b.size : Nat) : Int) by omega]
    refine ⟨by simp only [RT.size]; omega, by unfold Fx; rw [hst], by rw [h1]; rfl, by unfold Lx; rw [hst], by omega, ?_, by rw [Nat.add_sub_cancel]; exact i3⟩
    rw [show e1 + 1 - 1 - b.size = e2 by omega]; exact j3
  | alt a b iha ihb =>
    intro e s pre he hs h
    obtain ⟨h1, h2⟩ := last_of he h
    have hpa := a.pos
    have hpb := b.pos
    have hl := congrArg List.length h2
    rw [List.length_take, List.length_append, hs] at hl
    simp only [RT.body, List.length_append, a.len, b.len] at hl
    obtain ⟨e1, rfl⟩ : ∃ e1, e = e1 + 1 := ⟨e - 1, by omega⟩
    have h3 : p.take (e1 + 1) = (pre ++ a.enc) ++ b.enc := by rw [h2, List.append_assoc]; rfl
    obtain ⟨i1, i2, i3⟩ := ihb e1 (s + a.size) (pre ++ a.enc) (by omega) (by rw [List.length_append, hs, a.len]) h3
    obtain ⟨e2, he2⟩ : ∃ e2, s + a.size = e2 + 1 := ⟨s + a.size - 1, by omega⟩
    have h4 : p.take (e2 + 1) = pre ++ a.enc := by
      have h5 : (p.take (e1 + 1)).take (e2 + 1) = p.take (e2 + 1) := by rw [List.take_take]; congr 1; omega
      rw [← h5, h3, List.take_append_of_le_length (by rw [List.length_append, hs, a.len]; omega), List.take_of_length_le (by rw [List.length_append, hs, a.len]; omega)]
    obtain ⟨j1, j2, j3⟩ := iha e2 s pre (by omega) hs h4
    have hF := (up_at p (e1 + 1) (by omega) e1 (by omega)).1
    have hF2 := (up_at p (e1 + 1) (by omega) e2 (by omega)).1
    have hlen := upF_len p (e1 + 1) (by omega)
    have hst : Pp.step (upF p (e1 + 1)) (nod p (e1 + 1)).f0 = (⟨((e1 + 1 - 1 - b.size : Nat) : Int), ((e1 + 1 : Nat) : Int) - 1⟩, (s : Int)) := by
      unfold Pp.step
      rw [h1, show ((RT.alt a b).last).f0 = 4 from rfl, if_neg (show ¬ ar (4 : Int) = 0 by decide), hlen, Nat.add_sub_cancel, hF, i2, if_neg (by omega), if_neg (show ¬ ar (4 : Int) = 1 by decide)]
      rw [Int.toNat_natCast, show s + a.size - 1 = e2 by omega, hF2, j2, if_neg (by omega), show ((s + a.size : Nat) : Int) - 1 = ((e1 - b.size : Nat) : Int) by omega]
    refine ⟨by simp only [RT.size]; omega, by unfold Fx; rw [hst], by rw [h1]; rfl, by unfold Lx; rw [hst], by omega, ?_, by rw [Nat.add_sub_cancel]; exact i3⟩
    rw [show e1 + 1 - 1 - b.size = e2 by omega]; exact j3
/-- A node that may be. -/
def Vald (n : S45) : Prop := 0 ≤ n.f0 ∧ n.f0 ≤ 5 ∧ bareB n = true
theorem sound (p : List S45) (hv : ∀ j, j < p.length → Vald (nod p j)) : ∀ (m j : Nat), j < m → j < p.length → 0 ≤ Fx p j → ∃ t : RT, p.take (j + 1) = p.take (Fx p j).toNat ++ t.enc
  | 0, j, hm, hj, h => by omega
  | m + 1, j, hm, hj, h => by
    obtain ⟨v0, v1, v2⟩ := hv j hj
    have hlen := upF_len p j (by omega)
    have htn := take_nod p j hj
    by_cases h0 : ar (nod p j).f0 = 0
    · have hF : Fx p j = (j : Int) := by unfold Fx Pp.step; rw [if_pos h0, hlen]
      have hop : (nod p j).f0 = 0 ∨ (nod p j).f0 = 1 ∨ (nod p j).f0 = 2 := by
        unfold ar at h0
        by_cases q5 : (nod p j).f0 = 5
        · rw [if_pos q5] at h0; omega
        · rw [if_neg q5] at h0
          by_cases q34 : (nod p j).f0 = 3 ∨ (nod p j).f0 = 4
          · rw [if_pos q34] at h0; omega
          · omega
      rw [hF, Int.toNat_natCast, htn]
      rcases hop with q | q | q
      · exact ⟨.none, by rw [bare_op v2 (by omega), q]; rfl⟩
      · exact ⟨.empty, by rw [bare_op v2 (by omega), q]; rfl⟩
      · refine ⟨.cls (nod p j).f1, ?_⟩
        generalize nod p j = n at q
        obtain ⟨x, y⟩ := n
        dsimp only at q
        rw [q]; rfl
    · have hF : Fx p j = (Pp.step (upF p j) (nod p j).f0).2 := rfl
      unfold Pp.step at hF
      rw [if_neg h0, hlen] at hF
      by_cases h1 : j = 0 ∨ (upF p j).getD (j - 1) 0 < 0
      · rw [if_pos h1] at hF
        rw [hF] at h
        exact absurd (show (0 : Int) ≤ -1 from h) (by decide)
      · rw [if_neg h1] at hF
        obtain ⟨j1, rfl⟩ : ∃ j1, j = j1 + 1 := ⟨j - 1, by omega⟩
        rw [Nat.add_sub_cancel, (up_at p (j1 + 1) (by omega) j1 (by omega)).1] at h1 hF
        have hn1 : 0 ≤ Fx p j1 := by omega
        obtain ⟨b, hb⟩ := sound p hv m j1 (by omega) (by omega) hn1
        by_cases h2 : ar (nod p (j1 + 1)).f0 = 1
        · rw [if_pos h2] at hF
          have hop : (nod p (j1 + 1)).f0 = 5 := by
            unfold ar at h2
            by_cases q5 : (nod p (j1 + 1)).f0 = 5
            · exact q5
            · rw [if_neg q5] at h2; split at h2 <;> omega
          refine ⟨.star b, ?_⟩
          rw [hF, htn, hb, bare_op v2 (by omega), hop, List.append_assoc]
          rfl
        · rw [if_neg h2] at hF
          by_cases h3 : Fx p j1 = 0 ∨ (upF p (j1 + 1)).getD ((Fx p j1).toNat - 1) 0 < 0
          · rw [if_pos h3] at hF
            rw [hF] at h
            exact absurd (show (0 : Int) ≤ -1 from h) (by decide)
          · rw [if_neg h3] at hF
            have hle := (upF_le p (j1 + 1) (by omega) j1 (by omega)).2
            rw [(up_at p (j1 + 1) (by omega) j1 (by omega)).1] at hle
            have hlt : (Fx p j1).toNat - 1 < j1 + 1 := by omega
            rw [(up_at p (j1 + 1) (by omega) _ hlt).1] at h3 hF
            obtain ⟨a, ha⟩ := sound p hv m ((Fx p j1).toNat - 1) (by omega) (by omega) (by omega)
            rw [show (Fx p j1).toNat - 1 + 1 = (Fx p j1).toNat by omega] at ha
            have hop : (nod p (j1 + 1)).f0 = 3 ∨ (nod p (j1 + 1)).f0 = 4 := by
              unfold ar at h0 h2
              by_cases q5 : (nod p (j1 + 1)).f0 = 5
              · rw [if_pos q5] at h2; omega
              · rw [if_neg q5] at h0
                by_cases q34 : (nod p (j1 + 1)).f0 = 3 ∨ (nod p (j1 + 1)).f0 = 4
                · exact q34
                · rw [if_neg q34] at h0; omega
            rw [hF]
            rcases hop with q | q
            · exact ⟨.seq a b, by rw [htn, hb, ha, bare_op v2 (by omega), q, List.append_assoc, List.append_assoc]; rfl⟩
            · exact ⟨.alt a b, by rw [htn, hb, ha, bare_op v2 (by omega), q, List.append_assoc, List.append_assoc]; rfl⟩
/-- The document's Parts tells what the stack tells. -/
theorem parts_ok {p : List S45} (hv : ∀ j, j < p.length → Vald (nod p j)) : (partsF p).2.2 = oneT (run p []) := by
  have e : (partsF p).2.2 = (decide (0 < p.length) && decide ((upF p p.length).getD (p.length - 1) 0 = 0)) := by
    unfold partsF upF
    rw [List.take_length]
  rw [e]
  by_cases h0 : 0 < p.length
  · rw [decide_eq_true h0, Bool.true_and, (up_at p p.length (Nat.le_refl _) (p.length - 1) (by omega)).1]
    by_cases h1 : Fx p (p.length - 1) = 0
    · obtain ⟨t, ht⟩ := sound p hv p.length (p.length - 1) (by omega) (by omega) (by omega)
      rw [h1, show p.length - 1 + 1 = p.length by omega, List.take_length] at ht
      have ht' : p = t.enc := by simpa using ht
      rw [run_iff.2 ht', decide_eq_true h1]
      rfl
    · rw [decide_eq_false h1]
      cases hr : run p [] with
      | none => rfl
      | some st =>
        match st, hr with
        | [], hr => rfl
        | [t], hr =>
          exfalso
          have hpe := run_iff.1 hr
          have := sub_at p t (p.length - 1) 0 [] (by omega) rfl (by rw [show p.length - 1 + 1 = p.length by omega, List.take_length]; exact hpe)
          exact h1 this.2.1
        | a :: b :: r, hr => rfl
  · rw [decide_eq_false h0, Bool.false_and]
    have : p = [] := List.eq_nil_of_length_eq_zero (by omega)
    rw [this]; rfl
end Go.Proofs.Ytflkgoggnomehaa.Pt
set_option linter.unusedVariables false
set_option linter.unusedSimpArgs false
namespace Go.Proofs.Ytflkgoggnomehaa.Pp
open Go.RowKit Go.Proofs.Ytflkgoggnomehaa Go.Proofs.YtflkgoggnomehaaW.PrintWords Go.Proofs.YtflkgoggnomehaaW.PrintLast Go.Proofs.YtflkgoggnomehaaW.PrintMore Go.Proofs.Ytflkgoggnomehaa.P
def enc2 (x : S100) : List Value := [.int .i64 x.f0, .int .i64 x.f1]
def flat2 (l : List S100) : List Value := l.flatMap enc2
def ints (l : List Int) : List Value := l.map (Value.int .i64)
theorem flat2_len : ∀ l : List S100, (flat2 l).length = l.length * 2
  | [] => rfl
  | x :: l => by show (enc2 x ++ flat2 l).length = _; rw [List.length_append, flat2_len l]; simp [enc2]; omega
theorem flat2_snoc (l : List S100) (x : S100) : flat2 (l ++ [x]) = flat2 l ++ enc2 x := by simp [flat2]
theorem ints_snoc (l : List Int) (x : Int) : ints (l ++ [x]) = ints l ++ [.int .i64 x] := by simp [ints]
theorem ints_len (l : List Int) : (ints l).length = l.length := by simp [ints]
theorem info100' : (Try.prog.info? 100).map (fun i => (i.zero, i.size, i.bytes)) = some (some (.agg #[(.int .i64 0), (.int .i64 0)]), 2, 16) := by kernel_rfl
theorem info3' : (Try.prog.info? 3).map (fun i => (i.zero, i.size, i.bytes)) = some (some (.int .i64 0), 1, 8) := by kernel_rfl
/-- What make made. -/
theorem made_own {α : Type} {d : Kd α} {e n : Nat} {w1 : World} {base : Nat} {ok : Nat → Prop} {v1 : Value} {z : α} {m : Nat} (h : d.R e w1 base ok v1 (List.replicate ((n : Int)).toNat z)) (hb : ∃ b, v1.ownBlock = some b ∧ m ≤ b) :
    ∃ g c inner, v1 = .slice (some ⟨g, 0, none⟩) n c ∧ n ≤ c ∧ base ≤ g ∧ m ≤ g ∧ g < w1.heap.size ∧ w1.ownsRow base e d.sz (.slice (some ⟨g, 0, none⟩) n c) n inner ∧ inner.length = n * d.sz := by
  obtain ⟨_, inner, ho, _⟩ := h
  rw [List.length_replicate, Int.toNat_natCast] at ho
  obtain ⟨b, hb1, hb2⟩ := hb
  rcases ho.2 with ⟨q, _⟩ | ⟨g, cap, cur, rfl, hbg, hh, r1, r2, r3, r4⟩
  · rw [q] at hb1; cases hb1
  · obtain rfl : g = b := by simpa [Value.ownBlock] using hb1
    exact ⟨g, cap, inner, rfl, r1, hbg, hb2, Fr.heap_lt' hh, ho, ho.1⟩
/-- What holds when i nodes are done. -/
structure PRow (B : Nat) (w : World) (l : List S45) (gl cl gf cf : Nat) (L : List S100) (F : List Int) (W : World) : Prop where
  hl : ∃ R, W.ownsRow B 100 2 (.slice (some ⟨gl, 0, none⟩) l.length cl) l.length (flat2 L ++ R)
  hf : ∃ R, W.ownsRow B 3 1 (.slice (some ⟨gf, 0, none⟩) l.length cf) l.length (ints F ++ R)
  hb : Below B w W
section
variable {B : Nat} {w W : World} {l : List S45} {gl cl gf cf : Nat} {L : List S100} {F : List Int}
theorem PRow.ne (h : PRow B w l gl cl gf cf L F W) : gl ≠ gf := by
  obtain ⟨R, h1⟩ := h.hl
  obtain ⟨R', h2⟩ := h.hf
  obtain ⟨c1, e1⟩ := own_typed h1 gl rfl
  obtain ⟨c2, e2⟩ := own_typed h2 gf rfl
  rintro rfl
  rw [e1] at e2
  cases e2
theorem PRow.ge (h : PRow B w l gl cl gf cf L F W) : B ≤ gl ∧ B ≤ gf ∧ gl < W.heap.size ∧ gf < W.heap.size := by
  obtain ⟨R, h1⟩ := h.hl
  obtain ⟨R', h2⟩ := h.hf
  have a := (Fr.told_own h1).lt rfl
  have b := (Fr.told_own h2).lt rfl
  exact ⟨a.1, b.1, a.2.1, b.2.1⟩
theorem below_grown {B : Nat} {w0 w1 w2 : World} {g : Nat} (hb : Below B w0 w1) (hB : B ≤ w1.heap.size) (h : w1.grownBy w2 (some g)) (hg : B ≤ g) : Below B w0 w2 :=
  ⟨h.os.trans hb.os, h.tape.trans hb.tape, h.output.trans hb.output, Nat.le_trans hb.size h.size, fun k hk => (h.block k (by omega) (by simp; omega)).trans (hb.block k hk)⟩
/-- A pair written: the row of pairs grows by it, or its last pair changes. -/
theorem PRow.drewN (h : PRow B w l gl cl gf cf L F W) (n : Nat) : PRow B w l gl cl gf cf L F (W.drewN n) := by
  obtain ⟨R, h1⟩ := h.hl
  obtain ⟨R', h2⟩ := h.hf
  exact ⟨⟨R, Fr.own_move h1 fun _ _ => rfl⟩, ⟨R', Fr.own_move h2 fun _ _ => rfl⟩, ⟨h.hb.os, h.hb.tape, h.hb.output, h.hb.size, h.hb.block⟩⟩
theorem PRow.setPair (h : PRow B w l gl cl gf cf L F W) (hB : B ≤ W.heap.size) (x : S100) (hi : L.length < l.length) : PRow B w l gl cl gf cf (L ++ [x]) F (Fr.setL gl W (L.length * 2) (enc2 x)) := by
  obtain ⟨R, h1⟩ := h.hl
  have hn := h.ne
  have hg := h.ge
  have hz := h1.1
  rw [List.length_append, flat2_len] at hz
  have h2 := Fr.setL_own (enc2 x) (L.length * 2) W _ h1
  have hR : R = R.take 2 ++ R.drop 2 := (List.take_append_drop 2 R).symm
  have e : Fr.setList (flat2 L ++ R) (L.length * 2) (enc2 x) = flat2 (L ++ [x]) ++ R.drop 2 := by
    rw [hR, Fr.setList_mid _ _ _ _ _ (flat2_len L).symm (by rw [List.length_take]; show min 2 R.length = 2; omega), flat2_snoc, List.append_assoc, ← hR]
  rw [e] at h2
  refine ⟨⟨_, h2.1⟩, ?_, below_grown h.hb hB h2.2 hg.1⟩
  obtain ⟨R', h3⟩ := h.hf
  refine ⟨R', Fr.own_move h3 fun b hb => h2.2.block b ((Fr.told_own h3).lt hb).2.1 ?_⟩
  obtain rfl : gf = b := by simpa [Value.ownBlock] using hb
  simpa using fun q => hn q.symm
theorem PRow.setFrom (h : PRow B w l gl cl gf cf L F W) (hB : B ≤ W.heap.size) (x : Int) (hi : F.length < l.length) : PRow B w l gl cl gf cf L (F ++ [x]) (W.setCell ⟨gf, F.length, none⟩ (.int .i64 x)) := by
  obtain ⟨R, h1⟩ := h.hf
  have hn := h.ne
  have hg := h.ge
  have hz := h1.1
  rw [List.length_append, ints_len] at hz
  have h2 := Fr.setL_own [.int .i64 x] F.length W _ h1
  have hR : R = R.take 1 ++ R.drop 1 := (List.take_append_drop 1 R).symm
  have e : Fr.setList (ints F ++ R) F.length [.int .i64 x] = ints (F ++ [x]) ++ R.drop 1 := by
    rw [hR, Fr.setList_mid _ _ _ _ _ (ints_len F).symm (by rw [List.length_take]; show min 1 R.length = 1; omega), ints_snoc, List.append_assoc, ← hR]
  rw [e] at h2
  refine ⟨?_, ⟨_, h2.1⟩, below_grown h.hb hB h2.2 hg.2.1⟩
  obtain ⟨R', h3⟩ := h.hl
  refine ⟨R', Fr.own_move h3 fun b hb => h2.2.block b ((Fr.told_own h3).lt hb).2.1 ?_⟩
  obtain rfl : gl = b := by simpa [Value.ownBlock] using hb
  simpa using hn
theorem PRow.againF {y : Int} (h : PRow B w l gl cl gf cf L (F ++ [y]) W) : PRow B w l gl cl gf cf L F W := by
  obtain ⟨R, h1⟩ := h.hf
  exact ⟨h.hl, ⟨.int .i64 y :: R, by rw [ints_snoc, List.append_assoc] at h1; exact h1⟩, h.hb⟩
theorem set_at {xs ys : List Value} {u v : Value} {j : Nat} (hj : j = xs.length) : (xs ++ (u :: ys)).set j v = xs ++ (v :: ys) := by
  subst hj
  rw [List.set_append_right _ _ (Nat.le_refl _)]
  simp
theorem PRow.fst {a b : Int} (h : PRow B w l gl cl gf cf (L ++ [⟨a, b⟩]) F W) (hB : B ≤ W.heap.size) (x : Int) : PRow B w l gl cl gf cf (L ++ [⟨x, b⟩]) F (W.setCell ⟨gl, L.length * 2, none⟩ (.int .i64 x)) := by
  obtain ⟨R, h1⟩ := h.hl
  have hn := h.ne
  have hg := h.ge
  have h2 := Fr.setL_own [.int .i64 x] (L.length * 2) W _ h1
  have e : Fr.setList (flat2 (L ++ [⟨a, b⟩]) ++ R) (L.length * 2) [.int .i64 x] = flat2 (L ++ [⟨x, b⟩]) ++ R := by
    rw [flat2_snoc, flat2_snoc, List.append_assoc, List.append_assoc]
    exact set_at (flat2_len L).symm
  rw [e] at h2
  refine ⟨⟨_, h2.1⟩, ?_, below_grown h.hb hB h2.2 hg.1⟩
  obtain ⟨R', h3⟩ := h.hf
  refine ⟨R', Fr.own_move h3 fun k hk => h2.2.block k ((Fr.told_own h3).lt hk).2.1 ?_⟩
  obtain rfl : gf = k := by simpa [Value.ownBlock] using hk
  simpa using fun q => hn q.symm
theorem PRow.snd {a b : Int} (h : PRow B w l gl cl gf cf (L ++ [⟨a, b⟩]) F W) (hB : B ≤ W.heap.size) (x : Int) : PRow B w l gl cl gf cf (L ++ [⟨a, x⟩]) F (W.setCell ⟨gl, L.length * 2 + 1, none⟩ (.int .i64 x)) := by
  obtain ⟨R, h1⟩ := h.hl
  have hn := h.ne
  have hg := h.ge
  have h2 := Fr.setL_own [.int .i64 x] (L.length * 2 + 1) W _ h1
  have e : Fr.setList (flat2 (L ++ [⟨a, b⟩]) ++ R) (L.length * 2 + 1) [.int .i64 x] = flat2 (L ++ [⟨a, x⟩]) ++ R := by
    have e1 : flat2 (L ++ [⟨a, b⟩]) ++ R = (flat2 L ++ [.int .i64 a]) ++ (.int .i64 b :: R) := by rw [flat2_snoc]; simp [enc2]
    have e2 : flat2 (L ++ [⟨a, x⟩]) ++ R = (flat2 L ++ [.int .i64 a]) ++ (.int .i64 x :: R) := by rw [flat2_snoc]; simp [enc2]
    rw [e1, e2]
    exact set_at (by rw [List.length_append, flat2_len]; rfl)
  rw [e] at h2
  refine ⟨⟨_, h2.1⟩, ?_, below_grown h.hb hB h2.2 hg.1⟩
  obtain ⟨R', h3⟩ := h.hf
  refine ⟨R', Fr.own_move h3 fun k hk => h2.2.block k ((Fr.told_own h3).lt hk).2.1 ?_⟩
  obtain rfl : gf = k := by simpa [Value.ownBlock] using hk
  simpa using fun q => hn q.symm
theorem PRow.pairCells2 {x : S100} (h : PRow B w l gl cl gf cf (L ++ [x]) F W) : (∃ u0 u1, W.cell? ⟨gl, L.length * 2, none⟩ = some u0 ∧ W.cell? ⟨gl, L.length * 2 + 1, none⟩ = some u1) ∧ W.frozen? ⟨gl, L.length * 2, none⟩ = false ∧ W.frozen? ⟨gl, L.length * 2 + 1, none⟩ = false := by
  obtain ⟨R, h1⟩ := h.hl
  have hz := h1.1
  rw [List.length_append, flat2_len, List.length_append] at hz
  simp only [List.length_cons, List.length_nil] at hz
  have hk : ∀ j, j < l.length * 2 → ∃ u, W.cell? ⟨gl, j, none⟩ = some u := fun j hj => by
    have hz := h1.1
    exact ⟨(flat2 (L ++ [x]) ++ R)[j]'(by omega), by rw [World.ownsRow.cellAt h1 _ hj, List.getElem?_eq_getElem]⟩
  obtain ⟨u0, q0⟩ := hk (L.length * 2) (by omega)
  obtain ⟨u1, q1⟩ := hk (L.length * 2 + 1) (by omega)
  exact ⟨⟨u0, u1, q0, q1⟩, World.ownsRow.frozenAt h1 _, World.ownsRow.frozenAt h1 _⟩
theorem PRow.pairCells (h : PRow B w l gl cl gf cf L F W) (hi : L.length < l.length) : (∃ u0 u1, W.cell? ⟨gl, L.length * 2, none⟩ = some u0 ∧ W.cell? ⟨gl, L.length * 2 + 1, none⟩ = some u1) ∧ W.frozen? ⟨gl, L.length * 2, none⟩ = false ∧ W.frozen? ⟨gl, L.length * 2 + 1, none⟩ = false := by
  obtain ⟨R, h1⟩ := h.hl
  have hk : ∀ j, j < l.length * 2 → ∃ u, W.cell? ⟨gl, j, none⟩ = some u := fun j hj => by
    have hz := h1.1
    exact ⟨(flat2 L ++ R)[j]'(by omega), by rw [World.ownsRow.cellAt h1 _ hj, List.getElem?_eq_getElem]⟩
  obtain ⟨u0, q0⟩ := hk (L.length * 2) (by omega)
  obtain ⟨u1, q1⟩ := hk (L.length * 2 + 1) (by omega)
  exact ⟨⟨u0, u1, q0, q1⟩, World.ownsRow.frozenAt h1 _, World.ownsRow.frozenAt h1 _⟩
theorem PRow.fromCell (h : PRow B w l gl cl gf cf L F W) {j : Nat} (hj : j < l.length) : ∃ u, W.cell? ⟨gf, j, none⟩ = some u ∧ W.frozen? ⟨gf, j, none⟩ = false := by
  obtain ⟨R, h1⟩ := h.hf
  have hz := h1.1
  exact ⟨(ints F ++ R)[j]'(by omega), by rw [World.ownsRow.cellAt h1 _ (by omega), List.getElem?_eq_getElem], World.ownsRow.frozenAt h1 _⟩
theorem PRow.fromAt (h : PRow B w l gl cl gf cf L F W) {j : Nat} (hj : j < F.length) (hl : F.length ≤ l.length) : W.cell? ⟨gf, j, none⟩ = some (.int .i64 (F.getD j 0)) := by
  obtain ⟨R, h1⟩ := h.hf
  rw [World.ownsRow.cellAt h1 _ (by omega), List.getElem?_append_left (by rw [ints_len]; exact hj)]
  unfold ints
  rw [List.getElem?_map, List.getElem?_eq_getElem hj, List.getD_eq_getElem?_getD, List.getElem?_eq_getElem hj]
  rfl
end
set_option maxRecDepth 100000 in
set_option maxHeartbeats 2000000 in
theorem parts_c (A : Option Addr) (c : Nat) (l : List S45) (w : World) (hr : Kd.C k45 w A l.length l) (hc : l.length ≤ c) (hsm : l.length ≤ 4096) :
    Calls Try.prog 37 #[.slice A l.length c] w fun e w' => ∃ gl cl gf cf, e = .returned (.tuple #[.slice (some ⟨gl, 0, none⟩) l.length cl, .slice (some ⟨gf, 0, none⟩) l.length cf, .bool (partsF l).2.2]) ∧ PRow w.heap.size w l gl cl gf cf (upL l l.length) (upF l l.length) w' := by
  have HR := Lib.hid hr; clear hr
  go_enter Try.func37, Try.ntmps37
  go_wp2_with (first | ((with_reducible refine gate_dst (N := 13) rfl ?_); refine Kd.R_make k100 w.heap.size 100 rfl (N := 13) rfl 92 _ _ rfl (l.length : Int) rfl rfl Try.underlying92 (.agg #[(.int .i64 0), (.int .i64 0)]) 16 info100' rfl (by decide) (by omega) z100 (ok := fun _ => True) (okp := fun _ => True) (k100_mkM _ _ _ z100) (fun _ hk => hk) trivial (by omega) (by omega) (Below.refl _ _) (Nat.le_refl _) ?_; intro v1 w1 hR hb hg hnew; obtain ⟨gl, cl, R0, hv, hcl, hbg, hmg, hlt1, hown, hz0⟩ := made_own hR hnew; subst hv; have HO1 := Lib.hid hown; have HB1 := Lib.hid hb; clear hR hb hg hnew hown hmg) | ((with_reducible refine gate_dst (N := 16) rfl ?_); refine Kd.R_make (Kd.int .i64) w.heap.size 3 rfl (N := 16) rfl 81 _ _ rfl (l.length : Int) rfl rfl Try.underlying81 (.int .i64 0) 8 info3' rfl (by decide) (by omega) (0 : Int) (ok := fun _ => True) (okp := fun _ => True) rfl (fun _ hk => hk) trivial (by omega) (by omega) HB1.out (HB1.out).size ?_; intro v2 w2 hR hb hg hnew; obtain ⟨gf, cf, R1, hv, hcf, hbg2, hmg, hlt2, hown, hz1⟩ := made_own hR hnew; subst hv; have HO2 := Lib.hid hown; have HB2 := Lib.hid hb; have HG2 := Lib.hid hg; clear hR hb hg hnew hown hmg))
  have HP := Lib.hid (show PRow w.heap.size w l gl cl gf cf (upL l 0) (upF l 0) w2 from ⟨⟨R0, Fr.own_move HO1.out fun b hb => HG2.out.block b ((Fr.told_own HO1.out).lt hb).2.1 (by simp)⟩, ⟨R1, HO2.out⟩, HB2.out⟩)
  clear HO1 HO2 HB1 HB2 HG2 hz0 hz1 hbg hbg2 hlt1 hlt2
  go_loopw [7] (fun i wr => ∃ t : Nat, t ≤ l.length ∧ i = .int .i64 t ∧ PRow w.heap.size w l gl cl gf cf (upL l t) (upF l t) wr) (fun i _ => l.length - (intOf i).toNat)
  case atStart => exact ⟨0, by omega, rfl, HP.out⟩
  case round =>
    obtain ⟨t, ht, rfl, hP⟩ := hrel
    obtain ⟨wo, rfl⟩ : ∃ wo : World, wo = wr := ⟨_, rfl⟩
    have HQ := Lib.hid hP
    clear hP HP
    have hLt := upL_len l t ht
    have hFt := upF_len l t ht
    by_cases hlt : t < l.length
    · have hz : (0 : Int) ≤ (t : Int) ∧ (t : Int) < (l.length : Int) := by omega
      have HL := Lib.hid hLt; have HF := Lib.hid hFt
      clear hLt hFt
      have HS := Lib.hid (show PRow w.heap.size w l gl cl gf cf (upL l t ++ [⟨-1, -1⟩]) (upF l t) ((wo.setCell ⟨gl, t * 2, none⟩ (.int .i64 (-1))).setCell ⟨gl, t * 2 + 1, none⟩ (.int .i64 (-1))) from by
        have h := HQ.out.setPair HQ.out.hb.size ⟨-1, -1⟩ (by rw [HL.out]; exact hlt)
        rw [HL.out] at h
        exact h)
      obtain ⟨⟨u0, u1, p0, p1⟩, z0, z1⟩ := HQ.out.pairCells (by rw [HL.out]; exact hlt)
      rw [HL.out] at p0 p1 z0 z1
      go_upto_region 7 with (fail)
      generalize ((wo.setCell ⟨gl, t * 2, none⟩ (.int .i64 (-1))).setCell ⟨gl, t * 2 + 1, none⟩ (.int .i64 (-1))) = w3 at HS ⊢
      clear HQ p0 p1 z0 z1
      obtain ⟨u2, p2, z2⟩ := HS.out.fromCell hlt
      have HT := Lib.hid (show PRow w.heap.size w l gl cl gf cf (upL l t ++ [⟨-1, -1⟩]) (upF l t ++ [(t : Int)]) (w3.setCell ⟨gf, t, none⟩ (.int .i64 (t : Int))) from by
        have h := HS.out.setFrom HS.out.hb.size (t : Int) (by rw [HF.out]; exact hlt)
        rw [HF.out] at h
        exact h)
      go_upto_region 8 with (fail)
      generalize w3.setCell ⟨gf, t, none⟩ (.int .i64 (t : Int)) = w4 at HT ⊢
      clear HS p2 z2
      obtain ⟨ad, hA, hx0, _⟩ := at_T45 (Kd.C_below HR.out HT.out.hb) (t : Int) hz.1 hz.2
      subst hA
      rw [Int.toNat_natCast] at hx0
      by_cases h0 : ar (Q13 l (t : Int)).f0 = 0
      · obtain ⟨b5, b3, b4⟩ : ((Q13 l (t : Int)).f0 == 5) = false ∧ ((Q13 l (t : Int)).f0 == 3) = false ∧ ((Q13 l (t : Int)).f0 == 4) = false := by
          unfold ar at h0
          refine ⟨?_, ?_, ?_⟩ <;> simp <;> intro q <;> simp [q] at h0
        have H0 := Lib.hid h0
        clear h0
        go_wp2
        refine wp_loop_rounds 1 ?_
        rw [rounds_succ]
        go_wp2
        refine ⟨⟨t + 1, by omega, by go_num, ?_⟩, by simp [intOf]; omega⟩
        rw [(up_succ l t hlt).1, (up_succ l t hlt).2]
        unfold step
        rw [if_pos H0.out, HF.out]
        exact HT.out
      · have H0 := Lib.hid h0
        clear h0
        obtain ⟨u3, p3, z3⟩ := HT.out.fromCell hlt
        have HV := Lib.hid (show PRow w.heap.size w l gl cl gf cf (upL l t ++ [⟨-1, -1⟩]) (upF l t ++ [-1]) (w4.setCell ⟨gf, t, none⟩ (.int .i64 (-1))) from by
          have h := HT.out.againF.setFrom HT.out.hb.size (-1) (by rw [HF.out]; exact hlt)
          rw [HF.out] at h
          exact h)
        have hop : (((Q13 l (t : Int)).f0 == 5) = true ∧ ar (Q13 l (t : Int)).f0 = 1) ∨ (((Q13 l (t : Int)).f0 == 5) = false ∧ (((Q13 l (t : Int)).f0 == 3) = true ∨ (((Q13 l (t : Int)).f0 == 3) = false ∧ ((Q13 l (t : Int)).f0 == 4) = true)) ∧ ¬ ar (Q13 l (t : Int)).f0 = 1) := by
          have h := H0.out
          unfold ar at h ⊢
          by_cases q5 : (Q13 l (t : Int)).f0 = 5
          · exact .inl ⟨by simp [q5], by simp [q5]⟩
          · rw [if_neg q5] at h
            by_cases q3 : (Q13 l (t : Int)).f0 = 3
            · exact .inr ⟨by simp [q5], .inl (by simp [q3]), by simp [q3]⟩
            · by_cases q4 : (Q13 l (t : Int)).f0 = 4
              · exact .inr ⟨by simp [q5], .inr ⟨by simp [q3], by simp [q4]⟩, by simp [q4]⟩
              · simp [q3, q4] at h
        by_cases hbad : t = 0 ∨ (upF l t).getD (t - 1) 0 < 0
        · have HBAD := Lib.hid hbad
          rcases hbad with e0 | hneg
          · have b0 : ((t : Int) == 0) = true := by simp; omega
            clear e0
            rcases hop with ⟨b5, h1⟩ | ⟨b5, b3 | ⟨b3, b4⟩, h1⟩
            all_goals
              have H1 := Lib.hid h1
              clear h1
              go_wp2
              refine wp_loop_rounds 1 ?_
              rw [rounds_succ]
              go_wp2
              refine ⟨⟨t + 1, by omega, by go_num, ?_⟩, by simp [intOf]; omega⟩
              rw [(up_succ l t hlt).1, (up_succ l t hlt).2]
              unfold step
              rw [if_neg H0.out, HF.out, if_pos HBAD.out]
              exact HV.out
          · have ht1 : ¬ t = 0 := fun q => by
              have h := HF.out
              subst q
              rw [List.eq_nil_of_length_eq_zero h] at hneg
              simp at hneg
            have b0 : ((t : Int) == 0) = false := by simp; omega
            have c0 := HT.out.fromAt (j := t - 1) (by rw [List.length_append, HF.out]; simp; omega) (by rw [List.length_append, HF.out]; simp; omega)
            have hg0 : (upF l t ++ [(t : Int)]).getD (t - 1) 0 = (upF l t).getD (t - 1) 0 := by simp [List.getD, List.getElem?_append_left (show t - 1 < (upF l t).length by rw [HF.out]; omega)]
            rw [hg0] at c0
            clear hg0
            have bn : decide ((upF l t).getD (t - 1) 0 < 0) = true := by simpa using hneg
            have hzm : (0 : Int) ≤ (t : Int) - 1 ∧ (t : Int) - 1 < (l.length : Int) := by omega
            have hzn : ((t : Int) - 1).toNat = t - 1 := by omega
            generalize (upF l t).getD (t - 1) 0 = y at bn c0
            clear hneg
            rcases hop with ⟨b5, h1⟩ | ⟨b5, b3 | ⟨b3, b4⟩, h1⟩
            all_goals
              have H1 := Lib.hid h1
              clear h1
              go_wp2
              refine wp_loop_rounds 1 ?_
              rw [rounds_succ]
              go_wp2
              refine ⟨⟨t + 1, by omega, by go_num, ?_⟩, by simp [intOf]; omega⟩
              rw [(up_succ l t hlt).1, (up_succ l t hlt).2]
              unfold step
              rw [if_neg H0.out, HF.out, if_pos HBAD.out]
              exact HV.out
        · have HGOOD := Lib.hid hbad
          obtain ⟨ht0, hpos⟩ : ¬ t = 0 ∧ ¬ (upF l t).getD (t - 1) 0 < 0 := by omega
          have hle := upF_le l t ht (t - 1) (by omega)
          obtain ⟨a, ha⟩ : ∃ a : Nat, (upF l t).getD (t - 1) 0 = (a : Int) := ⟨((upF l t).getD (t - 1) 0).toNat, by omega⟩
          have hat : a ≤ t - 1 := by omega
          have HAE := Lib.hid ha
          have b0 : ((t : Int) == 0) = false := by simp; omega
          have bn : decide ((a : Int) < 0) = false := by simp
          have hzm : (0 : Int) ≤ (t : Int) - 1 ∧ (t : Int) - 1 < (l.length : Int) := by omega
          have hzn : ((t : Int) - 1).toNat = t - 1 := by omega
          have c0 := HT.out.fromAt (j := t - 1) (by rw [List.length_append, HF.out]; simp; omega) (by rw [List.length_append, HF.out]; simp; omega)
          have hg0 : ∀ y : Int, (upF l t ++ [y]).getD (t - 1) 0 = (a : Int) := fun y => by rw [← HAE.out]; simp [List.getD, List.getElem?_append_left (show t - 1 < (upF l t).length by rw [HF.out]; omega)]
          rw [hg0] at c0
          have HG0 := Lib.hid hg0
          clear hg0 ha hle hpos HV hbad p3 z3
          have HZN := Lib.hid hzn
          rcases hop with ⟨b5, h1⟩ | ⟨b5, hb34, h1⟩
          · have H1 := Lib.hid h1
            clear h1
            obtain ⟨⟨u0, u1, p0, p1⟩, z0, z1⟩ := HT.out.pairCells2
            rw [HL.out] at p0 p1 z0 z1
            have HX := Lib.hid (show PRow w.heap.size w l gl cl gf cf (upL l t ++ [⟨(t : Int) - 1, -1⟩]) (upF l t ++ [(t : Int)]) (w4.setCell ⟨gl, t * 2, none⟩ (.int .i64 ((t : Int) - 1))) from by
              have h := HT.out.fst HT.out.hb.size ((t : Int) - 1)
              rw [HL.out] at h
              exact h)
            go_wp2
            refine wp_loop_rounds 2 ?_
            rw [rounds_succ]
            go_upto_region 22 with (fail)
            generalize w4.setCell ⟨gl, t * 2, none⟩ (.int .i64 ((t : Int) - 1)) = w5 at HX ⊢
            clear p0 p1 z0 z1 c0
            have c0 := HX.out.fromAt (j := t - 1) (by rw [List.length_append, HF.out]; simp; omega) (by rw [List.length_append, HF.out]; simp; omega)
            rw [HG0.out] at c0
            obtain ⟨u3, p3, z3⟩ := HX.out.fromCell hlt
            have HY := Lib.hid (show PRow w.heap.size w l gl cl gf cf (upL l t ++ [⟨(t : Int) - 1, -1⟩]) (upF l t ++ [(a : Int)]) (w5.setCell ⟨gf, t, none⟩ (.int .i64 (a : Int))) from by
              have h := HX.out.againF.setFrom HX.out.hb.size (a : Int) (by rw [HF.out]; exact hlt)
              rw [HF.out] at h
              exact h)
            go_wp2
            rw [rounds_succ]
            go_wp2
            refine ⟨⟨t + 1, by omega, by go_num, ?_⟩, by simp [intOf]; omega⟩
            rw [(up_succ l t hlt).1, (up_succ l t hlt).2]
            unfold step
            rw [if_neg H0.out, HF.out, if_neg HGOOD.out, if_pos H1.out, HAE.out]
            exact HY.out
          · have H1 := Lib.hid h1
            clear h1
            obtain ⟨⟨u0, u1, p0, p1⟩, z0, z1⟩ := HT.out.pairCells2
            rw [HL.out] at p0 p1 z0 z1
            have HX := Lib.hid (show PRow w.heap.size w l gl cl gf cf (upL l t ++ [⟨-1, (t : Int) - 1⟩]) (upF l t ++ [(t : Int)]) (w4.setCell ⟨gl, t * 2 + 1, none⟩ (.int .i64 ((t : Int) - 1))) from by
              have h := HT.out.snd HT.out.hb.size ((t : Int) - 1)
              rw [HL.out] at h
              exact h)
            rcases hb34 with b3 | ⟨b3, b4⟩
            all_goals
              go_wp2
              refine wp_loop_rounds 3 ?_
              rw [rounds_succ]
              go_upto_region 22 with (fail)
              generalize w4.setCell ⟨gl, t * 2 + 1, none⟩ (.int .i64 ((t : Int) - 1)) = w5 at HX ⊢
              clear p0 p1 z0 z1 c0
              have c0 := HX.out.fromAt (j := t - 1) (by rw [List.length_append, HF.out]; simp; omega) (by rw [List.length_append, HF.out]; simp; omega)
              rw [HG0.out] at c0
              obtain ⟨u3, p3, z3⟩ := HX.out.fromCell hlt
              have HY := Lib.hid (show PRow w.heap.size w l gl cl gf cf (upL l t ++ [⟨-1, (t : Int) - 1⟩]) (upF l t ++ [(a : Int)]) (w5.setCell ⟨gf, t, none⟩ (.int .i64 (a : Int))) from by
                have h := HX.out.againF.setFrom HX.out.hb.size (a : Int) (by rw [HF.out]; exact hlt)
                rw [HF.out] at h
                exact h)
              go_wp2
              rw [rounds_succ]
              generalize w5.setCell ⟨gf, t, none⟩ (.int .i64 (a : Int)) = w6 at HY ⊢
              clear c0 p3 z3 b0 bn hzm hzn
              obtain ⟨u4, p4, z4⟩ := HY.out.fromCell hlt
              by_cases hbad2 : a = 0 ∨ (upF l t).getD (a - 1) 0 < 0
              · have HB2 := Lib.hid hbad2
                have HV := Lib.hid (show PRow w.heap.size w l gl cl gf cf (upL l t ++ [⟨-1, (t : Int) - 1⟩]) (upF l t ++ [-1]) (w6.setCell ⟨gf, t, none⟩ (.int .i64 (-1))) from by
                  have h := HY.out.againF.setFrom HY.out.hb.size (-1) (by rw [HF.out]; exact hlt)
                  rw [HF.out] at h
                  exact h)
                have hstep : (upF l t).getD (t - 1) 0 = 0 ∨ (upF l t).getD (((upF l t).getD (t - 1) 0).toNat - 1) 0 < 0 := by
                  rw [HAE.out, Int.toNat_natCast]
                  rcases HB2.out with q | q
                  · exact .inl (by omega)
                  · exact .inr q
                have HST := Lib.hid hstep
                clear hstep
                rcases hbad2 with e0 | hneg
                · have b0 : ((a : Int) == 0) = true := by simp; omega
                  clear e0
                  go_wp2
                  refine ⟨⟨t + 1, by omega, by go_num, ?_⟩, by simp [intOf]; omega⟩
                  rw [(up_succ l t hlt).1, (up_succ l t hlt).2]
                  unfold step
                  rw [if_neg H0.out, HF.out, if_neg HGOOD.out, if_neg H1.out, if_pos HST.out]
                  exact HV.out
                · by_cases ha0 : a = 0
                  · have b0 : ((a : Int) == 0) = true := by simp; omega
                    clear ha0 hneg
                    go_wp2
                    refine ⟨⟨t + 1, by omega, by go_num, ?_⟩, by simp [intOf]; omega⟩
                    rw [(up_succ l t hlt).1, (up_succ l t hlt).2]
                    unfold step
                    rw [if_neg H0.out, HF.out, if_neg HGOOD.out, if_neg H1.out, if_pos HST.out]
                    exact HV.out
                  · have b0 : ((a : Int) == 0) = false := by simp; omega
                    have c0 := HY.out.fromAt (j := a - 1) (by rw [List.length_append, HF.out]; simp; omega) (by rw [List.length_append, HF.out]; simp; omega)
                    have hg1 : (upF l t ++ [(a : Int)]).getD (a - 1) 0 = (upF l t).getD (a - 1) 0 := by simp [List.getD, List.getElem?_append_left (show a - 1 < (upF l t).length by rw [HF.out]; omega)]
                    rw [hg1] at c0
                    clear hg1
                    have bn : decide ((upF l t).getD (a - 1) 0 < 0) = true := by simpa using hneg
                    have hzm : (0 : Int) ≤ (a : Int) - 1 ∧ (a : Int) - 1 < (l.length : Int) := by omega
                    have hzn : ((a : Int) - 1).toNat = a - 1 := by omega
                    generalize (upF l t).getD (a - 1) 0 = y at bn c0
                    clear hneg
                    go_wp2
                    refine ⟨⟨t + 1, by omega, by go_num, ?_⟩, by simp [intOf]; omega⟩
                    rw [(up_succ l t hlt).1, (up_succ l t hlt).2]
                    unfold step
                    rw [if_neg H0.out, HF.out, if_neg HGOOD.out, if_neg H1.out, if_pos HST.out]
                    exact HV.out
              · obtain ⟨ha0, hpos⟩ : ¬ a = 0 ∧ ¬ (upF l t).getD (a - 1) 0 < 0 := by omega
                have hstep : ¬ ((upF l t).getD (t - 1) 0 = 0 ∨ (upF l t).getD (((upF l t).getD (t - 1) 0).toNat - 1) 0 < 0) := by
                  rw [HAE.out, Int.toNat_natCast]
                  rintro (q | q)
                  · omega
                  · exact hpos q
                have HST := Lib.hid hstep
                clear hstep hbad2
                have hle2 := upF_le l t ht (a - 1) (by omega)
                obtain ⟨a2, ha2⟩ : ∃ a2 : Nat, (upF l t).getD (a - 1) 0 = (a2 : Int) := ⟨((upF l t).getD (a - 1) 0).toNat, by omega⟩
                have HA2 := Lib.hid ha2
                have b0 : ((a : Int) == 0) = false := by simp; omega
                have bn : decide ((a2 : Int) < 0) = false := by simp
                have hzm : (0 : Int) ≤ (a : Int) - 1 ∧ (a : Int) - 1 < (l.length : Int) := by omega
                have hzn : ((a : Int) - 1).toNat = a - 1 := by omega
                have hg1 : ∀ y : Int, (upF l t ++ [y]).getD (a - 1) 0 = (a2 : Int) := fun y => by rw [← HA2.out]; simp [List.getD, List.getElem?_append_left (show a - 1 < (upF l t).length by rw [HF.out]; omega)]
                have HG1 := Lib.hid hg1
                have c0 := HY.out.fromAt (j := a - 1) (by rw [List.length_append, HF.out]; simp; omega) (by rw [List.length_append, HF.out]; simp; omega)
                rw [hg1] at c0
                clear hg1 ha2 hle2 hpos
                obtain ⟨⟨u0, u1, p0, p1⟩, z0, z1⟩ := HY.out.pairCells2
                rw [HL.out] at p0 p1 z0 z1
                have HW := Lib.hid (show PRow w.heap.size w l gl cl gf cf (upL l t ++ [⟨(a : Int) - 1, (t : Int) - 1⟩]) (upF l t ++ [(a : Int)]) (w6.setCell ⟨gl, t * 2, none⟩ (.int .i64 ((a : Int) - 1))) from by
                  have h := HY.out.fst HY.out.hb.size ((a : Int) - 1)
                  rw [HL.out] at h
                  exact h)
                go_upto_region 22 with (fail)
                generalize w6.setCell ⟨gl, t * 2, none⟩ (.int .i64 ((a : Int) - 1)) = w7 at HW ⊢
                clear p0 p1 z0 z1 c0 p4 z4
                have c0 := HW.out.fromAt (j := a - 1) (by rw [List.length_append, HF.out]; simp; omega) (by rw [List.length_append, HF.out]; simp; omega)
                rw [HG1.out] at c0
                obtain ⟨u5, p5, z5⟩ := HW.out.fromCell hlt
                have HZ := Lib.hid (show PRow w.heap.size w l gl cl gf cf (upL l t ++ [⟨(a : Int) - 1, (t : Int) - 1⟩]) (upF l t ++ [(a2 : Int)]) (w7.setCell ⟨gf, t, none⟩ (.int .i64 (a2 : Int))) from by
                  have h := HW.out.againF.setFrom HW.out.hb.size (a2 : Int) (by rw [HF.out]; exact hlt)
                  rw [HF.out] at h
                  exact h)
                go_wp2
                rw [rounds_succ]
                go_wp2
                refine ⟨⟨t + 1, by omega, by go_num, ?_⟩, by simp [intOf]; omega⟩
                rw [(up_succ l t hlt).1, (up_succ l t hlt).2]
                unfold step
                rw [if_neg H0.out, HF.out, if_neg HGOOD.out, if_neg H1.out, if_neg HST.out, HAE.out, Int.toNat_natCast, HA2.out]
                exact HZ.out
    · obtain rfl : t = l.length := by omega
      have HL := Lib.hid hLt; have HF := Lib.hid hFt
      clear hLt hFt
      have hp2 : (partsF l).2.2 = (decide (0 < l.length) && decide ((upF l l.length).getD (l.length - 1) 0 = 0)) := by
        unfold partsF upF
        rw [List.take_length]
      have HP2 := Lib.hid hp2
      clear hp2
      go_upto_region 24 with (fail)
      by_cases h0 : 0 < l.length
      · have b0 : decide ((0 : Int) < (l.length : Int)) = true := decide_eq_true (by omega)
        have b1 : decide (0 < l.length) = true := decide_eq_true h0
        have c0 := HQ.out.fromAt (j := l.length - 1) (by rw [HF.out]; omega) (by rw [HF.out]; omega)
        have hzm : (0 : Int) ≤ (l.length : Int) - 1 ∧ (l.length : Int) - 1 < (l.length : Int) := by omega
        have hzn : ((l.length : Int) - 1).toNat = l.length - 1 := by omega
        have hE : (partsF l).2.2 = ((upF l l.length).getD (l.length - 1) 0 == 0) := by rw [HP2.out, b1, Bool.true_and, Bool.eq_iff_iff]; simp
        have HE := Lib.hid hE
        clear hE
        go_quiet (fail)
        go_wp2
        exact bodyPost_ret (v := .tuple #[.slice (some ⟨gl, 0, none⟩) l.length cl, .slice (some ⟨gf, 0, none⟩) l.length cf, .bool ((upF l l.length).getD (l.length - 1) 0 == 0)]) (by simp [results, Try.results37, go_sem]) rfl ⟨gl, cl, gf, cf, by rw [HE.out], HQ.out.drewN _⟩
      · have b0 : decide ((0 : Int) < (l.length : Int)) = false := decide_eq_false (by omega)
        have b1 : decide (0 < l.length) = false := decide_eq_false h0
        have hE : (partsF l).2.2 = false := by rw [HP2.out, b1, Bool.false_and]
        have HE := Lib.hid hE
        clear hE
        go_quiet (fail)
        go_wp2
        exact bodyPost_ret (v := .tuple #[.slice (some ⟨gl, 0, none⟩) l.length cl, .slice (some ⟨gf, 0, none⟩) l.length cf, .bool false]) (by simp [results, Try.results37, go_sem]) rfl ⟨gl, cl, gf, cf, by rw [HE.out], HQ.out.drewN _⟩
theorem reps2 (w : World) (base : Nat) (ok : Nat → Prop) : ∀ (n : Nat) (l : List S100), l.length = n → Reps (k100.M w base ok) 2 l (flat2 l)
  | 0, l, h => by rw [List.eq_nil_of_length_eq_zero h]; exact Reps.none _ _
  | n + 1, l, h => by
    have hne : l ≠ [] := fun q => by rw [q] at h; cases h
    have e : l = l.dropLast ++ [l.getLast hne] := (List.dropLast_concat_getLast hne).symm
    generalize l.getLast hne = t at e
    generalize hd : l.dropLast = l' at e
    subst e
    simp at h
    rw [flat2_snoc]
    exact Reps.snoc (reps2 w base ok n l' h) (k100_mkM w base ok t) rfl
theorem reps1 (w : World) (base : Nat) (ok : Nat → Prop) : ∀ (n : Nat) (l : List Int), l.length = n → Reps ((Kd.int .i64).M w base ok) 1 l (ints l)
  | 0, l, h => by rw [List.eq_nil_of_length_eq_zero h]; exact Reps.none _ _
  | n + 1, l, h => by
    have hne : l ≠ [] := fun q => by rw [q] at h; cases h
    have e : l = l.dropLast ++ [l.getLast hne] := (List.dropLast_concat_getLast hne).symm
    generalize l.getLast hne = t at e
    generalize hd : l.dropLast = l' at e
    subst e
    simp at h
    rw [ints_snoc]
    exact Reps.snoc (reps1 w base ok n l' h) rfl rfl
theorem parts_k (A : Option Addr) (c : Nat) (l : List S45) (r1 : List S100) (r2 : List Int) (r3 : Bool) (w : World) (hr : Kd.C k45 w A l.length l) (hc : l.length ≤ c) (h : (if l.length ≤ 4096 then some (partsF l) else none) = some (r1, r2, r3)) :
    Calls Try.prog 37 #[.slice A l.length c] w fun e w' => ∃ v0_ v1_ : Value, e = .returned (.tuple #[v0_, v1_, .bool r3]) ∧ Kd.R k100 100 w' w.heap.size (fun k_ => some k_ ≠ (v1_ : Value).ownBlock) v0_ r1 ∧ Kd.R (Kd.int .i64) 3 w' w.heap.size (fun k_ => some k_ ≠ (v0_ : Value).ownBlock) v1_ r2 ∧ Below w.heap.size w w' := by
  split at h
  · next q =>
    have h := Option.some.inj h
    refine (parts_c A c l w hr hc q).mono ?_
    rintro e w' ⟨gl, cl, gf, cf, rfl, hP⟩
    have hne := hP.ne
    have h1 : r1 = upL l l.length := by unfold upL; rw [List.take_length]; exact (congrArg Prod.fst h).symm
    have h2 : r2 = upF l l.length := by unfold upF; rw [List.take_length]; exact (congrArg (fun z => z.2.1) h).symm
    have h3 : (partsF l).2.2 = r3 := congrArg (fun z => z.2.2) h
    subst h1 h2 h3
    have l1 := upL_len l l.length (Nat.le_refl _)
    have l2 := upF_len l l.length (Nat.le_refl _)
    obtain ⟨R, ho⟩ := hP.hl
    obtain ⟨R', ho'⟩ := hP.hf
    have z1 := ho.1
    have z2 := ho'.1
    rw [List.length_append, flat2_len] at z1
    rw [List.length_append, ints_len] at z2
    obtain rfl : R = [] := List.eq_nil_of_length_eq_zero (by omega)
    obtain rfl : R' = [] := List.eq_nil_of_length_eq_zero (by omega)
    rw [List.append_nil] at ho ho'
    refine ⟨_, _, rfl, ⟨fun k hk => ?_, flat2 _, ?_, reps2 _ _ _ _ _ rfl⟩, ⟨fun k hk => ?_, ints _, ?_, reps1 _ _ _ _ _ rfl⟩, hP.hb⟩
    · obtain rfl : gl = k := by simpa [Value.ownBlock] using hk
      simpa [Value.ownBlock] using hne
    · rw [l1]; exact ho
    · obtain rfl : gf = k := by simpa [Value.ownBlock] using hk
      simpa [Value.ownBlock] using fun q => hne q.symm
    · rw [l2]; exact ho'
  · cases h
end Go.Proofs.Ytflkgoggnomehaa.Pp

import Derived.Below
import Derived.BigQuiet
import Derived.Deep.LoopGhost
import Derived.Deep.RegionWith
import Derived.KernelRfl
import Derived.Lib.Hide
import Derived.Lib.OthersKept
import Derived.OwnWalk
import Derived.WalkKit
import Derived.Test.YtldjdcdoegjmoaaDoorY6
import Derived.Test.YtldjdcdoegjmoaaDoorY15
import Derived.Test.YtldjdcdoegjmoaaDoorY22
import Derived.Test.YtldjdcdoegjmoaaDoorY27
import Derived.Test.YtldjdcdoegjmoaaDoorY28
set_option linter.unusedVariables false
set_option linter.unusedSimpArgs false
namespace Go.Proofs.YtldjdcdoegjmoaaDoor.Wr
open Go.RowKit Go.Proofs.YtldjdcdoegjmoaaDoor Go.Proofs.YtldjdcdoegjmoaaDoor.P Go.Proofs.YtldjdcdoegjmoaaDoor.Pure Go.Proofs.YtldjdcdoegjmoaaDoorW.PrintWords Go.Proofs.YtldjdcdoegjmoaaDoorW.PrintLast
abbrev Tok := S26
def at_ (l : List Tok) (j : Nat) : Tok := rd_T26 l (j : Int)
def OkT (x : Tok) : Prop := x.f3.size ≤ 140737488351232 ∧ ∃ c : Cls, c.ok ∧ x.f5 = ⟨c.c0, c.c1, c.c2, c.c3⟩
def rightB (x : Tok) : Bool := (lexis_right.f (x.f3.size + 400) x.f0 x.f1 x.f2 x.f3 x.f4 x.f5.f0 x.f5.f1 x.f5.f2 x.f5.f3 x.f6 x.f7).getD false
def textE (x : Tok) : ByteArray := (lexis_text.f 400 x.f0 x.f1 x.f2 x.f3 x.f4 x.f5.f0 x.f5.f1 x.f5.f2 x.f5.f3 x.f6 x.f7).getD ⟨#[]⟩
theorem right_k {x : Tok} (h : OkT x) {k : Nat} (hk : x.f3.size + 400 ≤ k) : lexis_right.f k x.f0 x.f1 x.f2 x.f3 x.f4 x.f5.f0 x.f5.f1 x.f5.f2 x.f5.f3 x.f6 x.f7 = some (rightB x) ∧
    dowelref04_Right.f k x.f0 x.f1 x.f2 x.f3 x.f4 x.f5.f0 x.f5.f1 x.f5.f2 x.f5.f3 x.f6 x.f7 = some (rightB x) ∧ (rightB x = true → Facts x.f0 x.f6 x.f7) := by
  obtain ⟨b, hb, hF⟩ := right_some (x.f3.size + 400) x.f0 x.f1 x.f2 x.f3 x.f4 x.f5.f0 x.f5.f1 x.f5.f2 x.f5.f3 x.f6 x.f7 h.1 (by omega)
  have e : rightB x = b := by unfold rightB; rw [hb]; rfl
  have h1 := at_rounds (lexis_right.mono _ _ _ _ _ _ _ _ _ _ _) hk hb
  have h2 := right_eq k x.f0 x.f1 x.f2 x.f3 x.f4 x.f5.f0 x.f5.f1 x.f5.f2 x.f5.f3 x.f6 x.f7 h.1 (by omega)
  rw [e]
  exact ⟨h1, by rw [← h2]; exact h1, hF⟩
theorem rngT_len (r : Nat × Nat) : (rngT r).length ≤ 9 := by
  have h1 := spell_len r.1
  have h2 := spell_len r.2
  unfold rngT
  simp only [List.length_append]
  split <;> split <;> simp <;> omega
theorem textR_len : ∀ l : List (Nat × Nat), (textR l).length ≤ 9 * l.length
  | [] => by simp [textR]
  | r :: l => by
    have := textR_len l
    have := rngT_len r
    have e : textR (r :: l) = rngT r ++ textR l := by unfold textR; rw [List.flatMap_cons]
    rw [e, List.length_append, List.length_cons]; omega
theorem textC_len (a : Cls) : (textC a).length ≤ 2400 := by
  have h1 := textR_len (rangesL a.not); have h2 := ranges_len a.not
  have h3 := textR_len (rangesL a); have h4 := ranges_len a
  unfold textC
  split <;> simp <;> omega
theorem size9 (k : Nat) (hk : 30 ≤ k) (a1 a2 : Int) (a3 : ByteArray) (a4 : Bool) (a5 a6 a7 a8 a9 a10 : Int) (h0 : 0 ≤ a9) (h1 : a9 ≤ 255) (h2 : a10 = -1 ∨ (a9 ≤ a10 ∧ a10 ≤ 255)) (t : ByteArray)
    (h : lexis_text.f k 9 a1 a2 a3 a4 a5 a6 a7 a8 a9 a10 = some t) : t.size ≤ 300000 := by
  have s1 := itoa_len h0 h1
  have f1 := itoa_f h0 h1
  generalize (⟨(Lib.itoa a9).toArray⟩ : ByteArray) = D at s1 f1
  have e1 : (⟨#[123]⟩ : ByteArray).size = 1 := rfl
  have e2 : (⟨#[44]⟩ : ByteArray).size = 1 := rfl
  have e3 : (⟨#[125]⟩ : ByteArray).size = 1 := rfl
  unfold lexis_text.f at h
  have k1 : 1 + D.size ≤ 9223372036854775807 := by omega
  have k2 : 1 + D.size + 1 ≤ 9223372036854775807 := by omega
  have k4 : 1 + D.size + 1 + 1 ≤ 9223372036854775807 := by omega
  simp only [show ¬ (9 : Int) = 1 by decide, show ¬ (9 : Int) = 16 by decide, show ¬ (9 : Int) = 17 by decide, if_true, if_false, f1, Option.bind_some, ByteArray.size_append, e1, e2, e3, k1, k2, k4] at h
  by_cases c1 : a10 = -1
  · rw [if_pos c1] at h
    obtain rfl := Option.some.inj h
    simp only [ByteArray.size_append, e1, e2, e3]; omega
  · rw [if_neg c1] at h
    by_cases c2 : a10 > a9
    · rw [if_pos c2] at h
      have h3 : a9 ≤ a10 ∧ a10 ≤ 255 := h2.resolve_left c1
      have s2 := itoa_len (n := a10) (by omega) h3.2
      rw [itoa_f (n := a10) (by omega) h3.2, Option.bind_some] at h
      generalize (⟨(Lib.itoa a10).toArray⟩ : ByteArray) = E at s2 h
      have k5 : 1 + E.size ≤ 9223372036854775807 := by omega
      have k6 : 1 + D.size + (1 + E.size) ≤ 9223372036854775807 := by omega
      have k7 : 1 + D.size + (1 + E.size) + 1 ≤ 9223372036854775807 := by omega
      simp only [ByteArray.size_append, e1, e2, e3, k5, k6, k7, if_true] at h
      obtain rfl := Option.some.inj h
      simp only [ByteArray.size_append, e1, e2, e3]; omega
    · rw [if_neg c2] at h
      obtain rfl := Option.some.inj h
      simp only [ByteArray.size_append, e1, e2, e3]; omega
theorem size_plain (k : Nat) (a0 a1 a2 : Int) (a3 : ByteArray) (a4 : Bool) (a5 a6 a7 a8 a9 a10 : Int) (h : a0 = 0 ∨ a0 = 2 ∨ a0 = 3 ∨ a0 = 4 ∨ a0 = 5 ∨ a0 = 6 ∨ a0 = 7 ∨ a0 = 8 ∨ a0 = 10 ∨ a0 = 11 ∨ a0 = 12 ∨ a0 = 13) :
    ∃ t, lexis_text.f k a0 a1 a2 a3 a4 a5 a6 a7 a8 a9 a10 = some t ∧ t.size ≤ 300000 := by
  rcases h with h | h | h | h | h | h | h | h | h | h | h | h <;> subst h <;> exact ⟨_, rfl, by decide⟩
theorem text_size (k : Nat) (hk : 400 ≤ k) (a0 a1 a2 : Int) (a3 : ByteArray) (a4 : Bool) (c : Cls) (hc : c.ok) (a9 a10 : Int) (hs : a3.size ≤ 65536) (hF : Facts a0 a9 a10) (t : ByteArray)
    (h : lexis_text.f k a0 a1 a2 a3 a4 c.c0 c.c1 c.c2 c.c3 a9 a10 = some t) : t.size ≤ 300000 := by
  obtain ⟨h0, h1, h2⟩ := hF
  by_cases q : a0 = 0 ∨ a0 = 2 ∨ a0 = 3 ∨ a0 = 4 ∨ a0 = 5 ∨ a0 = 6 ∨ a0 = 7 ∨ a0 = 8 ∨ a0 = 10 ∨ a0 = 11 ∨ a0 = 12 ∨ a0 = 13
  · obtain ⟨t', ht, hs'⟩ := size_plain k a0 a1 a2 a3 a4 c.c0 c.c1 c.c2 c.c3 a9 a10 q
    rw [ht] at h
    obtain rfl := Option.some.inj h
    exact hs'
  by_cases c9 : a0 = 9
  · subst c9
    have := h2 rfl
    exact size9 k (by omega) a1 a2 a3 a4 _ _ _ _ a9 a10 this.1 this.2.1 this.2.2 t h
  have q2 : a0 = 1 ∨ a0 = 14 ∨ a0 = 15 ∨ a0 = 16 ∨ a0 = 17 := by omega
  rcases q2 with q2 | q2 | q2 | q2 | q2 <;> subst q2
  · obtain rfl := Option.some.inj h; omega
  · have hq := qS_size hs
    have hk1 : (Q.qS a3).size + 1 ≤ 9223372036854775807 := by omega
    unfold lexis_text.f lexis_quoted.f at h
    simp only [show ¬ (14 : Int) = 1 by decide, show ¬ (14 : Int) = 16 by decide, show ¬ (14 : Int) = 17 by decide, show ¬ (14 : Int) = 15 by decide, show ¬ (14 : Int) = 9 by decide, if_true, if_false, if_pos hs, Option.bind_some, hk1] at h
    have e6 : (⟨#[105]⟩ : ByteArray).size = 1 := rfl
    cases a4 with
    | true => obtain rfl := Option.some.inj h; rw [ByteArray.size_append, e6]; omega
    | false => obtain rfl := Option.some.inj h; omega
  · unfold lexis_text.f at h
    simp only [show ¬ (15 : Int) = 1 by decide, show ¬ (15 : Int) = 16 by decide, show ¬ (15 : Int) = 17 by decide, show ¬ (15 : Int) = 9 by decide, if_true, if_false, text_f hc (k := k) (by omega), Option.bind_some] at h
    obtain rfl := Option.some.inj h
    have := textC_len c
    rw [tb_size]; omega
  · have e4 : (⟨#[64]⟩ : ByteArray).size = 1 := rfl
    have hk1 : 1 + a3.size ≤ 9223372036854775807 := by omega
    unfold lexis_text.f at h
    simp only [show ¬ (16 : Int) = 1 by decide, if_true, if_false, hk1] at h
    obtain rfl := Option.some.inj h
    rw [ByteArray.size_append, e4]; omega
  · have e4 : (⟨#[94]⟩ : ByteArray).size = 1 := rfl
    have hk1 : 1 + a3.size ≤ 9223372036854775807 := by omega
    unfold lexis_text.f at h
    simp only [show ¬ (17 : Int) = 1 by decide, show ¬ (17 : Int) = 16 by decide, if_true, if_false, hk1] at h
    obtain rfl := Option.some.inj h
    rw [ByteArray.size_append, e4]; omega
theorem text_k {x : Tok} (h : OkT x) (hr : rightB x = true) (hs : x.f3.size ≤ 65536) {k : Nat} (hk : 400 ≤ k) : lexis_text.f k x.f0 x.f1 x.f2 x.f3 x.f4 x.f5.f0 x.f5.f1 x.f5.f2 x.f5.f3 x.f6 x.f7 = some (textE x) ∧
    dowelref04_spelled.f k x.f0 x.f1 x.f2 x.f3 x.f4 x.f5.f0 x.f5.f1 x.f5.f2 x.f5.f3 x.f6 x.f7 = some (textE x) ∧ (textE x).size ≤ 300000 := by
  have hF := (right_k h (Nat.le_refl _)).2.2 hr
  obtain ⟨c, hc, he⟩ := h.2
  obtain ⟨x0, x1, x2, x3, x4, x5, x6, x7⟩ := x
  dsimp only at he hs hF ⊢
  subst he
  obtain ⟨t, t1, t2⟩ := text_eq 400 (Nat.le_refl _) x0 x1 x2 x3 x4 c hc x6 x7 hs hF
  have e : textE ⟨x0, x1, x2, x3, x4, ⟨c.c0, c.c1, c.c2, c.c3⟩, x6, x7⟩ = t := by unfold textE; dsimp only; rw [t1]; rfl
  rw [e]
  exact ⟨at_rounds (lexis_text.mono _ _ _ _ _ _ _ _ _ _ _) hk t1, at_rounds (dowelref04_spelled.mono _ _ _ _ _ _ _ _ _ _ _) hk t2, text_size 400 (Nat.le_refl _) x0 x1 x2 x3 x4 c hc x6 x7 hs hF t t1⟩
theorem spellR_k {x : Tok} (h : OkT x) (hr : rightB x = true) {k : Nat} (hk : x.f3.size + 400 ≤ k) : dowelref04_Spell.f k x.f0 x.f1 x.f2 x.f3 x.f4 x.f5.f0 x.f5.f1 x.f5.f2 x.f5.f3 x.f6 x.f7 =
    some (if x.f3.size > 65536 then (⟨#[]⟩, 2) else if (textE x).size > 65536 then (⟨#[]⟩, 2) else (textE x, 0)) := by
  unfold dowelref04_Spell.f
  rw [(right_k h hk).2.1, Option.bind_some, hr]
  simp only [if_true]
  by_cases q : x.f3.size > 65536
  · rw [if_pos (by omega), if_pos q]
  · rw [if_neg (by omega), if_neg q, (text_k h hr (by omega) (k := k) (by omega)).2.1, Option.bind_some]
    by_cases q2 : (textE x).size > 65536
    · rw [if_pos (by omega), if_pos q2]
    · rw [if_neg (by omega), if_neg q2]
/-- A token that may not stand where it stands. -/
def badB (l : List Tok) (j : Nat) : Bool := !rightB (at_ l j) || ((at_ l j).f0 == 0 && decide (j + 1 < l.length))
def wrR (l : List Tok) : Nat → Nat → List UInt8 → ByteArray × Int
  | 0, _, acc => (⟨acc.toArray⟩, 0)
  | d + 1, i, acc =>
    let acc1 := if 0 < i ∧ (at_ l i).f0 ≠ 0 then acc ++ [32] else acc
    if (at_ l i).f3.size > 65536 then (⟨#[]⟩, 2)
    else if (acc1 ++ (textE (at_ l i)).data.toList).length > 65536 then (⟨#[]⟩, 2) else wrR l d (i + 1) (acc1 ++ (textE (at_ l i)).data.toList)
def wrOut (l : List Tok) : ByteArray × Int := if (List.range l.length).any (badB l) then (⟨#[]⟩, 6) else wrR l l.length 0 []
theorem wr_step (l : List Tok) (t : Nat) (h : t < l.length) (acc acc1 : List UInt8) (h1 : (if 0 < t ∧ (at_ l t).f0 ≠ 0 then acc ++ [32] else acc) = acc1) : wrR l (l.length - t) t acc =
    if (at_ l t).f3.size > 65536 then (⟨#[]⟩, 2)
    else if (acc1 ++ (textE (at_ l t)).data.toList).length > 65536 then (⟨#[]⟩, 2) else wrR l (l.length - (t + 1)) (t + 1) (acc1 ++ (textE (at_ l t)).data.toList) := by
  obtain ⟨d, hd⟩ : ∃ d, l.length - t = d + 1 := ⟨l.length - t - 1, by omega⟩
  rw [hd, show l.length - (t + 1) = d by omega, ← h1]
  rfl
theorem wr_in64 {n : Nat} (h : n ≤ 1048577) : wrap64 ((n : Int) + 1) = ((n + 1 : Nat) : Int) := by unfold wrap64; omega
theorem at_mem {l : List Tok} {t : Nat} (h : t < l.length) : at_ l t ∈ l := by
  unfold at_ rd_T26
  rw [Int.toNat_natCast, List.getD_eq_getElem?_getD, List.getElem?_eq_getElem h]
  exact List.getElem_mem h
theorem ref_l0 (l : List Tok) (hl : l.length ≤ 1048576) (K : Nat) (hK : ∀ x ∈ l, OkT x ∧ x.f3.size + 400 ≤ K) : ∀ (d k t : Nat), l.length - t = d → t ≤ l.length → K + 4 * l.length + d + 20 ≤ k → (∀ j < t, badB l j = false) →
    ∃ k', K + 4 * l.length + 10 ≤ k' ∧ dowelref04_Write.l0 k l (t : Int) = if (List.range l.length).any (badB l) then some (⟨#[]⟩, 6) else dowelref04_Write.l1 k' l [] 0
  | 0, k, t, hd, ht, hk, hb => by
    obtain ⟨k, rfl⟩ : ∃ m, k = m + 1 := ⟨k - 1, by omega⟩
    refine ⟨k, by omega, ?_⟩
    have hany : (List.range l.length).any (badB l) = false := by
      rw [List.any_eq_false]; intro j hj
      rw [hb j (by have := List.mem_range.1 hj; omega)]; simp
    rw [dowelref04_Write.l0, if_neg (by omega), hany]
    simp
  | d + 1, k, t, hd, ht, hk, hb => by
    obtain ⟨k, rfl⟩ : ∃ m, k = m + 1 := ⟨k - 1, by omega⟩
    have hlt : t < l.length := by omega
    have hx := hK _ (at_mem hlt)
    have hbt : badB l t = (!rightB (at_ l t) || ((at_ l t).f0 == 0 && decide (t + 1 < l.length))) := rfl
    have hw : wrap64 ((l.length : Int) - 1) = (l.length : Int) - 1 := by unfold wrap64; omega
    have hany : badB l t = true → (List.range l.length).any (badB l) = true := fun h => List.any_eq_true.2 ⟨t, List.mem_range.2 hlt, h⟩
    rw [dowelref04_Write.l0, if_pos (by omega), if_pos (by omega)]
    have hr := (right_k hx.1 (k := k) (by omega)).2.1
    unfold at_ at hr hbt
    rw [hr, Option.bind_some]
    have next : badB l t = false → ∃ k', K + 4 * l.length + 10 ≤ k' ∧ dowelref04_Write.l0 k l (wrap64 ((t : Int) + 1)) = if (List.range l.length).any (badB l) then some (⟨#[]⟩, 6) else dowelref04_Write.l1 k' l [] 0 := fun h => by
      rw [wr_in64 (by omega)]
      refine ref_l0 l hl K hK d k (t + 1) (by omega) (by omega) (by omega) fun j hj => ?_
      rcases Nat.lt_succ_iff_lt_or_eq.1 hj with q | q
      · exact hb j q
      · rw [q]; exact h
    cases hrt : rightB (rd_T26 l (t : Int)) with
    | false =>
      refine ⟨K + 4 * l.length + 10, Nat.le_refl _, ?_⟩
      rw [hany (by rw [hbt, hrt]; rfl)]
      simp
    | true =>
      simp only [if_true]
      by_cases c0 : (rd_T26 l (t : Int)).f0 = 0
      · rw [if_pos c0, hw]
        by_cases c1 : t + 1 < l.length
        · refine ⟨K + 4 * l.length + 10, Nat.le_refl _, ?_⟩
          rw [if_pos (by omega), hany (by rw [hbt, hrt, c0, decide_eq_true c1]; rfl)]
          simp
        · rw [if_neg (by omega)]
          exact next (by rw [hbt, hrt, c0, decide_eq_false c1]; rfl)
      · rw [if_neg c0]
        exact next (by rw [hbt, hrt, beq_eq_false_iff_ne.2 c0]; rfl)
theorem ref_l1 (l : List Tok) (hl : l.length ≤ 1048576) (K : Nat) (hK : ∀ x ∈ l, OkT x ∧ x.f3.size + 400 ≤ K) (hall : ∀ j < l.length, badB l j = false) : ∀ (d k t : Nat) (acc : List UInt8), l.length - t = d → t ≤ l.length → K + 4 * d + 10 ≤ k → acc.length ≤ 65536 →
    dowelref04_Write.l1 k l (Q.ib acc) (t : Int) = some (wrR l d t acc)
  | 0, k, t, acc, hd, ht, hk, ha => by
    obtain ⟨k, rfl⟩ : ∃ m, k = m + 1 := ⟨k - 1, by omega⟩
    rw [dowelref04_Write.l1, if_neg (by omega), Q.str_ib]
    rfl
  | d + 1, k, t, acc, hd, ht, hk, ha => by
    obtain ⟨k, rfl⟩ : ∃ m, k = m + 3 := ⟨k - 3, by omega⟩
    have hlt : t < l.length := by omega
    have hx := hK _ (at_mem hlt)
    have hrt : rightB (at_ l t) = true := by have := hall t hlt; unfold badB at this; simp at this; exact this.1
    have j3 : ∀ acc1, (if 0 < t ∧ (at_ l t).f0 ≠ 0 then acc ++ [32] else acc) = acc1 → acc1.length ≤ 65537 → ∀ m, K + 4 * d + 10 ≤ m → dowelref04_Write.j3 (m + 1) l (Q.ib acc1) (t : Int) = some (wrR l (d + 1) t acc) := by
      intro acc1 h1 hl1 m hm
      have hst := wr_step l t hlt acc acc1 h1
      rw [show l.length - t = d + 1 by omega, show l.length - (t + 1) = d by omega] at hst
      rw [hst, dowelref04_Write.j3, if_pos (by omega), if_pos (by omega)]
      have hsp := spellR_k hx.1 hrt (k := m) (by omega)
      have hlen : (bytesOf (textE (at_ l t))) = Q.ib (textE (at_ l t)).data.toList := rfl
      unfold at_ at hsp hlen hx hrt ⊢
      rw [hsp, Option.bind_some]
      by_cases q : (rd_T26 l (t : Int)).f3.size > 65536
      · rw [if_pos q, if_pos q]; simp
      · rw [if_neg q, if_neg q]
        have hts := (text_k hx.1 hrt (by omega) (k := 400) (Nat.le_refl _)).2.2
        have hdl : (textE (rd_T26 l (t : Int))).data.toList.length = (textE (rd_T26 l (t : Int))).size := by simp
        by_cases q2 : (textE (rd_T26 l (t : Int))).size > 65536
        · have hbig : (acc1 ++ (textE (rd_T26 l (t : Int))).data.toList).length > 65536 := by rw [List.length_append]; omega
          rw [if_pos q2, if_pos hbig]; simp
        · rw [if_neg q2]
          simp only [if_true]
          rw [if_pos (by rw [Q.ib_len]; omega), Option.bind_some, hlen, show Q.ib acc1 ++ Q.ib (textE (rd_T26 l (t : Int))).data.toList = Q.ib (acc1 ++ (textE (rd_T26 l (t : Int))).data.toList) by simp [Q.ib]]
          by_cases q3 : (acc1 ++ (textE (rd_T26 l (t : Int))).data.toList).length > 65536
          · rw [if_pos (by rw [Q.ib_len]; omega), if_pos q3]
          · rw [if_neg (by rw [Q.ib_len]; omega), if_neg q3, wr_in64 (by omega)]
            exact ref_l1 l hl K hK hall d m (t + 1) _ (by omega) (by omega) (by omega) (by omega)
    have j2 : ∀ b : Bool, (b = true ↔ (0 < t ∧ (at_ l t).f0 ≠ 0)) → dowelref04_Write.j2 (k + 2) l (Q.ib acc) (t : Int) b = some (wrR l (d + 1) t acc) := by
      intro b hb
      rw [dowelref04_Write.j2]
      by_cases q : b = true
      · rw [if_pos q, if_pos (by rw [Q.ib_len]; omega), show Q.ib acc ++ [32] = Q.ib (acc ++ [32]) by simp [Q.ib]]
        exact j3 _ (if_pos (hb.1 q)) (by simp; omega) k (by omega)
      · rw [if_neg q]
        exact j3 _ (if_neg fun h => q (hb.2 h)) (by omega) k (by omega)
    rw [dowelref04_Write.l1, if_pos (by omega)]
    by_cases q : t = 0
    · rw [if_neg (by omega)]
      exact j2 false (by simp [q])
    · rw [if_pos (by omega), if_pos (by omega)]
      refine j2 _ ?_
      unfold at_
      simp only [bne_iff_ne, ne_eq]
      exact ⟨fun h => ⟨by omega, h⟩, fun h => h.2⟩
theorem bound_of (l : List Tok) : ∃ K, ∀ x ∈ l, x.f3.size + 400 ≤ K := by
  induction l with
  | nil => exact ⟨0, fun x hx => by simp at hx⟩
  | cons y l ih =>
    obtain ⟨K, hK⟩ := ih
    refine ⟨K + y.f3.size + 400, fun x hx => ?_⟩
    rcases List.mem_cons.1 hx with rfl | hx
    · omega
    · have := hK x hx; omega
theorem refWrite_f (l : List Tok) (hl : l.length ≤ 1048576) (hok : ∀ x ∈ l, OkT x) : ∃ k, dowelref04_Write.f k l = some (wrOut l) := by
  obtain ⟨K, hK⟩ := bound_of l
  have hK' : ∀ x ∈ l, OkT x ∧ x.f3.size + 400 ≤ K := fun x hx => ⟨hok x hx, hK x hx⟩
  obtain ⟨k', hk', h⟩ := ref_l0 l hl K hK' l.length (K + 5 * l.length + 20) 0 (by omega) (by omega) (by omega) fun j hj => by omega
  refine ⟨K + 5 * l.length + 20, ?_⟩
  unfold dowelref04_Write.f wrOut
  have h' : dowelref04_Write.l0 (K + 5 * l.length + 20) l 0 = _ := h
  rw [h']
  cases hany : (List.range l.length).any (badB l) with
  | true => simp
  | false =>
    simp only [Bool.false_eq_true, if_false]
    refine ref_l1 l hl K hK' (fun j hj => ?_) l.length k' 0 [] (by omega) (by omega) (by omega) (by simp)
    rw [List.any_eq_false] at hany
    simpa using hany j (List.mem_range.2 hj)
end Go.Proofs.YtldjdcdoegjmoaaDoor.Wr
set_option linter.unusedVariables false
set_option linter.unusedSimpArgs false
namespace Go.Proofs.YtldjdcdoegjmoaaDoor.Wr
open Go.RowKit Go.Proofs.YtldjdcdoegjmoaaDoor Go.Proofs.YtldjdcdoegjmoaaDoor.P Go.Proofs.YtldjdcdoegjmoaaDoorW.PrintWords Go.Proofs.YtldjdcdoegjmoaaDoorW.PrintLast Go.Proofs.YtldjdcdoegjmoaaDoorW.PrintMore
abbrev tokV (x : S26) : Value := .agg #[.int .i64 x.f0, .int .i64 x.f1, .int .i64 x.f2, .string x.f3, .bool x.f4, .int .u64 x.f5.f0, .int .u64 x.f5.f1, .int .u64 x.f5.f2, .int .u64 x.f5.f3, .int .i64 x.f6, .int .i64 x.f7]
theorem textE_size (x : S26) (h : OkT x) (hr : rightB x = true) (hs : x.f3.size ≤ 65536) : (textE x).size ≤ 300000 := (text_k h hr hs (Nat.le_refl 400)).2.2
theorem right_c (x : S26) (h : OkT x) (W : World) : Calls Tryd.prog 19 #[tokV x] W fun e W' => e = .returned (.bool (rightB x)) ∧ Below W.heap.size W W' :=
  lexis_right.calls (x.f3.size + 400) _ _ _ _ _ _ _ _ _ _ _ (rightB x) W (right_k h (Nat.le_refl _)).1
theorem text_c (x : S26) (h : OkT x) (h1 : rightB x = true) (h2 : x.f3.size ≤ 65536) (W : World) (ht : TabOk W) : Calls Tryd.prog 20 #[tokV x] W fun e W' => e = .returned (.string (textE x)) ∧ Below W.heap.size W W' :=
  lexis_text.calls 400 _ _ _ _ _ _ _ _ _ _ _ (textE x) W (text_k h h1 h2 (Nat.le_refl 400)).1 ht
def Bf (w : World) (b : Nat) (l : List UInt8) (W : World) : Prop := Lib.IsBuilderF 54 5 w.heap.size b (Lib.byteCells l) W ∧ Below w.heap.size w W
theorem bf_atF {w : World} {b : Nat} {l : List UInt8} {W : World} (h : Bf w b l W) : ∃ p, Lib.BuilderAtF 54 5 w.heap.size b p (Lib.byteCells l) W := h.1.elim (fun x => ⟨_, x⟩) (fun x => ⟨_, x⟩)
theorem bf_lt {w : World} {b : Nat} {l : List UInt8} {W : World} (h : Bf w b l W) : b < W.heap.size := by
  obtain ⟨p, hp⟩ := bf_atF h
  exact hp.lt
theorem bf_below {w : World} {b : Nat} {l : List UInt8} {W W' : World} (h : Bf w b l W) (hb : Below W.heap.size W W') : Bf w b l W' := by
  refine ⟨?_, h.2.trans (hb.mono h.2.size)⟩
  have key : ∀ p, Lib.BuilderAtF 54 5 w.heap.size b p (Lib.byteCells l) W → Lib.BuilderAtF 54 5 w.heap.size b p (Lib.byteCells l) W' := fun p hp => by
    have hlt := hp.lt
    obtain ⟨hB, v, hv, hown, hne⟩ := hp
    exact ⟨hB, v, (hb.block b hlt).trans hv, hown.kept (row := none) ⟨hb.os, hb.tape, hb.output, hb.size, fun k hk _ => hb.block k hk⟩ (Classical.em _), hne⟩
  exact h.1.elim (fun x => .inl (key _ x)) (fun x => .inr (key _ x))
theorem bf_at {w W : World} (h : Below w.heap.size w W) : Bf w W.heap.size [] (W.alloc (.cells #[.pointer none, .slice none 0 0] 54)) := by
  refine ⟨Lib.IsBuilderF.of (.inl ⟨h.size, _, heap_alloc_new W _, World.ownsRow_nil _ _ _ _, by simp [Value.ownBlock]⟩), h.alloc h.size _⟩
theorem len_c (w : World) (b : Nat) (l : List UInt8) (W : World) (h : Bf w b l W) : Calls Tryd.prog 27 #[.pointer (some ⟨b, 0, none⟩)] W fun e W' => e = .returned (.int .i64 (l.length : Int)) ∧ W' = W := by
  obtain ⟨p, _, v, hv, hown, _⟩ := bf_atF h
  have hl : (Lib.byteCells l).length = l.length := by simp [Lib.byteCells]
  rw [hl] at hown
  obtain ⟨A, cap, rfl⟩ : ∃ A cap, v = .slice A l.length cap := by
    rcases hown.2 with ⟨q, q2⟩ | ⟨g, cap, cur, _, q, _⟩
    · exact ⟨none, 0, by rw [q, q2]⟩
    · exact ⟨_, _, q⟩
  have c0 : W.cell? ⟨b, 0, none⟩ = some p := by simp [World.cell?, hv]
  have c1 : W.cell? ⟨b, 1, none⟩ = some (.slice A l.length cap) := by simp [World.cell?, hv]
  go_enter Tryd.func27, Tryd.ntmps27
  go_wp2
  go_ret
  exact ⟨rfl, rfl⟩
theorem put_k (w : World) (b : Nat) (l : List UInt8) (c : UInt8) (W : World) (h : Bf w b l W) (hl : l.length ≤ 1000000) :
    Calls Tryd.prog 25 #[.pointer (some ⟨b, 0, none⟩), .int .u8 (c.toNat : Int)] W fun e W' => e = .returned .nilIface ∧ Bf w b (l ++ [c]) W' ∧ Lib.OthersKept 5 (some b) W W' := by
  refine (Tryd.Builder_WriteByte_k w.heap.size b (Lib.byteCells l) (c.toNat : Int) W h.1 (by unfold Lib.byteCells; simp; omega) h.2.size).mono ?_
  rintro e W' ⟨rfl, h1, h2, h3⟩
  refine ⟨rfl, ⟨?_, h.2.trans h2⟩, h3⟩
  unfold Lib.byteCells at h1 ⊢
  rw [List.map_append]
  exact .inr h1
theorem puts_k (w : World) (b : Nat) (l : List UInt8) (s : ByteArray) (W : World) (h : Bf w b l W) (hl : l.length ≤ 1000000) (hs : s.size ≤ 1000000) :
    Calls Tryd.prog 26 #[.pointer (some ⟨b, 0, none⟩), .string s] W fun e W' => e = .returned (.tuple #[.int .i64 s.size, .nilIface]) ∧ Bf w b (l ++ s.data.toList) W' := by
  refine (Tryd.Builder_WriteString_k w.heap.size b (Lib.byteCells l) s W h.1 (by unfold Lib.byteCells; simp; omega) h.2.size).mono ?_
  rintro e W' ⟨rfl, h1, h2, h3⟩
  refine ⟨rfl, ?_, h.2.trans h2⟩
  unfold Lib.byteCells at h1 ⊢
  rw [List.map_append]
  exact .inr h1
theorem told_k (w : World) (b : Nat) (l : List UInt8) (W : World) (h : Bf w b l W) :
    Calls Tryd.prog 28 #[.pointer (some ⟨b, 0, none⟩)] W fun e W' => e = .returned (.string ⟨l.toArray⟩) ∧ Below w.heap.size w W' := by
  refine (Tryd.Builder_String_any_k w.heap.size b l W h.1 h.2.size).mono ?_
  rintro e W' ⟨rfl, _, h2, _⟩
  exact ⟨rfl, h.2.trans h2⟩
theorem bel_new {w W W2 : World} {o : Obj} (h : Below w.heap.size w W) (h2 : Below (W.alloc o).heap.size (W.alloc o) W2) : Below w.heap.size w W2 ∧ W2.heap[W.heap.size]? = some o := by
  refine ⟨h.trans (((Below.refl W.heap.size W).alloc (Nat.le_refl _) o).mono h.size |>.trans (h2.mono (by simp; have := h.size; omega))), (h2.block W.heap.size (by simp)).trans (heap_alloc_new W o)⟩
theorem box_cell {W : World} {b : Nat} {cs : Array Value} {t : TypeId} (h : W.heap[b]? = some (.cells cs t (0, 0))) (j : Nat) : W.cell? ⟨b, j, none⟩ = cs[j]? := by simp [World.cell?, h]
set_option maxRecDepth 100000 in
set_option maxHeartbeats 4000000 in
theorem write_c (A : Option Addr) (c : Nat) (l : List S26) (w : World) (hr : Kd.C k26 w A l.length l) (hc : l.length ≤ c) (hl : l.length ≤ 1048576) (hok : ∀ x ∈ l, OkT x) (ht : TabOk w) :
    Calls Tryd.prog 11 #[.slice A l.length c] w fun e w' => e = .returned (.tuple #[.string (wrOut l).1, .int .i64 (wrOut l).2]) ∧ Below w.heap.size w w' := by
  have HR := Lib.hid hr; clear hr
  have HT := Lib.hid ht; clear ht
  have HOK := Lib.hid hok; clear hok
  go_enter Tryd.func11, Tryd.ntmps11
  go_wp2_with fail
  go_loopw [11] (fun i wr => ∃ t : Nat, t ≤ l.length ∧ i = .int .i64 t ∧ (∀ j < t, badB l j = false) ∧ Below w.heap.size w wr) (fun i _ => l.length - (intOf i).toNat)
  case atStart => exact ⟨0, by omega, rfl, fun j hj => by omega, Below.refl _ _⟩
  case round =>
    obtain ⟨t, ht, rfl, hbad, hQ⟩ := hrel
    obtain ⟨wo, rfl⟩ : ∃ wo : World, wo = wr := ⟨_, rfl⟩
    have HQ := Lib.hid hQ; clear hQ
    have HBAD := Lib.hid hbad; clear hbad
    by_cases hlt : t < l.length
    · have hkt : decide ((t : Int) < (l.length : Int)) = true := by simp; omega
      obtain ⟨ad, rfl, h0, h1, h2, h3, h4, h5, h6, h7, h8, h9, h10⟩ := at_T26 (Kd.C_below HR.out HQ.out) (t : Int) (by omega) (by omega)
      rw [Int.toNat_natCast] at h0 h1 h2 h3 h4 h5 h6 h7 h8 h9 h10
      have hz : (0 : Int) ≤ (t : Int) ∧ (t : Int) < (l.length : Int) := by omega
      have hxo : OkT (rd_T26 l (t : Int)) := HOK.out _ (by unfold rd_T26; rw [Int.toNat_natCast, List.getD_eq_getElem?_getD, List.getElem?_eq_getElem hlt]; exact List.getElem_mem hlt)
      have hbt : badB l t = (!rightB (rd_T26 l (t : Int)) || ((rd_T26 l (t : Int)).f0 == 0 && decide (t + 1 < l.length))) := rfl
      generalize hx : rd_T26 l (t : Int) = x at h0 h1 h2 h3 h4 h5 h6 h7 h8 h9 h10 hxo hbt
      have HX := Lib.hid hxo; clear hxo
      have HBT := Lib.hid hbt; clear hbt
      go_wp2_with fail
      clear h0 h1 h2 h3 h4 h5 h6 h7 h8 h9 h10
      refine (right_c x HX.out _).mono ?_
      rintro e W2 ⟨rfl, hb2⟩
      obtain ⟨hB2, hbox⟩ := bel_new HQ.out hb2
      have HB2 := Lib.hid hB2; clear hB2 hb2
      have p0 : W2.cell? ⟨wo.heap.size, 0, none⟩ = some (.int .i64 x.f0) := (box_cell hbox 0).trans rfl
      clear hbox
      cases hrt : rightB x with
      | false =>
        go_wp2
        go_ret2
        have hany : (List.range l.length).any (badB l) = true := List.any_eq_true.2 ⟨t, List.mem_range.2 hlt, by rw [HBT.out, hrt]; rfl⟩
        refine ⟨?_, HB2.out⟩
        unfold wrOut; rw [if_pos hany]; rfl
      | true =>
        by_cases c0 : x.f0 = 0
        · have c0b : (x.f0 == 0) = true := by simp [c0]
          have hsub : IntKind.i64.wrap ((l.length : Int) - 1) = (l.length : Int) - 1 := by rw [i64_w]; unfold wrap64; omega
          by_cases c1 : t + 1 < l.length
          · have c1b : decide ((t : Int) < (l.length : Int) - 1) = true := by simp; omega
            clear c0
            go_wp2
            go_ret2
            have hany : (List.range l.length).any (badB l) = true := List.any_eq_true.2 ⟨t, List.mem_range.2 hlt, by rw [HBT.out, hrt, c0b, decide_eq_true c1]; rfl⟩
            refine ⟨?_, HB2.out⟩
            unfold wrOut; rw [if_pos hany]; rfl
          · have c1b : decide ((t : Int) < (l.length : Int) - 1) = false := by simp; omega
            clear c0
            go_wp2
            go_roundw
            case rel => exact ⟨t + 1, by omega, by go_num, fun j hj => by
              rcases Nat.lt_succ_iff_lt_or_eq.1 hj with q | q
              · exact HBAD.out j q
              · rw [q, HBT.out, hrt, c0b, decide_eq_false c1]; rfl, HB2.out⟩
            case measure => simp [intOf]; omega
        · have c0b : (x.f0 == 0) = false := by simp [c0]
          clear c0
          go_wp2
          go_roundw
          case rel => exact ⟨t + 1, by omega, by go_num, fun j hj => by
            rcases Nat.lt_succ_iff_lt_or_eq.1 hj with q | q
            · exact HBAD.out j q
            · rw [q, HBT.out, hrt, c0b]; rfl, HB2.out⟩
          case measure => simp [intOf]; omega
    · have hkt : decide ((t : Int) < (l.length : Int)) = false := by simp; omega
      have hany : (List.range l.length).any (badB l) = false := by
        rw [List.any_eq_false]; intro j hj
        rw [HBAD.out j (by have := List.mem_range.1 hj; omega)]; simp
      have hout : wrOut l = wrR l l.length 0 [] := by unfold wrOut; rw [hany]; simp
      have hall : ∀ j < l.length, badB l j = false := fun j hj => HBAD.out j (by omega)
      have HALL := Lib.hid hall
      have HOUT := Lib.hid hout
      clear hout hany hall HBAD
      go_wp2_with fail
      have HB0 := Lib.hid (bf_at HQ.out)
      have HB1 := Lib.hid ((HQ.out.alloc HQ.out.size (.cells #[.pointer none, .slice none 0 0] 54)))
      generalize hb : wo.heap.size = b at HB0 ⊢
      have hbw : b < (wo.alloc (.cells #[.pointer none, .slice none 0 0] 54)).heap.size := by simp; omega
      have hfr : w.heap.size ≤ b := by rw [← hb]; exact HQ.out.size
      generalize wo.alloc (.cells #[.pointer none, .slice none 0 0] 54) = w1 at HB0 HB1 hbw ⊢
      clear HQ hb
      go_loopw [34] (fun i wr => ∃ (t : Nat) (acc : List UInt8), t ≤ l.length ∧ i = .int .i64 t ∧ acc.length ≤ 65536 ∧ wrR l (l.length - t) t acc = wrR l l.length 0 [] ∧ Bf w b acc wr) (fun i _ => l.length - (intOf i).toNat)
      case atStart => exact ⟨0, [], by omega, rfl, by simp, rfl, HB0.out⟩
      case round =>
        obtain ⟨t, acc, ht, rfl, hacc, hwr, hQ⟩ := hrel
        obtain ⟨wo, rfl⟩ : ∃ wo : World, wo = wr := ⟨_, rfl⟩
        have HQ := Lib.hid hQ; clear hQ
        have HWR := Lib.hid hwr; clear hwr
        by_cases hlt : t < l.length
        · have hkt : decide ((t : Int) < (l.length : Int)) = true := by simp; omega
          obtain ⟨ad, rfl, h0, h1, h2, h3, h4, h5, h6, h7, h8, h9, h10⟩ := at_T26 (Kd.C_below HR.out HQ.out.2) (t : Int) (by omega) (by omega)
          rw [Int.toNat_natCast] at h0 h1 h2 h3 h4 h5 h6 h7 h8 h9 h10
          have hz : (0 : Int) ≤ (t : Int) ∧ (t : Int) < (l.length : Int) := by omega
          have hxo : OkT (rd_T26 l (t : Int)) := HOK.out _ (by unfold rd_T26; rw [Int.toNat_natCast, List.getD_eq_getElem?_getD, List.getElem?_eq_getElem hlt]; exact List.getElem_mem hlt)
          have hrt : rightB (rd_T26 l (t : Int)) = true := by have := HALL.out t hlt; unfold badB at_ at this; simp at this; exact this.1
          have hstep : ∀ acc1, (if 0 < t ∧ (rd_T26 l (t : Int)).f0 ≠ 0 then acc ++ [32] else acc) = acc1 → wrR l (l.length - t) t acc = if (rd_T26 l (t : Int)).f3.size > 65536 then (⟨#[]⟩, 2) else if (acc1 ++ (textE (rd_T26 l (t : Int))).data.toList).length > 65536 then (⟨#[]⟩, 2) else wrR l (l.length - (t + 1)) (t + 1) (acc1 ++ (textE (rd_T26 l (t : Int))).data.toList) := wr_step l t hlt acc
          generalize hx : rd_T26 l (t : Int) = x at h0 h1 h2 h3 h4 h5 h6 h7 h8 h9 h10 hxo hrt hstep
          have HX := Lib.hid hxo; clear hxo
          have HRT := Lib.hid hrt; clear hrt
          have HBOX := Lib.hid (heap_alloc_new wo (.cells #[.int .i64 x.f0, .int .i64 x.f1, .int .i64 x.f2, .string x.f3, .bool x.f4, .int .u64 x.f5.f0, .int .u64 x.f5.f1, .int .u64 x.f5.f2, .int .u64 x.f5.f3, .int .i64 x.f6, .int .i64 x.f7] 26))
          have HBA := Lib.hid (bf_below HQ.out ((Below.refl wo.heap.size wo).alloc (Nat.le_refl _) (.cells #[.int .i64 x.f0, .int .i64 x.f1, .int .i64 x.f2, .string x.f3, .bool x.f4, .int .u64 x.f5.f0, .int .u64 x.f5.f1, .int .u64 x.f5.f2, .int .u64 x.f5.f3, .int .i64 x.f6, .int .i64 x.f7] 26)))
          have HNE := Lib.hid (show wo.heap.size ≠ b by have := bf_lt HQ.out; omega)
          have HS0 := Lib.hid hstep
          clear hstep
          by_cases c3 : x.f3.size > 65536
          · have c3b : decide ((x.f3.size : Int) > 65536) = true := by simp; omega
            have HC3 := Lib.hid c3
            clear c3
            by_cases cs : 0 < t ∧ x.f0 ≠ 0
            · have s0 : decide (0 < t) = true := by simp; omega
              have s1 : (x.f0 != 0) = true := by simp [cs.2]
              have hst2 := HS0.out (acc ++ [32]) (if_pos cs)
              rw [if_pos HC3.out] at hst2
              have HST := Lib.hid hst2
              have st : 0 < t := cs.1
              clear hst2 cs
              go_wp2_with fail
              clear h0 h1 h2 h3 h4 h5 h6 h7 h8 h9 h10
              refine (put_k w b acc 32 _ HBA.out (by omega)).mono ?_
              rintro e W2 ⟨rfl, hb2, hk2⟩
              have HB2 := Lib.hid hb2
              have HBX := Lib.hid (hk2 _ _ HBOX.out (by simpa using HNE.out) (fun _ _ h => by cases h))
              clear hb2 hk2
              have p0 : W2.cell? ⟨wo.heap.size, 0, none⟩ = some (.int .i64 x.f0) := (box_cell HBX.out 0).trans rfl
              have p1 : W2.cell? ⟨wo.heap.size, 1, none⟩ = some (.int .i64 x.f1) := (box_cell HBX.out 1).trans rfl
              have p2 : W2.cell? ⟨wo.heap.size, 2, none⟩ = some (.int .i64 x.f2) := (box_cell HBX.out 2).trans rfl
              have p3 : W2.cell? ⟨wo.heap.size, 3, none⟩ = some (.string x.f3) := (box_cell HBX.out 3).trans rfl
              have p4 : W2.cell? ⟨wo.heap.size, 4, none⟩ = some (.bool x.f4) := (box_cell HBX.out 4).trans rfl
              have p5 : W2.cell? ⟨wo.heap.size, 5, none⟩ = some (.int .u64 x.f5.f0) := (box_cell HBX.out 5).trans rfl
              have p6 : W2.cell? ⟨wo.heap.size, 6, none⟩ = some (.int .u64 x.f5.f1) := (box_cell HBX.out 6).trans rfl
              have p7 : W2.cell? ⟨wo.heap.size, 7, none⟩ = some (.int .u64 x.f5.f2) := (box_cell HBX.out 7).trans rfl
              have p8 : W2.cell? ⟨wo.heap.size, 8, none⟩ = some (.int .u64 x.f5.f3) := (box_cell HBX.out 8).trans rfl
              have p9 : W2.cell? ⟨wo.heap.size, 9, none⟩ = some (.int .i64 x.f6) := (box_cell HBX.out 9).trans rfl
              have p10 : W2.cell? ⟨wo.heap.size, 10, none⟩ = some (.int .i64 x.f7) := (box_cell HBX.out 10).trans rfl
              go_wp2
              go_ret2
              refine ⟨?_, HB2.out.2⟩
              rw [HOUT.out, ← HWR.out, HST.out]; rfl
            · have hst2 := HS0.out acc (if_neg cs)
              rw [if_pos HC3.out] at hst2
              have HST := Lib.hid hst2
              clear hst2
              by_cases ct : 0 < t
              · have s0 : decide (0 < t) = true := by simp; omega
                have s1 : (x.f0 != 0) = false := by have q : x.f0 = 0 := Classical.byContradiction fun q => cs ⟨ct, q⟩; simp [q]
                clear cs
                go_wp2_with fail
                go_ret2
                refine ⟨?_, HBA.out.2⟩
                rw [HOUT.out, ← HWR.out, HST.out]; rfl
              · have s0 : decide (0 < t) = false := by simp; omega
                clear cs
                go_wp2_with fail
                go_ret2
                refine ⟨?_, HBA.out.2⟩
                rw [HOUT.out, ← HWR.out, HST.out]; rfl
          · have c3b : decide ((x.f3.size : Int) > 65536) = false := by simp; omega
            have HC3 := Lib.hid (show ¬ x.f3.size > 65536 from c3)
            have HTS := Lib.hid (textE_size x HX.out HRT.out (by omega))
            clear c3
            by_cases cs : 0 < t ∧ x.f0 ≠ 0
            · have s0 : decide (0 < t) = true := by simp; omega
              have s1 : (x.f0 != 0) = true := by simp [cs.2]
              have hst2 := HS0.out (acc ++ [32]) (if_pos cs)
              rw [if_neg HC3.out] at hst2
              have HST := Lib.hid hst2
              have st : 0 < t := cs.1
              clear hst2 cs
              go_wp2_with fail
              clear h0 h1 h2 h3 h4 h5 h6 h7 h8 h9 h10
              refine (put_k w b acc 32 _ HBA.out (by omega)).mono ?_
              rintro e W2 ⟨rfl, hb2, hk2⟩
              have HB2 := Lib.hid hb2
              have HBX := Lib.hid (hk2 _ _ HBOX.out (by simpa using HNE.out) (fun _ _ h => by cases h))
              clear hb2 hk2
              have p0 : W2.cell? ⟨wo.heap.size, 0, none⟩ = some (.int .i64 x.f0) := (box_cell HBX.out 0).trans rfl
              have p1 : W2.cell? ⟨wo.heap.size, 1, none⟩ = some (.int .i64 x.f1) := (box_cell HBX.out 1).trans rfl
              have p2 : W2.cell? ⟨wo.heap.size, 2, none⟩ = some (.int .i64 x.f2) := (box_cell HBX.out 2).trans rfl
              have p3 : W2.cell? ⟨wo.heap.size, 3, none⟩ = some (.string x.f3) := (box_cell HBX.out 3).trans rfl
              have p4 : W2.cell? ⟨wo.heap.size, 4, none⟩ = some (.bool x.f4) := (box_cell HBX.out 4).trans rfl
              have p5 : W2.cell? ⟨wo.heap.size, 5, none⟩ = some (.int .u64 x.f5.f0) := (box_cell HBX.out 5).trans rfl
              have p6 : W2.cell? ⟨wo.heap.size, 6, none⟩ = some (.int .u64 x.f5.f1) := (box_cell HBX.out 6).trans rfl
              have p7 : W2.cell? ⟨wo.heap.size, 7, none⟩ = some (.int .u64 x.f5.f2) := (box_cell HBX.out 7).trans rfl
              have p8 : W2.cell? ⟨wo.heap.size, 8, none⟩ = some (.int .u64 x.f5.f3) := (box_cell HBX.out 8).trans rfl
              have p9 : W2.cell? ⟨wo.heap.size, 9, none⟩ = some (.int .i64 x.f6) := (box_cell HBX.out 9).trans rfl
              have p10 : W2.cell? ⟨wo.heap.size, 10, none⟩ = some (.int .i64 x.f7) := (box_cell HBX.out 10).trans rfl
              go_wp2_with fail
              refine (text_c x HX.out HRT.out (by have := HC3.out; omega) _ (tab_below HT.out HB2.out.2)).mono ?_
              rintro e W3 ⟨rfl, hb3⟩
              have HB3 := Lib.hid (bf_below HB2.out hb3)
              clear hb3
              go_wp2_with fail
              refine (puts_k w b _ (textE x) _ HB3.out (by simp; omega) (by have := HTS.out; omega)).mono ?_
              rintro e W4 ⟨rfl, hb4⟩
              have HB4 := Lib.hid hb4
              clear hb4 HB3
              go_wp2_with fail
              refine (len_c w b _ _ HB4.out).mono ?_
              rintro e W5 ⟨rfl, rfl⟩
              generalize hL : (acc ++ [32]) ++ (textE x).data.toList = L at HB4 HST ⊢
              by_cases c4 : L.length > 65536
              · have c4b : decide ((L.length : Int) > 65536) = true := by simp; omega
                have hout3 := HST.out
                rw [if_pos c4] at hout3
                have HO3 := Lib.hid hout3
                clear c4 hout3
                go_wp2
                go_ret2
                refine ⟨?_, HB4.out.2⟩
                rw [HOUT.out, ← HWR.out, HO3.out]; rfl
              · have c4b : decide ((L.length : Int) > 65536) = false := by simp; omega
                have hout3 := HST.out
                rw [if_neg c4] at hout3
                have HO3 := Lib.hid hout3
                clear hout3
                go_wp2
                go_roundw
                case rel => exact ⟨t + 1, L, by omega, by go_num, by omega, by rw [← HO3.out]; exact HWR.out, HB4.out⟩
                case measure => simp [intOf]; omega
            · have hst2 := HS0.out acc (if_neg cs)
              rw [if_neg HC3.out] at hst2
              have HST := Lib.hid hst2
              clear hst2
              by_cases ct : 0 < t
              · have s0 : decide (0 < t) = true := by simp; omega
                have s1 : (x.f0 != 0) = false := by have q : x.f0 = 0 := Classical.byContradiction fun q => cs ⟨ct, q⟩; simp [q]
                clear cs
                go_wp2_with fail
                refine (text_c x HX.out HRT.out (by have := HC3.out; omega) _ (tab_below HT.out HBA.out.2)).mono ?_
                rintro e W3 ⟨rfl, hb3⟩
                have HB3 := Lib.hid (bf_below HBA.out hb3)
                clear hb3
                go_wp2_with fail
                refine (puts_k w b _ (textE x) _ HB3.out (by omega) (by have := HTS.out; omega)).mono ?_
                rintro e W4 ⟨rfl, hb4⟩
                have HB4 := Lib.hid hb4
                clear hb4 HB3
                go_wp2_with fail
                refine (len_c w b _ _ HB4.out).mono ?_
                rintro e W5 ⟨rfl, rfl⟩
                generalize hL : acc ++ (textE x).data.toList = L at HB4 HST ⊢
                by_cases c4 : L.length > 65536
                · have c4b : decide ((L.length : Int) > 65536) = true := by simp; omega
                  have hout3 := HST.out
                  rw [if_pos c4] at hout3
                  have HO3 := Lib.hid hout3
                  clear c4 hout3
                  go_wp2
                  go_ret2
                  refine ⟨?_, HB4.out.2⟩
                  rw [HOUT.out, ← HWR.out, HO3.out]; rfl
                · have c4b : decide ((L.length : Int) > 65536) = false := by simp; omega
                  have hout3 := HST.out
                  rw [if_neg c4] at hout3
                  have HO3 := Lib.hid hout3
                  clear hout3
                  go_wp2
                  go_roundw
                  case rel => exact ⟨t + 1, L, by omega, by go_num, by omega, by rw [← HO3.out]; exact HWR.out, HB4.out⟩
                  case measure => simp [intOf]; omega
              · have s0 : decide (0 < t) = false := by simp; omega
                clear cs
                go_wp2_with fail
                refine (text_c x HX.out HRT.out (by have := HC3.out; omega) _ (tab_below HT.out HBA.out.2)).mono ?_
                rintro e W3 ⟨rfl, hb3⟩
                have HB3 := Lib.hid (bf_below HBA.out hb3)
                clear hb3
                go_wp2_with fail
                refine (puts_k w b _ (textE x) _ HB3.out (by omega) (by have := HTS.out; omega)).mono ?_
                rintro e W4 ⟨rfl, hb4⟩
                have HB4 := Lib.hid hb4
                clear hb4 HB3
                go_wp2_with fail
                refine (len_c w b _ _ HB4.out).mono ?_
                rintro e W5 ⟨rfl, rfl⟩
                generalize hL : acc ++ (textE x).data.toList = L at HB4 HST ⊢
                by_cases c4 : L.length > 65536
                · have c4b : decide ((L.length : Int) > 65536) = true := by simp; omega
                  have hout3 := HST.out
                  rw [if_pos c4] at hout3
                  have HO3 := Lib.hid hout3
                  clear c4 hout3
                  go_wp2
                  go_ret2
                  refine ⟨?_, HB4.out.2⟩
                  rw [HOUT.out, ← HWR.out, HO3.out]; rfl
                · have c4b : decide ((L.length : Int) > 65536) = false := by simp; omega
                  have hout3 := HST.out
                  rw [if_neg c4] at hout3
                  have HO3 := Lib.hid hout3
                  clear hout3
                  go_wp2
                  go_roundw
                  case rel => exact ⟨t + 1, L, by omega, by go_num, by omega, by rw [← HO3.out]; exact HWR.out, HB4.out⟩
                  case measure => simp [intOf]; omega
        · have hkt : decide ((t : Int) < (l.length : Int)) = false := by simp; omega
          have e : wrR l l.length 0 [] = (⟨acc.toArray⟩, 0) := by rw [← HWR.out, show l.length - t = 0 by omega]; rfl
          have HE := Lib.hid e
          clear e
          go_wp2_with fail
          refine (told_k w b acc _ HQ.out).mono ?_
          rintro e W2 ⟨rfl, hb2⟩
          have HB2 := Lib.hid hb2; clear hb2
          go_wp2
          go_ret2
          refine ⟨?_, HB2.out⟩
          rw [HOUT.out, HE.out]; rfl
end Go.Proofs.YtldjdcdoegjmoaaDoor.Wr

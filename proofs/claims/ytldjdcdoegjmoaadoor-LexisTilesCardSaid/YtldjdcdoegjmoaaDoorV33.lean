import Derived.Test.YtldjdcdoegjmoaaDoorV17
import Derived.Test.YtldjdcdoegjmoaaDoorV29
import Derived.Test.YtldjdcdoegjmoaaDoorV31
import Derived.Test.YtldjdcdoegjmoaaDoorV32
set_option linter.unusedVariables false
set_option linter.unusedSimpArgs false
namespace Go.Proofs.YtldjdcdoegjmoaaDoor.P
open Go.RowKit Go.Proofs.YtldjdcdoegjmoaaDoorW.PrintWords Go.Proofs.YtldjdcdoegjmoaaDoorW.PrintLast
theorem rd_map (L : List TV) (pre rest : List TV) (t : TV) (h : L = pre ++ t :: rest) : Q27 (L.map tvS) ((pre.length : Nat) : Int) = tvS t := by
  unfold Q27
  rw [Int.toNat_natCast, h]
  simp [List.getD]
theorem allE_head (s : ByteArray) (p : Nat) : ∃ r, allE s p = nextE s (p : Int) :: r := by
  unfold allE
  rw [pairsE]
  split
  · exact ⟨_, rfl⟩
  · exact ⟨_, rfl⟩
theorem til_j1 (s : ByteArray) (hs : s.size ≤ 65536) (p : Nat) (hp : p ≤ s.size) (L : List (S26)) (i : Nat) (hc : codeOf (nextE s (p : Int)) = 0) (ha : atOf (nextE s (p : Int)) = 0) (k : Nat) (hk : 4 * s.size + 100 < k) (hl : L.length ≤ 70000) (hi : i < L.length)
    (hlast : (kindOf (nextE s (p : Int)) = 0) ↔ i + 1 = L.length) (e : Nat) (he : (nextE s (p : Int)).2.2.1 = (e : Int)) :
    dowellaw04_LexisTiles.j1 (k + 1) s L (p : Int) (i : Int) false (tvS (nextE s (p : Int))).f0 (tvS (nextE s (p : Int))).f1 (tvS (nextE s (p : Int))).f2 (tvS (nextE s (p : Int))).f3 (tvS (nextE s (p : Int))).f4 (tvS (nextE s (p : Int))).f5.f0 (tvS (nextE s (p : Int))).f5.f1 (tvS (nextE s (p : Int))).f5.f2 (tvS (nextE s (p : Int))).f5.f3 (tvS (nextE s (p : Int))).f6 (tvS (nextE s (p : Int))).f7 =
      dowellaw04_LexisTiles.l0 k s L (e : Int) ((i + 1 : Nat) : Int) := by
  have hw : wrap64 ((L.length : Int) - 1) = (L.length : Int) - 1 := by unfold wrap64; omega
  have hw2 : wrap64 ((i : Int) + 1) = ((i + 1 : Nat) : Int) := by unfold wrap64; omega
  have hN := Next_f s (by unfold bnd; omega) (p : Int) k hk
  rw [dowellaw04_LexisTiles.j1, if_neg (by simp), hN, hw, hw2]
  generalize nextE s (p : Int) = t at *
  obtain ⟨t0, t1, t2, t3, t4, t5, t6, t7, t8, t9, t10, t11, t12⟩ := t
  have e12 : t12 = 0 := hc
  have e11 : t11 = 0 := ha
  have e0 : t2 = (e : Int) := he
  have hk0 : (t0 = 0) ↔ i + 1 = L.length := hlast
  have hb : ((t0 == 0) != ((i : Int) == (L.length : Int) - 1)) = false := by
    by_cases q : t0 = 0
    · have := hk0.1 q
      have q2 : (i : Int) = (L.length : Int) - 1 := by omega
      rw [q, q2]; simp
    · have q2 : ¬ (i : Int) = (L.length : Int) - 1 := fun h => q (hk0.2 (by omega))
      rw [beq_eq_false_iff_ne.2 q, beq_eq_false_iff_ne.2 q2]; rfl
  subst e12 e11 e0
  simp only [tvS, Option.bind_some, hb, beq_self_eq_true, Bool.not_true, Bool.or_self, Bool.false_eq_true, if_false]
theorem til_l0 (s : ByteArray) (hs : s.size ≤ 65536) (hlen : (allE s 0).length ≤ 65537) : ∀ (d p : Nat) (pre : List TV) (k : Nat), s.size < p + d → p ≤ s.size → allE s 0 = pre ++ allE s p → (∀ t ∈ allE s p, codeOf t = 0 ∧ atOf t = 0) →
    4 * s.size + 200 + 2 * (allE s p).length ≤ k → dowellaw04_LexisTiles.l0 k s ((allE s 0).map tvS) (p : Int) ((pre.length : Nat) : Int) = some true
  | 0, p, pre, k, hd, hp, h, hg, hk => by omega
  | d + 1, p, pre, k, hd, hp, h, hg, hk => by
    obtain ⟨k, rfl⟩ : ∃ m, k = m + 2 := ⟨k - 2, by omega⟩
    obtain ⟨r, hr⟩ := allE_head s p
    have hc := hg _ (by rw [hr]; exact List.mem_cons_self ..)
    obtain ⟨b, e, hbe, hAt, hEnd, h1, h2, h3, h4, h5⟩ := tok_facts hs hp hc.1
    have hrd : Q27 ((allE s 0).map tvS) ((pre.length : Nat) : Int) = tvS (nextE s (p : Int)) := rd_map _ pre r _ (by rw [h, hr])
    have hll : ((allE s 0).map tvS).length = (allE s 0).length := by simp
    have hl2 : (allE s 0).length = pre.length + (allE s p).length := by rw [h, List.length_append]
    have hl3 : (allE s p).length = r.length + 1 := by rw [hr]; rfl
    have f1 : (tvS (nextE s (p : Int))).f1 = (b : Int) := hAt
    have f2 : (tvS (nextE s (p : Int))).f2 = (e : Int) := hEnd
    have f0 : (tvS (nextE s (p : Int))).f0 = kindOf (nextE s (p : Int)) := rfl
    have hj := til_j1 s hs p hp ((allE s 0).map tvS) pre.length hc.1 hc.2 k (by omega) (by omega) (by omega)
    have hkind : (((tvS (nextE s (p : Int))).f2 == (tvS (nextE s (p : Int))).f1) != ((tvS (nextE s (p : Int))).f0 == 0)) = false := by
      rw [f1, f2, f0]
      by_cases q : kindOf (nextE s (p : Int)) = 0
      · have := (h4 q).1
        rw [q, this]; simp
      · have := h5 q
        rw [beq_eq_false_iff_ne.2 (show ¬ (e : Int) = (b : Int) by omega), beq_eq_false_iff_ne.2 q]; rfl
    rw [dowellaw04_LexisTiles.l0, if_pos (by rw [hll]; omega), if_pos (by omega), hrd, hkind]
    rw [if_neg (by rw [f1]; omega), if_neg (by rw [f1, f2]; omega), if_neg (by rw [f2]; omega), if_pos (by omega), if_pos (by rw [f1]; omega), if_pos (by rw [f1]; omega)]
    have hbl := blank_f s hs p hp (k + 1) (by omega)
    rw [hbe] at hbl
    have hbl' : dowellaw04_blank.f (k + 1) (s.extract ((p : Nat) : Int).toNat ((tvS (nextE s (p : Int))).f1).toNat) = some true := by
      rw [f1, Int.toNat_natCast, Int.toNat_natCast]; exact hbl
    rw [hbl', Option.bind_some, if_pos rfl]
    by_cases q : kindOf (nextE s (p : Int)) = 0
    · have ho := allE_off (s := s) (p := p) (fun q2 => q2.2 q)
      have hr0 : r = [] := by rw [ho] at hr; injection hr with _ hr; exact hr.symm
      subst hr0
      rw [hj ⟨fun _ => by rw [hll, hl2, hl3]; simp, fun _ => q⟩ e hEnd]
      obtain ⟨k, rfl⟩ : ∃ m, k = m + 1 := ⟨k - 1, by omega⟩
      have h6 := h4 q
      rw [dowellaw04_LexisTiles.l0, if_neg (by rw [hll, hl2, hl3]; simp), h6.1, h6.2]
      simp
    · obtain ⟨e', he1, he2, he3, he4⟩ := allE_on hp hc.1 q
      obtain rfl : e' = e := by have hq : (nextE s (p : Int)).2.2.1 = (e' : Int) := he1; omega
      have hr0 : r = allE s e' := by rw [he4] at hr; injection hr with _ hr; exact hr.symm
      have hne : 1 ≤ (allE s e').length := by obtain ⟨r2, hr2⟩ := allE_head s e'; rw [hr2]; simp
      rw [hj ⟨fun q2 => absurd q2 q, fun q2 => by rw [hll, hl2, hl3, hr0] at q2; omega⟩ e' hEnd]
      have ih := til_l0 s hs hlen d e' (pre ++ [nextE s (p : Int)]) k (by omega) he3 (by rw [h, he4]; simp) (fun t ht => hg t (by rw [he4]; exact List.mem_cons_of_mem _ ht)) (by rw [he4] at hk; simp only [List.length_cons] at hk; omega)
      rw [List.length_append] at ih
      exact ih
theorem tiles_f (s : ByteArray) (hs : s.size ≤ bnd) (hworks : ∀ k, 400 ≤ k → dowellaw04_works.f k = some true) : ∃ k, dowellaw04_LexisTiles.f k s = some true := by
  refine ⟨4 * s.size + 400 + 2 * (allE s 0).length, ?_⟩
  unfold dowellaw04_LexisTiles.f
  rw [hworks _ (by omega), Option.bind_some, if_pos rfl]
  unfold lexis_Tokens.f
  rw [if_pos hs, Option.bind_some]
  have hfp := fp_pairs s (s.size + 1) 0 (Nat.zero_le _)
  rcases all_split s with ⟨h1, h2, h3⟩ | ⟨L, p, c, hc, h1, h2, h3, h4⟩
  · rw [toksOut_ok fun t ht => (h3 t ht).1]
    rw [if_neg (by simp)]
    have h65 : s.size ≤ 65536 := by
      rcases Nat.lt_or_ge 65536 s.size with q | q
      · exfalso
        have hn : nextE s ((0 : Nat) : Int) = faultV 0 1 := by unfold nextE; rw [if_pos (by omega)]
        obtain ⟨r, hr⟩ := allE_head s 0
        have := (h3 _ (by rw [hr]; exact List.mem_cons_self ..)).1
        rw [hn] at this
        exact absurd this (by decide)
      · exact q
    exact til_l0 s h65 (allE_len s) (s.size + 1) 0 [] _ (by omega) (Nat.zero_le _) rfl h3 (by omega)
  · rw [toksOut_bad (s := s) (pre := L) (t := faultV p c) (by rw [h1]; exact List.prefix_refl _) (by rw [code_fault]; exact hc)]
    have hp := hfp (faultV p c) (by show faultV p c ∈ allE s 0; rw [h1]; simp)
    have hp1 : 0 ≤ p := hp.1
    have hp2 : p ≤ (s.size : Int) := hp.2
    show (if (!(p == 0) || !(c == 0)) = true then _ else _) = _
    rw [if_pos (by simp [hc]), if_pos (by simp)]
    show (if c = 0 then _ else _) = _
    rw [if_neg hc]
    show (if p ≥ 0 then _ else _) = _
    rw [if_pos hp1]
    show some (decide (p ≤ (s.size : Int))) = some true
    rw [decide_eq_true hp2]
end Go.Proofs.YtldjdcdoegjmoaaDoor.P
set_option linter.unusedVariables false
namespace Go.Proofs.YtldjdcdoegjmoaaDoor
open Go.RowKit
theorem lexisTiles_w (s : ByteArray) (w : World) (hs : s.size ≤ 140737488351232) (ht : TabOk w) : Calls Tryd.prog 5 #[.string s] w fun e w' => e = .returned (.bool true) ∧ Below w.heap.size w w' := by
  obtain ⟨k, hk⟩ := P.tiles_f s hs (fun _ _ => rfl)
  exact P.dowellaw04_LexisTiles.calls k s true w hk ht
end Go.Proofs.YtldjdcdoegjmoaaDoor

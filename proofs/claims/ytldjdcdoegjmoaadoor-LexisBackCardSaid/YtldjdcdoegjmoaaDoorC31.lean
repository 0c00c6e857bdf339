import Derived.KernelRfl
import Derived.Test.YtldjdcdoegjmoaaDoorC4
import Derived.Test.YtldjdcdoegjmoaaDoorC5
import Derived.Test.YtldjdcdoegjmoaaDoorC13
import Derived.Test.YtldjdcdoegjmoaaDoorC14
import Derived.Test.YtldjdcdoegjmoaaDoorC15
import Derived.Test.YtldjdcdoegjmoaaDoorC30
set_option linter.unusedVariables false
set_option linter.unusedSimpArgs false
namespace Go.Proofs.YtldjdcdoegjmoaaDoor.P
open Go.RowKit Go.Proofs.YtldjdcdoegjmoaaDoorW.PrintWords Go.Proofs.YtldjdcdoegjmoaaDoorW.PrintLast
theorem allE_cons (s : ByteArray) (p : Nat) : ∃ r, allE s p = nextE s (p : Int) :: r := by
  unfold allE
  rw [pairsE]
  split
  · exact ⟨_, rfl⟩
  · exact ⟨_, rfl⟩
theorem good_next {s : ByteArray} {p : Nat} (h : ∀ x ∈ allE s p, codeOf x = 0) : codeOf (nextE s (p : Int)) = 0 := by
  obtain ⟨r, hr⟩ := allE_cons s p
  exact h _ (by rw [hr]; exact List.mem_cons_self ..)
theorem step_on {s t : ByteArray} {p q m : Nat} (hp : p ≤ s.size) (hq : q ≤ t.size) (h : nextE t (q : Int) = shT m (nextE s (p : Int))) (hc : codeOf (nextE s (p : Int)) = 0) (hk : kindOf (nextE s (p : Int)) ≠ 0) :
    ∃ e : Nat, endOf (nextE s (p : Int)) = (e : Int) ∧ p < e ∧ e ≤ s.size ∧ allE s p = nextE s (p : Int) :: allE s e ∧ allE t q = shT m (nextE s (p : Int)) :: allE t (e + m) := by
  obtain ⟨e, h1, h2, h3, h4⟩ := allE_on hp hc hk
  obtain ⟨e', h5, h6, h7, h8⟩ := allE_on (s := t) hq (by rw [h]; exact hc) (by rw [h]; exact hk)
  have he : e' = e + m := by
    rw [h] at h5
    have h9 : endOf (nextE s (p : Int)) + (m : Int) = (e' : Int) := h5
    omega
  exact ⟨e, h1, h2, h3, h4, by rw [h8, h, he]⟩
theorem step_off {s t : ByteArray} {p q m : Nat} (h : nextE t (q : Int) = shT m (nextE s (p : Int))) (hk : kindOf (nextE s (p : Int)) = 0) : allE s p = [nextE s (p : Int)] ∧ allE t q = [shT m (nextE s (p : Int))] := by
  refine ⟨allE_off fun q2 => q2.2 hk, ?_⟩
  rw [allE_off (s := t) (p := q) (fun q2 => q2.2 (by rw [h]; exact hk)), h]
theorem no_colon {s : ByteArray} (hs : s.size ≤ 65536) {e : Nat} (he : e < s.size) (hc : codeOf (nextE s (e : Int)) = 0) {x : Int} (hx : x = 58 ∨ x = 126) : bt s (e : Int) ≠ x := by
  intro h
  have hb : blankE s (s.size + 1) e = e := by
    refine blank_stop (.inr ?_)
    rw [h]
    rcases hx with rfl | rfl <;> exact ⟨by decide, by decide⟩
  rw [next_eq hs (by omega), hb] at hc
  unfold tokE at hc
  rw [if_pos he, h] at hc
  rcases hx with rfl | rfl
  · rw [if_neg (by decide), if_neg (by decide), if_neg (fun q => absurd q.1 (by decide)), if_neg (by decide), if_neg (by decide), if_neg (by decide), if_neg (by decide)] at hc
    exact absurd hc (by show (40 : Int) ≠ 0; decide)
  · rw [if_neg (by decide), if_neg (by decide), if_neg (fun q => absurd q.1 (by decide)), if_neg (by decide), if_neg (by decide), if_neg (by decide), if_neg (by decide)] at hc
    exact absurd hc (by show (40 : Int) ≠ 0; decide)
/-- A name that begins with i and goes on. -/
theorem name_at {s : ByteArray} (hs : s.size ≤ 65536) {e : Nat} (he : e + 1 < s.size) (hc : codeOf (nextE s (e : Int)) = 0) (h1 : bt s (e : Int) = 105) (h2 : alnumB (bt s ((e + 1 : Nat) : Int)) = true) :
    (nextE s (e : Int)).2.1 = (e : Int) ∧ kindOf (nextE s (e : Int)) ≠ 0 ∧ ((e + 2 : Nat) : Int) ≤ endOf (nextE s (e : Int)) := by
  have hb : blankE s (s.size + 1) e = e := by
    refine blank_stop (.inr ?_)
    rw [h1]
    exact ⟨by decide, by decide⟩
  have ho : e + 2 ≤ ownE s e := by
    unfold ownE
    rw [if_pos ⟨by omega, by rw [h1]; decide⟩, runE_yes (by omega) (by rw [h1]; decide), runE_yes (by omega) h2]
    exact runE_ge _ _ _
  have hn : e + 2 ≤ nameE s e := by
    unfold nameE
    rw [if_neg (by omega)]
    have g1 := colE_ge s (ownE s e)
    have g2 := numE_ge s (colE s (ownE s e))
    omega
  rw [next_eq hs (by omega), hb] at hc ⊢
  unfold tokE at hc ⊢
  rw [if_pos (show e < s.size by omega), h1, if_neg (by decide), if_pos (by decide)] at hc ⊢
  unfold wordE at hc ⊢
  by_cases q : nameE s e - e > 64
  · rw [if_pos q] at hc; exact absurd hc (by show (1 : Int) ≠ 0; decide)
  · rw [if_neg q]
    exact ⟨rfl, show (1 : Int) ≠ 0 by decide, by show ((e + 2 : Nat) : Int) ≤ ((nameE s e : Nat) : Int); omega⟩
theorem next_sim {s t : ByteArray} {a m n : Nat} (hs : s.size ≤ 65536) (ht : t.size ≤ 65536) (S : Sim s t a m n) {p : Nat} (ha : a ≤ p) (hp : p ≤ n) (hc : codeOf (nextE s (p : Int)) = 0)
    (hb : blankE s (s.size + 1) p < n ∨ (n = s.size ∧ n + m = t.size)) (he : endOf (nextE s (p : Int)) ≤ (n : Int)) (hA : ∀ e : Nat, endOf (nextE s (p : Int)) = (e : Int) → Ahead s e n) : nextE t ((p + m : Nat) : Int) = shT m (nextE s (p : Int)) := by
  have hn := S.hn
  have hm := S.hm
  have h1 := blank_sim hn hm S.hb (s.size + 1) (t.size + 1) p ha hp (by omega) (by omega) hb
  have h2 := blankE_le s (s.size + 1) p (by omega)
  rw [next_eq hs (by omega)] at hc he hA ⊢
  rw [next_eq ht (by omega), h1]
  generalize blankE s (s.size + 1) p = b at *
  by_cases q : b < n
  · exact tok_sim S (by omega) q hc he hA
  · have h3 : n = s.size ∧ n + m = t.size := by
      rcases hb with h | h
      · omega
      · exact h
    have e1 : tokE s b = plainV 0 b b := by unfold tokE; rw [if_neg (by omega)]
    have e2 : tokE t (b + m) = plainV 0 ((b + m : Nat) : Int) ((b + m : Nat) : Int) := by unfold tokE; rw [if_neg (by omega)]
    rw [e1, e2]
    unfold plainV shT
    exact Prod.ext rfl (Prod.ext (by show ((b + m : Nat) : Int) = (b : Int) + (m : Int); omega) (Prod.ext (by show ((b + m : Nat) : Int) = (b : Int) + (m : Int); omega) rfl))
theorem ahead_end {s : ByteArray} (hs : s.size ≤ 65536) {e : Nat} (hG : e < s.size → codeOf (nextE s (e : Int)) = 0) : Ahead s e s.size :=
  ⟨fun h => no_colon hs h (hG h) (.inl rfl), fun h => no_colon hs h (hG h) (.inr rfl), fun _ _ h _ => h⟩
theorem after_all {s t : ByteArray} {c m : Nat} (hs : s.size ≤ 65536) (ht : t.size ≤ 65536) (S : Sim s t c m s.size) (hz : t.size = s.size + m) : ∀ (d p : Nat), c ≤ p → p ≤ s.size → s.size < p + d → (∀ x ∈ allE s p, codeOf x = 0) → allE t (p + m) = (allE s p).map (shT m)
  | 0, p, hc, hp, hd, hG => by omega
  | d + 1, p, hc, hp, hd, hG => by
    have g := good_next hG
    obtain ⟨b, e, hbe, hAt, hEnd, h1, h2, h3, h4, h5⟩ := tok_facts hs hp g
    by_cases hk : kindOf (nextE s (p : Int)) = 0
    · have h6 := h4 hk
      have hN := next_sim hs ht S hc hp g (.inr ⟨rfl, by omega⟩) (by show (nextE s (p : Int)).2.2.1 ≤ _; rw [hEnd]; omega) (fun e' he' => ⟨fun h => by
        have : (nextE s (p : Int)).2.2.1 = (e' : Int) := he'
        omega, fun h => by
        have : (nextE s (p : Int)).2.2.1 = (e' : Int) := he'
        omega, fun h _ _ _ => by
        have : (nextE s (p : Int)).2.2.1 = (e' : Int) := he'
        omega⟩)
      have h7 := step_off hN hk
      rw [h7.1, h7.2]
      rfl
    · obtain ⟨e2, k1, k2, k3, k4⟩ := allE_on hp g hk
      have hG2 : ∀ x ∈ allE s e2, codeOf x = 0 := fun x hx => hG x (by rw [k4]; exact List.mem_cons_of_mem _ hx)
      have hN := next_sim hs ht S hc hp g (.inr ⟨rfl, by omega⟩) (by rw [k1]; omega) (fun e' he' => by
        obtain rfl : e' = e2 := by rw [k1] at he'; omega
        exact ahead_end hs fun _ => good_next hG2)
      obtain ⟨e3, j1, j2, j3, j4, j5⟩ := step_on hp (by omega) hN g hk
      obtain rfl : e3 = e2 := by rw [k1] at j1; omega
      rw [j5, j4, List.map_cons, after_all hs ht S hz d e3 (by omega) j3 (by omega) hG2]
theorem begins_ge {s : ByteArray} (hs : s.size ≤ 65536) : ∀ (j p : Nat) (x : TV), p ≤ s.size → (∀ y ∈ allE s p, codeOf y = 0) → (allE s p)[j]? = some x → (p : Int) ≤ x.2.1
  | 0, p, x, hp, hG, h => by
    obtain ⟨r, hr⟩ := allE_cons s p
    rw [hr] at h
    obtain rfl : nextE s (p : Int) = x := by simpa using h
    obtain ⟨b, e, hbe, hAt, hEnd, h1, _⟩ := tok_facts hs hp (good_next hG)
    rw [hAt]; omega
  | j + 1, p, x, hp, hG, h => by
    by_cases hk : kindOf (nextE s (p : Int)) = 0
    · rw [allE_off fun q => q.2 hk] at h
      simp at h
    · obtain ⟨e, k1, k2, k3, k4⟩ := allE_on hp (good_next hG) hk
      rw [k4] at h
      have := begins_ge hs j e x k3 (fun y hy => hG y (by rw [k4]; exact List.mem_cons_of_mem _ hy)) (by simpa using h)
      omega
theorem shT_0 (x : TV) : shT 0 x = x := by
  unfold shT
  refine Prod.ext rfl (Prod.ext ?_ (Prod.ext ?_ rfl))
  · show x.2.1 + ((0 : Nat) : Int) = x.2.1; omega
  · show x.2.2.1 + ((0 : Nat) : Int) = x.2.2.1; omega
section
variable {s t u : ByteArray} {c : Nat}
theorem Put.blk0 (T : Put s t u c) : blk (bt t (c : Int)) := by
  have h := T.hP 0 T.h0
  rw [Nat.add_zero] at h
  rw [h]
  have hb := T.hbl
  rw [blankS, if_pos T.h0] at hb
  unfold blk
  by_cases hsp : spaceB (bt u ((0 : Nat) : Int)) = true
  · have := space_not hsp; omega
  · rw [if_neg hsp] at hb
    by_cases h35 : bt u ((0 : Nat) : Int) = 35
    · omega
    · rw [if_neg h35] at hb; cases hb
theorem Put.sim1 (T : Put s t u c) : Sim s t 0 0 c := ⟨T.hc, by have := T.hz; have := T.hc; omega, fun i _ h => T.hA i h, T.blk0⟩
theorem Put.sim3 (T : Put s t u c) : Sim s t c u.size s.size := ⟨Nat.le_refl _, by have := T.hz; omega, fun i h1 h2 => T.hS i h1 h2, by rw [bt_out t _ (by have := T.hz; omega)]; exact .inl rfl⟩
theorem Put.at_all (T : Put s t u c) (hs : s.size ≤ 65536) (ht : t.size ≤ 65536) {p : Nat} (hp : p ≤ c) (hb : blankE s (s.size + 1) p = c) (hG : ∀ x ∈ allE s p, codeOf x = 0) : allE t p = (allE s p).map (shT u.size) := by
  have hc := T.hc
  have hz := T.hz
  have g := good_next hG
  have hst : c = s.size ∨ (spaceB (bt s (c : Int)) = false ∧ bt s (c : Int) ≠ 35) := by
    have := blank_ends s (s.size + 1) p (by omega) (by omega)
    rw [hb] at this
    rcases this with h | h
    · exact .inl (by omega)
    · exact .inr h
  have hmid := T.mid hst (s.size + 1) (t.size + 1) p hp (by omega) (by omega) hb
  obtain ⟨b, e, hbe, hAt, hEnd, h1, h2, h3, h4, h5⟩ := tok_facts hs (by omega : p ≤ s.size) g
  obtain rfl : b = c := by omega
  have hN : nextE t (p : Int) = shT u.size (nextE s (p : Int)) := by
    rw [next_eq ht (by omega), hmid]
    by_cases hk : kindOf (nextE s (p : Int)) = 0
    · have h6 := h4 hk
      have e1 : nextE s (p : Int) = plainV 0 b b := by rw [next_eq hs (by omega), hb]; unfold tokE; rw [if_neg (by omega)]
      have e2 : tokE t (b + u.size) = plainV 0 ((b + u.size : Nat) : Int) ((b + u.size : Nat) : Int) := by unfold tokE; rw [if_neg (by omega)]
      rw [e1, e2]
      unfold plainV shT
      exact Prod.ext rfl (Prod.ext (by show ((b + u.size : Nat) : Int) = (b : Int) + (u.size : Int); omega) (Prod.ext (by show ((b + u.size : Nat) : Int) = (b : Int) + (u.size : Int); omega) rfl))
    · obtain ⟨e2, k1, k2, k3, k4⟩ := allE_on (by omega : p ≤ s.size) g hk
      have h6 := h5 hk
      have hG2 : ∀ x ∈ allE s e2, codeOf x = 0 := fun x hx => hG x (by rw [k4]; exact List.mem_cons_of_mem _ hx)
      have hEe : e = e2 := by
        have : (nextE s (p : Int)).2.2.1 = (e2 : Int) := k1
        omega
      have hnx := next_eq hs (by omega : p ≤ s.size)
      rw [hb] at hnx
      rw [hnx] at g k1 ⊢
      exact tok_sim T.sim3 (Nat.le_refl _) (by omega) g (by rw [k1]; omega) (fun e' he' => by
        obtain rfl : e' = e2 := by rw [k1] at he'; omega
        exact ahead_end hs fun _ => good_next hG2)
  by_cases hk : kindOf (nextE s (p : Int)) = 0
  · have h7 := step_off hN hk
    rw [h7.1, h7.2]
    rfl
  · obtain ⟨e3, j1, j2, j3, j4, j5⟩ := step_on (by omega : p ≤ s.size) (by omega) hN g hk
    have h6 := h5 hk
    have hEe : e = e3 := by
      have : (nextE s (p : Int)).2.2.1 = (e3 : Int) := j1
      omega
    have hG2 : ∀ x ∈ allE s e3, codeOf x = 0 := fun x hx => hG x (by rw [j4]; exact List.mem_cons_of_mem _ hx)
    rw [j5, j4, List.map_cons, after_all hs ht T.sim3 hz (s.size + 1) e3 (by omega) j3 (by omega) hG2]
theorem Put.before_all (T : Put s t u c) (hs : s.size ≤ 65536) (ht : t.size ≤ 65536) : ∀ (j p : Nat) (x : TV), p ≤ s.size → (∀ y ∈ allE s p, codeOf y = 0) → (allE s p)[j]? = some x → x.2.1 = (c : Int) →
    allE t p = (allE s p).take j ++ ((allE s p).drop j).map (shT u.size)
  | 0, p, x, hp, hG, h, hx => by
    obtain ⟨r, hr⟩ := allE_cons s p
    have h' := h
    rw [hr] at h'
    obtain rfl : nextE s (p : Int) = x := by simpa using h'
    obtain ⟨b, e, hbe, hAt, hEnd, h1, _⟩ := tok_facts hs hp (good_next hG)
    rw [hAt] at hx
    obtain rfl : b = c := by omega
    rw [List.take_zero, List.drop_zero, List.nil_append]
    exact T.at_all hs ht h1 hbe hG
  | j + 1, p, x, hp, hG, h, hx => by
    have hz := T.hz
    have hcs := T.hc
    have g := good_next hG
    have hk : kindOf (nextE s (p : Int)) ≠ 0 := fun hk => by
      rw [allE_off fun q => q.2 hk] at h
      simp at h
    obtain ⟨e, k1, k2, k3, k4⟩ := allE_on hp g hk
    have hG2 : ∀ y ∈ allE s e, codeOf y = 0 := fun y hy => hG y (by rw [k4]; exact List.mem_cons_of_mem _ hy)
    have hj : (allE s e)[j]? = some x := by rw [k4] at h; simpa using h
    have hec : e ≤ c := by have := begins_ge hs j e x k3 hG2 hj; omega
    have ih := T.before_all hs ht j e x k3 hG2 hj hx
    obtain ⟨b, e0, hbe, hAt, hEnd, h1, h2, h3, h4, h5⟩ := tok_facts hs hp g
    have hbe0 := h5 hk
    have hEe : e0 = e := by
      have : (nextE s (p : Int)).2.2.1 = (e : Int) := k1
      omega
    have hA : Ahead s e c := by
      have g2 := good_next hG2
      refine ⟨fun h => no_colon hs (by omega) g2 (.inl rfl), fun h => no_colon hs (by omega) g2 (.inr rfl), fun hlt h105 he1 hal => ?_⟩
      have hn := name_at hs he1 g2 h105 hal
      cases j with
      | zero =>
        obtain ⟨r, hr⟩ := allE_cons s e
        rw [hr] at hj
        obtain rfl : nextE s (e : Int) = x := by simpa using hj
        have := hn.1
        omega
      | succ j =>
        obtain ⟨e2, q1, q2, q3, q4⟩ := allE_on k3 g2 hn.2.1
        have hj2 : (allE s e2)[j]? = some x := by rw [q4] at hj; simpa using hj
        have := begins_ge hs j e2 x q3 (fun y hy => hG2 y (by rw [q4]; exact List.mem_cons_of_mem _ hy)) hj2
        have h6 := hn.2.2
        rw [q1] at h6
        omega
    have hN := next_sim hs ht T.sim1 (Nat.zero_le _) (by omega : p ≤ c) g (.inl (by omega)) (by rw [k1]; omega) (fun e' he' => by
      obtain rfl : e' = e := by rw [k1] at he'; omega
      exact hA)
    rw [Nat.add_zero] at hN
    obtain ⟨e3, j1, j2, j3, j4, j5⟩ := step_on hp (by omega) hN g hk
    obtain rfl : e3 = e := by rw [k1] at j1; omega
    rw [Nat.add_zero, shT_0] at j5
    rw [j5, ih, j4]
    simp
end
theorem bt_bat2 (s : ByteArray) (i : Nat) : bt s (i : Int) = (bat s i : Int) := by
  rcases Nat.lt_or_ge i s.size with h | h
  · exact bt_bat' s i h
  · rw [bt_out s i h]
    unfold bat
    rw [List.getD_eq_getElem?_getD, List.getElem?_eq_none (by simpa using h)]
    rfl
end Go.Proofs.YtldjdcdoegjmoaaDoor.P
set_option linter.unusedVariables false
set_option linter.unusedSimpArgs false
namespace Go.Proofs.YtldjdcdoegjmoaaDoor.P
open Go.RowKit Go.Proofs.YtldjdcdoegjmoaaDoorW.PrintWords Go.Proofs.YtldjdcdoegjmoaaDoorW.PrintLast
/-- A text's bytes, as numbers. -/
def nb (s : ByteArray) : List Nat := s.data.toList.map UInt8.toNat
theorem nb_app (x y : ByteArray) : nb (x ++ y) = nb x ++ nb y := by simp [nb, ByteArray.data_append]
theorem nb_len (s : ByteArray) : (nb s).length = s.size := by unfold nb; rw [List.length_map]; show s.data.toList.length = s.data.size; exact Array.length_toList
theorem nb_bat (s : ByteArray) (i : Nat) : bat s i = (nb s).getD i 0 := by
  unfold bat nb
  rw [List.getD_eq_getElem?_getD, List.getD_eq_getElem?_getD, List.getElem?_map]
  cases s.data.toList[i]? <;> rfl
theorem nb_at (s : ByteArray) : BAt s 0 (nb s) := ⟨by rw [nb_len]; omega, fun i _ => by rw [Nat.zero_add]; exact nb_bat s i⟩
theorem nb_list (l : List UInt8) : nb ⟨l.toArray⟩ = l.map UInt8.toNat := by simp [nb]
end Go.Proofs.YtldjdcdoegjmoaaDoor.P
namespace Go.Proofs.YtldjdcdoegjmoaaDoor
open Go.RowKit Go.Proofs.YtldjdcdoegjmoaaDoorW.PrintWords Go.Proofs.YtldjdcdoegjmoaaDoorW.PrintLast Go.Proofs.YtldjdcdoegjmoaaDoor.P
theorem BAt.gt {s : ByteArray} {p : Nat} {l : List Nat} (h : BAt s p l) {i : Nat} (hi : i < l.length) : bt s ((p + i : Nat) : Int) = ((l.getD i 0 : Nat) : Int) := by
  rw [bt_bat2, h.2 i hi]
theorem BAt.g0 {s : ByteArray} {p c : Nat} {l : List Nat} (h : BAt s p (c :: l)) : bt s (p : Int) = (c : Int) ∧ p < s.size := by
  have := h.gt (i := 0) (by simp)
  have h1 := h.1
  simp at h1
  exact ⟨by simpa using this, by omega⟩
theorem BAt.next {s : ByteArray} {p c : Nat} {l : List Nat} (h : BAt s p (c :: l)) : BAt s (p + 1) l := by
  have := BAt.right (l := [c]) (m := l) h
  simpa using this
end Go.Proofs.YtldjdcdoegjmoaaDoor
namespace Go.Proofs.YtldjdcdoegjmoaaDoor.P
open Go.RowKit Go.Proofs.YtldjdcdoegjmoaaDoorW.PrintWords Go.Proofs.YtldjdcdoegjmoaaDoorW.PrintLast
/-- The digits of a number up to 255. -/
def digL (n : Nat) : List Nat := (Lib.itoa (n : Int)).map UInt8.toNat
def digOk (n : Nat) : Bool := match digL n with
  | [a] => decide (48 ≤ a ∧ a ≤ 57 ∧ n = a - 48)
  | [a, b] => decide (49 ≤ a ∧ a ≤ 57 ∧ 48 ≤ b ∧ b ≤ 57 ∧ n = 10 * (a - 48) + (b - 48))
  | [a, b, c] => decide (49 ≤ a ∧ a ≤ 57 ∧ 48 ≤ b ∧ b ≤ 57 ∧ 48 ≤ c ∧ c ≤ 57 ∧ n = 10 * (10 * (a - 48) + (b - 48)) + (c - 48))
  | _ => false
theorem dig_all : ∀ n : Fin 256, digOk n.val = true := by decide +kernel
theorem digit_yes {c : Int} (h1 : 48 ≤ c) (h2 : c ≤ 57) : digitB c = true := by unfold digitB; simp; omega
theorem numb_at {t : ByteArray} {p n : Nat} {r : List Nat} (hn : n < 256) (h : BAt t p (digL n ++ r)) (hr : ¬ (∃ c m, r = c :: m ∧ 48 ≤ c ∧ c ≤ 57)) (hend : r = [] → p + (digL n).length = t.size) : numbE t p = some (n, p + (digL n).length) := by
  have hd : digOk n = true := dig_all ⟨n, hn⟩
  unfold digOk at hd
  have hstop : ∀ q, q = p + (digL n).length → (¬ q < t.size ∨ ¬ digitB (bt t (q : Int)) = true) := by
    rintro q rfl
    have h2 := h.right
    cases hrc : r with
    | nil => exact .inl (by have := hend hrc; omega)
    | cons c m =>
      rw [hrc] at h2
      have h3 := h2.g0.1
      refine .inr fun h4 => ?_
      rw [h3] at h4
      have h5 := digit_in h4
      exact hr ⟨c, m, hrc, by omega, by omega⟩
  have h1 := h.left
  have hz := h1.1
  generalize hl : digL n = l at *
  have run : ∀ m, l.length = m → (∀ j, j < m → digitB (bt t ((p + j : Nat) : Int)) = true) → runE digitB t p = p + m := fun m hm hj => by
    refine runE_to digitB t m p (by omega) hj ?_
    have := hstop (p + m) (by omega)
    exact this
  match l, hd with
  | [a], hd =>
    have hd := of_decide_eq_true hd
    have b0 := h1.gt (i := 0) (by simp)
    simp at b0
    have hr := run 1 rfl fun j hj => by
      obtain rfl : j = 0 := by omega
      rw [Nat.add_zero, b0]; exact digit_yes (by omega) (by omega)
    have hv : valE t p 1 = n := by
      unfold valE valE
      rw [Nat.add_zero, b0]
      omega
    unfold numbE
    rw [hr, show p + 1 - p = 1 by omega, hv, if_pos ⟨by omega, by omega, fun q => by omega, by omega⟩]
    rfl
  | [a, b], hd =>
    have hd := of_decide_eq_true hd
    have b0 := h1.gt (i := 0) (by simp)
    have b1 := h1.gt (i := 1) (by simp)
    simp at b0 b1
    have hr := run 2 rfl fun j hj => by
      rcases (by omega : j = 0 ∨ j = 1) with rfl | rfl
      · rw [Nat.add_zero, b0]; exact digit_yes (by omega) (by omega)
      · rw [Int.natCast_add, Int.natCast_one, b1]; exact digit_yes (by omega) (by omega)
    have hv : valE t p 2 = n := by
      unfold valE valE valE
      rw [Nat.add_zero, b0, Int.natCast_add, Int.natCast_one, b1]
      omega
    unfold numbE
    rw [hr, show p + 2 - p = 2 by omega, hv, if_pos ⟨by omega, by omega, fun q => by rw [b0] at q; omega, by omega⟩]
    rfl
  | [a, b, c], hd =>
    have hd := of_decide_eq_true hd
    have b0 := h1.gt (i := 0) (by simp)
    have b1 := h1.gt (i := 1) (by simp)
    have b2 := h1.gt (i := 2) (by simp)
    simp at b0 b1 b2
    have e2 : ((p + 2 : Nat) : Int) = (p : Int) + 2 := by omega
    have hr := run 3 rfl fun j hj => by
      rcases (by omega : j = 0 ∨ j = 1 ∨ j = 2) with rfl | rfl | rfl
      · rw [Nat.add_zero, b0]; exact digit_yes (by omega) (by omega)
      · rw [Int.natCast_add, Int.natCast_one, b1]; exact digit_yes (by omega) (by omega)
      · rw [e2, b2]; exact digit_yes (by omega) (by omega)
    have hv : valE t p 3 = n := by
      unfold valE valE valE valE
      rw [Nat.add_zero, b0, Int.natCast_add, Int.natCast_one, b1, e2, b2]
      omega
    unfold numbE
    rw [hr, show p + 3 - p = 3 by omega, hv, if_pos ⟨by omega, by omega, fun q => by rw [b0] at q; omega, by omega⟩]
    rfl
/-- A count's own text. -/
def cntL (low : Nat) (high : Int) : List Nat := 123 :: (digL low ++ (if high = -1 then [44, 125] else if high > (low : Int) then 44 :: (digL high.toNat ++ [125]) else [125]))
theorem count_at {s : ByteArray} {low : Nat} {high : Int} (hl : low < 256) (hh : high = -1 ∨ ((low : Int) ≤ high ∧ high ≤ 255)) (h : BAt s 0 (cntL low high)) (hz : s.size = (cntL low high).length) : countE s 0 = countV 0 (s.size : Int) low high := by
  unfold cntL at h hz
  have h1 := h.next
  rw [Nat.zero_add] at h1
  have hn : ∀ r, BAt s 1 (digL low ++ r) → (¬ ∃ c m, r = c :: m ∧ 48 ≤ c ∧ c ≤ 57) → r ≠ [] → numbE s (0 + 1) = some (low, 1 + (digL low).length) := fun r hb hr hne => numb_at hl hb hr fun q => absurd q hne
  unfold countE
  by_cases c1 : high = -1
  · rw [if_pos c1] at h1 hz
    rw [hn _ h1 (by rintro ⟨c, m, q, _, q2⟩; simp at q; omega) (by simp)]
    have h2 := h1.right
    have b0 := h2.g0
    have b1 := h2.next.g0
    simp at hz
    dsimp only
    rw [if_pos ⟨b0.2, b0.1⟩, if_pos ⟨b1.2, b1.1⟩, c1, hz, show (digL low).length + 2 + 1 = 1 + (digL low).length + 2 by omega]
    rfl
  · have hh := hh.resolve_left c1
    rw [if_neg c1] at h1 hz
    by_cases c2 : high > (low : Int)
    · rw [if_pos c2] at h1 hz
      rw [hn _ h1 (by rintro ⟨c, m, q, _, q2⟩; simp at q; omega) (by simp)]
      have h2 := h1.right
      have b0 := h2.g0
      have h3 := h2.next
      have hm := numb_at (n := high.toNat) (by omega) h3 (by rintro ⟨c, m, q, _, q2⟩; simp at q; omega) (fun q => by simp at q)
      have b2 := h3.right.g0
      have hne : ∃ c m, digL high.toNat ++ [125] = c :: m ∧ c ≠ 125 := by
        have hd : digOk high.toNat = true := dig_all ⟨high.toNat, by omega⟩
        unfold digOk at hd
        generalize digL high.toNat = l at hd
        match l, hd with
        | [a], hd => exact ⟨a, _, rfl, by have := of_decide_eq_true hd; omega⟩
        | [a, b], hd => exact ⟨a, _, rfl, by have := of_decide_eq_true hd; omega⟩
        | [a, b, c], hd => exact ⟨a, _, rfl, by have := of_decide_eq_true hd; omega⟩
      obtain ⟨c, m, hcm, hc⟩ := hne
      rw [hcm] at h3
      have b1 := h3.g0
      simp at hz
      dsimp only
      rw [if_pos ⟨b0.2, b0.1⟩, if_neg (fun q => by have := b1.1; rw [q.2] at this; omega), hm]
      dsimp only
      rw [if_neg (by omega), if_pos ⟨b2.2, b2.1⟩, hz, show ((high.toNat : Nat) : Int) = high by omega, show (digL low).length + ((digL high.toNat).length + 1 + 1) + 1 = 1 + (digL low).length + 1 + (digL high.toNat).length + 1 by omega]
      rfl
    · rw [if_neg c2] at h1 hz
      rw [hn _ h1 (by rintro ⟨c, m, q, _, q2⟩; simp at q; omega) (by simp)]
      have h2 := h1.right
      have b0 := h2.g0
      simp at hz
      dsimp only
      rw [if_neg (fun q => by have := b0.1; rw [q.2] at this; omega), if_pos ⟨b0.2, b0.1⟩, hz, show high = (low : Int) by omega, show (digL low).length + 1 + 1 = 1 + (digL low).length + 1 by omega]
      rfl
end Go.Proofs.YtldjdcdoegjmoaaDoor.P
set_option linter.unusedVariables false
set_option linter.unusedSimpArgs false
namespace Go.Proofs.YtldjdcdoegjmoaaDoor.Pure
open Go.RowKit Go.Proofs.YtldjdcdoegjmoaaDoor.P Go.Proofs.YtldjdcdoegjmoaaDoorW.PrintWords Go.Proofs.YtldjdcdoegjmoaaDoorW.PrintLast
def ownB (s : ByteArray) : Bool := if s.toList = ([] : List UInt8) then false else if (s.size : Int) ≤ 64 then ((ownE s 0 : Nat) : Int) == (s.size : Int) else false
theorem ownName_f (s : ByteArray) (hs : s.size ≤ bnd) (k : Nat) (hk : s.size + 6 < k) : lexis_ownName.f k s = some (ownB s) := by
  unfold lexis_ownName.f ownB
  have h := own_f s hs 0 k (by omega) (by omega)
  simp only [Nat.sub_zero] at h
  have h' : lexis_own.f k s 0 = some ((ownE s 0 : Nat) : Int) := h
  split
  · rfl
  · split
    · rw [h', Option.bind_some]
    · rfl
def Facts (a0 a9 a10 : Int) : Prop := 0 ≤ a0 ∧ a0 ≤ 17 ∧ (a0 = 9 → 0 ≤ a9 ∧ a9 ≤ 255 ∧ (a10 = -1 ∨ (a9 ≤ a10 ∧ a10 ≤ 255)))
theorem right_some (k : Nat) (a0 a1 a2 : Int) (a3 : ByteArray) (a4 : Bool) (a5 a6 a7 a8 a9 a10 : Int) (hs : a3.size ≤ bnd) (hk : a3.size + 8 < k) :
    ∃ b, lexis_right.f k a0 a1 a2 a3 a4 a5 a6 a7 a8 a9 a10 = some b ∧ (b = true → Facts a0 a9 a10) := by
  obtain ⟨k, rfl⟩ : ∃ m, k = m + 1 := ⟨k - 1, by omega⟩
  unfold lexis_right.f
  by_cases c1 : a0 = 1
  · rw [if_pos c1, Name_f a3 hs _ (by omega)]
    split
    · exact ⟨_, rfl, fun _ => ⟨by omega, by omega, fun h => by omega⟩⟩
    · exact ⟨_, rfl, fun h => by cases h⟩
  rw [if_neg c1]
  have main : ∀ x : Bool, (x = true → a0 = 16 ∨ a0 = 17) → ∃ b, lexis_right.j0 (k + 1) a0 x a0 0 0 a3 a4 a5 a6 a7 a8 a9 a10 0 0 0 a3 a4 a5 a6 a7 a8 a9 a10 = some b ∧ (b = true → Facts a0 a9 a10) := by
    intro x hx
    rw [lexis_right.j0.eq_def]
    simp only []
    rw [ownName_f a3 hs _ (by omega)]
    by_cases c2 : x = true
    · rw [if_pos c2]
      have := hx c2
      split
      · exact ⟨_, rfl, fun _ => ⟨by omega, by omega, fun h => by omega⟩⟩
      · exact ⟨_, rfl, fun h => by cases h⟩
    · rw [if_neg c2]
      by_cases c3 : a0 = 9
      · rw [if_pos c3]
        split
        · by_cases d1 : a9 ≥ 0
          · rw [if_pos d1]
            by_cases d2 : a9 ≤ 255
            · rw [if_pos d2]
              by_cases d3 : a10 = -1
              · rw [if_pos d3]; exact ⟨_, rfl, fun _ => ⟨by omega, by omega, fun _ => ⟨by omega, d2, .inl d3⟩⟩⟩
              · rw [if_neg d3]
                by_cases d4 : a10 ≥ a9
                · rw [if_pos d4]; exact ⟨_, rfl, fun h => ⟨by omega, by omega, fun _ => ⟨by omega, d2, .inr ⟨d4, of_decide_eq_true h⟩⟩⟩⟩
                · rw [if_neg d4]; exact ⟨_, rfl, fun h => by cases h⟩
            · rw [if_neg d2]; exact ⟨_, rfl, fun h => by cases h⟩
          · rw [if_neg d1]; exact ⟨_, rfl, fun h => by cases h⟩
        · exact ⟨_, rfl, fun h => by cases h⟩
      · rw [if_neg c3]
        by_cases c4 : a0 = 14
        · rw [if_pos c4]; exact ⟨_, rfl, fun _ => ⟨by omega, by omega, fun h => by omega⟩⟩
        · rw [if_neg c4]
          by_cases c5 : a0 = 15
          · rw [if_pos c5]; exact ⟨_, rfl, fun _ => ⟨by omega, by omega, fun h => by omega⟩⟩
          · rw [if_neg c5]
            by_cases c6 : a0 ≥ 0
            · rw [if_pos c6]
              by_cases c7 : a0 ≤ 17
              · rw [if_pos c7]; exact ⟨_, rfl, fun _ => ⟨c6, c7, fun h => by omega⟩⟩
              · rw [if_neg c7]; exact ⟨_, rfl, fun h => by cases h⟩
            · rw [if_neg c6]; exact ⟨_, rfl, fun h => by cases h⟩
  split
  · rename_i c8
    exact main _ (fun _ => .inl c8)
  · exact main _ (fun h => .inr (by simpa using h))
theorem itoa_small : ∀ n : Fin 256, (Lib.itoa (n.val : Int)).length ≤ 3 := by decide +kernel
theorem itoa_len {n : Int} (h0 : 0 ≤ n) (h1 : n ≤ 255) : (⟨(Lib.itoa n).toArray⟩ : ByteArray).size ≤ 3 := by
  have h := itoa_small ⟨n.toNat, by omega⟩
  have e : ((n.toNat : Nat) : Int) = n := by omega
  simp only [e] at h
  simpa [ByteArray.size] using h
theorem itoa_f {n : Int} (h0 : 0 ≤ n) (h1 : n ≤ 255) : strconv_Itoa.f n = some ⟨(Lib.itoa n).toArray⟩ := by
  unfold strconv_Itoa.f
  rw [if_pos ⟨h0, h1⟩]
theorem qS_size {s : ByteArray} (h : s.size ≤ 65536) : (Q.qS s).size ≤ 262146 := by
  have := Q.qL_len s s.size
  show (Q.qL s s.size ++ [39]).toArray.size ≤ _
  simp only [List.size_toArray, List.length_append, List.length_cons, List.length_nil]
  omega
end Go.Proofs.YtldjdcdoegjmoaaDoor.Pure
namespace Go.Proofs.YtldjdcdoegjmoaaDoor.Wr
open Go.RowKit Go.Proofs.YtldjdcdoegjmoaaDoor Go.Proofs.YtldjdcdoegjmoaaDoor.P Go.Proofs.YtldjdcdoegjmoaaDoor.Pure Go.Proofs.YtldjdcdoegjmoaaDoorW.PrintWords Go.Proofs.YtldjdcdoegjmoaaDoorW.PrintLast
abbrev Tok := S26
def at_ (l : List Tok) (j : Nat) : Tok := Q17 l (j : Int)
def OkT (x : Tok) : Prop := x.f3.size ≤ 140737488351232 ∧ ∃ c : Cls, c.ok ∧ x.f5 = ⟨c.c0, c.c1, c.c2, c.c3⟩
def rightB (x : Tok) : Bool := (lexis_right.f (x.f3.size + 400) x.f0 x.f1 x.f2 x.f3 x.f4 x.f5.f0 x.f5.f1 x.f5.f2 x.f5.f3 x.f6 x.f7).getD false
def textE (x : Tok) : ByteArray := (lexis_text.f 400 x.f0 x.f1 x.f2 x.f3 x.f4 x.f5.f0 x.f5.f1 x.f5.f2 x.f5.f3 x.f6 x.f7).getD ⟨#[]⟩
theorem right_k {x : Tok} (h : OkT x) {k : Nat} (hk : x.f3.size + 400 ≤ k) : lexis_right.f k x.f0 x.f1 x.f2 x.f3 x.f4 x.f5.f0 x.f5.f1 x.f5.f2 x.f5.f3 x.f6 x.f7 = some (rightB x) ∧ (rightB x = true → Facts x.f0 x.f6 x.f7) := by
  obtain ⟨b, hb, hF⟩ := right_some (x.f3.size + 400) x.f0 x.f1 x.f2 x.f3 x.f4 x.f5.f0 x.f5.f1 x.f5.f2 x.f5.f3 x.f6 x.f7 h.1 (by omega)
  have e : rightB x = b := by unfold rightB; rw [hb]; rfl
  have h1 := at_rounds (lexis_right.mono _ _ _ _ _ _ _ _ _ _ _) hk hb
  rw [e]
  exact ⟨h1, hF⟩
theorem rngT_len (r : Nat × Nat) : (rngT r).length ≤ 9 := by
  have h1 := spell_len r.1
  have h2 := spell_len r.2
  unfold rngT
  simp only [List.length_append]
  split <;> split <;> simp <;> omega
theorem textR_len : ∀ l : List (Nat × Nat), (textR l).length ≤ 9 * l.length
  | [] => by simp [textR]
  | r :: l => by
    have := textR_len l
    have := rngT_len r
    have e : textR (r :: l) = rngT r ++ textR l := by unfold textR; rw [List.flatMap_cons]
    rw [e, List.length_append, List.length_cons]; omega
theorem textC_len (a : Cls) : (textC a).length ≤ 2400 := by
  have h1 := textR_len (rangesL a.not); have h2 := ranges_len a.not
  have h3 := textR_len (rangesL a); have h4 := ranges_len a
  unfold textC
  split <;> simp <;> omega
/-- The text of a token that is right. -/
def txt (a0 : Int) (a3 : ByteArray) (a4 : Bool) (c : Cls) (a9 a10 : Int) : ByteArray :=
  if a0 = 1 then a3 else if a0 = 16 then (⟨#[64]⟩ : ByteArray) ++ a3 else if a0 = 17 then (⟨#[94]⟩ : ByteArray) ++ a3
  else if a0 = 9 then (if a10 = -1 then (((⟨#[123]⟩ : ByteArray) ++ ⟨(Lib.itoa a9).toArray⟩) ++ (⟨#[44]⟩ : ByteArray)) ++ (⟨#[125]⟩ : ByteArray)
    else if a10 > a9 then (((⟨#[123]⟩ : ByteArray) ++ ⟨(Lib.itoa a9).toArray⟩) ++ ((⟨#[44]⟩ : ByteArray) ++ ⟨(Lib.itoa a10).toArray⟩)) ++ (⟨#[125]⟩ : ByteArray)
    else ((⟨#[123]⟩ : ByteArray) ++ ⟨(Lib.itoa a9).toArray⟩) ++ (⟨#[125]⟩ : ByteArray))
  else if a0 = 15 then tb (textC c) else if a0 = 14 then (if a4 = true then Q.qS a3 ++ (⟨#[105]⟩ : ByteArray) else Q.qS a3)
  else (lexis_plain.f a0).getD ⟨#[]⟩
theorem plain_ok (a0 : Int) : ∃ t, lexis_plain.f a0 = some t ∧ t.size ≤ 2 := by
  have key : ∀ o, lexis_plain.f a0 = o → ∃ t, o = some t ∧ t.size ≤ 2 := by
    intro o h
    unfold lexis_plain.f at h
    repeat' split at h
    all_goals (subst h; exact ⟨_, rfl, by decide⟩)
  exact key _ rfl
theorem text_x (k : Nat) (hk : 400 ≤ k) (a0 a1 a2 : Int) (a3 : ByteArray) (a4 : Bool) (c : Cls) (hc : c.ok) (a9 a10 : Int) (hs : a3.size ≤ 65536) (hF : Facts a0 a9 a10) :
    lexis_text.f k a0 a1 a2 a3 a4 c.c0 c.c1 c.c2 c.c3 a9 a10 = some (txt a0 a3 a4 c a9 a10) ∧ (txt a0 a3 a4 c a9 a10).size ≤ 300000 := by
  obtain ⟨h0, h1, h2⟩ := hF
  have e1 : (⟨#[123]⟩ : ByteArray).size = 1 := rfl
  have e2 : (⟨#[44]⟩ : ByteArray).size = 1 := rfl
  have e3 : (⟨#[125]⟩ : ByteArray).size = 1 := rfl
  have e4 : (⟨#[64]⟩ : ByteArray).size = 1 := rfl
  have e5 : (⟨#[94]⟩ : ByteArray).size = 1 := rfl
  have e6 : (⟨#[105]⟩ : ByteArray).size = 1 := rfl
  unfold lexis_text.f txt
  by_cases q1 : a0 = 1
  · rw [if_pos q1, if_pos q1]; exact ⟨rfl, by omega⟩
  rw [if_neg q1, if_neg q1]
  by_cases q2 : a0 = 16
  · rw [if_pos q2, if_pos q2, if_pos (by omega)]; exact ⟨rfl, by rw [ByteArray.size_append, e4]; omega⟩
  rw [if_neg q2, if_neg q2]
  by_cases q3 : a0 = 17
  · rw [if_pos q3, if_pos q3, if_pos (by omega)]; exact ⟨rfl, by rw [ByteArray.size_append, e5]; omega⟩
  rw [if_neg q3, if_neg q3]
  by_cases q4 : a0 = 9
  · have h2 := h2 q4
    have s1 := itoa_len h2.1 h2.2.1
    rw [if_pos q4, if_pos q4, itoa_f h2.1 h2.2.1, Option.bind_some]
    generalize (⟨(Lib.itoa a9).toArray⟩ : ByteArray) = D at s1
    rw [if_pos (by omega)]
    by_cases c1 : a10 = -1
    · rw [if_pos c1, if_pos c1, if_pos (by rw [ByteArray.size_append, e1]; omega), if_pos (by rw [ByteArray.size_append, ByteArray.size_append, e1, e2]; omega)]
      exact ⟨rfl, by simp only [ByteArray.size_append, e1, e2, e3]; omega⟩
    · rw [if_neg c1, if_neg c1]
      by_cases c2 : a10 > a9
      · have h3 : a9 ≤ a10 ∧ a10 ≤ 255 := h2.2.2.resolve_left c1
        have s2 := itoa_len (n := a10) (by omega) h3.2
        rw [if_pos c2, if_pos c2, itoa_f (n := a10) (by omega) h3.2, Option.bind_some]
        generalize (⟨(Lib.itoa a10).toArray⟩ : ByteArray) = E at s2
        rw [if_pos (by omega), if_pos (by simp only [ByteArray.size_append, e1, e2]; omega), if_pos (by simp only [ByteArray.size_append, e1, e2]; omega)]
        exact ⟨rfl, by simp only [ByteArray.size_append, e1, e2, e3]; omega⟩
      · rw [if_neg c2, if_neg c2, if_pos (by rw [ByteArray.size_append, e1]; omega)]
        exact ⟨rfl, by simp only [ByteArray.size_append, e1, e2, e3]; omega⟩
  rw [if_neg q4, if_neg q4]
  by_cases q5 : a0 = 15
  · rw [if_pos q5, if_pos q5, text_f hc (by omega), Option.bind_some]
    have := textC_len c
    exact ⟨rfl, by rw [tb_size]; omega⟩
  rw [if_neg q5, if_neg q5]
  by_cases q6 : a0 = 14
  · have hq := qS_size hs
    rw [if_pos q6, if_pos q6]
    unfold lexis_quoted.f
    rw [if_pos hs]
    cases a4 with
    | true =>
      rw [if_pos rfl, if_pos rfl, Option.bind_some, if_pos (by omega)]
      exact ⟨rfl, by rw [ByteArray.size_append, e6]; omega⟩
    | false => exact ⟨rfl, by show (Q.qS a3).size ≤ _; omega⟩
  rw [if_neg q6, if_neg q6]
  obtain ⟨t, ht, hz⟩ := plain_ok a0
  rw [ht]
  exact ⟨rfl, by show t.size ≤ _; omega⟩
theorem text_k {x : Tok} (h : OkT x) (hr : rightB x = true) (hs : x.f3.size ≤ 65536) {k : Nat} (hk : 400 ≤ k) : lexis_text.f k x.f0 x.f1 x.f2 x.f3 x.f4 x.f5.f0 x.f5.f1 x.f5.f2 x.f5.f3 x.f6 x.f7 = some (textE x) ∧ (textE x).size ≤ 300000 ∧
    ∃ c : Cls, c.ok ∧ x.f5 = ⟨c.c0, c.c1, c.c2, c.c3⟩ ∧ textE x = txt x.f0 x.f3 x.f4 c x.f6 x.f7 := by
  have hF := (right_k h (Nat.le_refl _)).2 hr
  obtain ⟨c, hc, he⟩ := h.2
  obtain ⟨x0, x1, x2, x3, x4, x5, x6, x7⟩ := x
  dsimp only at he hs hF ⊢
  subst he
  have t1 := text_x 400 (Nat.le_refl _) x0 x1 x2 x3 x4 c hc x6 x7 hs hF
  have e : textE ⟨x0, x1, x2, x3, x4, ⟨c.c0, c.c1, c.c2, c.c3⟩, x6, x7⟩ = txt x0 x3 x4 c x6 x7 := by unfold textE; dsimp only; rw [t1.1]; rfl
  rw [e]
  exact ⟨(text_x k hk x0 x1 x2 x3 x4 c hc x6 x7 hs hF).1, t1.2, c, hc, rfl, rfl⟩
def badB (l : List Tok) (j : Nat) : Bool := !rightB (at_ l j) || ((at_ l j).f0 == 0 && decide (j + 1 < l.length))
def wrR (l : List Tok) : Nat → Nat → List UInt8 → ByteArray × Int
  | 0, _, acc => (⟨acc.toArray⟩, 0)
  | d + 1, i, acc =>
    let acc1 := if 0 < i ∧ (at_ l i).f0 ≠ 0 then acc ++ [32] else acc
    if (at_ l i).f3.size > 65536 then (⟨#[]⟩, 2)
    else if (acc1 ++ (textE (at_ l i)).data.toList).length > 65536 then (⟨#[]⟩, 2) else wrR l d (i + 1) (acc1 ++ (textE (at_ l i)).data.toList)
def wrOut (l : List Tok) : ByteArray × Int := if (List.range l.length).any (badB l) then (⟨#[]⟩, 6) else wrR l l.length 0 []
theorem wr_step (l : List Tok) (t : Nat) (h : t < l.length) (acc acc1 : List UInt8) (h1 : (if 0 < t ∧ (at_ l t).f0 ≠ 0 then acc ++ [32] else acc) = acc1) : wrR l (l.length - t) t acc =
    if (at_ l t).f3.size > 65536 then (⟨#[]⟩, 2)
    else if (acc1 ++ (textE (at_ l t)).data.toList).length > 65536 then (⟨#[]⟩, 2) else wrR l (l.length - (t + 1)) (t + 1) (acc1 ++ (textE (at_ l t)).data.toList) := by
  obtain ⟨d, hd⟩ : ∃ d, l.length - t = d + 1 := ⟨l.length - t - 1, by omega⟩
  rw [hd, show l.length - (t + 1) = d by omega, ← h1]
  rfl
theorem at_mem {l : List Tok} {t : Nat} (h : t < l.length) : at_ l t ∈ l := by
  unfold at_ Q17
  rw [Int.toNat_natCast, List.getD_eq_getElem?_getD, List.getElem?_eq_getElem h]
  exact List.getElem_mem h
end Go.Proofs.YtldjdcdoegjmoaaDoor.Wr
set_option linter.unusedVariables false
set_option linter.unusedSimpArgs false
namespace Go.Proofs.YtldjdcdoegjmoaaDoor.P
open Go.RowKit Go.Proofs.YtldjdcdoegjmoaaDoor Go.Proofs.YtldjdcdoegjmoaaDoorW.PrintWords Go.Proofs.YtldjdcdoegjmoaaDoorW.PrintLast
theorem textR_lt {l : List (Nat × Nat)} (h : ∀ r ∈ l, r.1 ≤ r.2 ∧ r.2 < 256) : ∀ n ∈ textR l, n < 256 := by
  intro n hn
  unfold textR at hn
  obtain ⟨r, hr, hn⟩ := List.mem_flatMap.1 hn
  have g := h r hr
  unfold rngT at hn
  rcases List.mem_append.1 hn with hn | hn
  · exact spell_lt (by omega) n hn
  rcases List.mem_append.1 hn with hn | hn
  · split at hn
    · rw [List.mem_singleton.1 hn]; decide
    · simp at hn
  · split at hn
    · exact spell_lt (by omega) n hn
    · simp at hn
theorem textC_lt (a : Cls) : ∀ n ∈ textC a, n < 256 := by
  intro n hn
  unfold textC at hn
  split at hn
  · simp only [List.mem_cons, List.mem_append, List.not_mem_nil, or_false] at hn
    rcases hn with rfl | rfl | hn | rfl
    · decide
    · decide
    · exact textR_lt (good_ranges a.not).le n hn
    · decide
  · simp only [List.mem_cons, List.mem_append, List.not_mem_nil, or_false] at hn
    rcases hn with rfl | hn | rfl
    · decide
    · exact textR_lt (good_ranges a).le n hn
    · decide
theorem hx_all : ∀ n : Fin 16, hexE ((Q.hx n.val).toNat : Int) = (n.val : Int) := by decide
theorem hexE_hx {n : Nat} (h : n < 16) : hexE ((Q.hx n).toNat : Int) = (n : Int) := hx_all ⟨n, h⟩
def qN (c : UInt8) : List Nat := (Q.qB c).map UInt8.toNat
theorem qN_pos (c : UInt8) : 0 < (qN c).length := by
  unfold qN Q.qB
  repeat' split
  all_goals simp
/-- One piece of a literal's own text. -/
theorem lit_piece {s : ByteArray} {p q d : Nat} {acc : List Int} {c : UInt8} {r : List Nat} (hp : bt s (p : Int) = 39) (h : BAt s q (qN c ++ r)) : litE s p (d + 1) acc q = litE s p d (acc ++ [(c.toNat : Int)]) (q + (qN c).length) := by
  have hc : c.toNat < 256 := c.toNat_lt
  rw [litE]
  have two : ∀ (x y : Nat), qN c = [x, y] → x = 92 → escE s q = some ((c.toNat : Int), 2) → (if q < s.size ∧ ¬ bt s (q : Int) < 32 then (if bt s (q : Int) = bt s (p : Int) then litEnd s p acc q else if bt s (q : Int) = 92 then (match escE s q with | none => faultV q 42 | some (b, n) => litE s p d (acc ++ [b]) (q + n)) else litE s p d (acc ++ [bt s (q : Int)]) (q + 1)) else faultV p 41) = litE s p d (acc ++ [(c.toNat : Int)]) (q + (qN c).length) := by
    intro x y hq hx he
    rw [hq, hx] at h
    have b0 := h.g0
    have b0' : bt s (q : Int) = 92 := b0.1
    rw [if_pos ⟨b0.2, by rw [b0']; decide⟩, hp, if_neg (by rw [b0']; decide), if_pos b0', he, hq]
    rfl
  by_cases c1 : c.toNat = 10
  · have hq : qN c = [92, 110] := by unfold qN Q.qB; rw [if_pos c1]; rfl
    refine two _ _ hq rfl ?_
    rw [hq] at h
    have b1 := h.next.g0
    have b1' : bt s ((q + 1 : Nat) : Int) = 110 := b1.1
    unfold escE
    rw [if_pos b1.2, if_pos b1', c1]
    rfl
  by_cases c2 : c.toNat = 13
  · have hq : qN c = [92, 114] := by unfold qN Q.qB; rw [if_neg c1, if_pos c2]; rfl
    refine two _ _ hq rfl ?_
    rw [hq] at h
    have b1 := h.next.g0
    have b1' : bt s ((q + 1 : Nat) : Int) = 114 := b1.1
    unfold escE
    rw [if_pos b1.2, b1', c2]
    rfl
  by_cases c3 : c.toNat = 9
  · have hq : qN c = [92, 116] := by unfold qN Q.qB; rw [if_neg c1, if_neg c2, if_pos c3]; rfl
    refine two _ _ hq rfl ?_
    rw [hq] at h
    have b1 := h.next.g0
    have b1' : bt s ((q + 1 : Nat) : Int) = 116 := b1.1
    unfold escE
    rw [if_pos b1.2, b1', c3]
    rfl
  by_cases c4 : c.toNat = 39 ∨ c.toNat = 92
  · have hq : qN c = [92, c.toNat] := by unfold qN Q.qB; rw [if_neg c1, if_neg c2, if_neg c3, if_pos c4]; rfl
    refine two _ _ hq rfl ?_
    rw [hq] at h
    have b1 := h.next.g0
    unfold escE
    rw [if_pos b1.2, b1.1, if_neg (by omega), if_neg (by omega), if_neg (by omega), if_pos (by omega)]
  by_cases c6 : 32 ≤ c.toNat ∧ c.toNat ≤ 126
  · have hq : qN c = [c.toNat] := by unfold qN Q.qB; rw [if_neg c1, if_neg c2, if_neg c3, if_neg c4, if_pos c6]; rfl
    rw [hq] at h ⊢
    have b0 := h.g0
    rw [if_pos ⟨b0.2, by rw [b0.1]; omega⟩, hp, if_neg (by rw [b0.1]; omega), if_neg (by rw [b0.1]; omega), b0.1]
    rfl
  · have hq : qN c = [92, 120, (Q.hx (c.toNat / 16)).toNat, (Q.hx (c.toNat % 16)).toNat] := by unfold qN Q.qB; rw [if_neg c1, if_neg c2, if_neg c3, if_neg c4, if_neg c6]; rfl
    rw [hq] at h ⊢
    have b0 := h.g0
    have b0' : bt s (q : Int) = 92 := b0.1
    have h1 := h.next
    have b1 := h1.g0
    have b1' : bt s ((q + 1 : Nat) : Int) = 120 := b1.1
    have h2 := h1.next
    have b2 := h2.g0
    have h3 := h2.next
    have b3 := h3.g0
    have e2 : q + 1 + 1 = q + 2 := by omega
    have e3 : q + 2 + 1 = q + 3 := by omega
    rw [e2] at b2 b3
    rw [e3] at b3
    have x2 := hexE_hx (n := c.toNat / 16) (by omega)
    have x3 := hexE_hx (n := c.toNat % 16) (by omega)
    have he : escE s q = some ((c.toNat : Int), 4) := by
      unfold escE
      rw [if_pos b1.2, b1', if_neg (by decide), if_neg (by decide), if_neg (by decide), if_neg (by decide), b2.1, b3.1, x2, x3, if_pos ⟨rfl, by omega, by omega, by omega⟩]
      rw [show 16 * ((c.toNat / 16 : Nat) : Int) + ((c.toNat % 16 : Nat) : Int) = (c.toNat : Int) by omega]
    rw [if_pos ⟨b0.2, by rw [b0']; decide⟩, hp, if_neg (by rw [b0']; decide), if_pos b0', he]
    rfl
theorem lit_back {s : ByteArray} {p : Nat} (hp : bt s (p : Int) = 39) : ∀ (m : List UInt8) (d q : Nat) (acc : List Int) (r : List Nat), BAt s q (m.flatMap qN ++ 39 :: r) → m.length < d → litE s p d acc q = litEnd s p (acc ++ m.map fun b => (b.toNat : Int)) (q + (m.flatMap qN).length)
  | [], 0, q, acc, r, h, hd => by simp at hd
  | [], d + 1, q, acc, r, h, hd => by
    have b0 := BAt.g0 (show BAt s q (39 :: r) from h)
    have b0' : bt s (q : Int) = 39 := b0.1
    rw [litE, if_pos ⟨b0.2, by rw [b0']; decide⟩, hp, if_pos b0']
    simp
  | c :: m, 0, q, acc, r, h, hd => by simp at hd
  | c :: m, d + 1, q, acc, r, h, hd => by
    rw [List.flatMap_cons, List.append_assoc] at h
    rw [lit_piece hp h, lit_back hp m d _ _ r h.right (by simp at hd; omega), List.flatMap_cons, List.length_append, List.map_cons, List.append_assoc]
    simp [Nat.add_assoc]
theorem str_ints (a : ByteArray) : strOfNums (a.data.toList.map fun b => (b.toNat : Int)) = a := by
  have e : ((fun n : Int => UInt8.ofNat n.toNat) ∘ fun b : UInt8 => (b.toNat : Int)) = id := by funext b; simp
  unfold strOfNums
  rw [List.map_map, e, List.map_id]
theorem qS_nb (a : ByteArray) : nb (Q.qS a) = 39 :: (a.data.toList.flatMap qN ++ [39]) := by
  have e : a.data.toList.take a.size = a.data.toList := List.take_of_length_le (by show a.data.toList.length ≤ a.data.size; rw [Array.length_toList]; exact Nat.le_refl _)
  unfold Q.qS Q.qL
  rw [nb_list, e]
  simp only [List.cons_append, List.map_cons, List.map_append, List.map_nil]
  have e2 : ∀ l : List UInt8, (l.flatMap Q.qB).map UInt8.toNat = l.flatMap qN := fun l => by
    induction l with
    | nil => rfl
    | cons c l ih => rw [List.flatMap_cons, List.map_append, ih, List.flatMap_cons]; rfl
  rw [e2]
  rfl
theorem lit_len (l : List UInt8) : l.length ≤ (l.flatMap qN).length := by
  induction l with
  | nil => simp
  | cons c l ih => rw [List.flatMap_cons, List.length_append, List.length_cons]; have := qN_pos c; omega
theorem tok_lit (a : ByteArray) (b : Bool) : ∀ s, s = (if b = true then Q.qS a ++ (⟨#[105]⟩ : ByteArray) else Q.qS a) → tokE s 0 = (14, 0, (s.size : Int), a, b, 0, 0, 0, 0, 0, 0, 0, 0) := by
  intro s hs
  have hn : nb s = 39 :: (a.data.toList.flatMap qN ++ 39 :: (if b = true then [105] else [])) := by
    rw [hs]
    cases b with
    | true => rw [if_pos rfl, nb_app, qS_nb]; simp [nb]
    | false => rw [if_neg (by decide), qS_nb]; rfl
  have h := nb_at s
  have hz := nb_len s
  rw [hn] at h hz
  have b0 := h.g0
  have b0' : bt s ((0 : Nat) : Int) = 39 := b0.1
  have hll := lit_len a.data.toList
  simp only [List.length_cons, List.length_append] at hz
  have hb := lit_back b0' a.data.toList (s.size + 1) (0 + 1) [] _ h.next (by omega)
  unfold tokE
  rw [if_pos b0.2, b0', if_neg (by decide), if_neg (by decide), if_neg (by omega), if_neg (by decide), if_pos (.inl rfl), hb, List.nil_append]
  have h2 := h.next.right
  unfold litEnd
  rw [str_ints]
  cases b with
  | true =>
    rw [if_pos rfl] at h2 hz
    have b1 := h2.next.g0
    simp only [List.length_cons, List.length_nil] at hz
    rw [if_pos ⟨by omega, b1.1, fun q => by omega⟩, ← hz, show 0 + 1 + (List.flatMap qN a.data.toList).length + 2 = (List.flatMap qN a.data.toList).length + (0 + 1 + 1) + 1 by omega]
    rfl
  | false =>
    rw [if_neg (by decide)] at hz
    simp only [List.length_nil] at hz
    rw [if_neg (fun q => by omega), ← hz, show 0 + 1 + (List.flatMap qN a.data.toList).length + 1 = (List.flatMap qN a.data.toList).length + (0 + 1) + 1 by omega]
    rfl
theorem ext_all (a : ByteArray) : a.extract 0 a.size = a := by
  apply ByteArray.ext
  simp
theorem tok_name (a : ByteArray) (h : knowsB a = true) : tokE a 0 = wordV 1 0 (a.size : Int) a := by
  unfold knowsB at h
  obtain ⟨h0, h1, h2⟩ := of_decide_eq_true h
  have hl : letterB (bt a ((0 : Nat) : Int)) = true := by
    refine Classical.byContradiction fun q => ?_
    have ho : ownE a 0 = 0 := by unfold ownE; rw [if_neg fun q2 => q q2.2]
    unfold nameE at h2
    rw [if_pos ho] at h2
    exact h0 h2.symm
  unfold tokE
  rw [if_pos (by omega), if_neg (by rw [(letter_not hl).1]; decide), if_pos hl]
  unfold wordE
  rw [h2, if_neg (by omega), ext_all]
  rfl
theorem tok_mark (a : ByteArray) (c : UInt8) (hc : c = 64 ∨ c = 94) (h : Pure.ownB a = true) : ∀ s, s = (⟨#[c]⟩ : ByteArray) ++ a → tokE s 0 = wordV (if (c.toNat : Int) = 94 then 17 else 16) 0 (s.size : Int) a := by
  intro s hs
  unfold Pure.ownB at h
  have hne : ¬ a.toList = ([] : List UInt8) := fun q => by rw [if_pos q] at h; cases h
  rw [if_neg hne] at h
  have h64 : (a.size : Int) ≤ 64 := Classical.byContradiction fun q => by rw [if_neg q] at h; cases h
  rw [if_pos h64] at h
  have ho : ownE a 0 = a.size := by have := eq_of_beq h; omega
  have h0 : a.size ≠ 0 := fun q => hne (toList_nil.2 q)
  have hn : nb s = c.toNat :: nb a := by rw [hs, nb_app]; simp [nb]
  have hb := nb_at s
  have hz := nb_len s
  rw [hn] at hb hz
  simp only [List.length_cons] at hz
  rw [nb_len] at hz
  have b0 := hb.g0
  have b0' : bt s ((0 : Nat) : Int) = (c.toNat : Int) := b0.1
  have ex : s.extract 1 s.size = a := by
    rw [hs]
    apply ByteArray.ext
    apply Array.ext'
    simp [ByteArray.data_append]
    refine List.take_of_length_le ?_
    have e1 : (⟨#[c]⟩ : ByteArray).size = 1 := rfl
    rw [e1, Array.length_toList]
    show a.data.size ≤ 1 + a.data.size - 1
    omega
  have hos : ownE s (0 + 1) = s.size := by
    have hc1 := runE_cut alnumB s 1 _ 0 (Nat.le_refl _)
    rw [ex] at hc1
    have hb1 := bt_cut s 1 0
    rw [ex] at hb1
    unfold ownE at ho ⊢
    by_cases q : 0 < a.size ∧ letterB (bt a ((0 : Nat) : Int)) = true
    · rw [if_pos q] at ho
      have q2 : 0 + 1 < s.size ∧ letterB (bt s ((0 + 1 : Nat) : Int)) = true := ⟨by omega, by rw [show (0 + 1 : Nat) = 1 + 0 by omega, ← hb1]; exact q.2⟩
      rw [if_pos q2]
      have : runE alnumB s (1 + 0) = 1 + a.size := by rw [← hc1, ho]
      rw [show (0 + 1 : Nat) = 1 + 0 by omega, this]; omega
    · rw [if_neg q] at ho; omega
  have hcn : (c.toNat : Int) = 64 ∨ (c.toNat : Int) = 94 := by rcases hc with rfl | rfl <;> decide
  unfold tokE
  rw [if_pos b0.2, b0', if_neg (by rcases hcn with q | q <;> rw [q] <;> decide), if_neg (by rcases hcn with q | q <;> rw [q] <;> decide), if_neg (by omega), if_neg (by omega), if_neg (by omega), if_neg (by omega), if_pos hcn]
  unfold markE
  rw [hos, if_neg (by omega), if_neg (by omega), b0', show (0 + 1 : Nat) = 1 by omega, ex]
  rfl
theorem tok_cls (c : Cls) (hc : c.ok) : ∀ s, s = tb (textC c) → tokE s 0 = (15, 0, (s.size : Int), ⟨#[]⟩, false, (c.c0 : Int), (c.c1 : Int), (c.c2 : Int), (c.c3 : Int), 0, 0, 0, 0) := by
  intro s hs
  have hlt : ∀ n ∈ textC c, n < 256 := textC_lt c
  have hb : BAt s 0 (textC c ++ []) := by
    rw [List.append_nil, hs]
    exact ⟨by rw [tb_size]; omega, fun i hi => by rw [Nat.zero_add]; exact bat_tb hlt i hi⟩
  have hP := parseF_text hc hb
  have hz : s.size = (textC c).length := by rw [hs, tb_size]
  have hh : ∃ l, textC c = 91 :: l := by unfold textC; split <;> exact ⟨_, rfl⟩
  obtain ⟨l, hl⟩ := hh
  rw [List.append_nil, hl] at hb
  have b0 := hb.g0
  have b0' : bt s ((0 : Nat) : Int) = 91 := b0.1
  unfold tokE
  rw [if_pos b0.2, b0', if_neg (by decide), if_neg (by decide), if_neg (by omega), if_neg (by decide), if_neg (by decide), if_pos rfl]
  unfold classV
  have es : parseI s ((0 : Nat) : Int) = parseF s 0 := by unfold parseI; rw [if_neg (by omega)]; rfl
  have es' : parseI s (0 : Nat) = (c, 0 + (textC c).length, 0, 0) := by rw [es, hP]
  rw [es']
  dsimp only
  rw [if_pos (show ((0 : Nat) : Int) = 0 by rfl), hz, Nat.zero_add]
  rfl
end Go.Proofs.YtldjdcdoegjmoaaDoor.P
set_option linter.unusedVariables false
set_option linter.unusedSimpArgs false
namespace Go.Proofs.YtldjdcdoegjmoaaDoor.P
open Go.RowKit Go.Proofs.YtldjdcdoegjmoaaDoor Go.Proofs.YtldjdcdoegjmoaaDoor.Pure Go.Proofs.YtldjdcdoegjmoaaDoor.Wr Go.Proofs.YtldjdcdoegjmoaaDoorW.PrintWords Go.Proofs.YtldjdcdoegjmoaaDoorW.PrintLast
/-- Where a token without a fault begins, no blank stands. -/
theorem tok_nb {s : ByteArray} {b : Nat} (hb : b < s.size) (hc : codeOf (tokE s b) = 0) : spaceB (bt s (b : Int)) = false ∧ bt s (b : Int) ≠ 35 := by
  have key : ∀ c : Int, (c = 32 ∨ c = 9 ∨ c = 13 ∨ c = 10 ∨ c = 35) → bt s (b : Int) ≠ c := by
    intro c hcc e
    have h1 : signE c = -1 := by rcases hcc with rfl | rfl | rfl | rfl | rfl <;> rfl
    have h2 : letterB c = false := by rcases hcc with rfl | rfl | rfl | rfl | rfl <;> rfl
    unfold tokE at hc
    rw [if_pos hb, e, h1, h2, if_neg (by decide), if_neg (by decide), if_neg (by omega), if_neg (by omega), if_neg (by omega), if_neg (by omega), if_neg (by omega)] at hc
    exact absurd hc (by show (40 : Int) ≠ 0; decide)
  have k1 := key 32 (by simp)
  have k2 := key 9 (by simp)
  have k3 := key 13 (by simp)
  have k4 := key 10 (by simp)
  refine ⟨?_, key 35 (by simp)⟩
  unfold spaceB
  simp [k1, k2, k3, k4]
/-- The text of tokens, joined; told with a blank ahead of the first one, or without. -/
def joinT : Bool → List S26 → List Nat
  | _, [] => []
  | b, x :: m => (if b = true ∧ x.f0 ≠ 0 then [32] else []) ++ (nb (textE x) ++ joinT true m)
theorem join_cons (b : Bool) (x : S26) (m : List S26) : joinT b (x :: m) = (if b = true ∧ x.f0 ≠ 0 then [32] else []) ++ (nb (textE x) ++ joinT true m) := rfl
def tvOf (a e : Nat) (x : S26) : TV := (x.f0, (a : Int), (e : Int), x.f3, x.f4, x.f5.f0, x.f5.f1, x.f5.f2, x.f5.f3, x.f6, x.f7, 0, 0)
/-- Tokens that were read are those that were written. -/
def Rd (t : ByteArray) : List S26 → List TV → Prop
  | [], L => L = [plainV 0 t.size t.size]
  | x :: m, L => (x.f0 = 0 → m = [] ∧ L = [plainV 0 t.size t.size]) ∧ (x.f0 ≠ 0 → ∃ (a e : Nat) (L' : List TV), L = tvOf a e x :: L' ∧ a ≤ e ∧ e ≤ t.size ∧ t.extract a e = textE x ∧ Rd t m L')
def TokOk (x : S26) : Prop := (x.f0 = 0 → textE x = ⟨#[]⟩) ∧ (x.f0 ≠ 0 → 0 < (textE x).size ∧ tokE (textE x) 0 = tvOf 0 (textE x).size x)
def EndLast : List S26 → Prop
  | [] => True
  | x :: m => (x.f0 = 0 → m = []) ∧ EndLast m
theorem end_tok {t : ByteArray} (ht : t.size ≤ 65536) : allE t t.size = [plainV 0 t.size t.size] := by
  have h : nextE t (t.size : Int) = plainV 0 t.size t.size := by
    rw [next_eq ht (Nat.le_refl _), blank_stop (.inl (Nat.lt_irrefl _))]
    unfold tokE
    rw [if_neg (Nat.lt_irrefl _)]
  rw [allE_off (by rw [h]; rintro ⟨_, q⟩; exact q rfl), h]
theorem join_head {m : List S26} (hk : ∀ x ∈ m, TokOk x) (he : EndLast m) : joinT true m = [] ∨ ∃ r, joinT true m = 32 :: r := by
  cases m with
  | nil => exact .inl rfl
  | cons x m =>
    unfold joinT
    by_cases h : x.f0 = 0
    · rw [if_neg (fun q => q.2 h), (hk x (List.mem_cons_self ..)).1 h, he.1 h]
      exact .inl rfl
    · rw [if_pos ⟨rfl, h⟩]
      exact .inr ⟨_, rfl⟩
theorem read_all {t : ByteArray} (ht : t.size ≤ 65536) : ∀ (m : List S26) (b : Bool) (p : Nat), BAt t p (joinT b m) → p + (joinT b m).length = t.size → (∀ x ∈ m, TokOk x) → EndLast m → Rd t m (allE t p)
  | [], b, p, hB, hz, hk, he => by
    have : p = t.size := by simpa [joinT] using hz
    rw [this]
    exact end_tok ht
  | x :: m, b, p, hB, hz, hk, he => by
    have hx := hk x (List.mem_cons_self ..)
    have hkm : ∀ y ∈ m, TokOk y := fun y hy => hk y (List.mem_cons_of_mem _ hy)
    unfold joinT at hB hz
    refine ⟨fun h => ?_, fun h => ?_⟩
    · have hm := he.1 h
      rw [if_neg (fun q => q.2 h), hx.1 h, hm] at hz
      have : p = t.size := by simpa [joinT, nb] using hz
      rw [this]
      exact ⟨hm, end_tok ht⟩
    · obtain ⟨h0, htok⟩ := hx.2 h
      have hjh := join_head hkm he.2
      obtain ⟨q, hq, hqp⟩ : ∃ q, BAt t q (nb (textE x) ++ joinT true m) ∧ (q + (nb (textE x) ++ joinT true m).length = t.size ∧ ((b = true ∧ q = p + 1 ∧ bt t (p : Int) = 32) ∨ q = p)) := by
        cases b with
        | true =>
          rw [if_pos ⟨rfl, h⟩] at hB hz
          refine ⟨p + 1, hB.right, ?_, .inl ⟨rfl, rfl, (BAt.g0 hB).1⟩⟩
          simp at hz ⊢; omega
        | false =>
          rw [if_neg (fun q => by cases q.1)] at hB hz
          exact ⟨p, hB, hz, .inr rfl⟩
      clear hB hz
      obtain ⟨hz, hqp⟩ := hqp
      have hB1 := hq.left
      have hB2 := hq.right
      have hl := nb_len (textE x)
      rw [List.length_append, hl] at hz
      rw [hl] at hB2
      have S : Sim (textE x) t 0 q (textE x).size := by
        refine ⟨Nat.le_refl _, by omega, fun i _ hi => ?_, ?_⟩
        · have h1 := hB1.gt (i := i) (by omega)
          have h2 := (nb_at (textE x)).gt (i := i) (by omega)
          rw [Nat.zero_add] at h2
          rw [show i + q = q + i by omega, h1, h2]
        · rcases hjh with e | ⟨r, e⟩
          · rw [e] at hz
            simp at hz
            rw [bt_out t _ (by omega)]
            exact .inl rfl
          · rw [e] at hB2
            rw [show (textE x).size + q = q + (textE x).size by omega, hB2.g0.1]
            exact .inr (.inl rfl)
      have hA : ∀ e : Nat, endOf (tokE (textE x) 0) = (e : Int) → Ahead (textE x) e (textE x).size := fun e hee => by
        rw [htok] at hee
        have hee' : (((textE x).size : Nat) : Int) = (e : Int) := hee
        exact ⟨fun q => by omega, fun q => by omega, fun q => by omega⟩
      have hT := tok_sim S (b := 0) (Nat.le_refl _) h0 (by rw [htok]; rfl) (by rw [htok]; exact Int.le_refl _) hA
      rw [htok, Nat.zero_add] at hT
      have hT' : tokE t q = tvOf q (q + (textE x).size) x := by
        rw [hT]
        unfold shT tvOf
        exact Prod.ext rfl (Prod.ext (by show ((0 : Nat) : Int) + (q : Int) = (q : Int); omega) (Prod.ext (by show (((textE x).size : Nat) : Int) + (q : Int) = ((q + (textE x).size : Nat) : Int); omega) rfl))
      have hnb := tok_nb (s := t) (b := q) (by omega) (by rw [hT']; rfl)
      have hbl : blankE t (t.size + 1) p = q := by
        rcases hqp with ⟨_, e, e2⟩ | e
        · rw [blankE, if_pos (by omega), e2, if_pos (by rfl), ← e]
          exact blank_stop (.inr hnb)
        · rw [← e]
          exact blank_stop (.inr hnb)
      have hp : p ≤ t.size := by omega
      have hN : nextE t (p : Int) = tvOf q (q + (textE x).size) x := by rw [next_eq ht hp, hbl, hT']
      obtain ⟨e, he1, he2, he3, he4⟩ := allE_on hp (by rw [hN]; rfl) (by rw [hN]; exact h)
      rw [hN] at he1 he4
      have he1' : ((q + (textE x).size : Nat) : Int) = (e : Int) := he1
      obtain rfl : e = q + (textE x).size := by omega
      have hx := ext_sim S (p := 0) (e := (textE x).size) (Nat.le_refl _) (Nat.le_refl _)
      rw [ext_all, Nat.zero_add, Nat.add_comm] at hx
      exact ⟨q, q + (textE x).size, _, he4, by omega, by omega, hx, read_all ht m true _ hB2 (by omega) hkm he.2⟩
theorem wrR_join (l : List S26) : ∀ (m pre : List S26) (acc : List UInt8) (r : ByteArray), l = pre ++ m → acc.length ≤ 65536 → wrR l m.length pre.length acc = (r, 0) → nb r = acc.map UInt8.toNat ++ joinT (decide (0 < pre.length)) m ∧ r.size ≤ 65536 ∧ ∀ x ∈ m, x.f3.size ≤ 65536
  | [], pre, acc, r, hl, ha, h => by
    have h' : ((⟨acc.toArray⟩ : ByteArray), (0 : Int)) = (r, 0) := h
    obtain rfl := (Prod.mk.inj h').1
    refine ⟨?_, ?_, fun x hx => by simp at hx⟩
    · rw [nb_list]; simp [joinT]
    · simpa [ByteArray.size] using ha
  | x :: m, pre, acc, r, hl, ha, h => by
    have hat : at_ l pre.length = x := by
      unfold at_ Q17
      rw [Int.toNat_natCast, hl]
      simp [List.getD]
    rw [List.length_cons, wrR, hat] at h
    by_cases h1 : x.f3.size > 65536
    · rw [if_pos h1] at h
      exact absurd (Prod.mk.inj h).2 (by decide)
    · rw [if_neg h1] at h
      by_cases h2 : ((if 0 < pre.length ∧ x.f0 ≠ 0 then acc ++ [32] else acc) ++ (textE x).data.toList).length > 65536
      · rw [if_pos h2] at h
        exact absurd (Prod.mk.inj h).2 (by decide)
      · rw [if_neg h2] at h
        have ih := wrR_join l m (pre ++ [x]) ((if 0 < pre.length ∧ x.f0 ≠ 0 then acc ++ [32] else acc) ++ (textE x).data.toList) r (by rw [hl, List.append_assoc]; rfl) (by omega) (by rw [List.length_append]; exact h)
        have hpp : decide (0 < (pre ++ [x]).length) = true := by simp
        rw [hpp] at ih
        refine ⟨?_, ih.2.1, fun y hy => ?_⟩
        · rw [ih.1, join_cons (decide (0 < pre.length))]
          by_cases q : 0 < pre.length ∧ x.f0 ≠ 0
          · rw [if_pos q, if_pos ⟨decide_eq_true q.1, q.2⟩]
            simp [nb]
          · rw [if_neg q, if_neg (fun q2 => q ⟨of_decide_eq_true q2.1, q2.2⟩)]
            simp [nb]
        · rcases List.mem_cons.1 hy with rfl | hy
          · omega
          · exact ih.2.2 y hy
theorem wrR_bad (l : List S26) : ∀ (d i : Nat) (acc : List UInt8), (wrR l d i acc).2 = 0 ∨ (wrR l d i acc).1 = ⟨#[]⟩
  | 0, i, acc => .inl rfl
  | d + 1, i, acc => by
    rw [wrR]
    repeat' split
    all_goals first | exact .inr rfl | exact wrR_bad l d _ _
theorem wrOut_bad (l : List S26) : (wrOut l).2 = 0 ∨ (wrOut l).1 = ⟨#[]⟩ := by
  unfold wrOut
  split
  · exact .inr rfl
  · exact wrR_bad l _ _ _
theorem endLast_of (l : List S26) (h : ∀ j, j < l.length → badB l j = false) : ∀ (m pre : List S26), l = pre ++ m → EndLast m ∧ ∀ x ∈ m, rightB x = true
  | [], pre, hl => ⟨trivial, fun x hx => by simp at hx⟩
  | x :: m, pre, hl => by
    have hat : at_ l pre.length = x := by
      unfold at_ Q17
      rw [Int.toNat_natCast, hl]
      simp [List.getD]
    have ih := endLast_of l h m (pre ++ [x]) (by rw [hl, List.append_assoc]; rfl)
    have hb := h pre.length (by rw [hl]; simp)
    unfold badB at hb
    rw [hat] at hb
    have hb1 : rightB x = true := by
      cases hr : rightB x with
      | true => rfl
      | false => rw [hr] at hb; simp at hb
    refine ⟨⟨fun h0 => ?_, ih.1⟩, fun y hy => ?_⟩
    · rw [h0, hb1] at hb
      simp at hb
      rw [hl] at hb
      simp at hb
      cases m with
      | nil => rfl
      | cons y m => simp at hb
    · rcases List.mem_cons.1 hy with rfl | hy
      · exact hb1
      · exact ih.2 y hy
/-- A text that Write tells without an error: its tokens. -/
theorem write_reads {l : List S26} {r : ByteArray} (h : wrOut l = (r, 0)) (hk : ∀ x ∈ l, rightB x = true → x.f3.size ≤ 65536 → TokOk x) : r.size ≤ 65536 ∧ Rd r l (allE r 0) ∧ (∀ x ∈ l, rightB x = true ∧ x.f3.size ≤ 65536) ∧ EndLast l := by
  unfold wrOut at h
  by_cases hb : (List.range l.length).any (badB l) = true
  · rw [if_pos hb] at h
    exact absurd (Prod.mk.inj h).2 (by decide)
  · rw [if_neg hb] at h
    have hb' : ∀ j, j < l.length → badB l j = false := fun j hj => by
      cases q : badB l j with
      | false => rfl
      | true => exact absurd (List.any_eq_true.2 ⟨j, List.mem_range.2 hj, q⟩) hb
    obtain ⟨hE, hR⟩ := endLast_of l hb' l [] rfl
    obtain ⟨h1, h2, h3⟩ := wrR_join l l [] [] r rfl (by simp) h
    have h1' : nb r = joinT false l := by simpa using h1
    have hBt := nb_at r
    have hz := nb_len r
    rw [h1'] at hBt hz
    exact ⟨h2, read_all h2 l false 0 hBt (by omega) (fun x hx => hk x hx (hR x hx) (h3 x hx)) hE, fun x hx => ⟨hR x hx, h3 x hx⟩, hE⟩
end Go.Proofs.YtldjdcdoegjmoaaDoor.P
set_option linter.unusedVariables false
set_option linter.unusedSimpArgs false
namespace Go.Proofs.YtldjdcdoegjmoaaDoor.P
open Go.RowKit Go.Proofs.YtldjdcdoegjmoaaDoor Go.Proofs.YtldjdcdoegjmoaaDoor.Pure Go.Proofs.YtldjdcdoegjmoaaDoor.Wr Go.Proofs.YtldjdcdoegjmoaaDoorW.PrintWords Go.Proofs.YtldjdcdoegjmoaaDoorW.PrintLast
structure BareP (a0 : Int) (a3 : ByteArray) (a4 : Bool) (c0 c1 c2 c3 : Int) (a9 a10 : Int) : Prop where
  name : a0 = 1 → knowsB a3 = true
  mark : a0 = 16 ∨ a0 = 17 → ownB a3 = true
  text : a0 ≠ 1 → a0 ≠ 14 → a0 ≠ 16 → a0 ≠ 17 → a3 = ⟨#[]⟩
  fold : a0 ≠ 14 → a4 = false
  cls : a0 ≠ 15 → c0 = 0 ∧ c1 = 0 ∧ c2 = 0 ∧ c3 = 0
  cnt : a0 ≠ 9 → a9 = 0 ∧ a10 = 0
theorem tok_count (n : Nat) (h : Int) (hn : n < 256) (hh : h = -1 ∨ ((n : Int) ≤ h ∧ h ≤ 255)) : ∀ s, nb s = cntL n h → tokE s 0 = countV 0 (s.size : Int) n h := by
  intro s hs
  have hb := nb_at s
  have hz := nb_len s
  rw [hs] at hb hz
  have hc := count_at hn hh hb hz.symm
  unfold cntL at hb
  have b0 := hb.g0
  have b0' : bt s ((0 : Nat) : Int) = 123 := b0.1
  unfold tokE
  rw [if_pos b0.2, b0', if_neg (by decide), if_neg (by decide), if_neg (by omega), if_pos rfl, hc]
theorem tok_txt {a0 : Int} {a3 : ByteArray} {a4 : Bool} {c : Cls} {a9 a10 : Int} (hF : Facts a0 a9 a10) (hB : BareP a0 a3 a4 c.c0 c.c1 c.c2 c.c3 a9 a10) (h0 : a0 ≠ 0) (hc : c.ok) :
    tokE (txt a0 a3 a4 c a9 a10) 0 = (a0, 0, ((txt a0 a3 a4 c a9 a10).size : Int), a3, a4, (c.c0 : Int), (c.c1 : Int), (c.c2 : Int), (c.c3 : Int), a9, a10, 0, 0) := by
  obtain ⟨f0, f1, f2⟩ := hF
  by_cases q1 : a0 = 1
  · have e : txt a0 a3 a4 c a9 a10 = a3 := by unfold txt; rw [if_pos q1]
    obtain ⟨e9, e10⟩ := hB.cnt (by omega)
    obtain ⟨z0, z1, z2, z3⟩ := hB.cls (by omega)
    rw [e, tok_name a3 (hB.name q1), hB.fold (by omega), e9, e10, z0, z1, z2, z3, q1]
    rfl
  by_cases q2 : a0 = 16
  · have e : txt a0 a3 a4 c a9 a10 = (⟨#[64]⟩ : ByteArray) ++ a3 := by unfold txt; rw [if_neg q1, if_pos q2]
    obtain ⟨e9, e10⟩ := hB.cnt (by omega)
    obtain ⟨z0, z1, z2, z3⟩ := hB.cls (by omega)
    rw [tok_mark a3 64 (.inl rfl) (hB.mark (.inl q2)) _ e, hB.fold (by omega), e9, e10, z0, z1, z2, z3, q2]
    rfl
  by_cases q3 : a0 = 17
  · have e : txt a0 a3 a4 c a9 a10 = (⟨#[94]⟩ : ByteArray) ++ a3 := by unfold txt; rw [if_neg q1, if_neg q2, if_pos q3]
    obtain ⟨e9, e10⟩ := hB.cnt (by omega)
    obtain ⟨z0, z1, z2, z3⟩ := hB.cls (by omega)
    rw [tok_mark a3 94 (.inr rfl) (hB.mark (.inr q3)) _ e, hB.fold (by omega), e9, e10, z0, z1, z2, z3, q3]
    rfl
  by_cases q4 : a0 = 9
  · have f2 := f2 q4
    obtain ⟨z0, z1, z2, z3⟩ := hB.cls (by omega)
    obtain ⟨n, rfl⟩ : ∃ n : Nat, a9 = (n : Int) := ⟨a9.toNat, by omega⟩
    have hd : ∀ m : Nat, nb ⟨(Lib.itoa (m : Int)).toArray⟩ = digL m := fun m => nb_list _
    have e : nb (txt a0 a3 a4 c n a10) = cntL n a10 := by
      unfold txt cntL
      rw [if_neg q1, if_neg q2, if_neg q3, if_pos q4]
      have s1 : nb (⟨#[123]⟩ : ByteArray) = [123] := rfl
      have s2 : nb (⟨#[44]⟩ : ByteArray) = [44] := rfl
      have s3 : nb (⟨#[125]⟩ : ByteArray) = [125] := rfl
      by_cases c1 : a10 = -1
      · rw [if_pos c1, if_pos c1]
        simp only [nb_app, s1, s2, s3, hd]
        simp
      · rw [if_neg c1, if_neg c1]
        by_cases c2 : a10 > (n : Int)
        · obtain ⟨m, rfl⟩ : ∃ m : Nat, a10 = (m : Int) := ⟨a10.toNat, by omega⟩
          rw [if_pos c2, if_pos c2]
          simp only [nb_app, s1, s2, s3, hd, Int.toNat_natCast]
          simp
        · rw [if_neg c2, if_neg c2]
          simp only [nb_app, s1, s2, s3, hd]
          simp
    rw [tok_count n a10 (by omega) f2.2.2 _ e, hB.fold (by omega), hB.text q1 (by omega) q2 q3, z0, z1, z2, z3, q4]
    rfl
  by_cases q5 : a0 = 15
  · have e : txt a0 a3 a4 c a9 a10 = tb (textC c) := by unfold txt; rw [if_neg q1, if_neg q2, if_neg q3, if_neg q4, if_pos q5]
    obtain ⟨e9, e10⟩ := hB.cnt q4
    rw [tok_cls c hc _ e, hB.fold (by omega), hB.text q1 (by omega) q2 q3, e9, e10, q5]
  by_cases q6 : a0 = 14
  · have e : txt a0 a3 a4 c a9 a10 = (if a4 = true then Q.qS a3 ++ (⟨#[105]⟩ : ByteArray) else Q.qS a3) := by unfold txt; rw [if_neg q1, if_neg q2, if_neg q3, if_neg q4, if_neg q5, if_pos q6]
    obtain ⟨e9, e10⟩ := hB.cnt q4
    obtain ⟨z0, z1, z2, z3⟩ := hB.cls q5
    rw [tok_lit a3 a4 _ e, e9, e10, z0, z1, z2, z3, q6]
  · have e : txt a0 a3 a4 c a9 a10 = (lexis_plain.f a0).getD ⟨#[]⟩ := by unfold txt; rw [if_neg q1, if_neg q2, if_neg q3, if_neg q4, if_neg q5, if_neg q6]
    obtain ⟨e9, e10⟩ := hB.cnt q4
    obtain ⟨z0, z1, z2, z3⟩ := hB.cls q5
    rw [e, hB.fold q6, hB.text q1 q6 q2 q3, e9, e10, z0, z1, z2, z3]
    rcases (by omega : a0 = 2 ∨ a0 = 3 ∨ a0 = 4 ∨ a0 = 5 ∨ a0 = 6 ∨ a0 = 7 ∨ a0 = 8 ∨ a0 = 10 ∨ a0 = 11 ∨ a0 = 12 ∨ a0 = 13) with h | h | h | h | h | h | h | h | h | h | h <;> subst h <;> rfl
theorem tokOk_of {x : S26} (h : OkT x) (hr : rightB x = true) (hs : x.f3.size ≤ 65536) (hB : BareP x.f0 x.f3 x.f4 x.f5.f0 x.f5.f1 x.f5.f2 x.f5.f3 x.f6 x.f7) : TokOk x := by
  obtain ⟨_, _, c, hc, e5, et⟩ := text_k h hr hs (Nat.le_refl _)
  have hF := (right_k h (Nat.le_refl _)).2 hr
  have q0 : x.f5.f0 = (c.c0 : Int) := by rw [e5]
  have q1 : x.f5.f1 = (c.c1 : Int) := by rw [e5]
  have q2 : x.f5.f2 = (c.c2 : Int) := by rw [e5]
  have q3 : x.f5.f3 = (c.c3 : Int) := by rw [e5]
  rw [q0, q1, q2, q3] at hB
  refine ⟨fun h0 => ?_, fun h0 => ?_⟩
  · rw [et, h0]; rfl
  · have ht := tok_txt hF hB h0 hc
    rw [← et] at ht
    refine ⟨?_, ?_⟩
    · rcases Nat.eq_zero_or_pos (textE x).size with q | q
      · exfalso
        have : tokE (textE x) 0 = plainV 0 0 0 := by unfold tokE; rw [if_neg (by omega)]; rfl
        rw [this] at ht
        exact h0 (congrArg Prod.fst ht).symm
      · exact q
    · rw [ht]
      unfold tvOf
      rw [q0, q1, q2, q3]
      rfl
end Go.Proofs.YtldjdcdoegjmoaaDoor.P

import Derived.Test.YtldjdcdoegjmoaaDoorB30
set_option linter.unusedVariables false
set_option linter.unusedSimpArgs false
namespace Go.Proofs.YtldjdcdoegjmoaaDoor.P
open Go.RowKit Go.Proofs.YtldjdcdoegjmoaaDoorW.PrintWords Go.Proofs.YtldjdcdoegjmoaaDoorW.PrintLast
theorem allE_cons (s : ByteArray) (p : Nat) : ∃ r, allE s p = nextE s (p : Int) :: r := by
  unfold allE
  rw [pairsE]
  split
  · exact ⟨_, rfl⟩
  · exact ⟨_, rfl⟩
theorem good_next {s : ByteArray} {p : Nat} (h : ∀ x ∈ allE s p, codeOf x = 0) : codeOf (nextE s (p : Int)) = 0 := by
  obtain ⟨r, hr⟩ := allE_cons s p
  exact h _ (by rw [hr]; exact List.mem_cons_self ..)
theorem step_on {s t : ByteArray} {p q m : Nat} (hp : p ≤ s.size) (hq : q ≤ t.size) (h : nextE t (q : Int) = shT m (nextE s (p : Int))) (hc : codeOf (nextE s (p : Int)) = 0) (hk : kindOf (nextE s (p : Int)) ≠ 0) :
    ∃ e : Nat, endOf (nextE s (p : Int)) = (e : Int) ∧ p < e ∧ e ≤ s.size ∧ allE s p = nextE s (p : Int) :: allE s e ∧ allE t q = shT m (nextE s (p : Int)) :: allE t (e + m) := by
  obtain ⟨e, h1, h2, h3, h4⟩ := allE_on hp hc hk
  obtain ⟨e', h5, h6, h7, h8⟩ := allE_on (s := t) hq (by rw [h]; exact hc) (by rw [h]; exact hk)
  have he : e' = e + m := by
    rw [h] at h5
    have h9 : endOf (nextE s (p : Int)) + (m : Int) = (e' : Int) := h5
    omega
  exact ⟨e, h1, h2, h3, h4, by rw [h8, h, he]⟩
theorem step_off {s t : ByteArray} {p q m : Nat} (h : nextE t (q : Int) = shT m (nextE s (p : Int))) (hk : kindOf (nextE s (p : Int)) = 0) : allE s p = [nextE s (p : Int)] ∧ allE t q = [shT m (nextE s (p : Int))] := by
  refine ⟨allE_off fun q2 => q2.2 hk, ?_⟩
  rw [allE_off (s := t) (p := q) (fun q2 => q2.2 (by rw [h]; exact hk)), h]
theorem no_colon {s : ByteArray} (hs : s.size ≤ 65536) {e : Nat} (he : e < s.size) (hc : codeOf (nextE s (e : Int)) = 0) {x : Int} (hx : x = 58 ∨ x = 126) : bt s (e : Int) ≠ x := by
  intro h
  have hb : blankE s (s.size + 1) e = e := by
    refine blank_stop (.inr ?_)
    rw [h]
    rcases hx with rfl | rfl <;> exact ⟨by decide, by decide⟩
  rw [next_eq hs (by omega), hb] at hc
  unfold tokE at hc
  rw [if_pos he, h] at hc
  rcases hx with rfl | rfl
  · rw [if_neg (by decide), if_neg (by decide), if_neg (fun q => absurd q.1 (by decide)), if_neg (by decide), if_neg (by decide), if_neg (by decide), if_neg (by decide)] at hc
    exact absurd hc (by show (40 : Int) ≠ 0; decide)
  · rw [if_neg (by decide), if_neg (by decide), if_neg (fun q => absurd q.1 (by decide)), if_neg (by decide), if_neg (by decide), if_neg (by decide), if_neg (by decide)] at hc
    exact absurd hc (by show (40 : Int) ≠ 0; decide)
/-- A name that begins with i and goes on. -/
theorem name_at {s : ByteArray} (hs : s.size ≤ 65536) {e : Nat} (he : e + 1 < s.size) (hc : codeOf (nextE s (e : Int)) = 0) (h1 : bt s (e : Int) = 105) (h2 : alnumB (bt s ((e + 1 : Nat) : Int)) = true) :
    (nextE s (e : Int)).2.1 = (e : Int) ∧ kindOf (nextE s (e : Int)) ≠ 0 ∧ ((e + 2 : Nat) : Int) ≤ endOf (nextE s (e : Int)) := by
  have hb : blankE s (s.size + 1) e = e := by
    refine blank_stop (.inr ?_)
    rw [h1]
    exact ⟨by decide, by decide⟩
  have ho : e + 2 ≤ ownE s e := by
    unfold ownE
    rw [if_pos ⟨by omega, by rw [h1]; decide⟩, runE_yes (by omega) (by rw [h1]; decide), runE_yes (by omega) h2]
    exact runE_ge _ _ _
  have hn : e + 2 ≤ nameE s e := by
    unfold nameE
    rw [if_neg (by omega)]
    have g1 := colE_ge s (ownE s e)
    have g2 := numE_ge s (colE s (ownE s e))
    omega
  rw [next_eq hs (by omega), hb] at hc ⊢
  unfold tokE at hc ⊢
  rw [if_pos (show e < s.size by omega), h1, if_neg (by decide), if_pos (by decide)] at hc ⊢
  unfold wordE at hc ⊢
  by_cases q : nameE s e - e > 64
  · rw [if_pos q] at hc; exact absurd hc (by show (1 : Int) ≠ 0; decide)
  · rw [if_neg q]
    exact ⟨rfl, show (1 : Int) ≠ 0 by decide, by show ((e + 2 : Nat) : Int) ≤ ((nameE s e : Nat) : Int); omega⟩
theorem next_sim {s t : ByteArray} {a m n : Nat} (hs : s.size ≤ 65536) (ht : t.size ≤ 65536) (S : Sim s t a m n) {p : Nat} (ha : a ≤ p) (hp : p ≤ n) (hc : codeOf (nextE s (p : Int)) = 0)
    (hb : blankE s (s.size + 1) p < n ∨ (n = s.size ∧ n + m = t.size)) (he : endOf (nextE s (p : Int)) ≤ (n : Int)) (hA : ∀ e : Nat, endOf (nextE s (p : Int)) = (e : Int) → Ahead s e n) : nextE t ((p + m : Nat) : Int) = shT m (nextE s (p : Int)) := by
  have hn := S.hn
  have hm := S.hm
  have h1 := blank_sim hn hm S.hb (s.size + 1) (t.size + 1) p ha hp (by omega) (by omega) hb
  have h2 := blankE_le s (s.size + 1) p (by omega)
  rw [next_eq hs (by omega)] at hc he hA ⊢
  rw [next_eq ht (by omega), h1]
  generalize blankE s (s.size + 1) p = b at *
  by_cases q : b < n
  · exact tok_sim S (by omega) q hc he hA
  · have h3 : n = s.size ∧ n + m = t.size := by
      rcases hb with h | h
      · omega
      · exact h
    have e1 : tokE s b = plainV 0 b b := by unfold tokE; rw [if_neg (by omega)]
    have e2 : tokE t (b + m) = plainV 0 ((b + m : Nat) : Int) ((b + m : Nat) : Int) := by unfold tokE; rw [if_neg (by omega)]
    rw [e1, e2]
    unfold plainV shT
    exact Prod.ext rfl (Prod.ext (by show ((b + m : Nat) : Int) = (b : Int) + (m : Int); omega) (Prod.ext (by show ((b + m : Nat) : Int) = (b : Int) + (m : Int); omega) rfl))
theorem ahead_end {s : ByteArray} (hs : s.size ≤ 65536) {e : Nat} (hG : e < s.size → codeOf (nextE s (e : Int)) = 0) : Ahead s e s.size :=
  ⟨fun h => no_colon hs h (hG h) (.inl rfl), fun h => no_colon hs h (hG h) (.inr rfl), fun _ _ h _ => h⟩
theorem after_all {s t : ByteArray} {c m : Nat} (hs : s.size ≤ 65536) (ht : t.size ≤ 65536) (S : Sim s t c m s.size) (hz : t.size = s.size + m) : ∀ (d p : Nat), c ≤ p → p ≤ s.size → s.size < p + d → (∀ x ∈ allE s p, codeOf x = 0) → allE t (p + m) = (allE s p).map (shT m)
  | 0, p, hc, hp, hd, hG => by omega
  | d + 1, p, hc, hp, hd, hG => by
    have g := good_next hG
    obtain ⟨b, e, hbe, hAt, hEnd, h1, h2, h3, h4, h5⟩ := tok_facts hs hp g
    by_cases hk : kindOf (nextE s (p : Int)) = 0
    · have h6 := h4 hk
      have hN := next_sim hs ht S hc hp g (.inr ⟨rfl, by omega⟩) (by show (nextE s (p : Int)).2.2.1 ≤ _; rw [hEnd]; omega) (fun e' he' => ⟨fun h => by
        have : (nextE s (p : Int)).2.2.1 = (e' : Int) := he'
        omega, fun h => by
        have : (nextE s (p : Int)).2.2.1 = (e' : Int) := he'
        omega, fun h _ _ _ => by
        have : (nextE s (p : Int)).2.2.1 = (e' : Int) := he'
        omega⟩)
      have h7 := step_off hN hk
      rw [h7.1, h7.2]
      rfl
    · obtain ⟨e2, k1, k2, k3, k4⟩ := allE_on hp g hk
      have hG2 : ∀ x ∈ allE s e2, codeOf x = 0 := fun x hx => hG x (by rw [k4]; exact List.mem_cons_of_mem _ hx)
      have hN := next_sim hs ht S hc hp g (.inr ⟨rfl, by omega⟩) (by rw [k1]; omega) (fun e' he' => by
        obtain rfl : e' = e2 := by rw [k1] at he'; omega
        exact ahead_end hs fun _ => good_next hG2)
      obtain ⟨e3, j1, j2, j3, j4, j5⟩ := step_on hp (by omega) hN g hk
      obtain rfl : e3 = e2 := by rw [k1] at j1; omega
      rw [j5, j4, List.map_cons, after_all hs ht S hz d e3 (by omega) j3 (by omega) hG2]
theorem begins_ge {s : ByteArray} (hs : s.size ≤ 65536) : ∀ (j p : Nat) (x : TV), p ≤ s.size → (∀ y ∈ allE s p, codeOf y = 0) → (allE s p)[j]? = some x → (p : Int) ≤ x.2.1
  | 0, p, x, hp, hG, h => by
    obtain ⟨r, hr⟩ := allE_cons s p
    rw [hr] at h
    obtain rfl : nextE s (p : Int) = x := by simpa using h
    obtain ⟨b, e, hbe, hAt, hEnd, h1, _⟩ := tok_facts hs hp (good_next hG)
    rw [hAt]; omega
  | j + 1, p, x, hp, hG, h => by
    by_cases hk : kindOf (nextE s (p : Int)) = 0
    · rw [allE_off fun q => q.2 hk] at h
      simp at h
    · obtain ⟨e, k1, k2, k3, k4⟩ := allE_on hp (good_next hG) hk
      rw [k4] at h
      have := begins_ge hs j e x k3 (fun y hy => hG y (by rw [k4]; exact List.mem_cons_of_mem _ hy)) (by simpa using h)
      omega
theorem shT_0 (x : TV) : shT 0 x = x := by
  unfold shT
  refine Prod.ext rfl (Prod.ext ?_ (Prod.ext ?_ rfl))
  · show x.2.1 + ((0 : Nat) : Int) = x.2.1; omega
  · show x.2.2.1 + ((0 : Nat) : Int) = x.2.2.1; omega
section
variable {s t u : ByteArray} {c : Nat}
theorem Put.blk0 (T : Put s t u c) : blk (bt t (c : Int)) := by
  have h := T.hP 0 T.h0
  rw [Nat.add_zero] at h
  rw [h]
  have hb := T.hbl
  rw [blankS, if_pos T.h0] at hb
  unfold blk
  by_cases hsp : spaceB (bt u ((0 : Nat) : Int)) = true
  · have := space_not hsp; omega
  · rw [if_neg hsp] at hb
    by_cases h35 : bt u ((0 : Nat) : Int) = 35
    · omega
    · rw [if_neg h35] at hb; cases hb
theorem Put.sim1 (T : Put s t u c) : Sim s t 0 0 c := ⟨T.hc, by have := T.hz; have := T.hc; omega, fun i _ h => T.hA i h, T.blk0⟩
theorem Put.sim3 (T : Put s t u c) : Sim s t c u.size s.size := ⟨Nat.le_refl _, by have := T.hz; omega, fun i h1 h2 => T.hS i h1 h2, by rw [bt_out t _ (by have := T.hz; omega)]; exact .inl rfl⟩
theorem Put.at_all (T : Put s t u c) (hs : s.size ≤ 65536) (ht : t.size ≤ 65536) {p : Nat} (hp : p ≤ c) (hb : blankE s (s.size + 1) p = c) (hG : ∀ x ∈ allE s p, codeOf x = 0) : allE t p = (allE s p).map (shT u.size) := by
  have hc := T.hc
  have hz := T.hz
  have g := good_next hG
  have hst : c = s.size ∨ (spaceB (bt s (c : Int)) = false ∧ bt s (c : Int) ≠ 35) := by
    have := blank_ends s (s.size + 1) p (by omega) (by omega)
    rw [hb] at this
    rcases this with h | h
    · exact .inl (by omega)
    · exact .inr h
  have hmid := T.mid hst (s.size + 1) (t.size + 1) p hp (by omega) (by omega) hb
  obtain ⟨b, e, hbe, hAt, hEnd, h1, h2, h3, h4, h5⟩ := tok_facts hs (by omega : p ≤ s.size) g
  obtain rfl : b = c := by omega
  have hN : nextE t (p : Int) = shT u.size (nextE s (p : Int)) := by
    rw [next_eq ht (by omega), hmid]
    by_cases hk : kindOf (nextE s (p : Int)) = 0
    · have h6 := h4 hk
      have e1 : nextE s (p : Int) = plainV 0 b b := by rw [next_eq hs (by omega), hb]; unfold tokE; rw [if_neg (by omega)]
      have e2 : tokE t (b + u.size) = plainV 0 ((b + u.size : Nat) : Int) ((b + u.size : Nat) : Int) := by unfold tokE; rw [if_neg (by omega)]
      rw [e1, e2]
      unfold plainV shT
      exact Prod.ext rfl (Prod.ext (by show ((b + u.size : Nat) : Int) = (b : Int) + (u.size : Int); omega) (Prod.ext (by show ((b + u.size : Nat) : Int) = (b : Int) + (u.size : Int); omega) rfl))
    · obtain ⟨e2, k1, k2, k3, k4⟩ := allE_on (by omega : p ≤ s.size) g hk
      have h6 := h5 hk
      have hG2 : ∀ x ∈ allE s e2, codeOf x = 0 := fun x hx => hG x (by rw [k4]; exact List.mem_cons_of_mem _ hx)
      have hEe : e = e2 := by
        have : (nextE s (p : Int)).2.2.1 = (e2 : Int) := k1
        omega
      have hnx := next_eq hs (by omega : p ≤ s.size)
      rw [hb] at hnx
      rw [hnx] at g k1 ⊢
      exact tok_sim T.sim3 (Nat.le_refl _) (by omega) g (by rw [k1]; omega) (fun e' he' => by
        obtain rfl : e' = e2 := by rw [k1] at he'; omega
        exact ahead_end hs fun _ => good_next hG2)
  by_cases hk : kindOf (nextE s (p : Int)) = 0
  · have h7 := step_off hN hk
    rw [h7.1, h7.2]
    rfl
  · obtain ⟨e3, j1, j2, j3, j4, j5⟩ := step_on (by omega : p ≤ s.size) (by omega) hN g hk
    have h6 := h5 hk
    have hEe : e = e3 := by
      have : (nextE s (p : Int)).2.2.1 = (e3 : Int) := j1
      omega
    have hG2 : ∀ x ∈ allE s e3, codeOf x = 0 := fun x hx => hG x (by rw [j4]; exact List.mem_cons_of_mem _ hx)
    rw [j5, j4, List.map_cons, after_all hs ht T.sim3 hz (s.size + 1) e3 (by omega) j3 (by omega) hG2]
theorem Put.before_all (T : Put s t u c) (hs : s.size ≤ 65536) (ht : t.size ≤ 65536) : ∀ (j p : Nat) (x : TV), p ≤ s.size → (∀ y ∈ allE s p, codeOf y = 0) → (allE s p)[j]? = some x → x.2.1 = (c : Int) →
    allE t p = (allE s p).take j ++ ((allE s p).drop j).map (shT u.size)
  | 0, p, x, hp, hG, h, hx => by
    obtain ⟨r, hr⟩ := allE_cons s p
    have h' := h
    rw [hr] at h'
    obtain rfl : nextE s (p : Int) = x := by simpa using h'
    obtain ⟨b, e, hbe, hAt, hEnd, h1, _⟩ := tok_facts hs hp (good_next hG)
    rw [hAt] at hx
    obtain rfl : b = c := by omega
    rw [List.take_zero, List.drop_zero, List.nil_append]
    exact T.at_all hs ht h1 hbe hG
  | j + 1, p, x, hp, hG, h, hx => by
    have hz := T.hz
    have hcs := T.hc
    have g := good_next hG
    have hk : kindOf (nextE s (p : Int)) ≠ 0 := fun hk => by
      rw [allE_off fun q => q.2 hk] at h
      simp at h
    obtain ⟨e, k1, k2, k3, k4⟩ := allE_on hp g hk
    have hG2 : ∀ y ∈ allE s e, codeOf y = 0 := fun y hy => hG y (by rw [k4]; exact List.mem_cons_of_mem _ hy)
    have hj : (allE s e)[j]? = some x := by rw [k4] at h; simpa using h
    have hec : e ≤ c := by have := begins_ge hs j e x k3 hG2 hj; omega
    have ih := T.before_all hs ht j e x k3 hG2 hj hx
    obtain ⟨b, e0, hbe, hAt, hEnd, h1, h2, h3, h4, h5⟩ := tok_facts hs hp g
    have hbe0 := h5 hk
    have hEe : e0 = e := by
      have : (nextE s (p : Int)).2.2.1 = (e : Int) := k1
      omega
    have hA : Ahead s e c := by
      have g2 := good_next hG2
      refine ⟨fun h => no_colon hs (by omega) g2 (.inl rfl), fun h => no_colon hs (by omega) g2 (.inr rfl), fun hlt h105 he1 hal => ?_⟩
      have hn := name_at hs he1 g2 h105 hal
      cases j with
      | zero =>
        obtain ⟨r, hr⟩ := allE_cons s e
        rw [hr] at hj
        obtain rfl : nextE s (e : Int) = x := by simpa using hj
        have := hn.1
        omega
      | succ j =>
        obtain ⟨e2, q1, q2, q3, q4⟩ := allE_on k3 g2 hn.2.1
        have hj2 : (allE s e2)[j]? = some x := by rw [q4] at hj; simpa using hj
        have := begins_ge hs j e2 x q3 (fun y hy => hG2 y (by rw [q4]; exact List.mem_cons_of_mem _ hy)) hj2
        have h6 := hn.2.2
        rw [q1] at h6
        omega
    have hN := next_sim hs ht T.sim1 (Nat.zero_le _) (by omega : p ≤ c) g (.inl (by omega)) (by rw [k1]; omega) (fun e' he' => by
      obtain rfl : e' = e := by rw [k1] at he'; omega
      exact hA)
    rw [Nat.add_zero] at hN
    obtain ⟨e3, j1, j2, j3, j4, j5⟩ := step_on hp (by omega) hN g hk
    obtain rfl : e3 = e := by rw [k1] at j1; omega
    rw [Nat.add_zero, shT_0] at j5
    rw [j5, ih, j4]
    simp
end
theorem bt_bat2 (s : ByteArray) (i : Nat) : bt s (i : Int) = (bat s i : Int) := by
  rcases Nat.lt_or_ge i s.size with h | h
  · exact bt_bat' s i h
  · rw [bt_out s i h]
    unfold bat
    rw [List.getD_eq_getElem?_getD, List.getElem?_eq_none (by simpa using h)]
    rfl
theorem bt_left (x y : ByteArray) (i : Nat) (h : i < x.size) : bt (x ++ y) (i : Int) = bt x (i : Int) := by
  rw [bt_bat2, bt_bat2]
  unfold bat
  have e : (x ++ y).data.toList = x.data.toList ++ y.data.toList := by simp [ByteArray.data_append]
  rw [e, List.getD_eq_getElem?_getD, List.getD_eq_getElem?_getD, List.getElem?_append_left (by simpa using h)]
theorem bt_right (x y : ByteArray) (i : Nat) : bt (x ++ y) ((x.size + i : Nat) : Int) = bt y (i : Int) := by
  rw [bt_bat2, bt_bat2]
  unfold bat
  have e : (x ++ y).data.toList = x.data.toList ++ y.data.toList := by simp [ByteArray.data_append]
  have hx : x.data.toList.length = x.size := by simp
  rw [e, List.getD_eq_getElem?_getD, List.getD_eq_getElem?_getD, List.getElem?_append_right (by omega), hx, Nat.add_sub_cancel_left]
theorem put_mk (s v : ByteArray) (c : Nat) (hc : c ≤ s.size) (hb : blankS (v ++ ⟨#[10]⟩) ((v ++ ⟨#[10]⟩ : ByteArray).size + 1) 0 = true) : Put s ((s.extract 0 c ++ (v ++ ⟨#[10]⟩)) ++ s.extract c s.size) (v ++ ⟨#[10]⟩) c := by
  have hu : (v ++ ⟨#[10]⟩ : ByteArray).size = v.size + 1 := by rw [ByteArray.size_append]; rfl
  have h1 : (s.extract 0 c).size = c := by rw [size_ext s 0 c hc]; omega
  have h2 : (s.extract 0 c ++ (v ++ ⟨#[10]⟩)).size = c + (v.size + 1) := by rw [ByteArray.size_append, h1, hu]
  have h3 : (s.extract c s.size).size = s.size - c := size_cut s c
  refine ⟨hc, by rw [ByteArray.size_append, h2, h3, hu]; omega, fun i hi => ?_, fun i hi => ?_, fun i hi1 hi2 => ?_, by omega, ?_, hb⟩
  · rw [bt_left _ _ i (by omega), bt_left _ _ i (by omega)]
    have := bt_ext s 0 c i hc (by omega)
    rwa [Nat.zero_add] at this
  · rw [bt_left _ _ (c + i) (by omega)]
    have := bt_right (s.extract 0 c) (v ++ ⟨#[10]⟩) i
    rwa [h1] at this
  · have h4 := bt_right (s.extract 0 c ++ (v ++ ⟨#[10]⟩)) (s.extract c s.size) (i - c)
    rw [h2, bt_cut s c (i - c), show c + (i - c) = i by omega, show c + (v.size + 1) + (i - c) = i + (v.size + 1) by omega] at h4
    rw [hu]
    exact h4
  · rw [hu, Nat.add_sub_cancel]
    have := bt_right v ⟨#[10]⟩ 0
    rw [Nat.add_zero] at this
    rw [this]
    rfl
end Go.Proofs.YtldjdcdoegjmoaaDoor.P

import Derived.Test.YtldjdcdoegjmoaaDoorB17
import Derived.Test.YtldjdcdoegjmoaaDoorB31
import Derived.Test.YtldjdcdoegjmoaaDoorB33
set_option linter.unusedVariables false
set_option linter.unusedSimpArgs false
namespace Go.Proofs.YtldjdcdoegjmoaaDoor.P
open Go.RowKit Go.Proofs.YtldjdcdoegjmoaaDoorW.PrintWords Go.Proofs.YtldjdcdoegjmoaaDoorW.PrintLast
theorem rd_at (L : List TV) (i : Nat) (t : TV) (h : L[i]? = some t) : Q23 (L.map tvS) (i : Int) = tvS t := by
  unfold Q23
  rw [Int.toNat_natCast, List.getD_eq_getElem?_getD, List.getElem?_map, h]
  rfl
/-- One round of the comparison. -/
theorem bln_j3 (L M : List TV) (u : ByteArray) (c i : Nat) (x y : TV) (mv : Nat) (hx : L[i]? = some x) (hy : M[i]? = some y) (hxy : y = shT mv x) (hb : -1000000 ≤ x.2.1 ∧ x.2.1 ≤ 1000000 ∧ -1000000 ≤ x.2.2.1 ∧ x.2.2.1 ≤ 1000000) (hmv : mv ≤ 1000000) (hi : i ≤ 1000000) (k : Nat) :
    dowellaw04_LexisBlanks.j3 (k + 1) (L.map tvS) u (c : Int) (M.map tvS) (i : Int) (mv : Int) = dowellaw04_LexisBlanks.l0 k (L.map tvS) u (c : Int) (M.map tvS) ((i + 1 : Nat) : Int) := by
  have hli : i < L.length := by
    rcases Nat.lt_or_ge i L.length with q | q
    · exact q
    · rw [List.getElem?_eq_none q] at hx; cases hx
  have hmi : i < M.length := by
    rcases Nat.lt_or_ge i M.length with q | q
    · exact q
    · rw [List.getElem?_eq_none q] at hy; cases hy
  have w3 : wrap64 ((i : Int) + 1) = ((i + 1 : Nat) : Int) := by unfold wrap64; omega
  subst hxy
  obtain ⟨x0, x1, x2, x3, x4, x5, x6, x7, x8, x9, x10, x11, x12⟩ := x
  dsimp only at hb
  have w1 : wrap64 (x1 + (mv : Int)) = x1 + (mv : Int) := by unfold wrap64; omega
  have w2 : wrap64 (x2 + (mv : Int)) = x2 + (mv : Int) := by unfold wrap64; omega
  rw [dowellaw04_LexisBlanks.j3, if_pos (by omega), if_pos (by rw [List.length_map]; omega), rd_at L i _ hx, rd_at M i _ hy]
  have hli' : (i : Int) < (L.length : Int) := by omega
  simp only [tvS, shT, dowellaw04_bare.f, Option.bind_some, List.length_map, beq_self_eq_true, Bool.not_true, Bool.or_self, Bool.false_eq_true, if_false, w1, w2, w3, hli', if_true]
theorem bln_l0 (L M : List TV) (u : ByteArray) (c : Nat) (hl : L.length ≤ 70000) (hu : u.size ≤ 1000000)
    (hM : ∀ i x, L[i]? = some x → ∃ y, M[i]? = some y ∧ y = shT (if c ≤ i then u.size else 0) x) (hb : ∀ x ∈ L, -1000000 ≤ x.2.1 ∧ x.2.1 ≤ 1000000 ∧ -1000000 ≤ x.2.2.1 ∧ x.2.2.1 ≤ 1000000) :
    ∀ (d i k : Nat), L.length - i = d → i ≤ L.length → 2 * d + 2 ≤ k → dowellaw04_LexisBlanks.l0 k (L.map tvS) u (c : Int) (M.map tvS) (i : Int) = some true
  | 0, i, k, hd, hi, hk => by
    obtain ⟨k, rfl⟩ : ∃ m, k = m + 1 := ⟨k - 1, by omega⟩
    rw [dowellaw04_LexisBlanks.l0, if_neg (by rw [List.length_map]; omega)]
  | d + 1, i, k, hd, hi, hk => by
    obtain ⟨k, rfl⟩ : ∃ m, k = m + 2 := ⟨k - 2, by omega⟩
    have hx : L[i]? = some (L[i]'(by omega)) := List.getElem?_eq_getElem (by omega)
    obtain ⟨y, hy, hxy⟩ := hM i _ hx
    have hbx := hb _ (List.getElem_mem (by omega : i < L.length))
    rw [dowellaw04_LexisBlanks.l0, if_pos (by rw [List.length_map]; omega)]
    by_cases q : c ≤ i
    · rw [if_pos q] at hxy
      rw [if_pos (by omega), bln_j3 L M u c i _ y u.size hx hy hxy hbx hu (by omega) k]
      exact bln_l0 L M u c hl hu hM hb d (i + 1) k (by omega) (by omega) (by omega)
    · rw [if_neg q] at hxy
      rw [if_neg (by omega)]
      have := bln_j3 L M u c i _ y 0 hx hy hxy hbx (by omega) (by omega) k
      rw [show (((0 : Nat) : Int)) = 0 by rfl] at this
      rw [this]
      exact bln_l0 L M u c hl hu hM hb d (i + 1) k (by omega) (by omega) (by omega)
theorem in_text {s : ByteArray} (hs : s.size ≤ 65536) : ∀ (d p : Nat), p ≤ s.size → s.size < p + d → (∀ y ∈ allE s p, codeOf y = 0) → ∀ x ∈ allE s p, ∃ b e : Nat, x.2.1 = (b : Int) ∧ x.2.2.1 = (e : Int) ∧ b ≤ s.size ∧ e ≤ s.size
  | 0, p, hp, hd, hG, x, hx => by omega
  | d + 1, p, hp, hd, hG, x, hx => by
    have g := good_next hG
    obtain ⟨b, e, hbe, hAt, hEnd, h1, h2, h3, h4, h5⟩ := tok_facts hs hp g
    by_cases hk : kindOf (nextE s (p : Int)) = 0
    · rw [allE_off fun q => q.2 hk] at hx
      rw [List.mem_singleton.1 hx]
      exact ⟨b, e, hAt, hEnd, by omega, h3⟩
    · obtain ⟨e2, k1, k2, k3, k4⟩ := allE_on hp g hk
      rw [k4] at hx
      rcases List.mem_cons.1 hx with rfl | hx
      · exact ⟨b, e, hAt, hEnd, by omega, h3⟩
      · exact in_text hs d e2 k3 (by omega) (fun y hy => hG y (by rw [k4]; exact List.mem_cons_of_mem _ hy)) x hx
theorem idx_in (a1 : Int) (n : Nat) (hn : 0 < n) (hn2 : n ≤ 70000) : ∃ i : Nat, i < n ∧ wrap64 (Int.tmod (IntKind.u64.wrap a1) (IntKind.u64.wrap (n : Int))) = (i : Int) ∧ IntKind.u64.wrap (n : Int) ≠ 0 := by
  have h1 : IntKind.u64.wrap (n : Int) = (n : Int) := by
    show (n : Int) % 18446744073709551616 = (n : Int)
    omega
  have h2 : 0 ≤ IntKind.u64.wrap a1 := by
    show 0 ≤ a1 % 18446744073709551616
    omega
  rw [h1]
  have h3 := Int.tmod_nonneg (n : Int) h2
  have h4 := Int.tmod_lt_of_pos (IntKind.u64.wrap a1) (show (0 : Int) < (n : Int) by omega)
  refine ⟨(Int.tmod (IntKind.u64.wrap a1) (n : Int)).toNat, by omega, ?_, by omega⟩
  unfold wrap64
  omega
theorem blanks_law (s v : ByteArray) (a1 : Int) (hs : s.size ≤ bnd) (hv : v.size ≤ bnd) : ∃ k, dowellaw04_LexisBlanks.f k s a1 v = some true := by
  refine ⟨4 * v.size + 3 * (allE s 0).length + 1000, ?_⟩
  have hb140 : bnd = 140737488351232 := rfl
  unfold dowellaw04_LexisBlanks.f
  rw [show dowellaw04_works.f (4 * v.size + 3 * (allE s 0).length + 1000) = some true from rfl, Option.bind_some, if_pos rfl]
  unfold lexis_Tokens.f
  rw [if_pos hs, Option.bind_some]
  rcases all_split s with ⟨h1, h2, h3⟩ | ⟨L, p, c, hc, h1, h2, h3, h4⟩
  · rw [toksOut_ok fun t ht => (h3 t ht).1]
    dsimp only
    have hG : ∀ x ∈ allE s 0, codeOf x = 0 := fun x hx => (h3 x hx).1
    have h65 : s.size ≤ 65536 := by
      rcases Nat.lt_or_ge 65536 s.size with q | q
      · exfalso
        have hn : nextE s ((0 : Nat) : Int) = faultV 0 1 := by unfold nextE; rw [if_pos (by omega)]
        have := good_next hG
        rw [hn] at this
        exact absurd this (by decide)
      · exact q
    obtain ⟨r, hr⟩ := allE_cons s 0
    have hlen : 0 < (allE s 0).length := by rw [hr]; simp
    have hlen2 := allE_len s
    have hvs : (v ++ (⟨#[10]⟩ : ByteArray)).size = v.size + 1 := by rw [ByteArray.size_append]; rfl
    rw [if_neg (by simp)]
    show (if (((allE s 0).map tvS).length : Int) = 0 then _ else _) = _
    rw [if_neg (by rw [List.length_map]; omega), if_pos (by omega), blankS_f _ (by omega) _ (by omega), Option.bind_some]
    have hjk : ∃ k, 4 * v.size + 3 * (allE s 0).length + 1000 = k + 1 ∧ 3 * (allE s 0).length + 10 ≤ k := ⟨4 * v.size + 3 * (allE s 0).length + 999, by omega, by omega⟩
    obtain ⟨k, hk, hk2⟩ := hjk
    rw [hk, dowellaw04_LexisBlanks.j0]
    cases hbl : blankS (v ++ ⟨#[10]⟩) ((v ++ (⟨#[10]⟩ : ByteArray)).size + 1) 0 with
    | false => simp
    | true =>
      rw [if_neg (by simp), if_pos (by omega)]
      by_cases hbig : wrap64 ((s.size : Int) + ((v ++ (⟨#[10]⟩ : ByteArray)).size : Int)) > 65536
      · rw [if_pos hbig]
      · rw [if_neg hbig]
        have hsum : s.size + (v.size + 1) ≤ 65536 := by rw [hvs] at hbig; unfold wrap64 at hbig; omega
        obtain ⟨i, hi, hidx, hne⟩ := idx_in a1 (allE s 0).length hlen (by omega)
        rw [List.length_map, if_neg hne, hidx, if_pos (by omega), if_pos (by omega)]
        have hx : (allE s 0)[i]? = some ((allE s 0)[i]'hi) := List.getElem?_eq_getElem hi
        obtain ⟨b, e, hAt, hEnd, hbs, hes⟩ := in_text h65 (s.size + 1) 0 (Nat.zero_le _) (by omega) hG _ (List.getElem_mem hi)
        have hf1 : (Q23 ((allE s 0).map tvS) (i : Int)).f1 = (b : Int) := by rw [rd_at _ i _ hx]; exact hAt
        rw [hf1, Int.toNat_natCast, if_pos (by omega), if_pos (by omega)]
        have e1 : (s.extract 0 b).size = b := by rw [size_ext s 0 b hbs]; omega
        have e2 : (s.extract b s.size).size = s.size - b := size_cut s b
        rw [if_pos (by rw [e1, hvs]; omega), if_pos (by rw [ByteArray.size_append, e1, e2, hvs]; omega)]
        have T := put_mk s v b hbs hbl
        have htz := T.hz
        rw [hvs] at htz
        generalize ht : (s.extract 0 b ++ (v ++ (⟨#[10]⟩ : ByteArray))) ++ s.extract b s.size = t at *
        have hA := T.before_all h65 (by omega) i 0 _ (Nat.zero_le _) hG hx hAt
        have hGt : ∀ x ∈ allE t 0, codeOf x = 0 := fun x hx => by
          rw [hA] at hx
          rcases List.mem_append.1 hx with q | q
          · exact hG x (List.mem_of_mem_take q)
          · obtain ⟨y, hy, rfl⟩ := List.mem_map.1 q
            exact hG y (List.mem_of_mem_drop hy)
        rw [show lexis_Tokens.f t = some ((allE t 0).map tvS, 0, 0) by unfold lexis_Tokens.f; rw [if_pos (by omega), toksOut_ok hGt], Option.bind_some]
        rw [if_neg (by simp)]
        have hlt : (allE t 0).length = (allE s 0).length := by rw [hA]; simp; omega
        dsimp only
        rw [List.length_map, hlt, bne_self_eq_false]
        obtain ⟨k, rfl⟩ : ∃ m, k = m + 1 := ⟨k - 1, by omega⟩
        rw [dowellaw04_LexisBlanks.j1, if_neg (by simp)]
        refine bln_l0 (allE s 0) (allE t 0) (v ++ ⟨#[10]⟩) i (by omega) (by omega) (fun j x hj => ?_) (fun x hx => ?_) (allE s 0).length 0 k (by omega) (by omega) (by omega)
        · have hjl : j < (allE s 0).length := by
            rcases Nat.lt_or_ge j (allE s 0).length with q | q
            · exact q
            · rw [List.getElem?_eq_none q] at hj; cases hj
          refine ⟨_, ?_, rfl⟩
          rw [hA]
          by_cases q : i ≤ j
          · rw [if_pos q, List.getElem?_append_right (by rw [List.length_take]; omega), List.getElem?_map, List.getElem?_drop, List.length_take, show i + (j - min i (allE s 0).length) = j by omega, hj]
            rfl
          · rw [if_neg q, List.getElem?_append_left (by rw [List.length_take]; omega), List.getElem?_take_of_lt (by omega), hj, shT_0]
        · obtain ⟨b', e', h5, h6, h7, h8⟩ := in_text h65 (s.size + 1) 0 (Nat.zero_le _) (by omega) hG x hx
          omega
  · rw [toksOut_bad (s := s) (pre := L) (t := faultV p c) (by rw [h1]; exact List.prefix_refl _) (by rw [code_fault]; exact hc)]
    show (if (!(p == 0) || !(c == 0)) = true then _ else _) = _
    rw [if_pos (by simp [hc])]
    rw [show 4 * v.size + 3 * (allE s 0).length + 1000 = (4 * v.size + 3 * (allE s 0).length + 999) + 1 by omega, dowellaw04_LexisBlanks.j0]
    simp
end Go.Proofs.YtldjdcdoegjmoaaDoor.P
set_option linter.unusedVariables false
namespace Go.Proofs.YtldjdcdoegjmoaaDoor
open Go.RowKit
theorem lexisBlanks_w (s : ByteArray) (k : Int) (v : ByteArray) (w : World) (hs : s.size ≤ 140737488351232) (hk : (Lit.int .i64 k).wf = true) (hv : v.size ≤ 140737488351232) (ht : TabOk w) : Calls Tryd.prog 6 #[.string s, .int .i64 k, .string v] w fun e w' => e = .returned (.bool true) ∧ Below w.heap.size w w' := by
  obtain ⟨n, hn⟩ := P.blanks_law s v k hs hv
  exact P.dowellaw04_LexisBlanks.calls n s k v true rfl w hn ht
end Go.Proofs.YtldjdcdoegjmoaaDoor

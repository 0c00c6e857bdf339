import Derived.Test.YtflkgoggnomehaaZ18
import Derived.Test.YtflkgoggnomehaaZ28
set_option linter.unusedVariables false
set_option linter.unusedSimpArgs false
namespace Go.Proofs.Ytflkgoggnomehaa.Ck
open Go.RowKit Go.Proofs.Ytflkgoggnomehaa Go.Proofs.Ytflkgoggnomehaa.P Go.Proofs.Ytflkgoggnomehaa.Ap Go.Proofs.Ytflkgoggnomehaa.Pt Go.Proofs.Ytflkgoggnomehaa.Pp Go.Proofs.YtflkgoggnomehaaW.PrintWords Go.Proofs.YtflkgoggnomehaaW.PrintLast Go.Proofs.YtflkgoggnomehaaW.PrintMore
theorem rd_app (l m : List S45) (i : Int) (j : Nat) (hi : i = (l.length + j : Nat)) : Q13 (l ++ m) i = m.getD j z45 := by
  subst hi
  unfold Q13
  rw [Int.toNat_natCast]
  simp [List.getD, List.getElem?_append_right]
theorem parts_same (l : List S45) (hl : l.length ≤ 35184372088832) : ∃ d, ∀ k, dowelbook_Parts.f (k + d) l l = some true := by
  have h : ∀ m i : Nat, i + m = l.length → ∀ k, dowelbook_Parts.l0 (k + m + 1) l l i = some true := by
    intro m
    induction m with
    | zero => intro i hi k; rw [dowelbook_Parts.l0.eq_def]; simp only []; rw [if_neg (by omega)]
    | succ m ih =>
      intro i hi k
      have e1 : wrap64 ((i : Int) + 1) = ((i + 1 : Nat) : Int) := by rw [wr (by omega) (by omega)]; omega
      rw [dowelbook_Parts.l0.eq_def]
      simp only []
      rw [if_pos (by omega), if_pos (by omega), if_pos (by omega), if_neg (by simp), e1]
      exact ih (i + 1) (by omega) k
  refine ⟨l.length + 1, fun k => ?_⟩
  unfold dowelbook_Parts.f
  rw [if_pos rfl]
  exact h l.length 0 (by omega) k
theorem kept_true (l : List S45) (hsm : l.length ≤ 1048576) : ∃ k, KA k l l (l ++ [mk77, mo77]) = some true := by
  obtain ⟨d, hd⟩ := parts_same l (by omega)
  refine ⟨0 + d, ?_⟩
  have e1 : wrap64 ((l.length : Int) + 1) = ((l.length + 1 : Nat) : Int) := by rw [wr (by omega) (by omega)]; omega
  have r1 : Q13 (l ++ [mk77, mo77]) (l.length : Int) = mk77 := rd_app l [mk77, mo77] (l.length : Int) 0 rfl
  have r2 : Q13 (l ++ [mk77, mo77]) ((l.length + 1 : Nat) : Int) = mo77 := rd_app l [mk77, mo77] ((l.length + 1 : Nat) : Int) 1 rfl
  have m1 : dowelbook_partsMark.f 77 = some (-78, 0, 0, 0, 0) := by kernel_rfl
  have m2 : dowelbook_partsMore.f 77 = some (-100077, 0, 0, 0, 0) := by kernel_rfl
  unfold KA
  rw [hd, Option.bind_some, e1, r1, r2, m1, m2]
  rw [if_pos rfl, if_pos (by omega), if_pos (by simp; omega), Option.bind_some, if_pos (by simp [mk77]), if_pos (by omega), if_pos (by simp), Option.bind_some]
  simp [mo77]
theorem kept_c (A : Option Addr) (c : Nat) (l : List S45) (g c' B : Nat) (w : World) (hr : Kd.C k45 w A l.length l) (hc : l.length ≤ c) (hsm : l.length ≤ 1048576) (ho : w.ownsRow B 45 5 (.slice (some ⟨g, 0, none⟩) (l.length + 2) c') (l.length + 2) (flat (l ++ [mk77, mo77]))) (hc' : l.length + 2 ≤ c') :
    Calls Try.prog 16 #[.slice (some ⟨g, 0, none⟩) l.length c', .slice A l.length c] w fun e w' => e = .returned (.bool true) ∧ Below w.heap.size w w' := by
  obtain ⟨k, hk⟩ := kept_true l hsm
  have hl : (l ++ [mk77, mo77]).length = l.length + 2 := by simp
  refine kept_w k _ c' l A c l (l ++ [mk77, mo77]) true w (row_owned l (flat [mk77, mo77]) _ ho (by unfold flat; simp) (by omega) (by omega)) (by omega) hr hc ?_ (by omega) hl hsm rfl hk
  exact row_owned _ [] _ ho (by simp) (by omega) (by omega)
theorem own_below {W W' : World} {B n : Nat} {v : Value} {xs : List Value} (h : W.ownsRow B 45 5 v n xs) (hb : Below W.heap.size W W') : W'.ownsRow B 45 5 v n xs :=
  Fr.own_move h fun b hb' => hb.block b ((Fr.told_own h).lt hb').2.1
def two : List S45 := [nd 1, nd 5]
theorem two_prt : prt two = (⟨#[40, 41, 42]⟩, 0) := by decide +kernel
theorem two_ok : ∀ n ∈ two, okC n.f1 := by
  intro n hn
  unfold two at hn
  simp only [List.mem_cons, List.not_mem_nil, or_false] at hn
  rcases hn with rfl | rfl <;> (unfold okC; decide)
set_option maxRecDepth 100000 in
set_option maxHeartbeats 4000000 in
theorem checks_w (A : Option Addr) (c : Nat) (l : List S45) (w : World) (hr : Kd.C k45 w A l.length l) (hc : l.length ≤ c) (hok : ∀ n ∈ l, okC n.f1) :
    Calls Try.prog 5 #[.slice A l.length c] w fun e w' => e = .returned (.bool true) ∧ Below w.heap.size w w' := by
  by_cases hbig : l.length > 65545
  · have hb : decide ((l.length : Int) > 65545) = true := by simp; omega
    clear hr hok
    go_enter Try.func5, Try.ntmps5
    go_wp2
    go_ret
    exact ⟨rfl, Below.refl _ _⟩
  have hbg : decide ((l.length : Int) > 65545) = false := by simp; omega
  have HR := Lib.hid hr; have HOK := Lib.hid hok
  clear hr hok
  go_enter Try.func5, Try.ntmps5
  go_wp2_with fail
  refine (lend_c A c l _ HR.out hc (by omega)).mono ?_
  rintro e U1 ⟨g, c', rfl, hc', ho, hb⟩
  have O1 := Lib.hid ho; have K1 := Lib.hid hb
  clear ho hb
  go_wp2_with fail
  refine (Pr.print_c (some ⟨g, 0, none⟩) c' l _ (row_owned l (flat [mk77, mo77]) _ O1.out (by unfold flat; simp) (by omega) (by omega)) (by omega) HOK.out).mono ?_
  rintro e U2 ⟨rfl, hb2⟩
  have O2 := Lib.hid (own_below O1.out hb2)
  have K2 := Lib.hid (K1.out.trans (hb2.mono K1.out.size))
  clear hb2 O1
  go_wp2_with fail
  refine (Rp.print_c A c l _ (Kd.C_below HR.out K2.out) hc HOK.out).mono ?_
  rintro e U3 ⟨rfl, hb3⟩
  have O3 := Lib.hid (own_below O2.out hb3)
  have K3 := Lib.hid (K2.out.trans (hb3.mono K2.out.size))
  clear hb3 O2
  go_wp2_with fail
  refine (Dp.check_c (some ⟨g, 0, none⟩) c' l _ (row_owned l (flat [mk77, mo77]) _ O3.out (by unfold flat; simp) (by omega) (by omega)) (by omega)).mono ?_
  rintro e U4 ⟨rfl, hb4⟩
  have O4 := Lib.hid (own_below O3.out hb4)
  have K4 := Lib.hid (K3.out.trans (hb4.mono K3.out.size))
  clear hb4 O3
  go_wp2_with fail
  refine (dowelref22_Check.calls (2 * l.length + 3) A c l (chk l) _ (Kd.C_below HR.out K4.out) hc (refCheck_f l _ (by omega))).mono ?_
  rintro e U5 ⟨rfl, hb5⟩
  have O5 := Lib.hid (own_below O4.out hb5)
  have K5 := Lib.hid (K4.out.trans (hb5.mono K4.out.size))
  clear hb5 O4
  go_wp2_with fail
  refine (kept_c A c l g c' w.heap.size _ (Kd.C_below HR.out K5.out) hc (by omega) O5.out hc').mono ?_
  rintro e U6 ⟨rfl, hb6⟩
  have K6 := Lib.hid (K5.out.trans (hb6.mono K5.out.size))
  clear hb6 O5
  go_wp2_with fail
  have hP := fun (W : World) (h : Kd.C k45 W (some ⟨U6.heap.size, 0, none⟩) two.length two) => Pr.print_c (some ⟨U6.heap.size, 0, none⟩) 2 two W h (by decide) two_ok
  rw [two_prt] at hP
  refine (hP _ (row_read two [] (heap_alloc_new U6 _) rfl (by decide))).mono ?_
  rintro e U7 ⟨rfl, hb7⟩
  have K7 := Lib.hid (K6.out.trans (((Below.refl U6.heap.size U6).alloc (Nat.le_refl _) _).trans (hb7.mono (by simp)) |>.mono K6.out.size))
  clear hb7 hP
  go_wp2
  go_ret
  exact ⟨rfl, K7.out⟩
end Go.Proofs.Ytflkgoggnomehaa.Ck
namespace Go.Proofs.Ytflkgoggnomehaa
open Go.RowKit Go.Proofs.Ytflkgoggnomehaa.P
theorem patternChecks_w (a : PSl) (w : World) (h : a.ok w) : Calls Try.prog 5 #[.slice a.A a.l.length a.c] w fun e w' => e = .returned (.bool true) ∧ Below w.heap.size w w' := Ck.checks_w a.A a.c a.l w h.1 h.2.1 h.2.2
end Go.Proofs.Ytflkgoggnomehaa

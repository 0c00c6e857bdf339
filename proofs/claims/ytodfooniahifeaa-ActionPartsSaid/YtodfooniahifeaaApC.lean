/- The parts of nodes: the law's walk. -/
import Derived.Test.YtodfooniahifeaaLend
import Derived.Test.YtodfooniahifeaaKept
import Derived.Test.YtodfooniahifeaaFrI
import Derived.Test.YtodfooniahifeaaActP
set_option linter.unusedVariables false
set_option linter.unusedSimpArgs false
namespace Go.Proofs.Ytodfooniahifeaa.Ap
open Go.RowKit Go.Proofs.YtodfooniahifeaaW.PrintWords Go.Proofs.YtodfooniahifeaaW.PrintLast Go.Proofs.YtodfooniahifeaaW.PrintMore Go.Proofs.Ytodfooniahifeaa.PActionParts
def PartsC (w : World) (l : List S33) (i : Int) (e : Ending) (w' : World) : Prop :=
  ∃ A c, e = .returned (.slice A (Po l i).length c) ∧ Kd.R (Kd.int .i64) 3 w' w.heap.size (fun _ => True) (.slice A (Po l i).length c) (Po l i) ∧ Below w.heap.size w w'
theorem parts_c (A : Option Addr) (c : Nat) (l : List S33) (i : Int) (w : World) (hr : Kd.C k33 w A l.length l) (hc : l.length ≤ c) (hsm : l.length ≤ 1048576) :
    Calls Try.prog 7 #[.slice A l.length c, .int .i64 i] w (PartsC w l i) := by
  obtain ⟨d, hd⟩ := parts_act hsm i
  refine (action_Parts.calls (0 + d) A c l i _ w hr hc (hd 0)).mono ?_
  rintro e w' ⟨v, rfl, hR, hb⟩
  obtain ⟨A', c', rfl, _, _⟩ := Kd.R_reads hR
  exact ⟨A', c', rfl, hR, hb⟩
theorem refParts_c (A : Option Addr) (c : Nat) (l : List S33) (i : Int) (w : World) (hr : Kd.C k33 w A l.length l) (hc : l.length ≤ c) (hsm : l.length ≤ 1048576) :
    Calls Try.prog 8 #[.slice A l.length c, .int .i64 i] w (PartsC w l i) := by
  obtain ⟨d, hd⟩ := parts_ref hsm i
  refine (dowelref24_Parts.calls (0 + d) A c l i _ w hr hc (hd 0)).mono ?_
  rintro e w' ⟨v, rfl, hR, hb⟩
  obtain ⟨A', c', rfl, _, _⟩ := Kd.R_reads hR
  exact ⟨A', c', rfl, hR, hb⟩
theorem ints_c (A0 : Option Addr) (c0 : Nat) (A1 : Option Addr) (c1 : Nat) (x : List Int) (hx : x.length ≤ 1048576) (w : World) (h0 : Kd.C (Kd.int .i64) w A0 x.length x) (hc0 : x.length ≤ c0) (h1 : Kd.C (Kd.int .i64) w A1 x.length x) (hc1 : x.length ≤ c1) :
    Calls Try.prog 9 #[.slice A0 x.length c0, .slice A1 x.length c1] w fun e w' => e = .returned (.bool true) ∧ Below w.heap.size w w' := by
  obtain ⟨d, hd⟩ := ints_same x (by omega)
  refine (dowelbook_Ints.calls (0 + d) A0 c0 x A1 c1 x true w h0 hc0 h1 hc1 (hd 0)).mono ?_
  rintro e w' ⟨rfl, n, rfl⟩
  exact ⟨rfl, pw_below_drewN (Below.refl _ _) n⟩
theorem rd_app (l m : List S33) (i : Int) (j : Nat) (hi : i = (l.length + j : Nat)) : rd_T33 (l ++ m) i = m.getD j z33 := by
  subst hi
  unfold rd_T33
  rw [Int.toNat_natCast]
  simp [List.getD, List.getElem?_append_right]
theorem kept_true (l : List S33) (hsm : l.length ≤ 1048576) : ∃ k, KA k l l (l ++ [mk77, mo77]) = some true := by
  obtain ⟨d, hd⟩ := acts_same l (by omega)
  refine ⟨0 + d, ?_⟩
  have e1 : wrap64 ((l.length : Int) + 1) = ((l.length + 1 : Nat) : Int) := by rw [wr (by omega) (by omega)]; omega
  have r1 : rd_T33 (l ++ [mk77, mo77]) (l.length : Int) = mk77 := rd_app l [mk77, mo77] (l.length : Int) 0 rfl
  have r2 : rd_T33 (l ++ [mk77, mo77]) ((l.length + 1 : Nat) : Int) = mo77 := rd_app l [mk77, mo77] ((l.length + 1 : Nat) : Int) 1 rfl
  have m1 : dowelbook_actsMark.f 77 = some (-78, 0, ⟨#[]⟩, ⟨#[]⟩, 0, 0) := by kernel_rfl
  have m2 : dowelbook_actsMore.f 77 = some (-100077, 0, ⟨#[]⟩, ⟨#[]⟩, 0, 0) := by kernel_rfl
  unfold KA
  rw [hd, Option.bind_some, e1, r1, r2, m1, m2]
  rw [if_pos rfl, if_pos (by omega), if_pos (by simp; omega), Option.bind_some, if_pos (by simp [mk77]), if_pos (by omega), if_pos (by simp), Option.bind_some]
  simp [mo77]
theorem keptActs_c (A : Option Addr) (c : Nat) (l : List S33) (g c' B : Nat) (w : World) (hr : Kd.C k33 w A l.length l) (hc : l.length ≤ c) (hsm : l.length ≤ 1048576) (ho : w.ownsRow B 33 6 (.slice (some ⟨g, 0, none⟩) (l.length + 2) c') (l.length + 2) (flat (l ++ [mk77, mo77]))) (hc' : l.length + 2 ≤ c') :
    Calls Try.prog 10 #[.slice (some ⟨g, 0, none⟩) l.length c', .slice A l.length c] w fun e w' => e = .returned (.bool true) ∧ Below w.heap.size w w' := by
  obtain ⟨k, hk⟩ := kept_true l hsm
  have hl : (l ++ [mk77, mo77]).length = l.length + 2 := by simp
  refine kept_w k _ c' l A c l (l ++ [mk77, mo77]) true w (row_owned l (flat [mk77, mo77]) _ ho (by unfold flat; simp) (by omega) (by omega)) (by omega) hr hc ?_ (by omega) hl hsm rfl hk
  exact row_owned _ [] _ ho (by simp) (by omega) (by omega)
end Go.Proofs.Ytodfooniahifeaa.Ap

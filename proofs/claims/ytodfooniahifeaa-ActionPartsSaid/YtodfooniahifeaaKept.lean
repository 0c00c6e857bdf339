/- A list that was lent is looked at behind its end: the walk, as printed, with another cut. -/
import Derived.Test.YtodfooniahifeaaPActionPartsx0
import Derived.Test.YtodfooniahifeaaPActionPartsx1
import Derived.Test.YtodfooniahifeaaPActionPartsx2
import Derived.Test.YtodfooniahifeaaPActionPartsx6
namespace Go.Proofs.Ytodfooniahifeaa.PActionParts
open Go.RowKit Go.Proofs.YtodfooniahifeaaW.PrintWords Go.Proofs.YtodfooniahifeaaW.PrintLast Go.Proofs.YtodfooniahifeaaW.PrintMore
attribute [local go_sem] max2_int min2_int max_two min_two max_three min_three max_four min_four
set_option linter.unusedVariables false
set_option linter.unusedSimpArgs false
attribute [local go_sem high] eqA33
theorem cut_cap {P : Program} (t e : TypeId) (kh : IntKind) {i : TypeInfo} (ht : P.underlying t = some (.slice e)) (hi : P.info? e = some i) (A : Option Addr) (n c : Nat) (j : Int) (h0 : 0 ≤ j) (hm : j ≤ c) (hc : n ≤ c) :
    ∀ W : World, (Instr.slice t (.slice A n c) none (some (.int kh j)) none).run P W = .ok (.slice A j.toNat c) W := by
  intro W
  have hel : P.elem t = e := by simp [Program.elem, ht]
  have hu : P.underlying t = some (.slice (P.elem t)) := by rw [hel]; exact ht
  have ha : (A.map fun x => x.add 0) = A := by cases A <;> simp [Addr.add]
  rw [run_slice_h W t A n c hu kh j h0 (by omega), hel]
  simp [sizeOf, typeInfo, hi, sliced, Result.andThen, ha]
def KA (k : Nat) (l0 l1 y163 : List S33) : Option Bool := ((dowelbook_Acts.f k l0 l1).bind fun t167 => (if t167 = true then (if 0 ≤ (l1.length : Int) then (if (l1.length : Int) < (y163.length : Int) then ((dowelbook_actsMark.f 77).bind fun bt169 => (if (((rd_T33 y163 (l1.length : Int)).f0) == bt169.1 && (((rd_T33 y163 (l1.length : Int)).f1) == bt169.2.1 && ((((rd_T33 y163 (l1.length : Int)).f2).toList) == bt169.2.2.1.toList && ((((rd_T33 y163 (l1.length : Int)).f3).toList) == bt169.2.2.2.1.toList && ((((rd_T33 y163 (l1.length : Int)).f4.f0) == bt169.2.2.2.2.1 && (((rd_T33 y163 (l1.length : Int)).f4.f1) == bt169.2.2.2.2.2))))))) = true then (if 0 ≤ (wrap64 ((l1.length : Int) + 1)) then (if (wrap64 ((l1.length : Int) + 1)) < (y163.length : Int) then ((dowelbook_actsMore.f 77).bind fun bt176 => (some (((rd_T33 y163 (wrap64 ((l1.length : Int) + 1))).f0) == bt176.1 && (((rd_T33 y163 (wrap64 ((l1.length : Int) + 1))).f1) == bt176.2.1 && ((((rd_T33 y163 (wrap64 ((l1.length : Int) + 1))).f2).toList) == bt176.2.2.1.toList && ((((rd_T33 y163 (wrap64 ((l1.length : Int) + 1))).f3).toList) == bt176.2.2.2.1.toList && ((((rd_T33 y163 (wrap64 ((l1.length : Int) + 1))).f4.f0) == bt176.2.2.2.2.1 && (((rd_T33 y163 (wrap64 ((l1.length : Int) + 1))).f4.f1) == bt176.2.2.2.2.2))))))))) else (none)) else (none)) else (some false))) else (none)) else (none)) else (some false)))
def keptA.T2 : Bool × List (List Nat × List Nat) := (true, [([], []), ([], []), ([0, 1], [0, 1]), ([2, 2], [2]), ([3], [3]), ([3], [3]), ([5, 3], [3, 5]), ([4, 6, 3], [3, 4, 6]), ([7, 3], [3, 7]), ([3, 3], [3]), ([8, 9, 3], [3, 8, 9]), ([3, 10], [3, 10]), ([11, 9], [11]), ([12], [12]), ([12], [12]), ([14, 12], [12, 14]), ([15, 12], [12, 15]), ([13, 16, 12], [12, 13, 16]), ([17, 12], [12, 17]), ([12, 12], [12]), ([18, 19, 12], [12, 18, 19]), ([12, 20], [12, 20]), ([21, 19, 0, 1, 2, 3, 4, 5, 6, 7, 8, 9, 10, 11, 12, 13, 14, 15, 16, 17, 18, 19, 20, 21], [21])])
def keptA.B2 : List Nat := [0, 0, 3, 7, 15, 15, 47, 127, 255, 15, 1023, 2047, 4095, 8191, 8191, 24575, 57343, 131071, 262143, 8191, 1048575, 2097151, 4194303]
theorem keptA.tab2 : rtab .any (opsOf Try.f10 2) = keptA.T2 := by kernel_rfl
theorem keptA.bits2 : waitsOk keptA.T2.2 keptA.B2 = true := by kernel_rfl
set_option maxHeartbeats 8000000 in
set_option maxRecDepth 100000 in
theorem kept_w (k : Nat) (A0 : Option Addr) (c0 : Nat) (l0 : List (S33)) (A1 : Option Addr) (c1 : Nat) (l1 : List (S33)) (y163 : List S33) (r : Bool) (w : World) (hr0 : Kd.C k33 w A0 l0.length l0) (hc0 : l0.length ≤ c0) (hr1 : Kd.C k33 w A1 l1.length l1) (hc1 : l1.length ≤ c1) (hry : Kd.C k33 w A0 y163.length y163) (hcy : y163.length ≤ c0) (hyl : y163.length = l1.length + 2) (hsm : l1.length ≤ 1048576) (hrt : r = true) (h : KA k l0 l1 y163 = some r) :
    Calls Try.prog 10 #[.slice A0 l0.length c0, .slice A1 l1.length c1] w fun e w' => e = .returned (.bool r) ∧ Below w.heap.size w w' := by
  have hu33 := Try.underlying33
  have HR0 := Aside0.mk hr0
  have HC0 := Aside0.mk hc0
  clear hr0 hc0
  have HR1 := Aside0.mk hr1
  have HC1 := Aside0.mk hc1
  clear hr1 hc1
  have HRY := Aside0.mk hry
  clear hry
  have HB := Aside0.mk (Below.refl w.heap.size w)
  have H : ((dowelbook_Acts.f k l0 l1).bind fun t167 => (if t167 = true then (if 0 ≤ (l1.length : Int) then (if (l1.length : Int) < (y163.length : Int) then ((dowelbook_actsMark.f 77).bind fun bt169 => (if (((rd_T33 y163 (l1.length : Int)).f0) == bt169.1 && (((rd_T33 y163 (l1.length : Int)).f1) == bt169.2.1 && ((((rd_T33 y163 (l1.length : Int)).f2).toList) == bt169.2.2.1.toList && ((((rd_T33 y163 (l1.length : Int)).f3).toList) == bt169.2.2.2.1.toList && ((((rd_T33 y163 (l1.length : Int)).f4.f0) == bt169.2.2.2.2.1 && (((rd_T33 y163 (l1.length : Int)).f4.f1) == bt169.2.2.2.2.2))))))) = true then (if 0 ≤ (wrap64 ((l1.length : Int) + 1)) then (if (wrap64 ((l1.length : Int) + 1)) < (y163.length : Int) then ((dowelbook_actsMore.f 77).bind fun bt176 => (some (((rd_T33 y163 (wrap64 ((l1.length : Int) + 1))).f0) == bt176.1 && (((rd_T33 y163 (wrap64 ((l1.length : Int) + 1))).f1) == bt176.2.1 && ((((rd_T33 y163 (wrap64 ((l1.length : Int) + 1))).f2).toList) == bt176.2.2.1.toList && ((((rd_T33 y163 (wrap64 ((l1.length : Int) + 1))).f3).toList) == bt176.2.2.2.1.toList && ((((rd_T33 y163 (wrap64 ((l1.length : Int) + 1))).f4.f0) == bt176.2.2.2.2.1 && (((rd_T33 y163 (wrap64 ((l1.length : Int) + 1))).f4.f1) == bt176.2.2.2.2.2))))))))) else (none)) else (none)) else (some false))) else (none)) else (none)) else (some false))) = some r := h
  clear h
  obtain ⟨ji3, hji3⟩ : ∃ j_ : Int, (wrap64 ((l1.length : Int) + 2)) = j_ := ⟨_, rfl⟩
  have hjy : ji3 = (y163.length : Int) := by rw [← hji3]; unfold wrap64; omega
  have hji3w : (IntKind.i64.wrap ((l1.length : Int) + 2)) = ji3 := (i64_w _).trans hji3
  have c4 : 0 ≤ (ji3) := by omega
  have c4b0 := eq_true c4
  have c4b1 : decide (0 ≤ (ji3)) = true := decide_eq_true c4
  have HYL := Aside0.mk hyl
  clear hyl
  have hcy2 : (ji3) ≤ (c0 : Int) := by omega
  have HCY := Aside0.mk hcy
  have HJY := Aside0.mk hjy
  clear hcy hjy
  replace H := Option.bind_eq_some_iff.mp H
  obtain ⟨t167, A60, H⟩ := H
  replace H : (if t167 = true then (if 0 ≤ (l1.length : Int) then (if (l1.length : Int) < (y163.length : Int) then ((dowelbook_actsMark.f 77).bind fun bt169 => (if (((rd_T33 y163 (l1.length : Int)).f0) == bt169.1 && (((rd_T33 y163 (l1.length : Int)).f1) == bt169.2.1 && ((((rd_T33 y163 (l1.length : Int)).f2).toList) == bt169.2.2.1.toList && ((((rd_T33 y163 (l1.length : Int)).f3).toList) == bt169.2.2.2.1.toList && ((((rd_T33 y163 (l1.length : Int)).f4.f0) == bt169.2.2.2.2.1 && (((rd_T33 y163 (l1.length : Int)).f4.f1) == bt169.2.2.2.2.2))))))) = true then (if 0 ≤ (wrap64 ((l1.length : Int) + 1)) then (if (wrap64 ((l1.length : Int) + 1)) < (y163.length : Int) then ((dowelbook_actsMore.f 77).bind fun bt176 => (some (((rd_T33 y163 (wrap64 ((l1.length : Int) + 1))).f0) == bt176.1 && (((rd_T33 y163 (wrap64 ((l1.length : Int) + 1))).f1) == bt176.2.1 && ((((rd_T33 y163 (wrap64 ((l1.length : Int) + 1))).f2).toList) == bt176.2.2.1.toList && ((((rd_T33 y163 (wrap64 ((l1.length : Int) + 1))).f3).toList) == bt176.2.2.2.1.toList && ((((rd_T33 y163 (wrap64 ((l1.length : Int) + 1))).f4.f0) == bt176.2.2.2.2.1 && (((rd_T33 y163 (wrap64 ((l1.length : Int) + 1))).f4.f1) == bt176.2.2.2.2.2))))))))) else (none)) else (none)) else (some false))) else (none)) else (none)) else (some false)) = some r := H
  have A6 := Aside0.mk A60
  clear A60
  by_cases c7 : t167 = true
  · subst c7
    have H1 : (if 0 ≤ (l1.length : Int) then (if (l1.length : Int) < (y163.length : Int) then ((dowelbook_actsMark.f 77).bind fun bt169 => (if (((rd_T33 y163 (l1.length : Int)).f0) == bt169.1 && (((rd_T33 y163 (l1.length : Int)).f1) == bt169.2.1 && ((((rd_T33 y163 (l1.length : Int)).f2).toList) == bt169.2.2.1.toList && ((((rd_T33 y163 (l1.length : Int)).f3).toList) == bt169.2.2.2.1.toList && ((((rd_T33 y163 (l1.length : Int)).f4.f0) == bt169.2.2.2.2.1 && (((rd_T33 y163 (l1.length : Int)).f4.f1) == bt169.2.2.2.2.2))))))) = true then (if 0 ≤ (wrap64 ((l1.length : Int) + 1)) then (if (wrap64 ((l1.length : Int) + 1)) < (y163.length : Int) then ((dowelbook_actsMore.f 77).bind fun bt176 => (some (((rd_T33 y163 (wrap64 ((l1.length : Int) + 1))).f0) == bt176.1 && (((rd_T33 y163 (wrap64 ((l1.length : Int) + 1))).f1) == bt176.2.1 && ((((rd_T33 y163 (wrap64 ((l1.length : Int) + 1))).f2).toList) == bt176.2.2.1.toList && ((((rd_T33 y163 (wrap64 ((l1.length : Int) + 1))).f3).toList) == bt176.2.2.2.1.toList && ((((rd_T33 y163 (wrap64 ((l1.length : Int) + 1))).f4.f0) == bt176.2.2.2.2.1 && (((rd_T33 y163 (wrap64 ((l1.length : Int) + 1))).f4.f1) == bt176.2.2.2.2.2))))))))) else (none)) else (none)) else (some false))) else (none)) else (none)) = some r := by rw [if_pos rfl] at H; exact H
    clear H
    have H := H1
    clear H1
    by_cases c8 : 0 ≤ (l1.length : Int)
    · rw [if_pos c8] at H
      have c8b0 : decide (0 ≤ (l1.length : Int)) = true := decide_eq_true c8
      have c8b1 : decide (0 ≤ l1.length) = true := decide_eq_true (by omega)
      clear c8
      by_cases c9 : (l1.length : Int) < (y163.length : Int)
      · rw [if_pos c9] at H
        have c9b0 : decide ((l1.length : Int) < (y163.length : Int)) = true := decide_eq_true c9
        have c9b1 : decide (l1.length < y163.length) = true := decide_eq_true (Int.ofNat_lt.mp c9)
        clear c9
        replace H := Option.bind_eq_some_iff.mp H
        obtain ⟨⟨t169, t170, t171, t172, t173, t174⟩, A100, H⟩ := H
        replace H : (if (((rd_T33 y163 (l1.length : Int)).f0) == t169 && (((rd_T33 y163 (l1.length : Int)).f1) == t170 && ((((rd_T33 y163 (l1.length : Int)).f2).toList) == t171.toList && ((((rd_T33 y163 (l1.length : Int)).f3).toList) == t172.toList && ((((rd_T33 y163 (l1.length : Int)).f4.f0) == t173 && (((rd_T33 y163 (l1.length : Int)).f4.f1) == t174))))))) = true then (if 0 ≤ (wrap64 ((l1.length : Int) + 1)) then (if (wrap64 ((l1.length : Int) + 1)) < (y163.length : Int) then ((dowelbook_actsMore.f 77).bind fun bt176 => (some (((rd_T33 y163 (wrap64 ((l1.length : Int) + 1))).f0) == bt176.1 && (((rd_T33 y163 (wrap64 ((l1.length : Int) + 1))).f1) == bt176.2.1 && ((((rd_T33 y163 (wrap64 ((l1.length : Int) + 1))).f2).toList) == bt176.2.2.1.toList && ((((rd_T33 y163 (wrap64 ((l1.length : Int) + 1))).f3).toList) == bt176.2.2.2.1.toList && ((((rd_T33 y163 (wrap64 ((l1.length : Int) + 1))).f4.f0) == bt176.2.2.2.2.1 && (((rd_T33 y163 (wrap64 ((l1.length : Int) + 1))).f4.f1) == bt176.2.2.2.2.2))))))))) else (none)) else (none)) else (some false)) = some r := H
        have A10 := Aside0.mk A100
        clear A100
        by_cases c11 : (((rd_T33 y163 (l1.length : Int)).f0) == t169 && (((rd_T33 y163 (l1.length : Int)).f1) == t170 && ((((rd_T33 y163 (l1.length : Int)).f2).toList) == t171.toList && ((((rd_T33 y163 (l1.length : Int)).f3).toList) == t172.toList && ((((rd_T33 y163 (l1.length : Int)).f4.f0) == t173 && (((rd_T33 y163 (l1.length : Int)).f4.f1) == t174))))))) = true
        · rw [if_pos c11] at H
          have c11b0 : (((rd_T33 y163 (l1.length : Int)).f0) == t169 && (((rd_T33 y163 (l1.length : Int)).f1) == t170 && ((((rd_T33 y163 (l1.length : Int)).f2).toList) == t171.toList && ((((rd_T33 y163 (l1.length : Int)).f3).toList) == t172.toList && ((((rd_T33 y163 (l1.length : Int)).f4.f0) == t173 && (((rd_T33 y163 (l1.length : Int)).f4.f1) == t174))))))) = true := c11
          (try (have c11b1 : decide (((rd_T33 y163 (l1.length : Int)).f0) = t169 && (((rd_T33 y163 (l1.length : Int)).f1) == t170 && ((((rd_T33 y163 (l1.length : Int)).f2).toList) == t171.toList && ((((rd_T33 y163 (l1.length : Int)).f3).toList) == t172.toList && ((((rd_T33 y163 (l1.length : Int)).f4.f0) == t173 && (((rd_T33 y163 (l1.length : Int)).f4.f1) == t174))))))) = true := by simpa using c11))
          (try (have c11b2 : (((rd_T33 y163 (l1.length : Int)).f0) == t169 && (((rd_T33 y163 (l1.length : Int)).f1) == t170 && ((((rd_T33 y163 (l1.length : Int)).f2).toList) == t171.toList && ((((rd_T33 y163 (l1.length : Int)).f3).toList) == t172.toList && ((((rd_T33 y163 (l1.length : Int)).f4.f0) == t173 && (((rd_T33 y163 (l1.length : Int)).f4.f1) == t174))))))) = true := by simpa using c11))
          clear c11
          obtain ⟨ji12, hji12⟩ : ∃ j_ : Int, (wrap64 ((l1.length : Int) + 1)) = j_ := ⟨_, rfl⟩
          replace H : (if 0 ≤ (ji12) then (if (ji12) < (y163.length : Int) then ((dowelbook_actsMore.f 77).bind fun bt176 => (some (((rd_T33 y163 (ji12)).f0) == bt176.1 && (((rd_T33 y163 (ji12)).f1) == bt176.2.1 && ((((rd_T33 y163 (ji12)).f2).toList) == bt176.2.2.1.toList && ((((rd_T33 y163 (ji12)).f3).toList) == bt176.2.2.2.1.toList && ((((rd_T33 y163 (ji12)).f4.f0) == bt176.2.2.2.2.1 && (((rd_T33 y163 (ji12)).f4.f1) == bt176.2.2.2.2.2))))))))) else (none)) else (none)) = some r := by first | (rw [hji12] at H; exact H) | (simp only [hji12] at H ⊢; exact H)
          (try rw [hji12] at A6)
          (try rw [hji12] at A10)
          have hji12w : (IntKind.i64.wrap ((l1.length : Int) + 1)) = ji12 := (i64_w _).trans hji12
          by_cases c13 : 0 ≤ (ji12)
          · rw [if_pos c13] at H
            have c13b0 : decide (0 ≤ (ji12)) = true := decide_eq_true c13
            clear c13
            by_cases c14 : (ji12) < (y163.length : Int)
            · rw [if_pos c14] at H
              have c14b0 : decide ((ji12) < (y163.length : Int)) = true := decide_eq_true c14
              clear c14
              replace H := Option.bind_eq_some_iff.mp H
              obtain ⟨⟨t176, t177, t178, t179, t180, t181⟩, A150, H⟩ := H
              replace H : (some (((rd_T33 y163 (ji12)).f0) == t176 && (((rd_T33 y163 (ji12)).f1) == t177 && ((((rd_T33 y163 (ji12)).f2).toList) == t178.toList && ((((rd_T33 y163 (ji12)).f3).toList) == t179.toList && ((((rd_T33 y163 (ji12)).f4.f0) == t180 && (((rd_T33 y163 (ji12)).f4.f1) == t181)))))))) = some r := H
              have A15 := Aside0.mk A150
              clear A150
              obtain rfl := Option.some.inj H
              obtain ⟨i016, hi016, _, hsz16, _⟩ := info_parts info33
              have hcut16 := cut_cap (P := Try.prog) 22 33 .i64 Try.underlying22 hi016 A0 l0.length c0 (ji3) c4 hcy2 HC0.out
              have hy16 : y163.length = ((ji3) : Int).toNat := by have := HJY.out; omega
              rw [← hy16] at hcut16
              have HR166 := HRY
              have HC166 := HCY
              clear hi016 hsz16
              have KY16 := Aside0.mk hy16
              clear hy16
              go_enter Try.func10, Try.ntmps10
              try go_wp2
              have n0_ := Aside0.mk (below_drew1 HB.out)
              clear HB
              have HB := n0_
              clear n0_
              have p168 : 0 ≤ ((l1.length : Int) : Int) := of_decide_eq_true (by first | (with_reducible assumption) | assumption)
              have q168 : (l1.length : Int) < (y163.length : Int) := of_decide_eq_true (by first | (with_reducible assumption) | assumption)
              obtain ⟨ad168, e168, hx168_0, hx168_1, hx168_2, hx168_3, hx168_4, hx168_5⟩ := at_T33 HR166.out (l1.length : Int) p168 q168
              have hw168_5 := hx168_5
              have hw168_4 := hx168_4
              have hw168_3 := hx168_3
              have hw168_2 := hx168_2
              have hw168_1 := hx168_1
              have hw168_0 := hx168_0
              cases e168
              replace hx168_0 := (HB.out.cell (World.block_lt_of_cell? w _ hx168_0)).trans hx168_0
              replace hx168_1 := (HB.out.cell (World.block_lt_of_cell? w _ hx168_1)).trans hx168_1
              replace hx168_2 := (HB.out.cell (World.block_lt_of_cell? w _ hx168_2)).trans hx168_2
              replace hx168_3 := (HB.out.cell (World.block_lt_of_cell? w _ hx168_3)).trans hx168_3
              replace hx168_4 := (HB.out.cell (World.block_lt_of_cell? w _ hx168_4)).trans hx168_4
              replace hx168_5 := (HB.out.cell (World.block_lt_of_cell? w _ hx168_5)).trans hx168_5
              (try simp only [Go.IntWalk.toNatUp] at hx168_0)
              (try simp only [Go.IntWalk.toNatUp] at hx168_1)
              (try simp only [Go.IntWalk.toNatUp] at hx168_2)
              (try simp only [Go.IntWalk.toNatUp] at hx168_3)
              (try simp only [Go.IntWalk.toNatUp] at hx168_4)
              (try simp only [Go.IntWalk.toNatUp] at hx168_5)
              replace p168 := eq_true p168
              replace q168 := eq_true q168
              have p175 : 0 ≤ ((ji12) : Int) := of_decide_eq_true (by first | (with_reducible assumption) | assumption)
              have q175 : (ji12) < (y163.length : Int) := of_decide_eq_true (by first | (with_reducible assumption) | assumption)
              obtain ⟨ad175, e175, hx175_0, hx175_1, hx175_2, hx175_3, hx175_4, hx175_5⟩ := at_T33 HR166.out (ji12) p175 q175
              have hw175_5 := hx175_5
              have hw175_4 := hx175_4
              have hw175_3 := hx175_3
              have hw175_2 := hx175_2
              have hw175_1 := hx175_1
              have hw175_0 := hx175_0
              obtain rfl : ad168 = ad175 := (by injection e175)
              replace hx175_0 := (HB.out.cell (World.block_lt_of_cell? w _ hx175_0)).trans hx175_0
              replace hx175_1 := (HB.out.cell (World.block_lt_of_cell? w _ hx175_1)).trans hx175_1
              replace hx175_2 := (HB.out.cell (World.block_lt_of_cell? w _ hx175_2)).trans hx175_2
              replace hx175_3 := (HB.out.cell (World.block_lt_of_cell? w _ hx175_3)).trans hx175_3
              replace hx175_4 := (HB.out.cell (World.block_lt_of_cell? w _ hx175_4)).trans hx175_4
              replace hx175_5 := (HB.out.cell (World.block_lt_of_cell? w _ hx175_5)).trans hx175_5
              replace p175 := eq_true p175
              replace q175 := eq_true q175
              refine start_ (n := 23) (S := fun w' => w'.cell? (ad168.add (l1.length * 6)) = some (.int .i64 ((rd_T33 y163 (l1.length : Int)).f0)) ∧ w'.cell? ⟨(ad168.add (l1.length * 6)).block, (ad168.add (l1.length * 6)).off + 1, none⟩ = some (.int .i64 ((rd_T33 y163 (l1.length : Int)).f1)) ∧ w'.cell? ⟨(ad168.add (l1.length * 6)).block, (ad168.add (l1.length * 6)).off + 2, none⟩ = some (.string ((rd_T33 y163 (l1.length : Int)).f2)) ∧ w'.cell? ⟨(ad168.add (l1.length * 6)).block, (ad168.add (l1.length * 6)).off + 3, none⟩ = some (.string ((rd_T33 y163 (l1.length : Int)).f3)) ∧ w'.cell? ⟨(ad168.add (l1.length * 6)).block, (ad168.add (l1.length * 6)).off + 4, none⟩ = some (.int .i64 ((rd_T33 y163 (l1.length : Int)).f4.f0)) ∧ w'.cell? ⟨(ad168.add (l1.length * 6)).block, (ad168.add (l1.length * 6)).off + 5, none⟩ = some (.int .i64 ((rd_T33 y163 (l1.length : Int)).f4.f1)) ∧ w'.cell? (ad168.add (((ji12)).toNat * 6)) = some (.int .i64 ((rd_T33 y163 (ji12)).f0)) ∧ w'.cell? ⟨(ad168.add (((ji12)).toNat * 6)).block, (ad168.add (((ji12)).toNat * 6)).off + 1, none⟩ = some (.int .i64 ((rd_T33 y163 (ji12)).f1)) ∧ w'.cell? ⟨(ad168.add (((ji12)).toNat * 6)).block, (ad168.add (((ji12)).toNat * 6)).off + 2, none⟩ = some (.string ((rd_T33 y163 (ji12)).f2)) ∧ w'.cell? ⟨(ad168.add (((ji12)).toNat * 6)).block, (ad168.add (((ji12)).toNat * 6)).off + 3, none⟩ = some (.string ((rd_T33 y163 (ji12)).f3)) ∧ w'.cell? ⟨(ad168.add (((ji12)).toNat * 6)).block, (ad168.add (((ji12)).toNat * 6)).off + 4, none⟩ = some (.int .i64 ((rd_T33 y163 (ji12)).f4.f0)) ∧ w'.cell? ⟨(ad168.add (((ji12)).toNat * 6)).block, (ad168.add (((ji12)).toNat * 6)).off + 5, none⟩ = some (.int .i64 ((rd_T33 y163 (ji12)).f4.f1))) (ds := []) #[false, false, false, false, false, false, false, false, false, false, false, false, false, false, false, false, false, false, false, false, false, false, false] (by kernel_rfl) rfl rfl ⟨((HB.out.cell (World.block_lt_of_cell? w _ hw168_0)).trans hw168_0), ((HB.out.cell (World.block_lt_of_cell? w _ hw168_1)).trans hw168_1), ((HB.out.cell (World.block_lt_of_cell? w _ hw168_2)).trans hw168_2), ((HB.out.cell (World.block_lt_of_cell? w _ hw168_3)).trans hw168_3), ((HB.out.cell (World.block_lt_of_cell? w _ hw168_4)).trans hw168_4), ((HB.out.cell (World.block_lt_of_cell? w _ hw168_5)).trans hw168_5), ((HB.out.cell (World.block_lt_of_cell? w _ hw175_0)).trans hw175_0), ((HB.out.cell (World.block_lt_of_cell? w _ hw175_1)).trans hw175_1), ((HB.out.cell (World.block_lt_of_cell? w _ hw175_2)).trans hw175_2), ((HB.out.cell (World.block_lt_of_cell? w _ hw175_3)).trans hw175_3), ((HB.out.cell (World.block_lt_of_cell? w _ hw175_4)).trans hw175_4), ((HB.out.cell (World.block_lt_of_cell? w _ hw175_5)).trans hw175_5)⟩ (fun hHeld => ?_); refine with_tabW keptA.tab2 keptA.bits2 (fun HT_ HW_ => ?_)
              generalize w.drew = w17 at HB hx168_0 hx168_1 hx168_2 hx168_3 hx168_4 hx168_5 hx175_0 hx175_1 hx175_2 hx175_3 hx175_4 hx175_5 hHeld ⊢
              refine pure_ (i := 0) (N := some 11) (v := ?_) (a' := ?_) #[true, false, false, false, false, false, false, false, false, false, false, false, false, false, false, false, false, false, false, false, false, false, false] rfl rfl (any_of HT_.out (by kernel_rfl)) (fun _ _ _ h => h) (Or.inl ⟨by rfl, ?_⟩) ?_ ?_
              rotate_left
              · intro w'
                go_simp
                with_reducible rfl
              rotate_left
              · simp only [Act.put, List.setIfInBounds_toArray, List.set_cons_zero, List.set_cons_succ, i64_w, i32_w]
                rfl
              refine pure_ (i := 1) (N := some 12) (v := ?_) (a' := ?_) #[true, true, false, false, false, false, false, false, false, false, false, false, false, false, false, false, false, false, false, false, false, false, false] rfl rfl (any_of HT_.out (by kernel_rfl)) (fun _ _ _ h => h) (Or.inl ⟨by rfl, ?_⟩) ?_ ?_
              rotate_left
              · intro w'
                go_simp
                with_reducible rfl
              rotate_left
              · simp only [Act.put, List.setIfInBounds_toArray, List.set_cons_zero, List.set_cons_succ, i64_w, i32_w]
                rfl
              refine one_ (i := 2) (N := some 13) #[true, true, true, false, false, false, false, false, false, false, false, false, false, false, false, false, false, false, false, false, false, false, false] rfl rfl (one_of HT_.out (by kernel_rfl)) (by decide) (fun K hK => ?_)
              refine goes_ Try.func22 (by kernel_rfl) rfl #[.slice (some ad168) l0.length c0, .slice A1 l1.length c1] (by rfl) rfl rfl (by (try simp only [List.map_toArray, List.map_cons, List.map_nil]); first | done | rfl | (simp only [List.length_drop, List.length_take]; rfl)) ?_
              with_reducible refine (dowelbook_Acts.calls k _ _ l0 _ _ l1 true _ ?side1 ?side2 ?side3 ?side4 A6.out).mono ?_
              (case side1 => repeat (first | exact (Kd.C_below HR0.out HB.out) | (with_reducible refine Kd.C_alloc ?_ _) | (with_reducible refine Kd.C_drewN ?_ _) | (with_reducible refine Kd.C_drew ?_)))
              (case side2 => exact HC0.out)
              (case side3 => repeat (first | exact (Kd.C_below HR1.out HB.out) | (with_reducible refine Kd.C_alloc ?_ _) | (with_reducible refine Kd.C_drewN ?_ _) | (with_reducible refine Kd.C_drew ?_)))
              (case side4 => exact HC1.out)
              rintro e w' ⟨rfl, ⟨nd, rfl⟩⟩
              refine ⟨_, rfl, ?_⟩
              refine hK.out _ _ ⟨((HB.out.cell (World.block_lt_of_cell? w _ hw168_0)).trans hw168_0), ((HB.out.cell (World.block_lt_of_cell? w _ hw168_1)).trans hw168_1), ((HB.out.cell (World.block_lt_of_cell? w _ hw168_2)).trans hw168_2), ((HB.out.cell (World.block_lt_of_cell? w _ hw168_3)).trans hw168_3), ((HB.out.cell (World.block_lt_of_cell? w _ hw168_4)).trans hw168_4), ((HB.out.cell (World.block_lt_of_cell? w _ hw168_5)).trans hw168_5), ((HB.out.cell (World.block_lt_of_cell? w _ hw175_0)).trans hw175_0), ((HB.out.cell (World.block_lt_of_cell? w _ hw175_1)).trans hw175_1), ((HB.out.cell (World.block_lt_of_cell? w _ hw175_2)).trans hw175_2), ((HB.out.cell (World.block_lt_of_cell? w _ hw175_3)).trans hw175_3), ((HB.out.cell (World.block_lt_of_cell? w _ hw175_4)).trans hw175_4), ((HB.out.cell (World.block_lt_of_cell? w _ hw175_5)).trans hw175_5)⟩ (fun hHeld => ?_)
              clear hK K
              refine norm_ (a' := ?_) ?_ ?_
              rotate_left
              · show Act.put _ (some 13) _ = _
                simp only [Act.put, List.setIfInBounds_toArray, List.set_cons_zero, List.set_cons_succ, i64_w, i32_w]
                rfl
              refine pure_ (i := 3) (N := some 14) (v := ?_) (a' := ?_) #[true, true, true, true, false, false, false, false, false, false, false, false, false, false, false, false, false, false, false, false, false, false, false] rfl rfl (any_of HT_.out (by kernel_rfl)) (fun _ _ _ h => h) (Or.inl ⟨by rfl, ?_⟩) ?_ ?_
              rotate_left
              · intro w'
                go_simp
                with_reducible rfl
              rotate_left
              · simp only [Act.put, List.setIfInBounds_toArray, List.set_cons_zero, List.set_cons_succ, i64_w, i32_w]
                rfl
              refine pure_ (i := 4) (N := some 15) (v := ?_) (a' := ?_) #[true, true, true, true, true, false, false, false, false, false, false, false, false, false, false, false, false, false, false, false, false, false, false] rfl rfl (any_of HT_.out (by kernel_rfl)) (fun _ _ _ h => h) (Or.inl ⟨by rfl, ?_⟩) ?_ ?_
              rotate_left
              · intro w'
                go_simp
                with_reducible rfl
              rotate_left
              · simp only [Act.put, List.setIfInBounds_toArray, List.set_cons_zero, List.set_cons_succ, i64_w, i32_w]
                rfl
              refine pure_ (i := 5) (N := some 16) (v := ?_) (a' := ?_) #[true, true, true, true, true, true, false, false, false, false, false, false, false, false, false, false, false, false, false, false, false, false, false] rfl rfl (any_of HT_.out (by kernel_rfl)) (fun _ _ _ h => h) (Or.inl ⟨by rfl, ?_⟩) ?_ ?_
              rotate_left
              · intro w'
                go_simp
                with_reducible rfl
              rotate_left
              · simp only [Act.put, List.setIfInBounds_toArray, List.set_cons_zero, List.set_cons_succ, i64_w, i32_w]
                rfl
              refine pure_ (i := 6) (N := some 17) (v := ?_) (a' := ?_) #[true, true, true, true, true, true, true, false, false, false, false, false, false, false, false, false, false, false, false, false, false, false, false] rfl rfl (any_of HT_.out (by kernel_rfl)) (fun _ _ _ h => h) (Or.inl ⟨by rfl, ?_⟩) ?_ ?_
              rotate_left
              · intro w'
                go_simp
                with_reducible rfl
              rotate_left
              · simp only [Act.put, List.setIfInBounds_toArray, List.set_cons_zero, List.set_cons_succ, i64_w, i32_w]
                rfl
              refine pure_ (i := 7) (N := some 18) (v := ?_) (a' := ?_) #[true, true, true, true, true, true, true, true, false, false, false, false, false, false, false, false, false, false, false, false, false, false, false] rfl rfl (any_of HT_.out (by kernel_rfl)) (fun _ _ _ h => h) (Or.inl ⟨by rfl, ?_⟩) ?_ ?_
              rotate_left
              · intro w'
                go_simp
                with_reducible rfl
              rotate_left
              · simp only [Act.put, List.setIfInBounds_toArray, List.set_cons_zero, List.set_cons_succ, i64_w, i32_w]
                rfl
              refine take_ (i := 8) (N := some 19) (v := ?_) (a' := ?_) #[true, true, true, true, true, true, true, true, true, false, false, false, false, false, false, false, false, false, false, false, false, false, false] rfl rfl (take_ofW HT_.out HW_.out (by kernel_rfl)) (fun _ _ _ h => h) (Or.inl ⟨by rfl, ?_⟩) hHeld ?_ ?_
              rotate_left
              · rintro w' ⟨s0, s1, s2, s3, s4, s5, s6, s7, s8, s9, s10, s11⟩
                go_simp
                with_reducible rfl
              rotate_left
              · simp only [Act.put, List.setIfInBounds_toArray, List.set_cons_zero, List.set_cons_succ, i64_w, i32_w]
                rfl
              refine one_ (i := 9) (N := some 20) #[true, true, true, true, true, true, true, true, true, true, false, false, false, false, false, false, false, false, false, false, false, false, false] rfl rfl (one_of HT_.out (by kernel_rfl)) (by decide) (fun K hK => ?_)
              refine goes_ Try.func16 (by kernel_rfl) rfl #[.int .i64 77] (by rfl) rfl rfl (by (try simp only [List.map_toArray, List.map_cons, List.map_nil]); first | done | rfl | (simp only [List.length_drop, List.length_take]; rfl)) ?_
              with_reducible refine (dowelbook_actsMark.calls 77 t169 t170 t171 t172 t173 t174 _ A10.out).mono ?_
              rintro e w18 ⟨rfl, hb⟩
              refine ⟨_, rfl, ?_⟩
              have n0_ := Aside0.mk (below_step (by repeat (first | (with_reducible first | exact HB.out | apply below_alloc | apply pw_below_drewN | apply below_drew1) | exact HB.out)) hb)
              clear HB
              have HB := n0_
              clear n0_
              (try clear hb)
              (try clear hb2)
              (try clear hk)
              (try clear hi)
              refine hK.out _ _ ⟨((HB.out.cell (World.block_lt_of_cell? w _ hw168_0)).trans hw168_0), ((HB.out.cell (World.block_lt_of_cell? w _ hw168_1)).trans hw168_1), ((HB.out.cell (World.block_lt_of_cell? w _ hw168_2)).trans hw168_2), ((HB.out.cell (World.block_lt_of_cell? w _ hw168_3)).trans hw168_3), ((HB.out.cell (World.block_lt_of_cell? w _ hw168_4)).trans hw168_4), ((HB.out.cell (World.block_lt_of_cell? w _ hw168_5)).trans hw168_5), ((HB.out.cell (World.block_lt_of_cell? w _ hw175_0)).trans hw175_0), ((HB.out.cell (World.block_lt_of_cell? w _ hw175_1)).trans hw175_1), ((HB.out.cell (World.block_lt_of_cell? w _ hw175_2)).trans hw175_2), ((HB.out.cell (World.block_lt_of_cell? w _ hw175_3)).trans hw175_3), ((HB.out.cell (World.block_lt_of_cell? w _ hw175_4)).trans hw175_4), ((HB.out.cell (World.block_lt_of_cell? w _ hw175_5)).trans hw175_5)⟩ (fun hHeld => ?_)
              clear hK K
              refine norm_ (a' := ?_) ?_ ?_
              rotate_left
              · show Act.put _ (some 20) _ = _
                simp only [Act.put, List.setIfInBounds_toArray, List.set_cons_zero, List.set_cons_succ, i64_w, i32_w]
                rfl
              refine pure_ (i := 10) (N := some 21) (v := ?_) (a' := ?_) #[true, true, true, true, true, true, true, true, true, true, true, false, false, false, false, false, false, false, false, false, false, false, false] rfl rfl (any_of HT_.out (by kernel_rfl)) (fun _ _ _ h => h) (Or.inl ⟨by rfl, ?_⟩) ?_ ?_
              rotate_left
              · intro w'
                go_simp
                with_reducible rfl
              rotate_left
              · simp only [Act.put, List.setIfInBounds_toArray, List.set_cons_zero, List.set_cons_succ, i64_w, i32_w]
                rfl
              refine pure_ (i := 11) (N := some 22) (v := ?_) (a' := ?_) #[true, true, true, true, true, true, true, true, true, true, true, true, false, false, false, false, false, false, false, false, false, false, false] rfl rfl (any_of HT_.out (by kernel_rfl)) (fun _ _ _ h => h) (Or.inl ⟨by rfl, ?_⟩) ?_ ?_
              rotate_left
              · intro w'
                go_simp
                with_reducible rfl
              rotate_left
              · simp only [Act.put, List.setIfInBounds_toArray, List.set_cons_zero, List.set_cons_succ, i64_w, i32_w]
                rfl
              refine pure_ (i := 12) (N := some 23) (v := ?_) (a' := ?_) #[true, true, true, true, true, true, true, true, true, true, true, true, true, false, false, false, false, false, false, false, false, false, false] rfl rfl (any_of HT_.out (by kernel_rfl)) (fun _ _ _ h => h) (Or.inl ⟨by rfl, ?_⟩) ?_ ?_
              rotate_left
              · intro w'
                go_simp
                with_reducible rfl
              rotate_left
              · simp only [Act.put, List.setIfInBounds_toArray, List.set_cons_zero, List.set_cons_succ, i64_w, i32_w]
                rfl
              refine pure_ (i := 13) (N := some 24) (v := ?_) (a' := ?_) #[true, true, true, true, true, true, true, true, true, true, true, true, true, true, false, false, false, false, false, false, false, false, false] rfl rfl (any_of HT_.out (by kernel_rfl)) (fun _ _ _ h => h) (Or.inl ⟨by rfl, ?_⟩) ?_ ?_
              rotate_left
              · intro w'
                go_simp
                with_reducible rfl
              rotate_left
              · simp only [Act.put, List.setIfInBounds_toArray, List.set_cons_zero, List.set_cons_succ, i64_w, i32_w]
                rfl
              refine pure_ (i := 14) (N := some 25) (v := ?_) (a' := ?_) #[true, true, true, true, true, true, true, true, true, true, true, true, true, true, true, false, false, false, false, false, false, false, false] rfl rfl (any_of HT_.out (by kernel_rfl)) (fun _ _ _ h => h) (Or.inl ⟨by rfl, ?_⟩) ?_ ?_
              rotate_left
              · intro w'
                go_simp
                with_reducible rfl
              rotate_left
              · simp only [Act.put, List.setIfInBounds_toArray, List.set_cons_zero, List.set_cons_succ, i64_w, i32_w]
                rfl
              refine pure_ (i := 15) (N := some 26) (v := ?_) (a' := ?_) #[true, true, true, true, true, true, true, true, true, true, true, true, true, true, true, true, false, false, false, false, false, false, false] rfl rfl (any_of HT_.out (by kernel_rfl)) (fun _ _ _ h => h) (Or.inl ⟨by rfl, ?_⟩) ?_ ?_
              rotate_left
              · intro w'
                go_simp
                with_reducible rfl
              rotate_left
              · simp only [Act.put, List.setIfInBounds_toArray, List.set_cons_zero, List.set_cons_succ, i64_w, i32_w]
                rfl
              refine pure_ (i := 16) (N := some 27) (v := ?_) (a' := ?_) #[true, true, true, true, true, true, true, true, true, true, true, true, true, true, true, true, true, false, false, false, false, false, false] rfl rfl (any_of HT_.out (by kernel_rfl)) (fun _ _ _ h => h) (Or.inl ⟨by rfl, ?_⟩) ?_ ?_
              rotate_left
              · intro w'
                go_simp
                with_reducible rfl
              rotate_left
              · simp only [Act.put, List.setIfInBounds_toArray, List.set_cons_zero, List.set_cons_succ, i64_w, i32_w]
                rfl
              refine pure_ (i := 17) (N := some 28) (v := ?_) (a' := ?_) #[true, true, true, true, true, true, true, true, true, true, true, true, true, true, true, true, true, true, false, false, false, false, false] rfl rfl (any_of HT_.out (by kernel_rfl)) (fun _ _ _ h => h) (Or.inl ⟨by rfl, ?_⟩) ?_ ?_
              rotate_left
              · intro w'
                go_simp
                with_reducible rfl
              rotate_left
              · simp only [Act.put, List.setIfInBounds_toArray, List.set_cons_zero, List.set_cons_succ, i64_w, i32_w]
                rfl
              refine take_ (i := 18) (N := some 29) (v := ?_) (a' := ?_) #[true, true, true, true, true, true, true, true, true, true, true, true, true, true, true, true, true, true, true, false, false, false, false] rfl rfl (take_ofW HT_.out HW_.out (by kernel_rfl)) (fun _ _ _ h => h) (Or.inl ⟨by rfl, ?_⟩) hHeld ?_ ?_
              rotate_left
              · rintro w' ⟨s0, s1, s2, s3, s4, s5, s6, s7, s8, s9, s10, s11⟩
                go_simp
                with_reducible rfl
              rotate_left
              · simp only [Act.put, List.setIfInBounds_toArray, List.set_cons_zero, List.set_cons_succ, i64_w, i32_w]
                rfl
              refine one_ (i := 19) (N := some 30) #[true, true, true, true, true, true, true, true, true, true, true, true, true, true, true, true, true, true, true, true, false, false, false] rfl rfl (one_of HT_.out (by kernel_rfl)) (by decide) (fun K hK => ?_)
              refine goes_ Try.func17 (by kernel_rfl) rfl #[.int .i64 77] (by rfl) rfl rfl (by (try simp only [List.map_toArray, List.map_cons, List.map_nil]); first | done | rfl | (simp only [List.length_drop, List.length_take]; rfl)) ?_
              with_reducible refine (dowelbook_actsMore.calls 77 t176 t177 t178 t179 t180 t181 _ A15.out).mono ?_
              rintro e w19 ⟨rfl, hb⟩
              refine ⟨_, rfl, ?_⟩
              have n0_ := Aside0.mk (below_step (by repeat (first | (with_reducible first | exact HB.out | apply below_alloc | apply pw_below_drewN | apply below_drew1) | exact HB.out)) hb)
              clear HB
              have HB := n0_
              clear n0_
              (try clear hb)
              (try clear hb2)
              (try clear hk)
              (try clear hi)
              refine hK.out _ _ ⟨((HB.out.cell (World.block_lt_of_cell? w _ hw168_0)).trans hw168_0), ((HB.out.cell (World.block_lt_of_cell? w _ hw168_1)).trans hw168_1), ((HB.out.cell (World.block_lt_of_cell? w _ hw168_2)).trans hw168_2), ((HB.out.cell (World.block_lt_of_cell? w _ hw168_3)).trans hw168_3), ((HB.out.cell (World.block_lt_of_cell? w _ hw168_4)).trans hw168_4), ((HB.out.cell (World.block_lt_of_cell? w _ hw168_5)).trans hw168_5), ((HB.out.cell (World.block_lt_of_cell? w _ hw175_0)).trans hw175_0), ((HB.out.cell (World.block_lt_of_cell? w _ hw175_1)).trans hw175_1), ((HB.out.cell (World.block_lt_of_cell? w _ hw175_2)).trans hw175_2), ((HB.out.cell (World.block_lt_of_cell? w _ hw175_3)).trans hw175_3), ((HB.out.cell (World.block_lt_of_cell? w _ hw175_4)).trans hw175_4), ((HB.out.cell (World.block_lt_of_cell? w _ hw175_5)).trans hw175_5)⟩ (fun hHeld => ?_)
              clear hK K
              refine norm_ (a' := ?_) ?_ ?_
              rotate_left
              · show Act.put _ (some 30) _ = _
                simp only [Act.put, List.setIfInBounds_toArray, List.set_cons_zero, List.set_cons_succ, i64_w, i32_w]
                rfl
              refine pure_ (i := 20) (N := some 31) (v := ?_) (a' := ?_) #[true, true, true, true, true, true, true, true, true, true, true, true, true, true, true, true, true, true, true, true, true, false, false] rfl rfl (any_of HT_.out (by kernel_rfl)) (fun _ _ _ h => h) (Or.inl ⟨by rfl, ?_⟩) ?_ ?_
              rotate_left
              · intro w'
                go_simp
                with_reducible rfl
              rotate_left
              · simp only [Act.put, List.setIfInBounds_toArray, List.set_cons_zero, List.set_cons_succ, i64_w, i32_w]
                rfl
              refine pure_ (i := 21) (N := some 32) (v := ?_) (a' := ?_) #[true, true, true, true, true, true, true, true, true, true, true, true, true, true, true, true, true, true, true, true, true, true, false] rfl rfl (any_of HT_.out (by kernel_rfl)) (fun _ _ _ h => h) (Or.inl ⟨by rfl, ?_⟩) ?_ ?_
              rotate_left
              · intro w'
                go_simp
                with_reducible rfl
              rotate_left
              · simp only [Act.put, List.setIfInBounds_toArray, List.set_cons_zero, List.set_cons_succ, i64_w, i32_w]
                rfl
              refine pure_ (i := 22) (N := some 4) (v := ?_) (a' := ?_) #[true, true, true, true, true, true, true, true, true, true, true, true, true, true, true, true, true, true, true, true, true, true, true] rfl rfl (any_of HT_.out (by kernel_rfl)) (fun _ _ _ h => h) (Or.inl ⟨by rfl, ?_⟩) ?_ ?_
              rotate_left
              · intro w'
                go_simp
                with_reducible rfl
              rotate_left
              · simp only [Act.put, List.setIfInBounds_toArray, List.set_cons_zero, List.set_cons_succ, i64_w, i32_w]
                rfl
              refine done_ (done_of HT_.out (by kernel_rfl)) ?_
              try go_wp2
              go_ret
              exact ⟨by first | rfl | (simp [errW_none, errW_some] <;> rfl) | (simp only [← hji3, ← hji12]; first | rfl | (simp [errW_none, errW_some] <;> rfl)) | (simp [*, errW_none, errW_some] <;> rfl), by repeat (first | (with_reducible first | exact HB.out | apply below_alloc | apply pw_below_drewN | apply below_drew1) | exact HB.out)⟩
            · rw [if_neg c14] at H
              subst hrt
              exact absurd H (by simp)
          · rw [if_neg c13] at H
            subst hrt
            exact absurd H (by simp)
        · rw [if_neg c11] at H
          subst hrt
          exact absurd H (by simp)
      · rw [if_neg c9] at H
        subst hrt
        exact absurd H (by simp)
    · rw [if_neg c8] at H
      subst hrt
      exact absurd H (by simp)
  · rw [if_neg c7] at H
    subst hrt
    exact absurd H (by simp)
end Go.Proofs.Ytodfooniahifeaa.PActionParts

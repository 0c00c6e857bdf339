import Derived.Test.YtflkgoggnomehaaZ3
import Derived.Test.YtflkgoggnomehaaZ17
import Derived.Test.YtflkgoggnomehaaZ19
import Derived.Test.YtflkgoggnomehaaZ24
namespace Go.Proofs.Ytflkgoggnomehaa.P
open Go.RowKit Go.Proofs.YtflkgoggnomehaaW.PrintWords Go.Proofs.YtflkgoggnomehaaW.PrintLast Go.Proofs.YtflkgoggnomehaaW.PrintMore
set_option linter.unusedVariables false
set_option linter.unusedSimpArgs false
attribute [local go_sem high] eqA45
def KA (k : Nat) (l0 l1 y108 : List S45) : Option Bool := ((dowelbook_Parts.f k l0 l1).bind fun t112 => (if t112 = true then (if 0 ≤ (l1.length : Int) then (if (l1.length : Int) < (y108.length : Int) then ((dowelbook_partsMark.f 77).bind fun bt114 => (if (((Q13 y108 (l1.length : Int)).f0) == bt114.1 && ((((Q13 y108 (l1.length : Int)).f1.f0) == bt114.2.1 && (((Q13 y108 (l1.length : Int)).f1.f1) == bt114.2.2.1 && (((Q13 y108 (l1.length : Int)).f1.f2) == bt114.2.2.2.1 && (((Q13 y108 (l1.length : Int)).f1.f3) == bt114.2.2.2.2)))))) = true then (if 0 ≤ (wrap64 ((l1.length : Int) + 1)) then (if (wrap64 ((l1.length : Int) + 1)) < (y108.length : Int) then ((dowelbook_partsMore.f 77).bind fun bt120 => (some (((Q13 y108 (wrap64 ((l1.length : Int) + 1))).f0) == bt120.1 && ((((Q13 y108 (wrap64 ((l1.length : Int) + 1))).f1.f0) == bt120.2.1 && (((Q13 y108 (wrap64 ((l1.length : Int) + 1))).f1.f1) == bt120.2.2.1 && (((Q13 y108 (wrap64 ((l1.length : Int) + 1))).f1.f2) == bt120.2.2.2.1 && (((Q13 y108 (wrap64 ((l1.length : Int) + 1))).f1.f3) == bt120.2.2.2.2)))))))) else (none)) else (none)) else (some false))) else (none)) else (none)) else (some false)))
def keptA.T2 : Bool × List (List Nat × List Nat) := (true, [([], []), ([], []), ([0, 1], [0, 1]), ([2, 2], [2]), ([3], [3]), ([3], [3]), ([5, 3], [3, 5]), ([4, 6, 3], [3, 4, 6]), ([7, 3], [3, 7]), ([3, 3], [3]), ([8, 9, 3], [3, 8, 9]), ([3, 10], [3, 10]), ([11, 9], [11]), ([12], [12]), ([12], [12]), ([14, 12], [12, 14]), ([15, 12], [12, 15]), ([13, 16, 12], [12, 13, 16]), ([17, 12], [12, 17]), ([12, 12], [12]), ([18, 19, 12], [12, 18, 19]), ([12, 20], [12, 20]), ([21, 19, 0, 1, 2, 3, 4, 5, 6, 7, 8, 9, 10, 11, 12, 13, 14, 15, 16, 17, 18, 19, 20, 21], [21])])
def keptA.B2 : List Nat := [0, 0, 3, 7, 15, 15, 47, 127, 255, 15, 1023, 2047, 4095, 8191, 8191, 24575, 57343, 131071, 262143, 8191, 1048575, 2097151, 4194303]
theorem keptA.tab2 : rtab .any (opsOf Try.f16 2) = keptA.T2 := by kernel_rfl
theorem keptA.bits2 : waitsOk keptA.T2.2 keptA.B2 = true := by kernel_rfl
set_option maxHeartbeats 8000000 in
set_option maxRecDepth 100000 in
theorem kept_w (k : Nat) (A0 : Option Addr) (c0 : Nat) (l0 : List (S45)) (A1 : Option Addr) (c1 : Nat) (l1 : List (S45)) (y108 : List S45) (r : Bool) (w : World) (hr0 : Kd.C k45 w A0 l0.length l0) (hc0 : l0.length ≤ c0) (hr1 : Kd.C k45 w A1 l1.length l1) (hc1 : l1.length ≤ c1) (hry : Kd.C k45 w A0 y108.length y108) (hcy : y108.length ≤ c0) (hyl : y108.length = l1.length + 2) (hsm : l1.length ≤ 1048576) (hrt : r = true) (h : KA k l0 l1 y108 = some r) :
    Calls Try.prog 16 #[.slice A0 l0.length c0, .slice A1 l1.length c1] w fun e w' => e = .returned (.bool r) ∧ Below w.heap.size w w' := by
  have hu45 := Try.underlying45
  have HR0 := Aside0.mk hr0
  have HC0 := Aside0.mk hc0
  clear hr0 hc0
  have HR1 := Aside0.mk hr1
  have HC1 := Aside0.mk hc1
  clear hr1 hc1
  have HRY := Aside0.mk hry
  clear hry
  have HB := Aside0.mk (Below.refl w.heap.size w)
  have H : ((dowelbook_Parts.f k l0 l1).bind fun t112 => (if t112 = true then (if 0 ≤ (l1.length : Int) then (if (l1.length : Int) < (y108.length : Int) then ((dowelbook_partsMark.f 77).bind fun bt114 => (if (((Q13 y108 (l1.length : Int)).f0) == bt114.1 && ((((Q13 y108 (l1.length : Int)).f1.f0) == bt114.2.1 && (((Q13 y108 (l1.length : Int)).f1.f1) == bt114.2.2.1 && (((Q13 y108 (l1.length : Int)).f1.f2) == bt114.2.2.2.1 && (((Q13 y108 (l1.length : Int)).f1.f3) == bt114.2.2.2.2)))))) = true then (if 0 ≤ (wrap64 ((l1.length : Int) + 1)) then (if (wrap64 ((l1.length : Int) + 1)) < (y108.length : Int) then ((dowelbook_partsMore.f 77).bind fun bt120 => (some (((Q13 y108 (wrap64 ((l1.length : Int) + 1))).f0) == bt120.1 && ((((Q13 y108 (wrap64 ((l1.length : Int) + 1))).f1.f0) == bt120.2.1 && (((Q13 y108 (wrap64 ((l1.length : Int) + 1))).f1.f1) == bt120.2.2.1 && (((Q13 y108 (wrap64 ((l1.length : Int) + 1))).f1.f2) == bt120.2.2.2.1 && (((Q13 y108 (wrap64 ((l1.length : Int) + 1))).f1.f3) == bt120.2.2.2.2)))))))) else (none)) else (none)) else (some false))) else (none)) else (none)) else (some false))) = some r := h
  clear h
  obtain ⟨ji3, hji3⟩ : ∃ j_ : Int, (wrap64 ((l1.length : Int) + 2)) = j_ := ⟨_, rfl⟩
  have hjy : ji3 = (y108.length : Int) := by rw [← hji3]; unfold wrap64; omega
  have hji3w : (IntKind.i64.wrap ((l1.length : Int) + 2)) = ji3 := (i64_w _).trans hji3
  have c4 : 0 ≤ (ji3) := by omega
  have c4b0 := eq_true c4
  have c4b1 : decide (0 ≤ (ji3)) = true := decide_eq_true c4
  have HYL := Aside0.mk hyl
  clear hyl
  have hcy2 : (ji3) ≤ (c0 : Int) := by omega
  have HCY := Aside0.mk hcy
  have HJY := Aside0.mk hjy
  clear hcy hjy
  replace H := Option.bind_eq_some_iff.mp H
  obtain ⟨t112, A60, H⟩ := H
  replace H : (if t112 = true then (if 0 ≤ (l1.length : Int) then (if (l1.length : Int) < (y108.length : Int) then ((dowelbook_partsMark.f 77).bind fun bt114 => (if (((Q13 y108 (l1.length : Int)).f0) == bt114.1 && ((((Q13 y108 (l1.length : Int)).f1.f0) == bt114.2.1 && (((Q13 y108 (l1.length : Int)).f1.f1) == bt114.2.2.1 && (((Q13 y108 (l1.length : Int)).f1.f2) == bt114.2.2.2.1 && (((Q13 y108 (l1.length : Int)).f1.f3) == bt114.2.2.2.2)))))) = true then (if 0 ≤ (wrap64 ((l1.length : Int) + 1)) then (if (wrap64 ((l1.length : Int) + 1)) < (y108.length : Int) then ((dowelbook_partsMore.f 77).bind fun bt120 => (some (((Q13 y108 (wrap64 ((l1.length : Int) + 1))).f0) == bt120.1 && ((((Q13 y108 (wrap64 ((l1.length : Int) + 1))).f1.f0) == bt120.2.1 && (((Q13 y108 (wrap64 ((l1.length : Int) + 1))).f1.f1) == bt120.2.2.1 && (((Q13 y108 (wrap64 ((l1.length : Int) + 1))).f1.f2) == bt120.2.2.2.1 && (((Q13 y108 (wrap64 ((l1.length : Int) + 1))).f1.f3) == bt120.2.2.2.2)))))))) else (none)) else (none)) else (some false))) else (none)) else (none)) else (some false)) = some r := H
  have A6 := Aside0.mk A60
  clear A60
  by_cases c7 : t112 = true
  · subst c7
    have H1 : (if 0 ≤ (l1.length : Int) then (if (l1.length : Int) < (y108.length : Int) then ((dowelbook_partsMark.f 77).bind fun bt114 => (if (((Q13 y108 (l1.length : Int)).f0) == bt114.1 && ((((Q13 y108 (l1.length : Int)).f1.f0) == bt114.2.1 && (((Q13 y108 (l1.length : Int)).f1.f1) == bt114.2.2.1 && (((Q13 y108 (l1.length : Int)).f1.f2) == bt114.2.2.2.1 && (((Q13 y108 (l1.length : Int)).f1.f3) == bt114.2.2.2.2)))))) = true then (if 0 ≤ (wrap64 ((l1.length : Int) + 1)) then (if (wrap64 ((l1.length : Int) + 1)) < (y108.length : Int) then ((dowelbook_partsMore.f 77).bind fun bt120 => (some (((Q13 y108 (wrap64 ((l1.length : Int) + 1))).f0) == bt120.1 && ((((Q13 y108 (wrap64 ((l1.length : Int) + 1))).f1.f0) == bt120.2.1 && (((Q13 y108 (wrap64 ((l1.length : Int) + 1))).f1.f1) == bt120.2.2.1 && (((Q13 y108 (wrap64 ((l1.length : Int) + 1))).f1.f2) == bt120.2.2.2.1 && (((Q13 y108 (wrap64 ((l1.length : Int) + 1))).f1.f3) == bt120.2.2.2.2)))))))) else (none)) else (none)) else (some false))) else (none)) else (none)) = some r := by rw [if_pos rfl] at H; exact H
    clear H
    have H := H1
    clear H1
    by_cases c8 : 0 ≤ (l1.length : Int)
    · rw [if_pos c8] at H
      have c8b0 : decide (0 ≤ (l1.length : Int)) = true := decide_eq_true c8
      have c8b1 : decide (0 ≤ l1.length) = true := decide_eq_true (by omega)
      clear c8
      by_cases c9 : (l1.length : Int) < (y108.length : Int)
      · rw [if_pos c9] at H
        have c9b0 : decide ((l1.length : Int) < (y108.length : Int)) = true := decide_eq_true c9
        have c9b1 : decide (l1.length < y108.length) = true := decide_eq_true (Int.ofNat_lt.mp c9)
        clear c9
        replace H := Option.bind_eq_some_iff.mp H
        obtain ⟨⟨t114, t115, t116, t117, t118⟩, A100, H⟩ := H
        replace H : (if (((Q13 y108 (l1.length : Int)).f0) == t114 && ((((Q13 y108 (l1.length : Int)).f1.f0) == t115 && (((Q13 y108 (l1.length : Int)).f1.f1) == t116 && (((Q13 y108 (l1.length : Int)).f1.f2) == t117 && (((Q13 y108 (l1.length : Int)).f1.f3) == t118)))))) = true then (if 0 ≤ (wrap64 ((l1.length : Int) + 1)) then (if (wrap64 ((l1.length : Int) + 1)) < (y108.length : Int) then ((dowelbook_partsMore.f 77).bind fun bt120 => (some (((Q13 y108 (wrap64 ((l1.length : Int) + 1))).f0) == bt120.1 && ((((Q13 y108 (wrap64 ((l1.length : Int) + 1))).f1.f0) == bt120.2.1 && (((Q13 y108 (wrap64 ((l1.length : Int) + 1))).f1.f1) == bt120.2.2.1 && (((Q13 y108 (wrap64 ((l1.length : Int) + 1))).f1.f2) == bt120.2.2.2.1 && (((Q13 y108 (wrap64 ((l1.length : Int) + 1))).f1.f3) == bt120.2.2.2.2)))))))) else (none)) else (none)) else (some false)) = some r := H
        have A10 := Aside0.mk A100
        clear A100
        by_cases c11 : (((Q13 y108 (l1.length : Int)).f0) == t114 && ((((Q13 y108 (l1.length : Int)).f1.f0) == t115 && (((Q13 y108 (l1.length : Int)).f1.f1) == t116 && (((Q13 y108 (l1.length : Int)).f1.f2) == t117 && (((Q13 y108 (l1.length : Int)).f1.f3) == t118)))))) = true
        · rw [if_pos c11] at H
          have c11b0 : (((Q13 y108 (l1.length : Int)).f0) == t114 && ((((Q13 y108 (l1.length : Int)).f1.f0) == t115 && (((Q13 y108 (l1.length : Int)).f1.f1) == t116 && (((Q13 y108 (l1.length : Int)).f1.f2) == t117 && (((Q13 y108 (l1.length : Int)).f1.f3) == t118)))))) = true := c11
          (try (have c11b1 : decide (((Q13 y108 (l1.length : Int)).f0) = t114 && ((((Q13 y108 (l1.length : Int)).f1.f0) == t115 && (((Q13 y108 (l1.length : Int)).f1.f1) == t116 && (((Q13 y108 (l1.length : Int)).f1.f2) == t117 && (((Q13 y108 (l1.length : Int)).f1.f3) == t118)))))) = true := by simpa using c11))
          (try (have c11b2 : (((Q13 y108 (l1.length : Int)).f0) == t114 && ((((Q13 y108 (l1.length : Int)).f1.f0) == t115 && (((Q13 y108 (l1.length : Int)).f1.f1) == t116 && (((Q13 y108 (l1.length : Int)).f1.f2) == t117 && (((Q13 y108 (l1.length : Int)).f1.f3) == t118)))))) = true := by simpa using c11))
          clear c11
          obtain ⟨ji12, hji12⟩ : ∃ j_ : Int, (wrap64 ((l1.length : Int) + 1)) = j_ := ⟨_, rfl⟩
          replace H : (if 0 ≤ (ji12) then (if (ji12) < (y108.length : Int) then ((dowelbook_partsMore.f 77).bind fun bt120 => (some (((Q13 y108 (ji12)).f0) == bt120.1 && ((((Q13 y108 (ji12)).f1.f0) == bt120.2.1 && (((Q13 y108 (ji12)).f1.f1) == bt120.2.2.1 && (((Q13 y108 (ji12)).f1.f2) == bt120.2.2.2.1 && (((Q13 y108 (ji12)).f1.f3) == bt120.2.2.2.2)))))))) else (none)) else (none)) = some r := by first | (rw [hji12] at H; exact H) | (simp only [hji12] at H ⊢; exact H)
          (try rw [hji12] at A6)
          (try rw [hji12] at A10)
          have hji12w : (IntKind.i64.wrap ((l1.length : Int) + 1)) = ji12 := (i64_w _).trans hji12
          by_cases c13 : 0 ≤ (ji12)
          · rw [if_pos c13] at H
            have c13b0 : decide (0 ≤ (ji12)) = true := decide_eq_true c13
            clear c13
            by_cases c14 : (ji12) < (y108.length : Int)
            · rw [if_pos c14] at H
              have c14b0 : decide ((ji12) < (y108.length : Int)) = true := decide_eq_true c14
              clear c14
              replace H := Option.bind_eq_some_iff.mp H
              obtain ⟨⟨t120, t121, t122, t123, t124⟩, A150, H⟩ := H
              replace H : (some (((Q13 y108 (ji12)).f0) == t120 && ((((Q13 y108 (ji12)).f1.f0) == t121 && (((Q13 y108 (ji12)).f1.f1) == t122 && (((Q13 y108 (ji12)).f1.f2) == t123 && (((Q13 y108 (ji12)).f1.f3) == t124))))))) = some r := H
              have A15 := Aside0.mk A150
              clear A150
              obtain rfl := Option.some.inj H
              obtain ⟨i016, hi016, _, hsz16, _⟩ := info_parts info45
              have hcut16 := cut_cap (P := Try.prog) 23 45 .i64 Try.underlying23 hi016 A0 l0.length c0 (ji3) c4 hcy2 HC0.out
              have hy16 : y108.length = ((ji3) : Int).toNat := by have := HJY.out; omega
              rw [← hy16] at hcut16
              have HR111 := HRY
              have HC111 := HCY
              clear hi016 hsz16
              have KY16 := Aside0.mk hy16
              clear hy16
              go_enter Try.func16, Try.ntmps16
              try go_wp2
              have n0_ := Aside0.mk (Q8 HB.out)
              clear HB
              have HB := n0_
              clear n0_
              have p113 : 0 ≤ ((l1.length : Int) : Int) := of_decide_eq_true (by first | (with_reducible assumption) | assumption)
              have q113 : (l1.length : Int) < (y108.length : Int) := of_decide_eq_true (by first | (with_reducible assumption) | assumption)
              obtain ⟨ad113, e113, hx113_0, hx113_1, hx113_2, hx113_3, hx113_4⟩ := at_T45 HR111.out (l1.length : Int) p113 q113
              have hw113_4 := hx113_4
              have hw113_3 := hx113_3
              have hw113_2 := hx113_2
              have hw113_1 := hx113_1
              have hw113_0 := hx113_0
              cases e113
              replace hx113_0 := (HB.out.cell (World.block_lt_of_cell? w _ hx113_0)).trans hx113_0
              replace hx113_1 := (HB.out.cell (World.block_lt_of_cell? w _ hx113_1)).trans hx113_1
              replace hx113_2 := (HB.out.cell (World.block_lt_of_cell? w _ hx113_2)).trans hx113_2
              replace hx113_3 := (HB.out.cell (World.block_lt_of_cell? w _ hx113_3)).trans hx113_3
              replace hx113_4 := (HB.out.cell (World.block_lt_of_cell? w _ hx113_4)).trans hx113_4
              (try simp only [Go.IntWalk.toNatUp] at hx113_0)
              (try simp only [Go.IntWalk.toNatUp] at hx113_1)
              (try simp only [Go.IntWalk.toNatUp] at hx113_2)
              (try simp only [Go.IntWalk.toNatUp] at hx113_3)
              (try simp only [Go.IntWalk.toNatUp] at hx113_4)
              replace p113 := eq_true p113
              replace q113 := eq_true q113
              have p119 : 0 ≤ ((ji12) : Int) := of_decide_eq_true (by first | (with_reducible assumption) | assumption)
              have q119 : (ji12) < (y108.length : Int) := of_decide_eq_true (by first | (with_reducible assumption) | assumption)
              obtain ⟨ad119, e119, hx119_0, hx119_1, hx119_2, hx119_3, hx119_4⟩ := at_T45 HR111.out (ji12) p119 q119
              have hw119_4 := hx119_4
              have hw119_3 := hx119_3
              have hw119_2 := hx119_2
              have hw119_1 := hx119_1
              have hw119_0 := hx119_0
              obtain rfl : ad113 = ad119 := (by injection e119)
              replace hx119_0 := (HB.out.cell (World.block_lt_of_cell? w _ hx119_0)).trans hx119_0
              replace hx119_1 := (HB.out.cell (World.block_lt_of_cell? w _ hx119_1)).trans hx119_1
              replace hx119_2 := (HB.out.cell (World.block_lt_of_cell? w _ hx119_2)).trans hx119_2
              replace hx119_3 := (HB.out.cell (World.block_lt_of_cell? w _ hx119_3)).trans hx119_3
              replace hx119_4 := (HB.out.cell (World.block_lt_of_cell? w _ hx119_4)).trans hx119_4
              replace p119 := eq_true p119
              replace q119 := eq_true q119
              refine start_ (n := 23) (S := fun w' => w'.cell? (ad113.add (l1.length * 5)) = some (.int .i64 ((Q13 y108 (l1.length : Int)).f0)) ∧ w'.cell? ⟨(ad113.add (l1.length * 5)).block, (ad113.add (l1.length * 5)).off + 1, none⟩ = some (.int .u64 ((Q13 y108 (l1.length : Int)).f1.f0)) ∧ w'.cell? ⟨(ad113.add (l1.length * 5)).block, (ad113.add (l1.length * 5)).off + 2, none⟩ = some (.int .u64 ((Q13 y108 (l1.length : Int)).f1.f1)) ∧ w'.cell? ⟨(ad113.add (l1.length * 5)).block, (ad113.add (l1.length * 5)).off + 3, none⟩ = some (.int .u64 ((Q13 y108 (l1.length : Int)).f1.f2)) ∧ w'.cell? ⟨(ad113.add (l1.length * 5)).block, (ad113.add (l1.length * 5)).off + 4, none⟩ = some (.int .u64 ((Q13 y108 (l1.length : Int)).f1.f3)) ∧ w'.cell? (ad113.add (((ji12)).toNat * 5)) = some (.int .i64 ((Q13 y108 (ji12)).f0)) ∧ w'.cell? ⟨(ad113.add (((ji12)).toNat * 5)).block, (ad113.add (((ji12)).toNat * 5)).off + 1, none⟩ = some (.int .u64 ((Q13 y108 (ji12)).f1.f0)) ∧ w'.cell? ⟨(ad113.add (((ji12)).toNat * 5)).block, (ad113.add (((ji12)).toNat * 5)).off + 2, none⟩ = some (.int .u64 ((Q13 y108 (ji12)).f1.f1)) ∧ w'.cell? ⟨(ad113.add (((ji12)).toNat * 5)).block, (ad113.add (((ji12)).toNat * 5)).off + 3, none⟩ = some (.int .u64 ((Q13 y108 (ji12)).f1.f2)) ∧ w'.cell? ⟨(ad113.add (((ji12)).toNat * 5)).block, (ad113.add (((ji12)).toNat * 5)).off + 4, none⟩ = some (.int .u64 ((Q13 y108 (ji12)).f1.f3))) (ds := []) #[false, false, false, false, false, false, false, false, false, false, false, false, false, false, false, false, false, false, false, false, false, false, false] (by kernel_rfl) rfl rfl ⟨((HB.out.cell (World.block_lt_of_cell? w _ hw113_0)).trans hw113_0), ((HB.out.cell (World.block_lt_of_cell? w _ hw113_1)).trans hw113_1), ((HB.out.cell (World.block_lt_of_cell? w _ hw113_2)).trans hw113_2), ((HB.out.cell (World.block_lt_of_cell? w _ hw113_3)).trans hw113_3), ((HB.out.cell (World.block_lt_of_cell? w _ hw113_4)).trans hw113_4), ((HB.out.cell (World.block_lt_of_cell? w _ hw119_0)).trans hw119_0), ((HB.out.cell (World.block_lt_of_cell? w _ hw119_1)).trans hw119_1), ((HB.out.cell (World.block_lt_of_cell? w _ hw119_2)).trans hw119_2), ((HB.out.cell (World.block_lt_of_cell? w _ hw119_3)).trans hw119_3), ((HB.out.cell (World.block_lt_of_cell? w _ hw119_4)).trans hw119_4)⟩ (fun hHeld => ?_); refine with_tabW keptA.tab2 keptA.bits2 (fun HT_ HW_ => ?_)
              generalize w.drew = w17 at HB hx113_0 hx113_1 hx113_2 hx113_3 hx113_4 hx119_0 hx119_1 hx119_2 hx119_3 hx119_4 hHeld ⊢
              refine Q26 (i := 0) (N := some 11) (v := ?_) (a' := ?_) #[true, false, false, false, false, false, false, false, false, false, false, false, false, false, false, false, false, false, false, false, false, false, false] rfl rfl (any_of HT_.out (by kernel_rfl)) (fun _ _ _ h => h) (Or.inl ⟨by rfl, ?_⟩) ?_ ?_
              rotate_left
              · intro w'
                go_simp
                with_reducible rfl
              rotate_left
              · simp only [Act.put, List.setIfInBounds_toArray, List.set_cons_zero, List.set_cons_succ, i64_w, i32_w]
                rfl
              refine Q26 (i := 1) (N := some 12) (v := ?_) (a' := ?_) #[true, true, false, false, false, false, false, false, false, false, false, false, false, false, false, false, false, false, false, false, false, false, false] rfl rfl (any_of HT_.out (by kernel_rfl)) (fun _ _ _ h => h) (Or.inl ⟨by rfl, ?_⟩) ?_ ?_
              rotate_left
              · intro w'
                go_simp
                with_reducible rfl
              rotate_left
              · simp only [Act.put, List.setIfInBounds_toArray, List.set_cons_zero, List.set_cons_succ, i64_w, i32_w]
                rfl
              refine one_ (i := 2) (N := some 13) #[true, true, true, false, false, false, false, false, false, false, false, false, false, false, false, false, false, false, false, false, false, false, false] rfl rfl (one_of HT_.out (by kernel_rfl)) (by decide) (fun K hK => ?_)
              refine goes_ Try.func23 (by kernel_rfl) rfl #[.slice (some ad113) l0.length c0, .slice A1 l1.length c1] (by rfl) rfl rfl (by (try simp only [List.map_toArray, List.map_cons, List.map_nil]); first | done | rfl | (simp only [List.length_drop, List.length_take]; rfl)) ?_
              with_reducible refine (dowelbook_Parts.calls k _ _ l0 _ _ l1 true _ ?side1 ?side2 ?side3 ?side4 A6.out).mono ?_
              (case side1 => repeat (first | exact (Kd.C_below HR0.out HB.out) | (with_reducible refine Kd.C_alloc ?_ _) | (with_reducible refine Kd.C_drewN ?_ _) | (with_reducible refine Kd.C_drew ?_)))
              (case side2 => exact HC0.out)
              (case side3 => repeat (first | exact (Kd.C_below HR1.out HB.out) | (with_reducible refine Kd.C_alloc ?_ _) | (with_reducible refine Kd.C_drewN ?_ _) | (with_reducible refine Kd.C_drew ?_)))
              (case side4 => exact HC1.out)
              rintro e w' ⟨rfl, ⟨nd, rfl⟩⟩
              refine ⟨_, rfl, ?_⟩
              refine hK.out _ _ ⟨((HB.out.cell (World.block_lt_of_cell? w _ hw113_0)).trans hw113_0), ((HB.out.cell (World.block_lt_of_cell? w _ hw113_1)).trans hw113_1), ((HB.out.cell (World.block_lt_of_cell? w _ hw113_2)).trans hw113_2), ((HB.out.cell (World.block_lt_of_cell? w _ hw113_3)).trans hw113_3), ((HB.out.cell (World.block_lt_of_cell? w _ hw113_4)).trans hw113_4), ((HB.out.cell (World.block_lt_of_cell? w _ hw119_0)).trans hw119_0), ((HB.out.cell (World.block_lt_of_cell? w _ hw119_1)).trans hw119_1), ((HB.out.cell (World.block_lt_of_cell? w _ hw119_2)).trans hw119_2), ((HB.out.cell (World.block_lt_of_cell? w _ hw119_3)).trans hw119_3), ((HB.out.cell (World.block_lt_of_cell? w _ hw119_4)).trans hw119_4)⟩ (fun hHeld => ?_)
              clear hK K
              refine norm_ (a' := ?_) ?_ ?_
              rotate_left
              · show Act.put _ (some 13) _ = _
                simp only [Act.put, List.setIfInBounds_toArray, List.set_cons_zero, List.set_cons_succ, i64_w, i32_w]
                rfl
              refine Q26 (i := 3) (N := some 14) (v := ?_) (a' := ?_) #[true, true, true, true, false, false, false, false, false, false, false, false, false, false, false, false, false, false, false, false, false, false, false] rfl rfl (any_of HT_.out (by kernel_rfl)) (fun _ _ _ h => h) (Or.inl ⟨by rfl, ?_⟩) ?_ ?_
              rotate_left
              · intro w'
                go_simp
                with_reducible rfl
              rotate_left
              · simp only [Act.put, List.setIfInBounds_toArray, List.set_cons_zero, List.set_cons_succ, i64_w, i32_w]
                rfl
              refine Q26 (i := 4) (N := some 15) (v := ?_) (a' := ?_) #[true, true, true, true, true, false, false, false, false, false, false, false, false, false, false, false, false, false, false, false, false, false, false] rfl rfl (any_of HT_.out (by kernel_rfl)) (fun _ _ _ h => h) (Or.inl ⟨by rfl, ?_⟩) ?_ ?_
              rotate_left
              · intro w'
                go_simp
                with_reducible rfl
              rotate_left
              · simp only [Act.put, List.setIfInBounds_toArray, List.set_cons_zero, List.set_cons_succ, i64_w, i32_w]
                rfl
              refine Q26 (i := 5) (N := some 16) (v := ?_) (a' := ?_) #[true, true, true, true, true, true, false, false, false, false, false, false, false, false, false, false, false, false, false, false, false, false, false] rfl rfl (any_of HT_.out (by kernel_rfl)) (fun _ _ _ h => h) (Or.inl ⟨by rfl, ?_⟩) ?_ ?_
              rotate_left
              · intro w'
                go_simp
                with_reducible rfl
              rotate_left
              · simp only [Act.put, List.setIfInBounds_toArray, List.set_cons_zero, List.set_cons_succ, i64_w, i32_w]
                rfl
              refine Q26 (i := 6) (N := some 17) (v := ?_) (a' := ?_) #[true, true, true, true, true, true, true, false, false, false, false, false, false, false, false, false, false, false, false, false, false, false, false] rfl rfl (any_of HT_.out (by kernel_rfl)) (fun _ _ _ h => h) (Or.inl ⟨by rfl, ?_⟩) ?_ ?_
              rotate_left
              · intro w'
                go_simp
                with_reducible rfl
              rotate_left
              · simp only [Act.put, List.setIfInBounds_toArray, List.set_cons_zero, List.set_cons_succ, i64_w, i32_w]
                rfl
              refine Q26 (i := 7) (N := some 18) (v := ?_) (a' := ?_) #[true, true, true, true, true, true, true, true, false, false, false, false, false, false, false, false, false, false, false, false, false, false, false] rfl rfl (any_of HT_.out (by kernel_rfl)) (fun _ _ _ h => h) (Or.inl ⟨by rfl, ?_⟩) ?_ ?_
              rotate_left
              · intro w'
                go_simp
                with_reducible rfl
              rotate_left
              · simp only [Act.put, List.setIfInBounds_toArray, List.set_cons_zero, List.set_cons_succ, i64_w, i32_w]
                rfl
              refine take_ (i := 8) (N := some 19) (v := ?_) (a' := ?_) #[true, true, true, true, true, true, true, true, true, false, false, false, false, false, false, false, false, false, false, false, false, false, false] rfl rfl (take_ofW HT_.out HW_.out (by kernel_rfl)) (fun _ _ _ h => h) (Or.inl ⟨by rfl, ?_⟩) hHeld ?_ ?_
              rotate_left
              · rintro w' ⟨s0, s1, s2, s3, s4, s5, s6, s7, s8, s9⟩
                go_simp
                with_reducible rfl
              rotate_left
              · simp only [Act.put, List.setIfInBounds_toArray, List.set_cons_zero, List.set_cons_succ, i64_w, i32_w]
                rfl
              refine one_ (i := 9) (N := some 20) #[true, true, true, true, true, true, true, true, true, true, false, false, false, false, false, false, false, false, false, false, false, false, false] rfl rfl (one_of HT_.out (by kernel_rfl)) (by decide) (fun K hK => ?_)
              refine goes_ Try.func32 (by kernel_rfl) rfl #[.int .i64 77] (by rfl) rfl rfl (by (try simp only [List.map_toArray, List.map_cons, List.map_nil]); first | done | rfl | (simp only [List.length_drop, List.length_take]; rfl)) ?_
              with_reducible refine (dowelbook_partsMark.calls 77 t114 t115 t116 t117 t118 _ A10.out).mono ?_
              rintro e w18 ⟨rfl, hb⟩
              refine ⟨_, rfl, ?_⟩
              have n0_ := Aside0.mk (Q27 (by repeat (first | (with_reducible first | exact HB.out | apply Q9 | apply Q7 | apply Q8) | exact HB.out)) hb)
              clear HB
              have HB := n0_
              clear n0_
              (try clear hb)
              (try clear hb2)
              (try clear hk)
              (try clear hi)
              refine hK.out _ _ ⟨((HB.out.cell (World.block_lt_of_cell? w _ hw113_0)).trans hw113_0), ((HB.out.cell (World.block_lt_of_cell? w _ hw113_1)).trans hw113_1), ((HB.out.cell (World.block_lt_of_cell? w _ hw113_2)).trans hw113_2), ((HB.out.cell (World.block_lt_of_cell? w _ hw113_3)).trans hw113_3), ((HB.out.cell (World.block_lt_of_cell? w _ hw113_4)).trans hw113_4), ((HB.out.cell (World.block_lt_of_cell? w _ hw119_0)).trans hw119_0), ((HB.out.cell (World.block_lt_of_cell? w _ hw119_1)).trans hw119_1), ((HB.out.cell (World.block_lt_of_cell? w _ hw119_2)).trans hw119_2), ((HB.out.cell (World.block_lt_of_cell? w _ hw119_3)).trans hw119_3), ((HB.out.cell (World.block_lt_of_cell? w _ hw119_4)).trans hw119_4)⟩ (fun hHeld => ?_)
              clear hK K
              refine norm_ (a' := ?_) ?_ ?_
              rotate_left
              · show Act.put _ (some 20) _ = _
                simp only [Act.put, List.setIfInBounds_toArray, List.set_cons_zero, List.set_cons_succ, i64_w, i32_w]
                rfl
              refine Q26 (i := 10) (N := some 21) (v := ?_) (a' := ?_) #[true, true, true, true, true, true, true, true, true, true, true, false, false, false, false, false, false, false, false, false, false, false, false] rfl rfl (any_of HT_.out (by kernel_rfl)) (fun _ _ _ h => h) (Or.inl ⟨by rfl, ?_⟩) ?_ ?_
              rotate_left
              · intro w'
                go_simp
                with_reducible rfl
              rotate_left
              · simp only [Act.put, List.setIfInBounds_toArray, List.set_cons_zero, List.set_cons_succ, i64_w, i32_w]
                rfl
              refine Q26 (i := 11) (N := some 22) (v := ?_) (a' := ?_) #[true, true, true, true, true, true, true, true, true, true, true, true, false, false, false, false, false, false, false, false, false, false, false] rfl rfl (any_of HT_.out (by kernel_rfl)) (fun _ _ _ h => h) (Or.inl ⟨by rfl, ?_⟩) ?_ ?_
              rotate_left
              · intro w'
                go_simp
                with_reducible rfl
              rotate_left
              · simp only [Act.put, List.setIfInBounds_toArray, List.set_cons_zero, List.set_cons_succ, i64_w, i32_w]
                rfl
              refine Q26 (i := 12) (N := some 23) (v := ?_) (a' := ?_) #[true, true, true, true, true, true, true, true, true, true, true, true, true, false, false, false, false, false, false, false, false, false, false] rfl rfl (any_of HT_.out (by kernel_rfl)) (fun _ _ _ h => h) (Or.inl ⟨by rfl, ?_⟩) ?_ ?_
              rotate_left
              · intro w'
                go_simp
                with_reducible rfl
              rotate_left
              · simp only [Act.put, List.setIfInBounds_toArray, List.set_cons_zero, List.set_cons_succ, i64_w, i32_w]
                rfl
              refine Q26 (i := 13) (N := some 24) (v := ?_) (a' := ?_) #[true, true, true, true, true, true, true, true, true, true, true, true, true, true, false, false, false, false, false, false, false, false, false] rfl rfl (any_of HT_.out (by kernel_rfl)) (fun _ _ _ h => h) (Or.inl ⟨by rfl, ?_⟩) ?_ ?_
              rotate_left
              · intro w'
                go_simp
                with_reducible rfl
              rotate_left
              · simp only [Act.put, List.setIfInBounds_toArray, List.set_cons_zero, List.set_cons_succ, i64_w, i32_w]
                rfl
              refine Q26 (i := 14) (N := some 25) (v := ?_) (a' := ?_) #[true, true, true, true, true, true, true, true, true, true, true, true, true, true, true, false, false, false, false, false, false, false, false] rfl rfl (any_of HT_.out (by kernel_rfl)) (fun _ _ _ h => h) (Or.inl ⟨by rfl, ?_⟩) ?_ ?_
              rotate_left
              · intro w'
                go_simp
                with_reducible rfl
              rotate_left
              · simp only [Act.put, List.setIfInBounds_toArray, List.set_cons_zero, List.set_cons_succ, i64_w, i32_w]
                rfl
              refine Q26 (i := 15) (N := some 26) (v := ?_) (a' := ?_) #[true, true, true, true, true, true, true, true, true, true, true, true, true, true, true, true, false, false, false, false, false, false, false] rfl rfl (any_of HT_.out (by kernel_rfl)) (fun _ _ _ h => h) (Or.inl ⟨by rfl, ?_⟩) ?_ ?_
              rotate_left
              · intro w'
                go_simp
                with_reducible rfl
              rotate_left
              · simp only [Act.put, List.setIfInBounds_toArray, List.set_cons_zero, List.set_cons_succ, i64_w, i32_w]
                rfl
              refine Q26 (i := 16) (N := some 27) (v := ?_) (a' := ?_) #[true, true, true, true, true, true, true, true, true, true, true, true, true, true, true, true, true, false, false, false, false, false, false] rfl rfl (any_of HT_.out (by kernel_rfl)) (fun _ _ _ h => h) (Or.inl ⟨by rfl, ?_⟩) ?_ ?_
              rotate_left
              · intro w'
                go_simp
                with_reducible rfl
              rotate_left
              · simp only [Act.put, List.setIfInBounds_toArray, List.set_cons_zero, List.set_cons_succ, i64_w, i32_w]
                rfl
              refine Q26 (i := 17) (N := some 28) (v := ?_) (a' := ?_) #[true, true, true, true, true, true, true, true, true, true, true, true, true, true, true, true, true, true, false, false, false, false, false] rfl rfl (any_of HT_.out (by kernel_rfl)) (fun _ _ _ h => h) (Or.inl ⟨by rfl, ?_⟩) ?_ ?_
              rotate_left
              · intro w'
                go_simp
                with_reducible rfl
              rotate_left
              · simp only [Act.put, List.setIfInBounds_toArray, List.set_cons_zero, List.set_cons_succ, i64_w, i32_w]
                rfl
              refine take_ (i := 18) (N := some 29) (v := ?_) (a' := ?_) #[true, true, true, true, true, true, true, true, true, true, true, true, true, true, true, true, true, true, true, false, false, false, false] rfl rfl (take_ofW HT_.out HW_.out (by kernel_rfl)) (fun _ _ _ h => h) (Or.inl ⟨by rfl, ?_⟩) hHeld ?_ ?_
              rotate_left
              · rintro w' ⟨s0, s1, s2, s3, s4, s5, s6, s7, s8, s9⟩
                go_simp
                with_reducible rfl
              rotate_left
              · simp only [Act.put, List.setIfInBounds_toArray, List.set_cons_zero, List.set_cons_succ, i64_w, i32_w]
                rfl
              refine one_ (i := 19) (N := some 30) #[true, true, true, true, true, true, true, true, true, true, true, true, true, true, true, true, true, true, true, true, false, false, false] rfl rfl (one_of HT_.out (by kernel_rfl)) (by decide) (fun K hK => ?_)
              refine goes_ Try.func33 (by kernel_rfl) rfl #[.int .i64 77] (by rfl) rfl rfl (by (try simp only [List.map_toArray, List.map_cons, List.map_nil]); first | done | rfl | (simp only [List.length_drop, List.length_take]; rfl)) ?_
              with_reducible refine (dowelbook_partsMore.calls 77 t120 t121 t122 t123 t124 _ A15.out).mono ?_
              rintro e w19 ⟨rfl, hb⟩
              refine ⟨_, rfl, ?_⟩
              have n0_ := Aside0.mk (Q27 (by repeat (first | (with_reducible first | exact HB.out | apply Q9 | apply Q7 | apply Q8) | exact HB.out)) hb)
              clear HB
              have HB := n0_
              clear n0_
              (try clear hb)
              (try clear hb2)
              (try clear hk)
              (try clear hi)
              refine hK.out _ _ ⟨((HB.out.cell (World.block_lt_of_cell? w _ hw113_0)).trans hw113_0), ((HB.out.cell (World.block_lt_of_cell? w _ hw113_1)).trans hw113_1), ((HB.out.cell (World.block_lt_of_cell? w _ hw113_2)).trans hw113_2), ((HB.out.cell (World.block_lt_of_cell? w _ hw113_3)).trans hw113_3), ((HB.out.cell (World.block_lt_of_cell? w _ hw113_4)).trans hw113_4), ((HB.out.cell (World.block_lt_of_cell? w _ hw119_0)).trans hw119_0), ((HB.out.cell (World.block_lt_of_cell? w _ hw119_1)).trans hw119_1), ((HB.out.cell (World.block_lt_of_cell? w _ hw119_2)).trans hw119_2), ((HB.out.cell (World.block_lt_of_cell? w _ hw119_3)).trans hw119_3), ((HB.out.cell (World.block_lt_of_cell? w _ hw119_4)).trans hw119_4)⟩ (fun hHeld => ?_)
              clear hK K
              refine norm_ (a' := ?_) ?_ ?_
              rotate_left
              · show Act.put _ (some 30) _ = _
                simp only [Act.put, List.setIfInBounds_toArray, List.set_cons_zero, List.set_cons_succ, i64_w, i32_w]
                rfl
              refine Q26 (i := 20) (N := some 31) (v := ?_) (a' := ?_) #[true, true, true, true, true, true, true, true, true, true, true, true, true, true, true, true, true, true, true, true, true, false, false] rfl rfl (any_of HT_.out (by kernel_rfl)) (fun _ _ _ h => h) (Or.inl ⟨by rfl, ?_⟩) ?_ ?_
              rotate_left
              · intro w'
                go_simp
                with_reducible rfl
              rotate_left
              · simp only [Act.put, List.setIfInBounds_toArray, List.set_cons_zero, List.set_cons_succ, i64_w, i32_w]
                rfl
              refine Q26 (i := 21) (N := some 32) (v := ?_) (a' := ?_) #[true, true, true, true, true, true, true, true, true, true, true, true, true, true, true, true, true, true, true, true, true, true, false] rfl rfl (any_of HT_.out (by kernel_rfl)) (fun _ _ _ h => h) (Or.inl ⟨by rfl, ?_⟩) ?_ ?_
              rotate_left
              · intro w'
                go_simp
                with_reducible rfl
              rotate_left
              · simp only [Act.put, List.setIfInBounds_toArray, List.set_cons_zero, List.set_cons_succ, i64_w, i32_w]
                rfl
              refine Q26 (i := 22) (N := some 4) (v := ?_) (a' := ?_) #[true, true, true, true, true, true, true, true, true, true, true, true, true, true, true, true, true, true, true, true, true, true, true] rfl rfl (any_of HT_.out (by kernel_rfl)) (fun _ _ _ h => h) (Or.inl ⟨by rfl, ?_⟩) ?_ ?_
              rotate_left
              · intro w'
                go_simp
                with_reducible rfl
              rotate_left
              · simp only [Act.put, List.setIfInBounds_toArray, List.set_cons_zero, List.set_cons_succ, i64_w, i32_w]
                rfl
              refine done_ (done_of HT_.out (by kernel_rfl)) ?_
              try go_wp2
              go_ret
              exact ⟨by first | rfl | (simp [Q24, Q25] <;> rfl) | (simp only [← hji3, ← hji12]; first | rfl | (simp [Q24, Q25] <;> rfl)) | (simp [*, Q24, Q25] <;> rfl), by repeat (first | (with_reducible first | exact HB.out | apply Q9 | apply Q7 | apply Q8) | exact HB.out)⟩
            · rw [if_neg c14] at H
              subst hrt
              exact absurd H (by simp)
          · rw [if_neg c13] at H
            subst hrt
            exact absurd H (by simp)
        · rw [if_neg c11] at H
          subst hrt
          exact absurd H (by simp)
      · rw [if_neg c9] at H
        subst hrt
        exact absurd H (by simp)
    · rw [if_neg c8] at H
      subst hrt
      exact absurd H (by simp)
  · rw [if_neg c7] at H
    subst hrt
    exact absurd H (by simp)
end Go.Proofs.Ytflkgoggnomehaa.P

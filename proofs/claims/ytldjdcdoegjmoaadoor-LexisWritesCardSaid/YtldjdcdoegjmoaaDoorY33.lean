import Derived.Laws.IdiomArrays
import Derived.ProofKit
import Derived.Test.YtldjdcdoegjmoaaDoorRows
import Derived.WalkKit
import Derived.Test.YtldjdcdoegjmoaaDoorY1
import Derived.Test.YtldjdcdoegjmoaaDoorY3
import Derived.Test.YtldjdcdoegjmoaaDoorY8
import Derived.Test.YtldjdcdoegjmoaaDoorY27
import Derived.Test.YtldjdcdoegjmoaaDoorY29
import Derived.Test.YtldjdcdoegjmoaaDoorY30
import Derived.Test.YtldjdcdoegjmoaaDoorY31
import Derived.Test.YtldjdcdoegjmoaaDoorY32
namespace Go.Proofs.YtldjdcdoegjmoaaDoor.P
open Go.RowKit Go.Proofs.YtldjdcdoegjmoaaDoorW.PrintWords Go.Proofs.YtldjdcdoegjmoaaDoorW.PrintLast Go.Proofs.YtldjdcdoegjmoaaDoorW.PrintMore
set_option linter.unusedVariables false
set_option linter.unusedSimpArgs false
attribute [local go_sem high] eqA26
theorem cut_cap {P : Program} (t e : TypeId) (kh : IntKind) {i : TypeInfo} (ht : P.underlying t = some (.slice e)) (hi : P.info? e = some i) (A : Option Addr) (n c : Nat) (j : Int) (h0 : 0 ≤ j) (hm : j ≤ c) (hc : n ≤ c) :
    ∀ W : World, (Instr.slice t (.slice A n c) none (some (.int kh j)) none).run P W = .ok (.slice A j.toNat c) W := by
  intro W
  have hel : P.elem t = e := by simp [Program.elem, ht]
  have hu : P.underlying t = some (.slice (P.elem t)) := by rw [hel]; exact ht
  have ha : (A.map fun x => x.add 0) = A := by cases A <;> simp [Addr.add]
  rw [run_slice_h W t A n c hu kh j h0 (by omega), hel]
  simp [sizeOf, typeInfo, hi, sliced, Result.andThen, ha]
def KA (k : Nat) (l0 l1 y267 : List S26) : Option Bool := ((dowelbook_Tokens.f k l0 l1).bind fun t271 => (if t271 = true then (if 0 ≤ (l1.length : Int) then (if (l1.length : Int) < (y267.length : Int) then ((dowelbook_tokensMark.f 77).bind fun bt273 => (if (((rd_T26 y267 (l1.length : Int)).f0) == bt273.1 && (((rd_T26 y267 (l1.length : Int)).f1) == bt273.2.1 && (((rd_T26 y267 (l1.length : Int)).f2) == bt273.2.2.1 && ((((rd_T26 y267 (l1.length : Int)).f3).toList) == bt273.2.2.2.1.toList && (((rd_T26 y267 (l1.length : Int)).f4) == bt273.2.2.2.2.1 && ((((rd_T26 y267 (l1.length : Int)).f5.f0) == bt273.2.2.2.2.2.1 && (((rd_T26 y267 (l1.length : Int)).f5.f1) == bt273.2.2.2.2.2.2.1 && (((rd_T26 y267 (l1.length : Int)).f5.f2) == bt273.2.2.2.2.2.2.2.1 && (((rd_T26 y267 (l1.length : Int)).f5.f3) == bt273.2.2.2.2.2.2.2.2.1)))) && (((rd_T26 y267 (l1.length : Int)).f6) == bt273.2.2.2.2.2.2.2.2.2.1 && (((rd_T26 y267 (l1.length : Int)).f7) == bt273.2.2.2.2.2.2.2.2.2.2)))))))) = true then (if 0 ≤ (wrap64 ((l1.length : Int) + 1)) then (if (wrap64 ((l1.length : Int) + 1)) < (y267.length : Int) then ((dowelbook_tokensMore.f 77).bind fun bt285 => (some (((rd_T26 y267 (wrap64 ((l1.length : Int) + 1))).f0) == bt285.1 && (((rd_T26 y267 (wrap64 ((l1.length : Int) + 1))).f1) == bt285.2.1 && (((rd_T26 y267 (wrap64 ((l1.length : Int) + 1))).f2) == bt285.2.2.1 && ((((rd_T26 y267 (wrap64 ((l1.length : Int) + 1))).f3).toList) == bt285.2.2.2.1.toList && (((rd_T26 y267 (wrap64 ((l1.length : Int) + 1))).f4) == bt285.2.2.2.2.1 && ((((rd_T26 y267 (wrap64 ((l1.length : Int) + 1))).f5.f0) == bt285.2.2.2.2.2.1 && (((rd_T26 y267 (wrap64 ((l1.length : Int) + 1))).f5.f1) == bt285.2.2.2.2.2.2.1 && (((rd_T26 y267 (wrap64 ((l1.length : Int) + 1))).f5.f2) == bt285.2.2.2.2.2.2.2.1 && (((rd_T26 y267 (wrap64 ((l1.length : Int) + 1))).f5.f3) == bt285.2.2.2.2.2.2.2.2.1)))) && (((rd_T26 y267 (wrap64 ((l1.length : Int) + 1))).f6) == bt285.2.2.2.2.2.2.2.2.2.1 && (((rd_T26 y267 (wrap64 ((l1.length : Int) + 1))).f7) == bt285.2.2.2.2.2.2.2.2.2.2)))))))))) else (none)) else (none)) else (some false))) else (none)) else (none)) else (some false)))
def keptA.T2 : Bool × List (List Nat × List Nat) := (true, [([], []), ([], []), ([0, 1], [0, 1]), ([2, 2], [2]), ([3], [3]), ([3], [3]), ([5, 3], [3, 5]), ([4, 6, 3], [3, 4, 6]), ([7, 3], [3, 7]), ([3, 3], [3]), ([8, 9, 3], [3, 8, 9]), ([3, 10], [3, 10]), ([11, 9], [11]), ([12], [12]), ([12], [12]), ([14, 12], [12, 14]), ([15, 12], [12, 15]), ([13, 16, 12], [12, 13, 16]), ([17, 12], [12, 17]), ([12, 12], [12]), ([18, 19, 12], [12, 18, 19]), ([12, 20], [12, 20]), ([21, 19, 0, 1, 2, 3, 4, 5, 6, 7, 8, 9, 10, 11, 12, 13, 14, 15, 16, 17, 18, 19, 20, 21], [21])])
def keptA.B2 : List Nat := [0, 0, 3, 7, 15, 15, 47, 127, 255, 15, 1023, 2047, 4095, 8191, 8191, 24575, 57343, 131071, 262143, 8191, 1048575, 2097151, 4194303]
theorem keptA.tab2 : rtab .any (opsOf Tryd.f13 2) = keptA.T2 := by kernel_rfl
theorem keptA.bits2 : waitsOk keptA.T2.2 keptA.B2 = true := by kernel_rfl
set_option maxHeartbeats 8000000 in
set_option maxRecDepth 100000 in
theorem kept_w (k : Nat) (A0 : Option Addr) (c0 : Nat) (l0 : List (S26)) (A1 : Option Addr) (c1 : Nat) (l1 : List (S26)) (y267 : List S26) (r : Bool) (w : World) (hr0 : Kd.C k26 w A0 l0.length l0) (hc0 : l0.length ≤ c0) (hr1 : Kd.C k26 w A1 l1.length l1) (hc1 : l1.length ≤ c1) (hry : Kd.C k26 w A0 y267.length y267) (hcy : y267.length ≤ c0) (hyl : y267.length = l1.length + 2) (hsm : l1.length ≤ 1048576) (hrt : r = true) (h : KA k l0 l1 y267 = some r) :
    Calls Tryd.prog 13 #[.slice A0 l0.length c0, .slice A1 l1.length c1] w fun e w' => e = .returned (.bool r) ∧ Below w.heap.size w w' := by
  have hu26 := Tryd.underlying26
  have HR0 := Aside0.mk hr0
  have HC0 := Aside0.mk hc0
  clear hr0 hc0
  have HR1 := Aside0.mk hr1
  have HC1 := Aside0.mk hc1
  clear hr1 hc1
  have HRY := Aside0.mk hry
  clear hry
  have HB := Aside0.mk (Below.refl w.heap.size w)
  have H : ((dowelbook_Tokens.f k l0 l1).bind fun t271 => (if t271 = true then (if 0 ≤ (l1.length : Int) then (if (l1.length : Int) < (y267.length : Int) then ((dowelbook_tokensMark.f 77).bind fun bt273 => (if (((rd_T26 y267 (l1.length : Int)).f0) == bt273.1 && (((rd_T26 y267 (l1.length : Int)).f1) == bt273.2.1 && (((rd_T26 y267 (l1.length : Int)).f2) == bt273.2.2.1 && ((((rd_T26 y267 (l1.length : Int)).f3).toList) == bt273.2.2.2.1.toList && (((rd_T26 y267 (l1.length : Int)).f4) == bt273.2.2.2.2.1 && ((((rd_T26 y267 (l1.length : Int)).f5.f0) == bt273.2.2.2.2.2.1 && (((rd_T26 y267 (l1.length : Int)).f5.f1) == bt273.2.2.2.2.2.2.1 && (((rd_T26 y267 (l1.length : Int)).f5.f2) == bt273.2.2.2.2.2.2.2.1 && (((rd_T26 y267 (l1.length : Int)).f5.f3) == bt273.2.2.2.2.2.2.2.2.1)))) && (((rd_T26 y267 (l1.length : Int)).f6) == bt273.2.2.2.2.2.2.2.2.2.1 && (((rd_T26 y267 (l1.length : Int)).f7) == bt273.2.2.2.2.2.2.2.2.2.2)))))))) = true then (if 0 ≤ (wrap64 ((l1.length : Int) + 1)) then (if (wrap64 ((l1.length : Int) + 1)) < (y267.length : Int) then ((dowelbook_tokensMore.f 77).bind fun bt285 => (some (((rd_T26 y267 (wrap64 ((l1.length : Int) + 1))).f0) == bt285.1 && (((rd_T26 y267 (wrap64 ((l1.length : Int) + 1))).f1) == bt285.2.1 && (((rd_T26 y267 (wrap64 ((l1.length : Int) + 1))).f2) == bt285.2.2.1 && ((((rd_T26 y267 (wrap64 ((l1.length : Int) + 1))).f3).toList) == bt285.2.2.2.1.toList && (((rd_T26 y267 (wrap64 ((l1.length : Int) + 1))).f4) == bt285.2.2.2.2.1 && ((((rd_T26 y267 (wrap64 ((l1.length : Int) + 1))).f5.f0) == bt285.2.2.2.2.2.1 && (((rd_T26 y267 (wrap64 ((l1.length : Int) + 1))).f5.f1) == bt285.2.2.2.2.2.2.1 && (((rd_T26 y267 (wrap64 ((l1.length : Int) + 1))).f5.f2) == bt285.2.2.2.2.2.2.2.1 && (((rd_T26 y267 (wrap64 ((l1.length : Int) + 1))).f5.f3) == bt285.2.2.2.2.2.2.2.2.1)))) && (((rd_T26 y267 (wrap64 ((l1.length : Int) + 1))).f6) == bt285.2.2.2.2.2.2.2.2.2.1 && (((rd_T26 y267 (wrap64 ((l1.length : Int) + 1))).f7) == bt285.2.2.2.2.2.2.2.2.2.2)))))))))) else (none)) else (none)) else (some false))) else (none)) else (none)) else (some false))) = some r := h
  clear h
  obtain ⟨ji3, hji3⟩ : ∃ j_ : Int, (wrap64 ((l1.length : Int) + 2)) = j_ := ⟨_, rfl⟩
  have hjy : ji3 = (y267.length : Int) := by rw [← hji3]; unfold wrap64; omega
  have hji3w : (IntKind.i64.wrap ((l1.length : Int) + 2)) = ji3 := (i64_w _).trans hji3
  have c4 : 0 ≤ (ji3) := by omega
  have c4b0 := eq_true c4
  have c4b1 : decide (0 ≤ (ji3)) = true := decide_eq_true c4
  have HYL := Aside0.mk hyl
  clear hyl
  have hcy2 : (ji3) ≤ (c0 : Int) := by omega
  have HCY := Aside0.mk hcy
  have HJY := Aside0.mk hjy
  clear hcy hjy
  replace H := Option.bind_eq_some_iff.mp H
  obtain ⟨t271, A60, H⟩ := H
  replace H : (if t271 = true then (if 0 ≤ (l1.length : Int) then (if (l1.length : Int) < (y267.length : Int) then ((dowelbook_tokensMark.f 77).bind fun bt273 => (if (((rd_T26 y267 (l1.length : Int)).f0) == bt273.1 && (((rd_T26 y267 (l1.length : Int)).f1) == bt273.2.1 && (((rd_T26 y267 (l1.length : Int)).f2) == bt273.2.2.1 && ((((rd_T26 y267 (l1.length : Int)).f3).toList) == bt273.2.2.2.1.toList && (((rd_T26 y267 (l1.length : Int)).f4) == bt273.2.2.2.2.1 && ((((rd_T26 y267 (l1.length : Int)).f5.f0) == bt273.2.2.2.2.2.1 && (((rd_T26 y267 (l1.length : Int)).f5.f1) == bt273.2.2.2.2.2.2.1 && (((rd_T26 y267 (l1.length : Int)).f5.f2) == bt273.2.2.2.2.2.2.2.1 && (((rd_T26 y267 (l1.length : Int)).f5.f3) == bt273.2.2.2.2.2.2.2.2.1)))) && (((rd_T26 y267 (l1.length : Int)).f6) == bt273.2.2.2.2.2.2.2.2.2.1 && (((rd_T26 y267 (l1.length : Int)).f7) == bt273.2.2.2.2.2.2.2.2.2.2)))))))) = true then (if 0 ≤ (wrap64 ((l1.length : Int) + 1)) then (if (wrap64 ((l1.length : Int) + 1)) < (y267.length : Int) then ((dowelbook_tokensMore.f 77).bind fun bt285 => (some (((rd_T26 y267 (wrap64 ((l1.length : Int) + 1))).f0) == bt285.1 && (((rd_T26 y267 (wrap64 ((l1.length : Int) + 1))).f1) == bt285.2.1 && (((rd_T26 y267 (wrap64 ((l1.length : Int) + 1))).f2) == bt285.2.2.1 && ((((rd_T26 y267 (wrap64 ((l1.length : Int) + 1))).f3).toList) == bt285.2.2.2.1.toList && (((rd_T26 y267 (wrap64 ((l1.length : Int) + 1))).f4) == bt285.2.2.2.2.1 && ((((rd_T26 y267 (wrap64 ((l1.length : Int) + 1))).f5.f0) == bt285.2.2.2.2.2.1 && (((rd_T26 y267 (wrap64 ((l1.length : Int) + 1))).f5.f1) == bt285.2.2.2.2.2.2.1 && (((rd_T26 y267 (wrap64 ((l1.length : Int) + 1))).f5.f2) == bt285.2.2.2.2.2.2.2.1 && (((rd_T26 y267 (wrap64 ((l1.length : Int) + 1))).f5.f3) == bt285.2.2.2.2.2.2.2.2.1)))) && (((rd_T26 y267 (wrap64 ((l1.length : Int) + 1))).f6) == bt285.2.2.2.2.2.2.2.2.2.1 && (((rd_T26 y267 (wrap64 ((l1.length : Int) + 1))).f7) == bt285.2.2.2.2.2.2.2.2.2.2)))))))))) else (none)) else (none)) else (some false))) else (none)) else (none)) else (some false)) = some r := H
  have A6 := Aside0.mk A60
  clear A60
  by_cases c7 : t271 = true
  · subst c7
    have H1 : (if 0 ≤ (l1.length : Int) then (if (l1.length : Int) < (y267.length : Int) then ((dowelbook_tokensMark.f 77).bind fun bt273 => (if (((rd_T26 y267 (l1.length : Int)).f0) == bt273.1 && (((rd_T26 y267 (l1.length : Int)).f1) == bt273.2.1 && (((rd_T26 y267 (l1.length : Int)).f2) == bt273.2.2.1 && ((((rd_T26 y267 (l1.length : Int)).f3).toList) == bt273.2.2.2.1.toList && (((rd_T26 y267 (l1.length : Int)).f4) == bt273.2.2.2.2.1 && ((((rd_T26 y267 (l1.length : Int)).f5.f0) == bt273.2.2.2.2.2.1 && (((rd_T26 y267 (l1.length : Int)).f5.f1) == bt273.2.2.2.2.2.2.1 && (((rd_T26 y267 (l1.length : Int)).f5.f2) == bt273.2.2.2.2.2.2.2.1 && (((rd_T26 y267 (l1.length : Int)).f5.f3) == bt273.2.2.2.2.2.2.2.2.1)))) && (((rd_T26 y267 (l1.length : Int)).f6) == bt273.2.2.2.2.2.2.2.2.2.1 && (((rd_T26 y267 (l1.length : Int)).f7) == bt273.2.2.2.2.2.2.2.2.2.2)))))))) = true then (if 0 ≤ (wrap64 ((l1.length : Int) + 1)) then (if (wrap64 ((l1.length : Int) + 1)) < (y267.length : Int) then ((dowelbook_tokensMore.f 77).bind fun bt285 => (some (((rd_T26 y267 (wrap64 ((l1.length : Int) + 1))).f0) == bt285.1 && (((rd_T26 y267 (wrap64 ((l1.length : Int) + 1))).f1) == bt285.2.1 && (((rd_T26 y267 (wrap64 ((l1.length : Int) + 1))).f2) == bt285.2.2.1 && ((((rd_T26 y267 (wrap64 ((l1.length : Int) + 1))).f3).toList) == bt285.2.2.2.1.toList && (((rd_T26 y267 (wrap64 ((l1.length : Int) + 1))).f4) == bt285.2.2.2.2.1 && ((((rd_T26 y267 (wrap64 ((l1.length : Int) + 1))).f5.f0) == bt285.2.2.2.2.2.1 && (((rd_T26 y267 (wrap64 ((l1.length : Int) + 1))).f5.f1) == bt285.2.2.2.2.2.2.1 && (((rd_T26 y267 (wrap64 ((l1.length : Int) + 1))).f5.f2) == bt285.2.2.2.2.2.2.2.1 && (((rd_T26 y267 (wrap64 ((l1.length : Int) + 1))).f5.f3) == bt285.2.2.2.2.2.2.2.2.1)))) && (((rd_T26 y267 (wrap64 ((l1.length : Int) + 1))).f6) == bt285.2.2.2.2.2.2.2.2.2.1 && (((rd_T26 y267 (wrap64 ((l1.length : Int) + 1))).f7) == bt285.2.2.2.2.2.2.2.2.2.2)))))))))) else (none)) else (none)) else (some false))) else (none)) else (none)) = some r := by rw [if_pos rfl] at H; exact H
    clear H
    have H := H1
    clear H1
    by_cases c8 : 0 ≤ (l1.length : Int)
    · rw [if_pos c8] at H
      have c8b0 : decide (0 ≤ (l1.length : Int)) = true := decide_eq_true c8
      have c8b1 : decide (0 ≤ l1.length) = true := decide_eq_true (by omega)
      clear c8
      by_cases c9 : (l1.length : Int) < (y267.length : Int)
      · rw [if_pos c9] at H
        have c9b0 : decide ((l1.length : Int) < (y267.length : Int)) = true := decide_eq_true c9
        have c9b1 : decide (l1.length < y267.length) = true := decide_eq_true (Int.ofNat_lt.mp c9)
        clear c9
        replace H := Option.bind_eq_some_iff.mp H
        obtain ⟨⟨t273, t274, t275, t276, t277, t278, t279, t280, t281, t282, t283⟩, A100, H⟩ := H
        replace H : (if (((rd_T26 y267 (l1.length : Int)).f0) == t273 && (((rd_T26 y267 (l1.length : Int)).f1) == t274 && (((rd_T26 y267 (l1.length : Int)).f2) == t275 && ((((rd_T26 y267 (l1.length : Int)).f3).toList) == t276.toList && (((rd_T26 y267 (l1.length : Int)).f4) == t277 && ((((rd_T26 y267 (l1.length : Int)).f5.f0) == t278 && (((rd_T26 y267 (l1.length : Int)).f5.f1) == t279 && (((rd_T26 y267 (l1.length : Int)).f5.f2) == t280 && (((rd_T26 y267 (l1.length : Int)).f5.f3) == t281)))) && (((rd_T26 y267 (l1.length : Int)).f6) == t282 && (((rd_T26 y267 (l1.length : Int)).f7) == t283)))))))) = true then (if 0 ≤ (wrap64 ((l1.length : Int) + 1)) then (if (wrap64 ((l1.length : Int) + 1)) < (y267.length : Int) then ((dowelbook_tokensMore.f 77).bind fun bt285 => (some (((rd_T26 y267 (wrap64 ((l1.length : Int) + 1))).f0) == bt285.1 && (((rd_T26 y267 (wrap64 ((l1.length : Int) + 1))).f1) == bt285.2.1 && (((rd_T26 y267 (wrap64 ((l1.length : Int) + 1))).f2) == bt285.2.2.1 && ((((rd_T26 y267 (wrap64 ((l1.length : Int) + 1))).f3).toList) == bt285.2.2.2.1.toList && (((rd_T26 y267 (wrap64 ((l1.length : Int) + 1))).f4) == bt285.2.2.2.2.1 && ((((rd_T26 y267 (wrap64 ((l1.length : Int) + 1))).f5.f0) == bt285.2.2.2.2.2.1 && (((rd_T26 y267 (wrap64 ((l1.length : Int) + 1))).f5.f1) == bt285.2.2.2.2.2.2.1 && (((rd_T26 y267 (wrap64 ((l1.length : Int) + 1))).f5.f2) == bt285.2.2.2.2.2.2.2.1 && (((rd_T26 y267 (wrap64 ((l1.length : Int) + 1))).f5.f3) == bt285.2.2.2.2.2.2.2.2.1)))) && (((rd_T26 y267 (wrap64 ((l1.length : Int) + 1))).f6) == bt285.2.2.2.2.2.2.2.2.2.1 && (((rd_T26 y267 (wrap64 ((l1.length : Int) + 1))).f7) == bt285.2.2.2.2.2.2.2.2.2.2)))))))))) else (none)) else (none)) else (some false)) = some r := H
        have A10 := Aside0.mk A100
        clear A100
        by_cases c11 : (((rd_T26 y267 (l1.length : Int)).f0) == t273 && (((rd_T26 y267 (l1.length : Int)).f1) == t274 && (((rd_T26 y267 (l1.length : Int)).f2) == t275 && ((((rd_T26 y267 (l1.length : Int)).f3).toList) == t276.toList && (((rd_T26 y267 (l1.length : Int)).f4) == t277 && ((((rd_T26 y267 (l1.length : Int)).f5.f0) == t278 && (((rd_T26 y267 (l1.length : Int)).f5.f1) == t279 && (((rd_T26 y267 (l1.length : Int)).f5.f2) == t280 && (((rd_T26 y267 (l1.length : Int)).f5.f3) == t281)))) && (((rd_T26 y267 (l1.length : Int)).f6) == t282 && (((rd_T26 y267 (l1.length : Int)).f7) == t283)))))))) = true
        · rw [if_pos c11] at H
          have c11b0 : (((rd_T26 y267 (l1.length : Int)).f0) == t273 && (((rd_T26 y267 (l1.length : Int)).f1) == t274 && (((rd_T26 y267 (l1.length : Int)).f2) == t275 && ((((rd_T26 y267 (l1.length : Int)).f3).toList) == t276.toList && (((rd_T26 y267 (l1.length : Int)).f4) == t277 && ((((rd_T26 y267 (l1.length : Int)).f5.f0) == t278 && (((rd_T26 y267 (l1.length : Int)).f5.f1) == t279 && (((rd_T26 y267 (l1.length : Int)).f5.f2) == t280 && (((rd_T26 y267 (l1.length : Int)).f5.f3) == t281)))) && (((rd_T26 y267 (l1.length : Int)).f6) == t282 && (((rd_T26 y267 (l1.length : Int)).f7) == t283)))))))) = true := c11
          (try (have c11b1 : decide (((rd_T26 y267 (l1.length : Int)).f0) = t273 && (((rd_T26 y267 (l1.length : Int)).f1) == t274 && (((rd_T26 y267 (l1.length : Int)).f2) == t275 && ((((rd_T26 y267 (l1.length : Int)).f3).toList) == t276.toList && (((rd_T26 y267 (l1.length : Int)).f4) == t277 && ((((rd_T26 y267 (l1.length : Int)).f5.f0) == t278 && (((rd_T26 y267 (l1.length : Int)).f5.f1) == t279 && (((rd_T26 y267 (l1.length : Int)).f5.f2) == t280 && (((rd_T26 y267 (l1.length : Int)).f5.f3) == t281)))) && (((rd_T26 y267 (l1.length : Int)).f6) == t282 && (((rd_T26 y267 (l1.length : Int)).f7) == t283)))))))) = true := by simpa using c11))
          (try (have c11b2 : (((rd_T26 y267 (l1.length : Int)).f0) == t273 && (((rd_T26 y267 (l1.length : Int)).f1) == t274 && (((rd_T26 y267 (l1.length : Int)).f2) == t275 && ((((rd_T26 y267 (l1.length : Int)).f3).toList) == t276.toList && (((rd_T26 y267 (l1.length : Int)).f4) == t277 && ((((rd_T26 y267 (l1.length : Int)).f5.f0) == t278 && (((rd_T26 y267 (l1.length : Int)).f5.f1) == t279 && (((rd_T26 y267 (l1.length : Int)).f5.f2) == t280 && (((rd_T26 y267 (l1.length : Int)).f5.f3) == t281)))) && (((rd_T26 y267 (l1.length : Int)).f6) == t282 && (((rd_T26 y267 (l1.length : Int)).f7) == t283)))))))) = true := by simpa using c11))
          clear c11
          obtain ⟨ji12, hji12⟩ : ∃ j_ : Int, (wrap64 ((l1.length : Int) + 1)) = j_ := ⟨_, rfl⟩
          replace H : (if 0 ≤ (ji12) then (if (ji12) < (y267.length : Int) then ((dowelbook_tokensMore.f 77).bind fun bt285 => (some (((rd_T26 y267 (ji12)).f0) == bt285.1 && (((rd_T26 y267 (ji12)).f1) == bt285.2.1 && (((rd_T26 y267 (ji12)).f2) == bt285.2.2.1 && ((((rd_T26 y267 (ji12)).f3).toList) == bt285.2.2.2.1.toList && (((rd_T26 y267 (ji12)).f4) == bt285.2.2.2.2.1 && ((((rd_T26 y267 (ji12)).f5.f0) == bt285.2.2.2.2.2.1 && (((rd_T26 y267 (ji12)).f5.f1) == bt285.2.2.2.2.2.2.1 && (((rd_T26 y267 (ji12)).f5.f2) == bt285.2.2.2.2.2.2.2.1 && (((rd_T26 y267 (ji12)).f5.f3) == bt285.2.2.2.2.2.2.2.2.1)))) && (((rd_T26 y267 (ji12)).f6) == bt285.2.2.2.2.2.2.2.2.2.1 && (((rd_T26 y267 (ji12)).f7) == bt285.2.2.2.2.2.2.2.2.2.2)))))))))) else (none)) else (none)) = some r := by first | (rw [hji12] at H; exact H) | (simp only [hji12] at H ⊢; exact H)
          (try rw [hji12] at A6)
          (try rw [hji12] at A10)
          have hji12w : (IntKind.i64.wrap ((l1.length : Int) + 1)) = ji12 := (i64_w _).trans hji12
          by_cases c13 : 0 ≤ (ji12)
          · rw [if_pos c13] at H
            have c13b0 : decide (0 ≤ (ji12)) = true := decide_eq_true c13
            clear c13
            by_cases c14 : (ji12) < (y267.length : Int)
            · rw [if_pos c14] at H
              have c14b0 : decide ((ji12) < (y267.length : Int)) = true := decide_eq_true c14
              clear c14
              replace H := Option.bind_eq_some_iff.mp H
              obtain ⟨⟨t285, t286, t287, t288, t289, t290, t291, t292, t293, t294, t295⟩, A150, H⟩ := H
              replace H : (some (((rd_T26 y267 (ji12)).f0) == t285 && (((rd_T26 y267 (ji12)).f1) == t286 && (((rd_T26 y267 (ji12)).f2) == t287 && ((((rd_T26 y267 (ji12)).f3).toList) == t288.toList && (((rd_T26 y267 (ji12)).f4) == t289 && ((((rd_T26 y267 (ji12)).f5.f0) == t290 && (((rd_T26 y267 (ji12)).f5.f1) == t291 && (((rd_T26 y267 (ji12)).f5.f2) == t292 && (((rd_T26 y267 (ji12)).f5.f3) == t293)))) && (((rd_T26 y267 (ji12)).f6) == t294 && (((rd_T26 y267 (ji12)).f7) == t295))))))))) = some r := H
              have A15 := Aside0.mk A150
              clear A150
              obtain rfl := Option.some.inj H
              obtain ⟨i016, hi016, _, hsz16, _⟩ := info_parts info26
              have hcut16 := cut_cap (P := Tryd.prog) 33 26 .i64 Tryd.underlying33 hi016 A0 l0.length c0 (ji3) c4 hcy2 HC0.out
              have hy16 : y267.length = ((ji3) : Int).toNat := by have := HJY.out; omega
              rw [← hy16] at hcut16
              have HR270 := HRY
              have HC270 := HCY
              clear hi016 hsz16
              have KY16 := Aside0.mk hy16
              clear hy16
              go_enter Tryd.func13, Tryd.ntmps13
              try go_wp2
              have n0_ := Aside0.mk (Q16 HB.out)
              clear HB
              have HB := n0_
              clear n0_
              have p272 : 0 ≤ ((l1.length : Int) : Int) := of_decide_eq_true (by first | (with_reducible assumption) | assumption)
              have q272 : (l1.length : Int) < (y267.length : Int) := of_decide_eq_true (by first | (with_reducible assumption) | assumption)
              obtain ⟨ad272, e272, hx272_0, hx272_1, hx272_2, hx272_3, hx272_4, hx272_5, hx272_6, hx272_7, hx272_8, hx272_9, hx272_10⟩ := at_T26 HR270.out (l1.length : Int) p272 q272
              have hw272_10 := hx272_10
              have hw272_9 := hx272_9
              have hw272_8 := hx272_8
              have hw272_7 := hx272_7
              have hw272_6 := hx272_6
              have hw272_5 := hx272_5
              have hw272_4 := hx272_4
              have hw272_3 := hx272_3
              have hw272_2 := hx272_2
              have hw272_1 := hx272_1
              have hw272_0 := hx272_0
              cases e272
              replace hx272_0 := (HB.out.cell (World.block_lt_of_cell? w _ hx272_0)).trans hx272_0
              replace hx272_1 := (HB.out.cell (World.block_lt_of_cell? w _ hx272_1)).trans hx272_1
              replace hx272_2 := (HB.out.cell (World.block_lt_of_cell? w _ hx272_2)).trans hx272_2
              replace hx272_3 := (HB.out.cell (World.block_lt_of_cell? w _ hx272_3)).trans hx272_3
              replace hx272_4 := (HB.out.cell (World.block_lt_of_cell? w _ hx272_4)).trans hx272_4
              replace hx272_5 := (HB.out.cell (World.block_lt_of_cell? w _ hx272_5)).trans hx272_5
              replace hx272_6 := (HB.out.cell (World.block_lt_of_cell? w _ hx272_6)).trans hx272_6
              replace hx272_7 := (HB.out.cell (World.block_lt_of_cell? w _ hx272_7)).trans hx272_7
              replace hx272_8 := (HB.out.cell (World.block_lt_of_cell? w _ hx272_8)).trans hx272_8
              replace hx272_9 := (HB.out.cell (World.block_lt_of_cell? w _ hx272_9)).trans hx272_9
              replace hx272_10 := (HB.out.cell (World.block_lt_of_cell? w _ hx272_10)).trans hx272_10
              (try simp only [Go.IntWalk.toNatUp] at hx272_0)
              (try simp only [Go.IntWalk.toNatUp] at hx272_1)
              (try simp only [Go.IntWalk.toNatUp] at hx272_2)
              (try simp only [Go.IntWalk.toNatUp] at hx272_3)
              (try simp only [Go.IntWalk.toNatUp] at hx272_4)
              (try simp only [Go.IntWalk.toNatUp] at hx272_5)
              (try simp only [Go.IntWalk.toNatUp] at hx272_6)
              (try simp only [Go.IntWalk.toNatUp] at hx272_7)
              (try simp only [Go.IntWalk.toNatUp] at hx272_8)
              (try simp only [Go.IntWalk.toNatUp] at hx272_9)
              (try simp only [Go.IntWalk.toNatUp] at hx272_10)
              replace p272 := eq_true p272
              replace q272 := eq_true q272
              have p284 : 0 ≤ ((ji12) : Int) := of_decide_eq_true (by first | (with_reducible assumption) | assumption)
              have q284 : (ji12) < (y267.length : Int) := of_decide_eq_true (by first | (with_reducible assumption) | assumption)
              obtain ⟨ad284, e284, hx284_0, hx284_1, hx284_2, hx284_3, hx284_4, hx284_5, hx284_6, hx284_7, hx284_8, hx284_9, hx284_10⟩ := at_T26 HR270.out (ji12) p284 q284
              have hw284_10 := hx284_10
              have hw284_9 := hx284_9
              have hw284_8 := hx284_8
              have hw284_7 := hx284_7
              have hw284_6 := hx284_6
              have hw284_5 := hx284_5
              have hw284_4 := hx284_4
              have hw284_3 := hx284_3
              have hw284_2 := hx284_2
              have hw284_1 := hx284_1
              have hw284_0 := hx284_0
              obtain rfl : ad272 = ad284 := (by injection e284)
              replace hx284_0 := (HB.out.cell (World.block_lt_of_cell? w _ hx284_0)).trans hx284_0
              replace hx284_1 := (HB.out.cell (World.block_lt_of_cell? w _ hx284_1)).trans hx284_1
              replace hx284_2 := (HB.out.cell (World.block_lt_of_cell? w _ hx284_2)).trans hx284_2
              replace hx284_3 := (HB.out.cell (World.block_lt_of_cell? w _ hx284_3)).trans hx284_3
              replace hx284_4 := (HB.out.cell (World.block_lt_of_cell? w _ hx284_4)).trans hx284_4
              replace hx284_5 := (HB.out.cell (World.block_lt_of_cell? w _ hx284_5)).trans hx284_5
              replace hx284_6 := (HB.out.cell (World.block_lt_of_cell? w _ hx284_6)).trans hx284_6
              replace hx284_7 := (HB.out.cell (World.block_lt_of_cell? w _ hx284_7)).trans hx284_7
              replace hx284_8 := (HB.out.cell (World.block_lt_of_cell? w _ hx284_8)).trans hx284_8
              replace hx284_9 := (HB.out.cell (World.block_lt_of_cell? w _ hx284_9)).trans hx284_9
              replace hx284_10 := (HB.out.cell (World.block_lt_of_cell? w _ hx284_10)).trans hx284_10
              replace p284 := eq_true p284
              replace q284 := eq_true q284
              refine start_ (n := 23) (S := fun w' => w'.cell? (ad272.add (l1.length * 11)) = some (.int .i64 ((rd_T26 y267 (l1.length : Int)).f0)) ∧ w'.cell? ⟨(ad272.add (l1.length * 11)).block, (ad272.add (l1.length * 11)).off + 1, none⟩ = some (.int .i64 ((rd_T26 y267 (l1.length : Int)).f1)) ∧ w'.cell? ⟨(ad272.add (l1.length * 11)).block, (ad272.add (l1.length * 11)).off + 2, none⟩ = some (.int .i64 ((rd_T26 y267 (l1.length : Int)).f2)) ∧ w'.cell? ⟨(ad272.add (l1.length * 11)).block, (ad272.add (l1.length * 11)).off + 3, none⟩ = some (.string ((rd_T26 y267 (l1.length : Int)).f3)) ∧ w'.cell? ⟨(ad272.add (l1.length * 11)).block, (ad272.add (l1.length * 11)).off + 4, none⟩ = some (.bool ((rd_T26 y267 (l1.length : Int)).f4)) ∧ w'.cell? ⟨(ad272.add (l1.length * 11)).block, (ad272.add (l1.length * 11)).off + 5, none⟩ = some (.int .u64 ((rd_T26 y267 (l1.length : Int)).f5.f0)) ∧ w'.cell? ⟨(ad272.add (l1.length * 11)).block, (ad272.add (l1.length * 11)).off + 6, none⟩ = some (.int .u64 ((rd_T26 y267 (l1.length : Int)).f5.f1)) ∧ w'.cell? ⟨(ad272.add (l1.length * 11)).block, (ad272.add (l1.length * 11)).off + 7, none⟩ = some (.int .u64 ((rd_T26 y267 (l1.length : Int)).f5.f2)) ∧ w'.cell? ⟨(ad272.add (l1.length * 11)).block, (ad272.add (l1.length * 11)).off + 8, none⟩ = some (.int .u64 ((rd_T26 y267 (l1.length : Int)).f5.f3)) ∧ w'.cell? ⟨(ad272.add (l1.length * 11)).block, (ad272.add (l1.length * 11)).off + 9, none⟩ = some (.int .i64 ((rd_T26 y267 (l1.length : Int)).f6)) ∧ w'.cell? ⟨(ad272.add (l1.length * 11)).block, (ad272.add (l1.length * 11)).off + 10, none⟩ = some (.int .i64 ((rd_T26 y267 (l1.length : Int)).f7)) ∧ w'.cell? (ad272.add (((ji12)).toNat * 11)) = some (.int .i64 ((rd_T26 y267 (ji12)).f0)) ∧ w'.cell? ⟨(ad272.add (((ji12)).toNat * 11)).block, (ad272.add (((ji12)).toNat * 11)).off + 1, none⟩ = some (.int .i64 ((rd_T26 y267 (ji12)).f1)) ∧ w'.cell? ⟨(ad272.add (((ji12)).toNat * 11)).block, (ad272.add (((ji12)).toNat * 11)).off + 2, none⟩ = some (.int .i64 ((rd_T26 y267 (ji12)).f2)) ∧ w'.cell? ⟨(ad272.add (((ji12)).toNat * 11)).block, (ad272.add (((ji12)).toNat * 11)).off + 3, none⟩ = some (.string ((rd_T26 y267 (ji12)).f3)) ∧ w'.cell? ⟨(ad272.add (((ji12)).toNat * 11)).block, (ad272.add (((ji12)).toNat * 11)).off + 4, none⟩ = some (.bool ((rd_T26 y267 (ji12)).f4)) ∧ w'.cell? ⟨(ad272.add (((ji12)).toNat * 11)).block, (ad272.add (((ji12)).toNat * 11)).off + 5, none⟩ = some (.int .u64 ((rd_T26 y267 (ji12)).f5.f0)) ∧ w'.cell? ⟨(ad272.add (((ji12)).toNat * 11)).block, (ad272.add (((ji12)).toNat * 11)).off + 6, none⟩ = some (.int .u64 ((rd_T26 y267 (ji12)).f5.f1)) ∧ w'.cell? ⟨(ad272.add (((ji12)).toNat * 11)).block, (ad272.add (((ji12)).toNat * 11)).off + 7, none⟩ = some (.int .u64 ((rd_T26 y267 (ji12)).f5.f2)) ∧ w'.cell? ⟨(ad272.add (((ji12)).toNat * 11)).block, (ad272.add (((ji12)).toNat * 11)).off + 8, none⟩ = some (.int .u64 ((rd_T26 y267 (ji12)).f5.f3)) ∧ w'.cell? ⟨(ad272.add (((ji12)).toNat * 11)).block, (ad272.add (((ji12)).toNat * 11)).off + 9, none⟩ = some (.int .i64 ((rd_T26 y267 (ji12)).f6)) ∧ w'.cell? ⟨(ad272.add (((ji12)).toNat * 11)).block, (ad272.add (((ji12)).toNat * 11)).off + 10, none⟩ = some (.int .i64 ((rd_T26 y267 (ji12)).f7))) (ds := []) #[false, false, false, false, false, false, false, false, false, false, false, false, false, false, false, false, false, false, false, false, false, false, false] (by kernel_rfl) rfl rfl ⟨((HB.out.cell (World.block_lt_of_cell? w _ hw272_0)).trans hw272_0), ((HB.out.cell (World.block_lt_of_cell? w _ hw272_1)).trans hw272_1), ((HB.out.cell (World.block_lt_of_cell? w _ hw272_2)).trans hw272_2), ((HB.out.cell (World.block_lt_of_cell? w _ hw272_3)).trans hw272_3), ((HB.out.cell (World.block_lt_of_cell? w _ hw272_4)).trans hw272_4), ((HB.out.cell (World.block_lt_of_cell? w _ hw272_5)).trans hw272_5), ((HB.out.cell (World.block_lt_of_cell? w _ hw272_6)).trans hw272_6), ((HB.out.cell (World.block_lt_of_cell? w _ hw272_7)).trans hw272_7), ((HB.out.cell (World.block_lt_of_cell? w _ hw272_8)).trans hw272_8), ((HB.out.cell (World.block_lt_of_cell? w _ hw272_9)).trans hw272_9), ((HB.out.cell (World.block_lt_of_cell? w _ hw272_10)).trans hw272_10), ((HB.out.cell (World.block_lt_of_cell? w _ hw284_0)).trans hw284_0), ((HB.out.cell (World.block_lt_of_cell? w _ hw284_1)).trans hw284_1), ((HB.out.cell (World.block_lt_of_cell? w _ hw284_2)).trans hw284_2), ((HB.out.cell (World.block_lt_of_cell? w _ hw284_3)).trans hw284_3), ((HB.out.cell (World.block_lt_of_cell? w _ hw284_4)).trans hw284_4), ((HB.out.cell (World.block_lt_of_cell? w _ hw284_5)).trans hw284_5), ((HB.out.cell (World.block_lt_of_cell? w _ hw284_6)).trans hw284_6), ((HB.out.cell (World.block_lt_of_cell? w _ hw284_7)).trans hw284_7), ((HB.out.cell (World.block_lt_of_cell? w _ hw284_8)).trans hw284_8), ((HB.out.cell (World.block_lt_of_cell? w _ hw284_9)).trans hw284_9), ((HB.out.cell (World.block_lt_of_cell? w _ hw284_10)).trans hw284_10)⟩ (fun hHeld => ?_); refine with_tabW keptA.tab2 keptA.bits2 (fun HT_ HW_ => ?_)
              generalize w.drew = w17 at HB hx272_0 hx272_1 hx272_10 hx272_2 hx272_3 hx272_4 hx272_5 hx272_6 hx272_7 hx272_8 hx272_9 hx284_0 hx284_1 hx284_10 hx284_2 hx284_3 hx284_4 hx284_5 hx284_6 hx284_7 hx284_8 hx284_9 hHeld ⊢
              refine pure_ (i := 0) (N := some 11) (v := ?_) (a' := ?_) #[true, false, false, false, false, false, false, false, false, false, false, false, false, false, false, false, false, false, false, false, false, false, false] rfl rfl (any_of HT_.out (by kernel_rfl)) (fun _ _ _ h => h) (Or.inl ⟨by rfl, ?_⟩) ?_ ?_
              rotate_left
              · intro w'
                go_simp
                with_reducible rfl
              rotate_left
              · simp only [Act.put, List.setIfInBounds_toArray, List.set_cons_zero, List.set_cons_succ, i64_w, i32_w]
                rfl
              refine pure_ (i := 1) (N := some 12) (v := ?_) (a' := ?_) #[true, true, false, false, false, false, false, false, false, false, false, false, false, false, false, false, false, false, false, false, false, false, false] rfl rfl (any_of HT_.out (by kernel_rfl)) (fun _ _ _ h => h) (Or.inl ⟨by rfl, ?_⟩) ?_ ?_
              rotate_left
              · intro w'
                go_simp
                with_reducible rfl
              rotate_left
              · simp only [Act.put, List.setIfInBounds_toArray, List.set_cons_zero, List.set_cons_succ, i64_w, i32_w]
                rfl
              refine one_ (i := 2) (N := some 13) #[true, true, true, false, false, false, false, false, false, false, false, false, false, false, false, false, false, false, false, false, false, false, false] rfl rfl (one_of HT_.out (by kernel_rfl)) (by decide) (fun K hK => ?_)
              refine goes_ Tryd.func29 (by kernel_rfl) rfl #[.slice (some ad272) l0.length c0, .slice A1 l1.length c1] (by rfl) rfl rfl (by (try simp only [List.map_toArray, List.map_cons, List.map_nil]); first | done | rfl | (simp only [List.length_drop, List.length_take]; rfl)) ?_
              with_reducible refine (dowelbook_Tokens.calls k _ _ l0 _ _ l1 true _ ?side1 ?side2 ?side3 ?side4 A6.out).mono ?_
              (case side1 => repeat (first | exact (Kd.C_below HR0.out HB.out) | (with_reducible refine Kd.C_alloc ?_ _) | (with_reducible refine Kd.C_drewN ?_ _) | (with_reducible refine Kd.C_drew ?_)))
              (case side2 => exact HC0.out)
              (case side3 => repeat (first | exact (Kd.C_below HR1.out HB.out) | (with_reducible refine Kd.C_alloc ?_ _) | (with_reducible refine Kd.C_drewN ?_ _) | (with_reducible refine Kd.C_drew ?_)))
              (case side4 => exact HC1.out)
              rintro e w' ⟨rfl, ⟨nd, rfl⟩⟩
              refine ⟨_, rfl, ?_⟩
              refine hK.out _ _ ⟨((HB.out.cell (World.block_lt_of_cell? w _ hw272_0)).trans hw272_0), ((HB.out.cell (World.block_lt_of_cell? w _ hw272_1)).trans hw272_1), ((HB.out.cell (World.block_lt_of_cell? w _ hw272_2)).trans hw272_2), ((HB.out.cell (World.block_lt_of_cell? w _ hw272_3)).trans hw272_3), ((HB.out.cell (World.block_lt_of_cell? w _ hw272_4)).trans hw272_4), ((HB.out.cell (World.block_lt_of_cell? w _ hw272_5)).trans hw272_5), ((HB.out.cell (World.block_lt_of_cell? w _ hw272_6)).trans hw272_6), ((HB.out.cell (World.block_lt_of_cell? w _ hw272_7)).trans hw272_7), ((HB.out.cell (World.block_lt_of_cell? w _ hw272_8)).trans hw272_8), ((HB.out.cell (World.block_lt_of_cell? w _ hw272_9)).trans hw272_9), ((HB.out.cell (World.block_lt_of_cell? w _ hw272_10)).trans hw272_10), ((HB.out.cell (World.block_lt_of_cell? w _ hw284_0)).trans hw284_0), ((HB.out.cell (World.block_lt_of_cell? w _ hw284_1)).trans hw284_1), ((HB.out.cell (World.block_lt_of_cell? w _ hw284_2)).trans hw284_2), ((HB.out.cell (World.block_lt_of_cell? w _ hw284_3)).trans hw284_3), ((HB.out.cell (World.block_lt_of_cell? w _ hw284_4)).trans hw284_4), ((HB.out.cell (World.block_lt_of_cell? w _ hw284_5)).trans hw284_5), ((HB.out.cell (World.block_lt_of_cell? w _ hw284_6)).trans hw284_6), ((HB.out.cell (World.block_lt_of_cell? w _ hw284_7)).trans hw284_7), ((HB.out.cell (World.block_lt_of_cell? w _ hw284_8)).trans hw284_8), ((HB.out.cell (World.block_lt_of_cell? w _ hw284_9)).trans hw284_9), ((HB.out.cell (World.block_lt_of_cell? w _ hw284_10)).trans hw284_10)⟩ (fun hHeld => ?_)
              clear hK K
              refine norm_ (a' := ?_) ?_ ?_
              rotate_left
              · show Act.put _ (some 13) _ = _
                simp only [Act.put, List.setIfInBounds_toArray, List.set_cons_zero, List.set_cons_succ, i64_w, i32_w]
                rfl
              refine pure_ (i := 3) (N := some 14) (v := ?_) (a' := ?_) #[true, true, true, true, false, false, false, false, false, false, false, false, false, false, false, false, false, false, false, false, false, false, false] rfl rfl (any_of HT_.out (by kernel_rfl)) (fun _ _ _ h => h) (Or.inl ⟨by rfl, ?_⟩) ?_ ?_
              rotate_left
              · intro w'
                go_simp
                with_reducible rfl
              rotate_left
              · simp only [Act.put, List.setIfInBounds_toArray, List.set_cons_zero, List.set_cons_succ, i64_w, i32_w]
                rfl
              refine pure_ (i := 4) (N := some 15) (v := ?_) (a' := ?_) #[true, true, true, true, true, false, false, false, false, false, false, false, false, false, false, false, false, false, false, false, false, false, false] rfl rfl (any_of HT_.out (by kernel_rfl)) (fun _ _ _ h => h) (Or.inl ⟨by rfl, ?_⟩) ?_ ?_
              rotate_left
              · intro w'
                go_simp
                with_reducible rfl
              rotate_left
              · simp only [Act.put, List.setIfInBounds_toArray, List.set_cons_zero, List.set_cons_succ, i64_w, i32_w]
                rfl
              refine pure_ (i := 5) (N := some 16) (v := ?_) (a' := ?_) #[true, true, true, true, true, true, false, false, false, false, false, false, false, false, false, false, false, false, false, false, false, false, false] rfl rfl (any_of HT_.out (by kernel_rfl)) (fun _ _ _ h => h) (Or.inl ⟨by rfl, ?_⟩) ?_ ?_
              rotate_left
              · intro w'
                go_simp
                with_reducible rfl
              rotate_left
              · simp only [Act.put, List.setIfInBounds_toArray, List.set_cons_zero, List.set_cons_succ, i64_w, i32_w]
                rfl
              refine pure_ (i := 6) (N := some 17) (v := ?_) (a' := ?_) #[true, true, true, true, true, true, true, false, false, false, false, false, false, false, false, false, false, false, false, false, false, false, false] rfl rfl (any_of HT_.out (by kernel_rfl)) (fun _ _ _ h => h) (Or.inl ⟨by rfl, ?_⟩) ?_ ?_
              rotate_left
              · intro w'
                go_simp
                with_reducible rfl
              rotate_left
              · simp only [Act.put, List.setIfInBounds_toArray, List.set_cons_zero, List.set_cons_succ, i64_w, i32_w]
                rfl
              refine pure_ (i := 7) (N := some 18) (v := ?_) (a' := ?_) #[true, true, true, true, true, true, true, true, false, false, false, false, false, false, false, false, false, false, false, false, false, false, false] rfl rfl (any_of HT_.out (by kernel_rfl)) (fun _ _ _ h => h) (Or.inl ⟨by rfl, ?_⟩) ?_ ?_
              rotate_left
              · intro w'
                go_simp
                with_reducible rfl
              rotate_left
              · simp only [Act.put, List.setIfInBounds_toArray, List.set_cons_zero, List.set_cons_succ, i64_w, i32_w]
                rfl
              refine take_ (i := 8) (N := some 19) (v := ?_) (a' := ?_) #[true, true, true, true, true, true, true, true, true, false, false, false, false, false, false, false, false, false, false, false, false, false, false] rfl rfl (take_ofW HT_.out HW_.out (by kernel_rfl)) (fun _ _ _ h => h) (Or.inl ⟨by rfl, ?_⟩) hHeld ?_ ?_
              rotate_left
              · rintro w' ⟨s0, s1, s2, s3, s4, s5, s6, s7, s8, s9, s10, s11, s12, s13, s14, s15, s16, s17, s18, s19, s20, s21⟩
                go_simp
                with_reducible rfl
              rotate_left
              · simp only [Act.put, List.setIfInBounds_toArray, List.set_cons_zero, List.set_cons_succ, i64_w, i32_w]
                rfl
              refine one_ (i := 9) (N := some 20) #[true, true, true, true, true, true, true, true, true, true, false, false, false, false, false, false, false, false, false, false, false, false, false] rfl rfl (one_of HT_.out (by kernel_rfl)) (by decide) (fun K hK => ?_)
              refine goes_ Tryd.func23 (by kernel_rfl) rfl #[.int .i64 77] (by rfl) rfl rfl (by (try simp only [List.map_toArray, List.map_cons, List.map_nil]); first | done | rfl | (simp only [List.length_drop, List.length_take]; rfl)) ?_
              with_reducible refine (dowelbook_tokensMark.calls 77 t273 t274 t275 t276 t277 t278 t279 t280 t281 t282 t283 _ A10.out).mono ?_
              rintro e w18 ⟨rfl, hb⟩
              refine ⟨_, rfl, ?_⟩
              have n0_ := Aside0.mk (Q25 (by repeat (first | (with_reducible first | exact HB.out | apply Q17 | apply Q11 | apply Q16) | exact HB.out)) hb)
              clear HB
              have HB := n0_
              clear n0_
              (try clear hb)
              (try clear hb2)
              (try clear hk)
              (try clear hi)
              refine hK.out _ _ ⟨((HB.out.cell (World.block_lt_of_cell? w _ hw272_0)).trans hw272_0), ((HB.out.cell (World.block_lt_of_cell? w _ hw272_1)).trans hw272_1), ((HB.out.cell (World.block_lt_of_cell? w _ hw272_2)).trans hw272_2), ((HB.out.cell (World.block_lt_of_cell? w _ hw272_3)).trans hw272_3), ((HB.out.cell (World.block_lt_of_cell? w _ hw272_4)).trans hw272_4), ((HB.out.cell (World.block_lt_of_cell? w _ hw272_5)).trans hw272_5), ((HB.out.cell (World.block_lt_of_cell? w _ hw272_6)).trans hw272_6), ((HB.out.cell (World.block_lt_of_cell? w _ hw272_7)).trans hw272_7), ((HB.out.cell (World.block_lt_of_cell? w _ hw272_8)).trans hw272_8), ((HB.out.cell (World.block_lt_of_cell? w _ hw272_9)).trans hw272_9), ((HB.out.cell (World.block_lt_of_cell? w _ hw272_10)).trans hw272_10), ((HB.out.cell (World.block_lt_of_cell? w _ hw284_0)).trans hw284_0), ((HB.out.cell (World.block_lt_of_cell? w _ hw284_1)).trans hw284_1), ((HB.out.cell (World.block_lt_of_cell? w _ hw284_2)).trans hw284_2), ((HB.out.cell (World.block_lt_of_cell? w _ hw284_3)).trans hw284_3), ((HB.out.cell (World.block_lt_of_cell? w _ hw284_4)).trans hw284_4), ((HB.out.cell (World.block_lt_of_cell? w _ hw284_5)).trans hw284_5), ((HB.out.cell (World.block_lt_of_cell? w _ hw284_6)).trans hw284_6), ((HB.out.cell (World.block_lt_of_cell? w _ hw284_7)).trans hw284_7), ((HB.out.cell (World.block_lt_of_cell? w _ hw284_8)).trans hw284_8), ((HB.out.cell (World.block_lt_of_cell? w _ hw284_9)).trans hw284_9), ((HB.out.cell (World.block_lt_of_cell? w _ hw284_10)).trans hw284_10)⟩ (fun hHeld => ?_)
              clear hK K
              refine norm_ (a' := ?_) ?_ ?_
              rotate_left
              · show Act.put _ (some 20) _ = _
                simp only [Act.put, List.setIfInBounds_toArray, List.set_cons_zero, List.set_cons_succ, i64_w, i32_w]
                rfl
              refine pure_ (i := 10) (N := some 21) (v := ?_) (a' := ?_) #[true, true, true, true, true, true, true, true, true, true, true, false, false, false, false, false, false, false, false, false, false, false, false] rfl rfl (any_of HT_.out (by kernel_rfl)) (fun _ _ _ h => h) (Or.inl ⟨by rfl, ?_⟩) ?_ ?_
              rotate_left
              · intro w'
                go_simp
                with_reducible rfl
              rotate_left
              · simp only [Act.put, List.setIfInBounds_toArray, List.set_cons_zero, List.set_cons_succ, i64_w, i32_w]
                rfl
              refine pure_ (i := 11) (N := some 22) (v := ?_) (a' := ?_) #[true, true, true, true, true, true, true, true, true, true, true, true, false, false, false, false, false, false, false, false, false, false, false] rfl rfl (any_of HT_.out (by kernel_rfl)) (fun _ _ _ h => h) (Or.inl ⟨by rfl, ?_⟩) ?_ ?_
              rotate_left
              · intro w'
                go_simp
                with_reducible rfl
              rotate_left
              · simp only [Act.put, List.setIfInBounds_toArray, List.set_cons_zero, List.set_cons_succ, i64_w, i32_w]
                rfl
              refine pure_ (i := 12) (N := some 23) (v := ?_) (a' := ?_) #[true, true, true, true, true, true, true, true, true, true, true, true, true, false, false, false, false, false, false, false, false, false, false] rfl rfl (any_of HT_.out (by kernel_rfl)) (fun _ _ _ h => h) (Or.inl ⟨by rfl, ?_⟩) ?_ ?_
              rotate_left
              · intro w'
                go_simp
                with_reducible rfl
              rotate_left
              · simp only [Act.put, List.setIfInBounds_toArray, List.set_cons_zero, List.set_cons_succ, i64_w, i32_w]
                rfl
              refine pure_ (i := 13) (N := some 24) (v := ?_) (a' := ?_) #[true, true, true, true, true, true, true, true, true, true, true, true, true, true, false, false, false, false, false, false, false, false, false] rfl rfl (any_of HT_.out (by kernel_rfl)) (fun _ _ _ h => h) (Or.inl ⟨by rfl, ?_⟩) ?_ ?_
              rotate_left
              · intro w'
                go_simp
                with_reducible rfl
              rotate_left
              · simp only [Act.put, List.setIfInBounds_toArray, List.set_cons_zero, List.set_cons_succ, i64_w, i32_w]
                rfl
              refine pure_ (i := 14) (N := some 25) (v := ?_) (a' := ?_) #[true, true, true, true, true, true, true, true, true, true, true, true, true, true, true, false, false, false, false, false, false, false, false] rfl rfl (any_of HT_.out (by kernel_rfl)) (fun _ _ _ h => h) (Or.inl ⟨by rfl, ?_⟩) ?_ ?_
              rotate_left
              · intro w'
                go_simp
                with_reducible rfl
              rotate_left
              · simp only [Act.put, List.setIfInBounds_toArray, List.set_cons_zero, List.set_cons_succ, i64_w, i32_w]
                rfl
              refine pure_ (i := 15) (N := some 26) (v := ?_) (a' := ?_) #[true, true, true, true, true, true, true, true, true, true, true, true, true, true, true, true, false, false, false, false, false, false, false] rfl rfl (any_of HT_.out (by kernel_rfl)) (fun _ _ _ h => h) (Or.inl ⟨by rfl, ?_⟩) ?_ ?_
              rotate_left
              · intro w'
                go_simp
                with_reducible rfl
              rotate_left
              · simp only [Act.put, List.setIfInBounds_toArray, List.set_cons_zero, List.set_cons_succ, i64_w, i32_w]
                rfl
              refine pure_ (i := 16) (N := some 27) (v := ?_) (a' := ?_) #[true, true, true, true, true, true, true, true, true, true, true, true, true, true, true, true, true, false, false, false, false, false, false] rfl rfl (any_of HT_.out (by kernel_rfl)) (fun _ _ _ h => h) (Or.inl ⟨by rfl, ?_⟩) ?_ ?_
              rotate_left
              · intro w'
                go_simp
                with_reducible rfl
              rotate_left
              · simp only [Act.put, List.setIfInBounds_toArray, List.set_cons_zero, List.set_cons_succ, i64_w, i32_w]
                rfl
              refine pure_ (i := 17) (N := some 28) (v := ?_) (a' := ?_) #[true, true, true, true, true, true, true, true, true, true, true, true, true, true, true, true, true, true, false, false, false, false, false] rfl rfl (any_of HT_.out (by kernel_rfl)) (fun _ _ _ h => h) (Or.inl ⟨by rfl, ?_⟩) ?_ ?_
              rotate_left
              · intro w'
                go_simp
                with_reducible rfl
              rotate_left
              · simp only [Act.put, List.setIfInBounds_toArray, List.set_cons_zero, List.set_cons_succ, i64_w, i32_w]
                rfl
              refine take_ (i := 18) (N := some 29) (v := ?_) (a' := ?_) #[true, true, true, true, true, true, true, true, true, true, true, true, true, true, true, true, true, true, true, false, false, false, false] rfl rfl (take_ofW HT_.out HW_.out (by kernel_rfl)) (fun _ _ _ h => h) (Or.inl ⟨by rfl, ?_⟩) hHeld ?_ ?_
              rotate_left
              · rintro w' ⟨s0, s1, s2, s3, s4, s5, s6, s7, s8, s9, s10, s11, s12, s13, s14, s15, s16, s17, s18, s19, s20, s21⟩
                go_simp
                with_reducible rfl
              rotate_left
              · simp only [Act.put, List.setIfInBounds_toArray, List.set_cons_zero, List.set_cons_succ, i64_w, i32_w]
                rfl
              refine one_ (i := 19) (N := some 30) #[true, true, true, true, true, true, true, true, true, true, true, true, true, true, true, true, true, true, true, true, false, false, false] rfl rfl (one_of HT_.out (by kernel_rfl)) (by decide) (fun K hK => ?_)
              refine goes_ Tryd.func24 (by kernel_rfl) rfl #[.int .i64 77] (by rfl) rfl rfl (by (try simp only [List.map_toArray, List.map_cons, List.map_nil]); first | done | rfl | (simp only [List.length_drop, List.length_take]; rfl)) ?_
              with_reducible refine (dowelbook_tokensMore.calls 77 t285 t286 t287 t288 t289 t290 t291 t292 t293 t294 t295 _ A15.out).mono ?_
              rintro e w19 ⟨rfl, hb⟩
              refine ⟨_, rfl, ?_⟩
              have n0_ := Aside0.mk (Q25 (by repeat (first | (with_reducible first | exact HB.out | apply Q17 | apply Q11 | apply Q16) | exact HB.out)) hb)
              clear HB
              have HB := n0_
              clear n0_
              (try clear hb)
              (try clear hb2)
              (try clear hk)
              (try clear hi)
              refine hK.out _ _ ⟨((HB.out.cell (World.block_lt_of_cell? w _ hw272_0)).trans hw272_0), ((HB.out.cell (World.block_lt_of_cell? w _ hw272_1)).trans hw272_1), ((HB.out.cell (World.block_lt_of_cell? w _ hw272_2)).trans hw272_2), ((HB.out.cell (World.block_lt_of_cell? w _ hw272_3)).trans hw272_3), ((HB.out.cell (World.block_lt_of_cell? w _ hw272_4)).trans hw272_4), ((HB.out.cell (World.block_lt_of_cell? w _ hw272_5)).trans hw272_5), ((HB.out.cell (World.block_lt_of_cell? w _ hw272_6)).trans hw272_6), ((HB.out.cell (World.block_lt_of_cell? w _ hw272_7)).trans hw272_7), ((HB.out.cell (World.block_lt_of_cell? w _ hw272_8)).trans hw272_8), ((HB.out.cell (World.block_lt_of_cell? w _ hw272_9)).trans hw272_9), ((HB.out.cell (World.block_lt_of_cell? w _ hw272_10)).trans hw272_10), ((HB.out.cell (World.block_lt_of_cell? w _ hw284_0)).trans hw284_0), ((HB.out.cell (World.block_lt_of_cell? w _ hw284_1)).trans hw284_1), ((HB.out.cell (World.block_lt_of_cell? w _ hw284_2)).trans hw284_2), ((HB.out.cell (World.block_lt_of_cell? w _ hw284_3)).trans hw284_3), ((HB.out.cell (World.block_lt_of_cell? w _ hw284_4)).trans hw284_4), ((HB.out.cell (World.block_lt_of_cell? w _ hw284_5)).trans hw284_5), ((HB.out.cell (World.block_lt_of_cell? w _ hw284_6)).trans hw284_6), ((HB.out.cell (World.block_lt_of_cell? w _ hw284_7)).trans hw284_7), ((HB.out.cell (World.block_lt_of_cell? w _ hw284_8)).trans hw284_8), ((HB.out.cell (World.block_lt_of_cell? w _ hw284_9)).trans hw284_9), ((HB.out.cell (World.block_lt_of_cell? w _ hw284_10)).trans hw284_10)⟩ (fun hHeld => ?_)
              clear hK K
              refine norm_ (a' := ?_) ?_ ?_
              rotate_left
              · show Act.put _ (some 30) _ = _
                simp only [Act.put, List.setIfInBounds_toArray, List.set_cons_zero, List.set_cons_succ, i64_w, i32_w]
                rfl
              refine pure_ (i := 20) (N := some 31) (v := ?_) (a' := ?_) #[true, true, true, true, true, true, true, true, true, true, true, true, true, true, true, true, true, true, true, true, true, false, false] rfl rfl (any_of HT_.out (by kernel_rfl)) (fun _ _ _ h => h) (Or.inl ⟨by rfl, ?_⟩) ?_ ?_
              rotate_left
              · intro w'
                go_simp
                with_reducible rfl
              rotate_left
              · simp only [Act.put, List.setIfInBounds_toArray, List.set_cons_zero, List.set_cons_succ, i64_w, i32_w]
                rfl
              refine pure_ (i := 21) (N := some 32) (v := ?_) (a' := ?_) #[true, true, true, true, true, true, true, true, true, true, true, true, true, true, true, true, true, true, true, true, true, true, false] rfl rfl (any_of HT_.out (by kernel_rfl)) (fun _ _ _ h => h) (Or.inl ⟨by rfl, ?_⟩) ?_ ?_
              rotate_left
              · intro w'
                go_simp
                with_reducible rfl
              rotate_left
              · simp only [Act.put, List.setIfInBounds_toArray, List.set_cons_zero, List.set_cons_succ, i64_w, i32_w]
                rfl
              refine pure_ (i := 22) (N := some 4) (v := ?_) (a' := ?_) #[true, true, true, true, true, true, true, true, true, true, true, true, true, true, true, true, true, true, true, true, true, true, true] rfl rfl (any_of HT_.out (by kernel_rfl)) (fun _ _ _ h => h) (Or.inl ⟨by rfl, ?_⟩) ?_ ?_
              rotate_left
              · intro w'
                go_simp
                with_reducible rfl
              rotate_left
              · simp only [Act.put, List.setIfInBounds_toArray, List.set_cons_zero, List.set_cons_succ, i64_w, i32_w]
                rfl
              refine done_ (done_of HT_.out (by kernel_rfl)) ?_
              try go_wp2
              go_ret
              exact ⟨by first | rfl | (simp [Q31, Q28] <;> rfl) | (simp only [← hji3, ← hji12]; first | rfl | (simp [Q31, Q28] <;> rfl)) | (simp [*, Q31, Q28] <;> rfl), by repeat (first | (with_reducible first | exact HB.out | apply Q17 | apply Q11 | apply Q16) | exact HB.out)⟩
            · rw [if_neg c14] at H
              subst hrt
              exact absurd H (by simp)
          · rw [if_neg c13] at H
            subst hrt
            exact absurd H (by simp)
        · rw [if_neg c11] at H
          subst hrt
          exact absurd H (by simp)
      · rw [if_neg c9] at H
        subst hrt
        exact absurd H (by simp)
    · rw [if_neg c8] at H
      subst hrt
      exact absurd H (by simp)
  · rw [if_neg c7] at H
    subst hrt
    exact absurd H (by simp)
end Go.Proofs.YtldjdcdoegjmoaaDoor.P
set_option linter.unusedVariables false
set_option linter.unusedSimpArgs false
namespace Go.Proofs.YtldjdcdoegjmoaaDoor.Ap
open Go.RowKit Go.Proofs.YtldjdcdoegjmoaaDoor Go.Proofs.YtldjdcdoegjmoaaDoorW.PrintWords Go.Proofs.YtldjdcdoegjmoaaDoorW.PrintLast Go.Proofs.YtldjdcdoegjmoaaDoorW.PrintMore Go.Proofs.YtldjdcdoegjmoaaDoor.P
theorem wr {x : Int} (h1 : -9223372036854775808 ≤ x) (h2 : x < 9223372036854775808) : wrap64 x = x := by unfold wrap64; omega
theorem rd_app (l m : List S26) (i : Int) (j : Nat) (hi : i = (l.length + j : Nat)) : rd_T26 (l ++ m) i = m.getD j z26 := by
  subst hi
  unfold rd_T26
  rw [Int.toNat_natCast]
  simp [List.getD, List.getElem?_append_right]
theorem toks_same (l : List S26) (hl : l.length ≤ 35184372088832) : ∃ d, ∀ k, dowelbook_Tokens.f (k + d) l l = some true := by
  have h : ∀ m i : Nat, i + m = l.length → ∀ k, dowelbook_Tokens.l0 (k + m + 1) l l i = some true := by
    intro m
    induction m with
    | zero => intro i hi k; rw [dowelbook_Tokens.l0.eq_def]; simp only []; rw [if_neg (by omega)]
    | succ m ih =>
      intro i hi k
      have e1 : wrap64 ((i : Int) + 1) = ((i + 1 : Nat) : Int) := by rw [wr (by omega) (by omega)]; omega
      rw [dowelbook_Tokens.l0.eq_def]
      simp only []
      rw [if_pos (by omega), if_pos (by omega), if_pos (by omega), if_neg (by simp), e1]
      exact ih (i + 1) (by omega) k
  refine ⟨l.length + 1, fun k => ?_⟩
  unfold dowelbook_Tokens.f
  rw [if_pos rfl]
  exact h l.length 0 (by omega) k
theorem kept_true (l : List S26) (hsm : l.length ≤ 1048576) : ∃ k, KA k l l (l ++ [mk77, mo77]) = some true := by
  obtain ⟨d, hd⟩ := toks_same l (by omega)
  refine ⟨0 + d, ?_⟩
  have e1 : wrap64 ((l.length : Int) + 1) = ((l.length + 1 : Nat) : Int) := by rw [wr (by omega) (by omega)]; omega
  have r1 : rd_T26 (l ++ [mk77, mo77]) (l.length : Int) = mk77 := rd_app l [mk77, mo77] (l.length : Int) 0 rfl
  have r2 : rd_T26 (l ++ [mk77, mo77]) ((l.length + 1 : Nat) : Int) = mo77 := rd_app l [mk77, mo77] ((l.length + 1 : Nat) : Int) 1 rfl
  have m1 : dowelbook_tokensMark.f 77 = some (-78, 0, 0, ⟨#[]⟩, false, 0, 0, 0, 0, 0, 0) := by kernel_rfl
  have m2 : dowelbook_tokensMore.f 77 = some (-100077, 0, 0, ⟨#[]⟩, false, 0, 0, 0, 0, 0, 0) := by kernel_rfl
  unfold KA
  rw [hd, Option.bind_some, e1, r1, r2, m1, m2]
  rw [if_pos rfl, if_pos (by omega), if_pos (by simp; omega), Option.bind_some, if_pos (by simp [mk77]), if_pos (by omega), if_pos (by simp), Option.bind_some]
  simp [mo77]
theorem kept_c (A : Option Addr) (c : Nat) (l : List S26) (g c' B : Nat) (w : World) (hr : Kd.C k26 w A l.length l) (hc : l.length ≤ c) (hsm : l.length ≤ 1048576) (ho : w.ownsRow B 26 11 (.slice (some ⟨g, 0, none⟩) (l.length + 2) c') (l.length + 2) (flat (l ++ [mk77, mo77]))) (hc' : l.length + 2 ≤ c') :
    Calls Tryd.prog 13 #[.slice (some ⟨g, 0, none⟩) l.length c', .slice A l.length c] w fun e w' => e = .returned (.bool true) ∧ Below w.heap.size w w' := by
  obtain ⟨k, hk⟩ := kept_true l hsm
  have hl : (l ++ [mk77, mo77]).length = l.length + 2 := by simp
  refine kept_w k _ c' l A c l (l ++ [mk77, mo77]) true w (row_owned l (flat [mk77, mo77]) _ ho (by unfold flat; simp) (by omega) (by omega)) (by omega) hr hc ?_ (by omega) hl hsm rfl hk
  exact row_owned _ [] _ ho (by simp) (by omega) (by omega)
def dot : S26 := ⟨13, 0, 0, ⟨#[]⟩, false, ⟨0, 0, 0, 0⟩, 0, 0⟩
theorem dot_ok : Wr.OkT dot := ⟨by decide, ⟨0, 0, 0, 0⟩, by simp [Cls.ok, w64], rfl⟩
theorem dots_ok (n : Nat) : ∀ x ∈ List.replicate n dot, Wr.OkT x := fun x hx => by rw [(List.mem_replicate.1 hx).2]; exact dot_ok
theorem flat_app (l m : List S26) : flat (l ++ m) = flat l ++ flat m := by unfold flat; simp
theorem dot_set (l m : List S26) (t : Nat) (ht : t < l.length) : Fr.setList (flat (List.replicate t dot ++ l.drop t ++ m)) (t * 11) (enc dot) = flat (List.replicate (t + 1) dot ++ l.drop (t + 1) ++ m) := by
  have e : l.drop t = l[t] :: l.drop (t + 1) := List.drop_eq_getElem_cons ht
  have e1 : List.replicate t dot ++ l.drop t ++ m = List.replicate t dot ++ ([l[t]] ++ (l.drop (t + 1) ++ m)) := by rw [e, List.append_assoc]; rfl
  have e3 : List.replicate (t + 1) dot ++ l.drop (t + 1) ++ m = List.replicate t dot ++ ([dot] ++ (l.drop (t + 1) ++ m)) := by rw [List.replicate_succ', List.append_assoc, List.append_assoc]
  have e4 : flat [dot] = enc dot := by unfold flat; simp
  rw [e1, e3, flat_app _ ([l[t]] ++ (l.drop (t + 1) ++ m)), flat_app [l[t]] _, flat_app _ ([dot] ++ (l.drop (t + 1) ++ m)), flat_app [dot] _, e4]
  exact Fr.setList_mid (enc dot) (flat (List.replicate t dot)) (flat [l[t]]) (flat (l.drop (t + 1) ++ m)) (t * 11) (by rw [flat_len]; simp) (by rw [flat_len]; rfl)
theorem own_form {W : World} {B n : Nat} {v : Value} {xs : List Value} (h : W.ownsRow B 26 11 v n xs) : ∃ A c, v = .slice A n c ∧ n ≤ c := by
  rcases h.2 with ⟨q, q2⟩ | ⟨g, cap, cur, q, _, _, r, _⟩
  · exact ⟨none, 0, by rw [q, q2], by omega⟩
  · exact ⟨_, _, q, r⟩
/-- A row that is owned, read. -/
theorem row_any {W : World} {B n c : Nat} {A : Option Addr} (l : List S26) (h : W.ownsRow B 26 11 (.slice A n c) n (flat l)) (hn : l.length = n) (hs : n ≤ 9223372036854775807) : Kd.C k26 W A l.length l := by
  rcases h.2 with ⟨q, q2⟩ | ⟨g, cap, cur, q, _⟩
  · injection q with q1 _ _
    subst q1
    exact ⟨rfl, by omega, fun h => by omega⟩
  · injection q with q1 _ q3
    subst q1
    exact row_owned l [] _ h (by simp) (by omega) (by omega)
theorem own_below {W W' : World} {B n : Nat} {v : Value} {xs : List Value} (h : W.ownsRow B 26 11 v n xs) (hb : Below W.heap.size W W') : W'.ownsRow B 26 11 v n xs :=
  Fr.own_move h fun b hb' => hb.block b ((Fr.told_own h).lt hb').2.1
theorem refw_c (A : Option Addr) (c : Nat) (l : List S26) (w : World) (hr : Kd.C k26 w A l.length l) (hc : l.length ≤ c) (hl : l.length ≤ 1048576) (hok : ∀ x ∈ l, Wr.OkT x) :
    Calls Tryd.prog 12 #[.slice A l.length c] w fun e w' => e = .returned (.tuple #[.string (Wr.wrOut l).1, .int .i64 (Wr.wrOut l).2]) ∧ Below w.heap.size w w' := by
  obtain ⟨k, hk⟩ := Wr.refWrite_f l hl hok
  exact dowelref04_Write.calls k A c l (Wr.wrOut l).1 (Wr.wrOut l).2 w hr hc hk
set_option maxRecDepth 100000 in
set_option maxHeartbeats 4000000 in
theorem writes_w (A : Option Addr) (c : Nat) (l : List S26) (w : World) (hr : Kd.C k26 w A l.length l) (hc : l.length ≤ c) (hok : ∀ x ∈ l, Wr.OkT x) (ht : TabOk w) :
    Calls Tryd.prog 4 #[.slice A l.length c] w fun e w' => e = .returned (.bool true) ∧ Below w.heap.size w w' := by
  by_cases hbig : l.length > 262144
  · have hb : decide ((l.length : Int) > 262144) = true := by simp; omega
    clear hr hok ht
    go_enter Tryd.func4, Tryd.ntmps4
    go_wp2
    go_ret
    exact ⟨rfl, Below.refl _ _⟩
  have hbg : decide ((l.length : Int) > 262144) = false := by simp; omega
  have HR := Lib.hid hr; have HT := Lib.hid ht; have HOK := Lib.hid hok
  clear hr hok ht
  go_enter Tryd.func4, Tryd.ntmps4
  go_wp2_with fail
  refine (lend_c A c l _ HR.out hc (by omega)).mono ?_
  rintro e U1 ⟨g, c', rfl, hc', ho, hb⟩
  have O1 := Lib.hid ho; have K1 := Lib.hid hb
  have hg1 : w.heap.size ≤ g ∧ g < U1.heap.size := by have := (Fr.told_own O1.out).lt rfl; exact ⟨this.1, this.2.1⟩
  clear ho hb
  go_wp2_with fail
  refine (Wr.write_c (some ⟨g, 0, none⟩) c' l _ (row_owned l (flat [mk77, mo77]) _ O1.out (by unfold flat; simp) (by omega) (by omega)) (by omega) (by omega) HOK.out (tab_below HT.out K1.out)).mono ?_
  rintro e U2 ⟨rfl, hb2⟩
  have O2 := Lib.hid (own_below O1.out hb2)
  have K2 := Lib.hid (K1.out.trans (hb2.mono K1.out.size))
  have hg2 : g < U2.heap.size := Nat.lt_of_lt_of_le hg1.2 hb2.size
  clear hb2 O1
  go_wp2_with fail
  refine (refw_c A c l _ (Kd.C_below HR.out K2.out) hc (by omega) HOK.out).mono ?_
  rintro e U3 ⟨rfl, hb3⟩
  have O3 := Lib.hid (own_below O2.out hb3)
  have K3 := Lib.hid (K2.out.trans (hb3.mono K2.out.size))
  have hg3 : g < U3.heap.size := Nat.lt_of_lt_of_le hg2 hb3.size
  clear hb3 O2
  go_wp2_with fail
  refine (kept_c A c l g c' w.heap.size _ (Kd.C_below HR.out K3.out) hc (by omega) O3.out hc').mono ?_
  rintro e U4 ⟨rfl, hb4⟩
  have O4 := Lib.hid (own_below O3.out hb4)
  have K4 := Lib.hid (K3.out.trans (hb4.mono K3.out.size))
  have hg4 : g < U4.heap.size := Nat.lt_of_lt_of_le hg3 hb4.size
  clear hb4 O3
  go_wp2_with fail
  go_loopw [8] (fun i wr => ∃ t : Nat, t ≤ l.length ∧ i = .int .i64 t ∧ g < wr.heap.size ∧ wr.ownsRow w.heap.size 26 11 (.slice (some ⟨g, 0, none⟩) (l.length + 2) c') (l.length + 2) (flat (List.replicate t dot ++ l.drop t ++ [mk77, mo77])) ∧ Below w.heap.size w wr) (fun i _ => l.length - (intOf i).toNat)
  case atStart => exact ⟨0, by omega, rfl, hg4, by simpa using O4.out, K4.out⟩
  case round =>
    obtain ⟨t, ht, rfl, hgw, hO, hK⟩ := hrel
    obtain ⟨wo, rfl⟩ : ∃ wo : World, wo = wr := ⟨_, rfl⟩
    have HO := Lib.hid hO; have HK := Lib.hid hK
    clear hO hK O4 K4
    by_cases hlt : t < l.length
    · have hkt : decide ((t : Int) < (l.length : Int)) = true := by simp; omega
      have hz : (0 : Int) ≤ (t : Int) ∧ (t : Int) < (l.length : Int) := by omega
      obtain ⟨u0, u1, u2, u3, u4, u5, u6, u7, u8, u9, u10, f0, f1, f2, f3, f4, f5, f6, f7, f8, f9, f10⟩ := own_cells HO.out (t := t) (by omega)
      have hf := fun j => World.ownsRow.frozenAt HO.out j
      have q0 := hf (t * 11)
      have q1 := hf (t * 11 + 1)
      have q2 := hf (t * 11 + 2)
      have q3 := hf (t * 11 + 3)
      have q4 := hf (t * 11 + 4)
      have q5 := hf (t * 11 + 5)
      have q6 := hf (t * 11 + 6)
      have q7 := hf (t * 11 + 7)
      have q8 := hf (t * 11 + 8)
      have q9 := hf (t * 11 + 9)
      have q10 := hf (t * 11 + 10)
      have HS := Lib.hid (Fr.setL_own (enc dot) (t * 11) wo _ HO.out)
      clear hf
      go_wp2
      go_roundw
      case rel =>
        refine ⟨t + 1, by omega, by go_num, ?_, ?_, ?_⟩
        · exact Nat.lt_of_lt_of_le hgw HS.out.2.size
        · have h := HS.out.1
          rw [dot_set l _ t hlt] at h
          exact h
        · exact below_grown' HK.out HK.out.size HS.out.2 hg1.1
      case measure => simp [intOf]; omega
    · have hkt : decide ((t : Int) < (l.length : Int)) = false := by simp; omega
      obtain rfl : t = l.length := by omega
      have O5 := Lib.hid (show wo.ownsRow w.heap.size 26 11 (.slice (some ⟨g, 0, none⟩) (l.length + 2) c') (l.length + 2) (flat (List.replicate l.length dot) ++ flat [mk77, mo77]) from by
        have h := HO.out
        rw [List.drop_length, List.append_nil, flat_app] at h
        exact h)
      have hdl : (List.replicate l.length dot).length = l.length := by simp
      have hW := Wr.write_c (some ⟨g, 0, none⟩) c' (List.replicate l.length dot) wo (row_owned _ (flat [mk77, mo77]) _ O5.out rfl (by omega) (by omega)) (by omega) (by omega) (dots_ok _) (tab_below HT.out HK.out)
      rw [hdl] at hW
      have HWc := Lib.hid hW
      clear hW HO
      go_wp2_with fail
      refine HWc.out.mono ?_
      rintro e V1 ⟨rfl, hb5⟩
      have K5 := Lib.hid (HK.out.trans (hb5.mono HK.out.size))
      clear hb5 HK HWc O5
      generalize hout : Wr.wrOut (List.replicate l.length dot) = out
      have HOUT := Lib.hid hout
      clear hout
      go_wp2_with fail
      go_loopw [9, 10] (fun o i wr => ∃ t : Nat, t ≤ l.length ∧ i = .int .i64 t ∧ wr.ownsRow w.heap.size 26 11 o t (flat (List.replicate t dot)) ∧ Below w.heap.size w wr) (fun _ i _ => l.length - (intOf i).toNat)
      case atStart => exact ⟨0, by omega, rfl, World.ownsRow_nil _ _ _ _, K5.out⟩
      case round =>
        obtain ⟨t, ht, rfl, hO, hK⟩ := hrel
        obtain ⟨wi, rfl⟩ : ∃ wi : World, wi = wr := ⟨_, rfl⟩
        have HO := Lib.hid hO; have HK := Lib.hid hK
        clear hO hK K5
        obtain ⟨A2, c2, rfl, hc2⟩ := own_form HO.out
        by_cases hlt : t < l.length
        · have hkt : decide ((t : Int) < (l.length : Int)) = true := by simp; omega
          go_wp2_with (at_builtin; refine Fr.wpList_append_two w.heap.size rfl (.tmp 61) (.tmp 63) 33 26 (.agg #[.int .i64 0, .int .i64 0, .int .i64 0, .string ⟨#[]⟩, .bool false, .int .u64 0, .int .u64 0, .int .u64 0, .int .u64 0, .int .i64 0, .int .i64 0]) 11 96 rfl Tryd.underlying33 info26 rfl (by decide) _ t _ [.int .i64 13, .int .i64 0, .int .i64 0, .string ⟨#[]⟩, .bool false, .int .u64 0, .int .u64 0, .int .u64 0, .int .u64 0, .int .i64 0, .int .i64 0] rfl (by simp [Value.oneCell']) rfl rfl HO.out HK.out.size (by omega) (by omega) ?_; intro g3 c3 w2 h1 h2 h3; have H1 := Lib.hid h1; have H2 := Lib.hid h2; clear h1 h2 h3)
          go_roundw
          case rel =>
            refine ⟨t + 1, by omega, by go_num, ?_, ?_⟩
            · have h := H1.out
              rw [show flat (List.replicate t dot) ++ [.int .i64 13, .int .i64 0, .int .i64 0, .string ⟨#[]⟩, .bool false, .int .u64 0, .int .u64 0, .int .u64 0, .int .u64 0, .int .i64 0, .int .i64 0] = flat (List.replicate (t + 1) dot) by rw [List.replicate_succ', flat_app]; unfold flat; simp [enc, dot]] at h
              exact h
            · exact (HK.out.alloc HK.out.size _).grown H2.out (by have := HK.out.size; simp; omega) (fun b hb => ((Fr.told_own HO.out).lt hb).1)
          case measure => simp [intOf]; omega
        · have hkt : decide ((t : Int) < (l.length : Int)) = false := by simp; omega
          obtain rfl : t = l.length := by omega
          have hdl : (List.replicate l.length dot).length = l.length := by simp
          have hW := refw_c A2 c2 (List.replicate l.length dot) wi (row_any _ HO.out hdl (by omega)) (by omega) (by omega) (dots_ok _)
          rw [hdl, HOUT.out] at hW
          have HWc := Lib.hid hW
          clear hW HO
          go_wp2_with fail
          refine HWc.out.mono ?_
          rintro e V2 ⟨rfl, hb6⟩
          have K6 := Lib.hid (HK.out.trans (hb6.mono HK.out.size))
          clear hb6 HK HWc
          go_wp2
          go_ret
          exact ⟨by simp, K6.out⟩
end Go.Proofs.YtldjdcdoegjmoaaDoor.Ap
set_option linter.unusedVariables false
set_option linter.unusedSimpArgs false
namespace Go.Proofs.YtldjdcdoegjmoaaDoor
open Go.ChangeShapes Go.WideShapes Go.ChangeAt Go.RowKit
theorem nat_of_u64 {x : Int} (h : (Lit.int .u64 x).wf = true) : ∃ n : Nat, n < w64 ∧ x = (n : Int) := by
  have hmin : IntKind.u64.min = 0 := rfl
  have hmax : IntKind.u64.max = 18446744073709551615 := rfl
  simp only [Lit.wf, Bool.and_eq_true, decide_eq_true_eq, hmin, hmax] at h
  exact ⟨x.toNat, by unfold w64; omega, by omega⟩
theorem cells_u64 : Tryd.prog.cellsOf 22 = 1 := by kernel_rfl
theorem cells_cls : Tryd.prog.cellsOf 24 = 4 := by kernel_rfl
end Go.Proofs.YtldjdcdoegjmoaaDoor

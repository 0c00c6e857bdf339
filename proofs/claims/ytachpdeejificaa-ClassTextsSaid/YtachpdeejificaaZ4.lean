import Derived.BigQuiet
import Derived.Deep.QuietTactic
import Derived.WalkKit
import Derived.Test.YtachpdeejificaaZ2
import Derived.Test.YtachpdeejificaaZ3
set_option linter.unusedVariables false
set_option linter.unusedSimpArgs false
namespace Go.Proofs.Ytachpdeejificaa
open Go.RowKit
theorem told_two {W : World} {B g n c t lo hi : Nat} {L : List (Nat × Nat)} (h : Fr.Told W B 34 2 (.slice (some ⟨g, 0, none⟩) n c) n (rcells L)) (hx : L[t]? = some (lo, hi)) (ht : t < n) :
    W.cell? ⟨g, t * 2, none⟩ = some (.int .u8 (lo : Int)) ∧ W.cell? ⟨g, t * 2 + 1, none⟩ = some (.int .u8 (hi : Int)) := by
  have hlt : t < L.length := (List.getElem?_eq_some_iff.1 hx).1
  have e : L.getD t (0, 0) = (lo, hi) := by rw [List.getD_eq_getElem?_getD, hx]; rfl
  have hr := rcells_at L t hlt
  rw [e] at hr
  exact ⟨by rw [Fr.Told.cell h _ (by omega)]; exact hr.1, by rw [Fr.Told.cell h _ (by omega)]; exact hr.2⟩
set_option maxRecDepth 100000 in
set_option maxHeartbeats 1000000 in
theorem eqRng_c (L : List (Nat × Nat)) (hn : L.length ≤ 65537) (B1 B2 : Nat) (A1 A2 : Option Addr) (c1 c2 : Nat) (w : World) (h1 : Fr.Told w B1 34 2 (.slice A1 L.length c1) L.length (rcells L)) (h2 : Fr.Told w B2 34 2 (.slice A2 L.length c2) L.length (rcells L)) :
    Calls Try.prog 28 #[.slice A1 L.length c1, .slice A2 L.length c2] w fun e w' => e = .returned (.bool true) ∧ ∃ n, w' = w.drewN n := by
  have H1 := Lib.hid h1; have H2 := Lib.hid h2; clear h1 h2
  go_enter Try.func28, Try.ntmps28
  go_wp2
  go_loopw [5] (fun i wr => ∃ k j : Nat, k ≤ L.length ∧ i = .int .i64 k ∧ wr = w.drewN j) (fun i _ => L.length - (intOf i).toNat)
  case atStart => exact ⟨0, 0, by omega, rfl, rfl⟩
  case round =>
    obtain ⟨k, j, hk, rfl, rfl⟩ := hrel
    by_cases hlt : k < L.length
    · obtain ⟨g1, d1, e1, _⟩ := H1.out.cons (by omega)
      obtain ⟨g2, d2, e2, _⟩ := H2.out.cons (by omega)
      injection e1 with e1a _ e1c
      injection e2 with e2a _ e2c
      subst e1a e1c e2a e2c
      obtain ⟨lo, hi, hx⟩ : ∃ lo hi, L[k]? = some (lo, hi) := ⟨_, _, List.getElem?_eq_getElem hlt⟩
      obtain ⟨a0, a1⟩ := told_two H1.out hx hlt
      obtain ⟨b0, b1⟩ := told_two H2.out hx hlt
      have i1 : (0 : Int) ≤ (k : Int) ∧ (k : Int) < (L.length : Int) := by omega
      clear hx
      go_wp2
      go_quiet (fail)
      go_wp2
      go_roundw
      case rel => exact ⟨k + 1, _, by omega, by go_num, by first | rfl | (rw [World.drewN_drewN])⟩
      case measure => simp [intOf]; omega
    · obtain rfl : k = L.length := by omega
      go_wp2
      go_ret
      exact ⟨rfl, _, rfl⟩
def RngC (a : Cls) (w : World) (e : Ending) (W : World) : Prop := ∃ A c, e = .returned (.slice A (rangesL a).length c) ∧ W.ownsRow w.heap.size 34 2 (.slice A (rangesL a).length c) (rangesL a).length (rcells (rangesL a)) ∧ Below w.heap.size w W
theorem rng_c (a : Cls) (ha : a.ok) (w : World) : Calls Try.prog 26 #[V4 a] w (RngC a w) := by
  refine (callsIn_wide.1 (ranges_in 3 (Nat.le_refl _) a ha w)).mono ?_
  rintro e W ⟨v, he, ho, hb⟩
  obtain ⟨A, c, rfl⟩ := (Fr.told_own ho).form
  exact ⟨A, c, he, ho, hb⟩
theorem rngR_c (a : Cls) (ha : a.ok) (w : World) : Calls Try.prog 27 #[V4 a] w (RngC a w) := by
  refine (rangesR_c a ha w).mono ?_
  rintro e W ⟨v, he, ho, hb⟩
  obtain ⟨A, c, rfl⟩ := (Fr.told_own ho).form
  exact ⟨A, c, he, ho, hb⟩
end Go.Proofs.Ytachpdeejificaa
set_option linter.unusedVariables false
namespace Go.Proofs.Ytachpdeejificaa
def cI (x0 x1 x2 x3 : Int) : Cls := ⟨x0.toNat, x1.toNat, x2.toNat, x3.toNat⟩
def okW (x : Int) : Bool := decide (0 ≤ x) && decide (x < 18446744073709551616)
def okB (x0 x1 x2 x3 : Int) : Bool := okW x0 && (okW x1 && (okW x2 && okW x3))
theorem okW_iff {x : Int} : okW x = true ↔ 0 ≤ x ∧ x < 18446744073709551616 := by unfold okW; simp
theorem okB_iff {x0 x1 x2 x3 : Int} : okB x0 x1 x2 x3 = true ↔ (0 ≤ x0 ∧ x0 < 18446744073709551616) ∧ (0 ≤ x1 ∧ x1 < 18446744073709551616) ∧ (0 ≤ x2 ∧ x2 < 18446744073709551616) ∧ (0 ≤ x3 ∧ x3 < 18446744073709551616) := by
  unfold okB; simp only [Bool.and_eq_true, okW_iff]
theorem cI_ok {x0 x1 x2 x3 : Int} (h : okB x0 x1 x2 x3 = true) : (cI x0 x1 x2 x3).ok := by
  rw [okB_iff] at h
  unfold Cls.ok cI w64
  dsimp only
  omega
theorem cI_V {x0 x1 x2 x3 : Int} (h : okB x0 x1 x2 x3 = true) : (.agg #[.int .u64 x0, .int .u64 x1, .int .u64 x2, .int .u64 x3] : Value) = V4 (cI x0 x1 x2 x3) := by
  rw [okB_iff] at h
  unfold V4 cI
  dsimp only
  rw [Int.toNat_of_nonneg h.1.1, Int.toNat_of_nonneg h.2.1.1, Int.toNat_of_nonneg h.2.2.1.1, Int.toNat_of_nonneg h.2.2.2.1]
def c4 (c : Cls) : Int × Int × Int × Int := ((c.c0 : Int), (c.c1 : Int), (c.c2 : Int), (c.c3 : Int))
theorem c4_V {c : Cls} {r1 r2 r3 r4 : Int} (h : c4 c = (r1, r2, r3, r4)) : V4 c = .agg #[.int .u64 r1, .int .u64 r2, .int .u64 r3, .int .u64 r4] := by
  unfold c4 at h
  simp only [Prod.mk.injEq] at h
  obtain ⟨rfl, rfl, rfl, rfl⟩ := h
  rfl
theorem c4_ok {c : Cls} (h : c.ok) : okB c.c0 c.c1 c.c2 c.c3 = true := by
  unfold Cls.ok w64 at h
  rw [okB_iff]
  omega
theorem c4_cI (c : Cls) : cI c.c0 c.c1 c.c2 c.c3 = c := by cases c; rfl
end Go.Proofs.Ytachpdeejificaa

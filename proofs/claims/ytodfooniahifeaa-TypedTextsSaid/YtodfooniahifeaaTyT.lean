/- TypedTexts: the walk. -/
import Derived.Test.YtodfooniahifeaaProg
import Derived.Test.YtodfooniahifeaaShl
import Derived.WalkKit
import Derived.KernelRfl
import Derived.Below
import Derived.Lib.Hide
import Derived.BigQuiet
import Derived.Deep.QuietTactic
import Derived.Deep.RegionWith
import Derived.Deep.Draws
set_option linter.unusedVariables false
set_option linter.unusedSimpArgs false
namespace Go.Proofs.Ytodfooniahifeaa
open Go.RowKit
theorem bcell {W w1 : World} (hb : Below W.heap.size W w1) : (∀ b o, b < W.heap.size → w1.cell? ⟨b, o, none⟩ = W.cell? ⟨b, o, none⟩) ∧ (∀ b o, b < W.heap.size → w1.frozen? ⟨b, o, none⟩ = W.frozen? ⟨b, o, none⟩) :=
  ⟨fun b o h => hb.cell (p := ⟨b, o, none⟩) h, fun b o h => hb.frozen (p := ⟨b, o, none⟩) h⟩
/-- A type's own text. -/
def nmL (b : Int) : List UInt8 := if b = 1 then [105, 110, 116] else if b = 2 then [116, 101, 120, 116] else [98, 111, 111, 108]
def ttB (b : Int) (n : Nat) : ByteArray := ⟨(List.replicate n 91 ++ (nmL b ++ List.replicate n 93)).toArray⟩
def tt (b l : Int) : ByteArray × Int := if (0 ≤ l ∧ l ≤ 8) ∧ (1 ≤ b ∧ b ≤ 3) then (ttB b l.toNat, 0) else (⟨#[]⟩, 6)
def Texted (b l : Int) (w : World) (e : Ending) (w' : World) : Prop := e = .returned (.tuple #[.string (tt b l).1, .int .i64 (tt b l).2]) ∧ Below w.heap.size w w'
theorem texted_bad {b l : Int} (h : ¬ ((0 ≤ l ∧ l ≤ 8) ∧ (1 ≤ b ∧ b ≤ 3))) {w w' : World} (hw : Below w.heap.size w w') : Texted b l w (.returned (.tuple #[.string ⟨#[]⟩, .int .i64 6])) w' := by
  refine ⟨?_, hw⟩
  unfold tt
  rw [if_neg h]
theorem texted_ok {b l : Int} (h : (0 ≤ l ∧ l ≤ 8) ∧ (1 ≤ b ∧ b ≤ 3)) {w w' : World} {s : ByteArray} (hs : s = ttB b l.toNat) (hw : Below w.heap.size w w') : Texted b l w (.returned (.tuple #[.string s, .int .i64 0])) w' := by
  refine ⟨?_, hw⟩
  unfold tt
  rw [if_pos h, hs]
def rB (x : UInt8) (n : Nat) : ByteArray := ⟨(List.replicate n x).toArray⟩
theorem rB_size (x : UInt8) (n : Nat) : (rB x n).size = n := by simp [rB, ByteArray.size]
theorem repeatL_one (x : UInt8) : ∀ n, Lib.repeatL [x] n = List.replicate n x
  | 0 => rfl
  | n + 1 => by rw [List.replicate_succ, ← repeatL_one x n]; rfl
theorem rep_c (x : UInt8) (n : Nat) (hn : n ≤ 8) (w : World) : Calls Try.prog 25 #[.string ⟨#[x]⟩, .int .i64 (n : Int)] w fun e w' => e = .returned (.string (rB x n)) ∧ Below w.heap.size w w' := by
  refine (Try.strings_Repeat ⟨#[x]⟩ n w (by omega) (by show 1 * n ≤ _; omega)).mono ?_
  rintro e w' ⟨he, hb⟩
  refine ⟨?_, hb⟩
  rw [he]
  have e2 : Lib.repeatL (⟨#[x]⟩ : ByteArray).data.toList n = List.replicate n x := repeatL_one x n
  rw [e2]
  rfl
theorem ttB_of (b : Int) (n : Nat) : rB 91 n ++ ⟨(nmL b).toArray⟩ ++ rB 93 n = ttB b n := by
  unfold rB ttB
  apply ByteArray.ext
  simp
theorem two_cells' {W : World} {k : Nat} {a b : Value} {t : TypeId} (h : W.heap[k]? = some (.cells #[a, b] t (0, 0))) : W.cell? ⟨k, 0, none⟩ = some a ∧ W.cell? ⟨k, 1, none⟩ = some b :=
  ⟨by rw [cell_of_row _ _ _ _ _ _ h]; rfl, by rw [cell_of_row _ _ _ _ _ _ h]; rfl⟩
set_option maxHeartbeats 1000000 in
theorem textP_c (b l : Int) (hb : -9223372036854775808 ≤ b ∧ b ≤ 9223372036854775807) (hl : -9223372036854775808 ≤ l ∧ l ≤ 9223372036854775807) (w : World) : Calls Try.prog 14 #[.agg #[.int .i64 b, .int .i64 l]] w (Texted b l w) := by
  by_cases h0 : 0 ≤ l ∧ l ≤ 8
  · obtain ⟨n, rfl⟩ : ∃ n : Nat, l = (n : Int) := ⟨l.toNat, by omega⟩
    have hn : n ≤ 8 := by omega
    have e0 : decide ((n : Int) < 0) = false := by simp
    have e1 : decide ((n : Int) > 8) = false := by simp; omega
    have e2 : decide ((8 : Int) < (n : Int)) = false := by simp; omega
    by_cases h1 : b = 1 ∨ b = 2 ∨ b = 3
    · rcases h1 with rfl | rfl | rfl
      · skip
        go_enter Try.func14, Try.ntmps14
        have z1 := rB_size 91 n
        have z2 := rB_size 93 n
        have y1 : (9223372036854775807 < (rB 91 n).size + 3) = False := eq_false (by omega)
        have y2 : (9223372036854775807 < (rB 91 n).size + 3 + (rB 93 n).size) = False := eq_false (by omega)
        clear z1 z2
        go_wp2
        go_region_with (go_at_call 25; refine (rep_c _ n hn _).mono ?_; rintro e w1 ⟨rfl, hb1⟩; obtain ⟨hc1, hf1⟩ := bcell hb1; have hz1 := hb1.size; have HB1 := Lib.hid hb1; clear hb1)
        all_goals go_wp2
        all_goals
          rename_i wa hca hfa hza HBa
          go_ret2
          exact texted_ok (by omega) (ttB_of 1 n) ((((Below.refl w.heap.size w).alloc (Nat.le_refl _) _).drew.trans (HBa.out.mono (by simp))).trans (HB1.out.mono (by have := HBa.out.size; simp at this; omega)))
      · skip
        go_enter Try.func14, Try.ntmps14
        have z1 := rB_size 91 n
        have z2 := rB_size 93 n
        have y1 : (9223372036854775807 < (rB 91 n).size + 4) = False := eq_false (by omega)
        have y2 : (9223372036854775807 < (rB 91 n).size + 4 + (rB 93 n).size) = False := eq_false (by omega)
        clear z1 z2
        go_wp2
        go_region_with (go_at_call 25; refine (rep_c _ n hn _).mono ?_; rintro e w1 ⟨rfl, hb1⟩; obtain ⟨hc1, hf1⟩ := bcell hb1; have hz1 := hb1.size; have HB1 := Lib.hid hb1; clear hb1)
        all_goals go_wp2
        all_goals
          rename_i wa hca hfa hza HBa
          go_ret2
          exact texted_ok (by omega) (ttB_of 2 n) ((((Below.refl w.heap.size w).alloc (Nat.le_refl _) _).drew.trans (HBa.out.mono (by simp))).trans (HB1.out.mono (by have := HBa.out.size; simp at this; omega)))
      · skip
        go_enter Try.func14, Try.ntmps14
        have z1 := rB_size 91 n
        have z2 := rB_size 93 n
        have y1 : (9223372036854775807 < (rB 91 n).size + 4) = False := eq_false (by omega)
        have y2 : (9223372036854775807 < (rB 91 n).size + 4 + (rB 93 n).size) = False := eq_false (by omega)
        clear z1 z2
        go_wp2
        go_region_with (go_at_call 25; refine (rep_c _ n hn _).mono ?_; rintro e w1 ⟨rfl, hb1⟩; obtain ⟨hc1, hf1⟩ := bcell hb1; have hz1 := hb1.size; have HB1 := Lib.hid hb1; clear hb1)
        all_goals go_wp2
        all_goals
          rename_i wa hca hfa hza HBa
          go_ret2
          exact texted_ok (by omega) (ttB_of 3 n) ((((Below.refl w.heap.size w).alloc (Nat.le_refl _) _).drew.trans (HBa.out.mono (by simp))).trans (HB1.out.mono (by have := HBa.out.size; simp at this; omega)))
    · have HN := Lib.hid (show ¬ ((0 ≤ (n : Int) ∧ (n : Int) ≤ 8) ∧ (1 ≤ b ∧ b ≤ 3)) by omega)
      have g1 : (b == 1) = false := by simp; omega
      have g2 : (b == 2) = false := by simp; omega
      have g3 : (b == 3) = false := by simp; omega
      clear h1
      go_enter Try.func14, Try.ntmps14
      go_wp2
      go_ret2
      exact texted_bad HN.out ((Below.refl _ _).alloc (Nat.le_refl _) _)
  · have HN := Lib.hid (show ¬ ((0 ≤ l ∧ l ≤ 8) ∧ (1 ≤ b ∧ b ≤ 3)) by omega)
    by_cases h1 : l < 0
    · have e0 : decide (l < 0) = true := by simp [h1]
      clear h0 h1
      go_enter Try.func14, Try.ntmps14
      go_wp2
      go_ret2
      exact texted_bad HN.out ((Below.refl _ _).alloc (Nat.le_refl _) _)
    · have e0 : decide (l < 0) = false := by simp; omega
      have e1 : decide (8 < l) = true := by simp; omega
      clear h0 h1
      go_enter Try.func14, Try.ntmps14
      go_wp2
      go_ret2
      exact texted_bad HN.out ((Below.refl _ _).alloc (Nat.le_refl _) _)
def wrapN (s : ByteArray) : Nat → ByteArray
  | 0 => s
  | n + 1 => ⟨#[91]⟩ ++ wrapN s n ++ ⟨#[93]⟩
theorem wrapN_size (s : ByteArray) : ∀ n, (wrapN s n).size = s.size + 2 * n
  | 0 => rfl
  | n + 1 => by
    have h1 : (⟨#[91]⟩ : ByteArray).size = 1 := rfl
    have h2 : (⟨#[93]⟩ : ByteArray).size = 1 := rfl
    rw [wrapN, ByteArray.size_append, ByteArray.size_append, wrapN_size s n, h1, h2]; omega
theorem wrapN_list (l : List UInt8) : ∀ n, wrapN ⟨l.toArray⟩ n = ⟨(List.replicate n 91 ++ (l ++ List.replicate n 93)).toArray⟩
  | 0 => by simp [wrapN]
  | n + 1 => by
    rw [wrapN, wrapN_list l n]
    apply ByteArray.ext
    have e : List.replicate (n + 1) (93 : UInt8) = List.replicate n 93 ++ [93] := List.replicate_succ'
    rw [e]
    simp [List.replicate_succ]
theorem wrapN_tt (b : Int) (n : Nat) : wrapN ⟨(nmL b).toArray⟩ n = ttB b n := wrapN_list _ n
set_option maxHeartbeats 1000000 in
theorem textR_c (b l : Int) (hb : -9223372036854775808 ≤ b ∧ b ≤ 9223372036854775807) (hl : -9223372036854775808 ≤ l ∧ l ≤ 9223372036854775807) (w : World) : Calls Try.prog 15 #[.agg #[.int .i64 b, .int .i64 l]] w (Texted b l w) := by
  by_cases hok : (0 ≤ l ∧ l ≤ 8) ∧ (1 ≤ b ∧ b ≤ 3)
  · obtain ⟨n, rfl⟩ : ∃ n : Nat, l = (n : Int) := ⟨l.toNat, by omega⟩
    have hn : n ≤ 8 := by omega
    have e3 : decide ((n : Int) < 0) = false := by simp
    have e4 : decide ((8 : Int) < (n : Int)) = false := by simp; omega
    have HOK := Lib.hid hok
    have hb3 : b = 1 ∨ b = 2 ∨ b = 3 := by omega
    clear hok
    rcases hb3 with rfl | rfl | rfl
    · go_enter Try.func15, Try.ntmps15
      go_wp2
      go_loop [5, 6] (fun s i => ∃ k : Nat, k ≤ n ∧ i = .int .i64 k ∧ s = .string (wrapN ⟨#[105, 110, 116]⟩ k)) (fun _ i => n - (intOf i).toNat)
      case atStart => exact ⟨0, by omega, rfl, rfl⟩
      case round =>
        obtain ⟨k, hk, rfl, rfl⟩ := hrel
        by_cases hlt : k < n
        · have z1 := wrapN_size ⟨#[105, 110, 116]⟩ k
          have z2 : (⟨#[105, 110, 116]⟩ : ByteArray).size = 3 := rfl
          have y1 : (9223372036854775807 < 1 + (wrapN ⟨#[105, 110, 116]⟩ k).size) = False := eq_false (by omega)
          have y2 : (9223372036854775807 < 1 + (wrapN ⟨#[105, 110, 116]⟩ k).size + 1) = False := eq_false (by omega)
          clear z1 z2
          go_wp2
          go_round
          case rel => exact ⟨k + 1, by omega, by go_num, rfl⟩
          case measure => simp [intOf]; omega
        · obtain rfl : k = n := by omega
          go_wp2
          go_ret2
          exact texted_ok HOK.out (wrapN_tt 1 k) (((Below.refl _ _).alloc (Nat.le_refl _) _).alloc (by simp) _)
    · go_enter Try.func15, Try.ntmps15
      go_wp2
      go_loop [5, 6] (fun s i => ∃ k : Nat, k ≤ n ∧ i = .int .i64 k ∧ s = .string (wrapN ⟨#[116, 101, 120, 116]⟩ k)) (fun _ i => n - (intOf i).toNat)
      case atStart => exact ⟨0, by omega, rfl, rfl⟩
      case round =>
        obtain ⟨k, hk, rfl, rfl⟩ := hrel
        by_cases hlt : k < n
        · have z1 := wrapN_size ⟨#[116, 101, 120, 116]⟩ k
          have z2 : (⟨#[116, 101, 120, 116]⟩ : ByteArray).size = 4 := rfl
          have y1 : (9223372036854775807 < 1 + (wrapN ⟨#[116, 101, 120, 116]⟩ k).size) = False := eq_false (by omega)
          have y2 : (9223372036854775807 < 1 + (wrapN ⟨#[116, 101, 120, 116]⟩ k).size + 1) = False := eq_false (by omega)
          clear z1 z2
          go_wp2
          go_round
          case rel => exact ⟨k + 1, by omega, by go_num, rfl⟩
          case measure => simp [intOf]; omega
        · obtain rfl : k = n := by omega
          go_wp2
          go_ret2
          exact texted_ok HOK.out (wrapN_tt 2 k) (((Below.refl _ _).alloc (Nat.le_refl _) _).alloc (by simp) _)
    · go_enter Try.func15, Try.ntmps15
      go_wp2
      go_loop [5, 6] (fun s i => ∃ k : Nat, k ≤ n ∧ i = .int .i64 k ∧ s = .string (wrapN ⟨#[98, 111, 111, 108]⟩ k)) (fun _ i => n - (intOf i).toNat)
      case atStart => exact ⟨0, by omega, rfl, rfl⟩
      case round =>
        obtain ⟨k, hk, rfl, rfl⟩ := hrel
        by_cases hlt : k < n
        · have z1 := wrapN_size ⟨#[98, 111, 111, 108]⟩ k
          have z2 : (⟨#[98, 111, 111, 108]⟩ : ByteArray).size = 4 := rfl
          have y1 : (9223372036854775807 < 1 + (wrapN ⟨#[98, 111, 111, 108]⟩ k).size) = False := eq_false (by omega)
          have y2 : (9223372036854775807 < 1 + (wrapN ⟨#[98, 111, 111, 108]⟩ k).size + 1) = False := eq_false (by omega)
          clear z1 z2
          go_wp2
          go_round
          case rel => exact ⟨k + 1, by omega, by go_num, rfl⟩
          case measure => simp [intOf]; omega
        · obtain rfl : k = n := by omega
          go_wp2
          go_ret2
          exact texted_ok HOK.out (wrapN_tt 3 k) (((Below.refl _ _).alloc (Nat.le_refl _) _).alloc (by simp) _)
  · have HN := Lib.hid hok
    by_cases h1 : b < 1
    · have e0 : decide (b < 1) = true := by simp; omega
      clear hok h1
      go_enter Try.func15, Try.ntmps15
      go_wp2
      go_ret2
      exact texted_bad HN.out (((Below.refl _ _).alloc (Nat.le_refl _) _).alloc (by simp) _)
    · have e0 : decide (b < 1) = false := by simp; omega
      by_cases h2 : 3 < b
      · have e1 : decide (3 < b) = true := by simp; omega
        clear hok h1 h2
        go_enter Try.func15, Try.ntmps15
        go_wp2
        go_ret2
        exact texted_bad HN.out (((Below.refl _ _).alloc (Nat.le_refl _) _).alloc (by simp) _)
      · have e1 : decide (3 < b) = false := by simp; omega
        by_cases h3 : l < 0
        · have e2 : decide (l < 0) = true := by simp; omega
          clear hok h1 h2 h3
          go_enter Try.func15, Try.ntmps15
          go_wp2
          go_ret2
          exact texted_bad HN.out (((Below.refl _ _).alloc (Nat.le_refl _) _).alloc (by simp) _)
        · have e2 : decide (l < 0) = false := by simp; omega
          have e3 : decide (8 < l) = true := by simp; omega
          clear hok h1 h2 h3
          go_enter Try.func15, Try.ntmps15
          go_wp2
          go_ret2
          exact texted_bad HN.out (((Below.refl _ _).alloc (Nat.le_refl _) _).alloc (by simp) _)
set_option maxHeartbeats 1000000 in
theorem typed_w (b l : Int) (w : World) (hb : (Lit.int .i64 b).wf = true) (hl : (Lit.int .i64 l).wf = true) : Calls Try.prog 5 #[.int .i64 b, .int .i64 l] w fun e w' => e = .returned (.bool true) ∧ Below w.heap.size w w' := by
  have hb' : -9223372036854775808 ≤ b ∧ b ≤ 9223372036854775807 := show IntKind.i64.min ≤ b ∧ b ≤ 9223372036854775807 by simpa [Lit.wf] using hb
  have hl' : -9223372036854775808 ≤ l ∧ l ≤ 9223372036854775807 := show IntKind.i64.min ≤ l ∧ l ≤ 9223372036854775807 by simpa [Lit.wf] using hl
  obtain ⟨s, c, hs⟩ : ∃ s c, tt b l = (s, c) := ⟨_, _, rfl⟩
  have HP := fun W => textP_c b l hb' hl' W
  have HR := fun W => textR_c b l hb' hl' W
  unfold Texted at HP HR
  rw [hs] at HP HR
  clear hs hb hl
  go_enter Try.func5, Try.ntmps5
  go_wp2_with (first | (go_at_call 14; refine (HP _).mono ?_; rintro e w1 ⟨rfl, hb1⟩; dsimp only; have HB1 := Lib.hid hb1; clear hb1) | (go_at_call 15; refine (HR _).mono ?_; rintro e w2 ⟨rfl, hb2⟩; dsimp only; have HB2 := Lib.hid hb2; clear hb2))
  go_ret
  exact ⟨rfl, HB1.out.trans (HB2.out.mono HB1.out.size)⟩
end Go.Proofs.Ytodfooniahifeaa

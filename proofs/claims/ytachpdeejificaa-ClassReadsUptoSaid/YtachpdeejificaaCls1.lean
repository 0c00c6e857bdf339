/- Classes: each function of four words walked once: Has, Union, Meet, Minus, Not, Fold, put; the document's Has. -/
import Derived.Test.YtachpdeejificaaProg
import Derived.Test.YtachpdeejificaaClsPl
import Derived.Test.YtachpdeejificaaKit
import Derived.Test.YtachpdeejificaaNames
import Derived.KernelRfl
import Derived.Deep.QuietTactic
import Derived.BigQuiet
import Derived.WalkLawsBesides
import Derived.WalkSpells
import Derived.Lib.Hide
set_option linter.unusedVariables false
set_option linter.unusedSimpArgs false
namespace Go.Proofs.Ytachpdeejificaa
open Go.RowKit
abbrev V4 (a : Cls) : Value := .agg #[.int .u64 a.c0, .int .u64 a.c1, .int .u64 a.c2, .int .u64 a.c3]
theorem ret_bool {a b : Bool} (h : a = b) : Ending.returned (.bool a) = .returned (.bool b) := by rw [h]
theorem ret_v {a b : Value} (h : a = b) : Ending.returned a = .returned b := by rw [h]
theorem V4_mk {x0 x1 x2 x3 : Int} {c : Cls} (h0 : x0 = c.c0) (h1 : x1 = c.c1) (h2 : x2 = c.c2) (h3 : x3 = c.c3) : Ending.returned (.agg #[.int .u64 x0, .int .u64 x1, .int .u64 x2, .int .u64 x3]) = .returned (V4 c) := by
  subst h0 h1 h2 h3; rfl
set_option maxRecDepth 100000 in
theorem has_c (a : Cls) (ha : a.ok) (x : Nat) (hx : x < 256) (w : World) : Calls Try.prog 15 #[V4 a, .int .u8 (x : Int)] w fun e w' => e = .returned (.bool (a.mem x)) ∧ Below w.heap.size w w' := by
  have hc := a.list_at (x / 64) (by omega)
  have hw := Cls.word_lt ha (x / 64)
  have H := Lib.hid hw; clear hw ha
  go_enter Try.func15, Try.ntmps15
  go_wp2
  go_ret
  exact ⟨ret_bool (bit_ne H.out _), (Below.refl _ _).alloc (Nat.le_refl _) _⟩
set_option maxRecDepth 100000 in
theorem hasR_c (a : Cls) (ha : a.ok) (x : Nat) (hx : x < 256) (w : World) : Calls Try.prog 16 #[V4 a, .int .u8 (x : Int)] w fun e w' => e = .returned (.bool (a.mem x)) ∧ Below w.heap.size w w' := by
  have hc := a.list_at (x / 64) (by omega)
  have hw := Cls.word_lt ha (x / 64)
  have H := Lib.hid hw; clear hw ha
  go_enter Try.func16, Try.ntmps16
  go_wp2
  go_ret
  exact ⟨ret_bool (bit_eq H.out _), (Below.refl _ _).alloc (Nat.le_refl _) _⟩
set_option maxRecDepth 100000 in
theorem union_c (a b : Cls) (ha : a.ok) (hb : b.ok) (w : World) : Calls Try.prog 17 #[V4 a, V4 b] w fun e w' => e = .returned (V4 (a.union b)) ∧ Below w.heap.size w w' := by
  have HA := Lib.hid ha; have HB := Lib.hid hb; clear ha hb
  go_enter Try.func17, Try.ntmps17
  go_wp2
  refine wp_loop_rounds 5 ?_
  rw [rounds_succ]; go_wp2; go_region; go_wp2
  rw [rounds_succ]; go_wp2; go_region; go_wp2
  rw [rounds_succ]; go_wp2; go_region; go_wp2
  rw [rounds_succ]; go_wp2; go_region; go_wp2
  rw [rounds_succ]; go_wp2
  refine bodyPost_ret (v := .agg #[.int .u64 _, .int .u64 _, .int .u64 _, .int .u64 _]) (by simp [results, Try.results17, go_sem]) rfl ⟨V4_mk (bits_or HA.out.1 HB.out.1) (bits_or HA.out.2.1 HB.out.2.1) (bits_or HA.out.2.2.1 HB.out.2.2.1) (bits_or HA.out.2.2.2 HB.out.2.2.2), ?_⟩
  exact (((((((Below.refl _ _).alloc (Nat.le_refl _) _).alloc (by simp) _).alloc (by simp; omega) _).drew).drew).drew).drew
set_option maxRecDepth 100000 in
theorem meet_c (a b : Cls) (ha : a.ok) (hb : b.ok) (w : World) : Calls Try.prog 19 #[V4 a, V4 b] w fun e w' => e = .returned (V4 (a.meet b)) ∧ Below w.heap.size w w' := by
  have HA := Lib.hid ha; have HB := Lib.hid hb; clear ha hb
  go_enter Try.func19, Try.ntmps19
  go_wp2
  refine wp_loop_rounds 5 ?_
  rw [rounds_succ]; go_wp2; go_region; go_wp2
  rw [rounds_succ]; go_wp2; go_region; go_wp2
  rw [rounds_succ]; go_wp2; go_region; go_wp2
  rw [rounds_succ]; go_wp2; go_region; go_wp2
  rw [rounds_succ]; go_wp2
  refine bodyPost_ret (v := .agg #[.int .u64 _, .int .u64 _, .int .u64 _, .int .u64 _]) (by simp [results, Try.results19, go_sem]) rfl ⟨V4_mk (bits_and HA.out.1 HB.out.1) (bits_and HA.out.2.1 HB.out.2.1) (bits_and HA.out.2.2.1 HB.out.2.2.1) (bits_and HA.out.2.2.2 HB.out.2.2.2), ?_⟩
  exact (((((((Below.refl _ _).alloc (Nat.le_refl _) _).alloc (by simp) _).alloc (by simp; omega) _).drew).drew).drew).drew
set_option maxRecDepth 100000 in
theorem minus_c (a b : Cls) (ha : a.ok) (hb : b.ok) (w : World) : Calls Try.prog 20 #[V4 a, V4 b] w fun e w' => e = .returned (V4 (a.minus b)) ∧ Below w.heap.size w w' := by
  have HA := Lib.hid ha; have HB := Lib.hid hb; clear ha hb
  go_enter Try.func20, Try.ntmps20
  go_wp2
  refine wp_loop_rounds 5 ?_
  rw [rounds_succ]; go_wp2; go_region; go_wp2
  rw [rounds_succ]; go_wp2; go_region; go_wp2
  rw [rounds_succ]; go_wp2; go_region; go_wp2
  rw [rounds_succ]; go_wp2; go_region; go_wp2
  rw [rounds_succ]; go_wp2
  refine bodyPost_ret (v := .agg #[.int .u64 _, .int .u64 _, .int .u64 _, .int .u64 _]) (by simp [results, Try.results20, go_sem]) rfl ⟨V4_mk (bits_minus HA.out.1 HB.out.1) (bits_minus HA.out.2.1 HB.out.2.1) (bits_minus HA.out.2.2.1 HB.out.2.2.1) (bits_minus HA.out.2.2.2 HB.out.2.2.2), ?_⟩
  exact (((((((Below.refl _ _).alloc (Nat.le_refl _) _).alloc (by simp) _).alloc (by simp; omega) _).drew).drew).drew).drew
set_option maxRecDepth 100000 in
theorem not_c (a : Cls) (ha : a.ok) (w : World) : Calls Try.prog 21 #[V4 a] w fun e w' => e = .returned (V4 a.not) ∧ Below w.heap.size w w' := by
  have HA := Lib.hid ha; clear ha
  go_enter Try.func21, Try.ntmps21
  go_wp2
  refine wp_loop_rounds 5 ?_
  rw [rounds_succ]; go_wp2
  rw [rounds_succ]; go_wp2
  rw [rounds_succ]; go_wp2
  rw [rounds_succ]; go_wp2
  rw [rounds_succ]; go_wp2
  refine bodyPost_ret (v := .agg #[.int .u64 _, .int .u64 _, .int .u64 _, .int .u64 _]) (by simp [results, Try.results21, go_sem]) rfl ⟨V4_mk (bits_not HA.out.1) (bits_not HA.out.2.1) (bits_not HA.out.2.2.1) (bits_not HA.out.2.2.2), ?_⟩
  exact ((Below.refl _ _).alloc (Nat.le_refl _) _).alloc (by simp) _
theorem foldG_lt {c : Nat} (hc : c < w64) : foldG c < w64 := by
  unfold foldG
  exact Cls.or_lt (Cls.and_lt (Nat.lt_of_le_of_lt (Nat.div_le_self _ _) hc)) (Cls.and_lt (Nat.lt_of_le_of_lt (Nat.div_le_self _ _) hc))
theorem fold_word {c : Nat} (hc : c < w64) : bits .or .u64 (c : Int) (bits .or .u64 (IntKind.u64.wrap (bits .or .u64 (bits .and .u64 ((c : Int) / 2) 67108863) (bits .and .u64 ((c : Int) / 8589934592) 67108863) * 2)) (IntKind.u64.wrap (bits .or .u64 (bits .and .u64 ((c : Int) / 2) 67108863) (bits .and .u64 ((c : Int) / 8589934592) 67108863) * 8589934592))) = ((foldWord c : Nat) : Int) := by
  have h1 : ((c : Int) / 2) = ((c / 2 : Nat) : Int) := by omega
  have h2 : ((c : Int) / 8589934592) = ((c / 8589934592 : Nat) : Int) := by omega
  have hg : bits .or .u64 (bits .and .u64 ((c : Int) / 2) 67108863) (bits .and .u64 ((c : Int) / 8589934592) 67108863) = ((foldG c : Nat) : Int) := by
    rw [h1, h2, show (67108863 : Int) = ((67108863 : Nat) : Int) from rfl, bits_and (Nat.lt_of_le_of_lt (Nat.div_le_self _ _) hc) (by unfold w64; omega), bits_and (Nat.lt_of_le_of_lt (Nat.div_le_self _ _) hc) (by unfold w64; omega)]
    exact bits_or (Cls.and_lt (Nat.lt_of_le_of_lt (Nat.div_le_self _ _) hc)) (Cls.and_lt (Nat.lt_of_le_of_lt (Nat.div_le_self _ _) hc))
  rw [hg]
  have m1 : IntKind.u64.wrap ((foldG c : Int) * 2) = ((foldG c * 2 % w64 : Nat) : Int) := by rw [IntKind.wrap_u64]; unfold w64; omega
  have m2 : IntKind.u64.wrap ((foldG c : Int) * 8589934592) = ((foldG c * 8589934592 % w64 : Nat) : Int) := by rw [IntKind.wrap_u64]; unfold w64; omega
  rw [m1, m2, bits_or (mod_lt_w _) (mod_lt_w _), bits_or hc (Cls.or_lt (mod_lt_w _) (mod_lt_w _))]
  rfl
set_option maxRecDepth 100000 in
theorem fold_c (a : Cls) (ha : a.ok) (w : World) : Calls Try.prog 23 #[V4 a] w fun e w' => e = .returned (V4 a.fold) ∧ Below w.heap.size w w' := by
  have HA := Lib.hid ha; clear ha
  go_enter Try.func23, Try.ntmps23
  go_wp2
  go_region
  go_wp2
  refine bodyPost_ret (v := .agg #[.int .u64 a.c0, .int .u64 _, .int .u64 a.c2, .int .u64 a.c3]) (by simp [results, Try.results23, go_sem]) rfl ⟨V4_mk rfl (fold_word HA.out.2.1) rfl rfl, ?_⟩
  exact (((Below.refl _ _).alloc (Nat.le_refl _) _).alloc (by simp) _).drew
end Go.Proofs.Ytachpdeejificaa

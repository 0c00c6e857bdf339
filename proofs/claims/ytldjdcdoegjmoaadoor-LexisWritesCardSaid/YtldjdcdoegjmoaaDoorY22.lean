import Derived.BigQuiet
import Derived.Deep.QuietTactic
import Derived.Deep.RegionWith
import Derived.KernelRfl
import Derived.Laws.AppendOwn
import Derived.Lib.Hide
import Derived.Test.YtldjdcdoegjmoaaDoorProg
import Derived.WalkKit
import Derived.Test.YtldjdcdoegjmoaaDoorY0
import Derived.Test.YtldjdcdoegjmoaaDoorY13
set_option linter.unusedVariables false
set_option linter.unusedSimpArgs false
namespace Go.Proofs.YtldjdcdoegjmoaaDoor.Q
open Go.RowKit
def hexd (d : Nat) : Nat := if d < 10 then 48 + d else 87 + d
theorem hex_cut : ∀ p : Fin 16, (⟨#[48, 49, 50, 51, 52, 53, 54, 55, 56, 57, 97, 98, 99, 100, 101, 102]⟩ : ByteArray).extract p.val (p.val + 1) = ⟨#[UInt8.ofNat (hexd p.val)]⟩ := by decide +kernel
def HexT (b : Nat) : ByteArray := ⟨#[UInt8.ofNat (hexd (b / 16)), UInt8.ofNat (hexd (b % 16))]⟩
set_option maxHeartbeats 1000000 in
theorem hexR_c (b : Nat) (hb : b < 256) (w : World) : Calls Tryd.prog 70 #[.int .u8 (b : Int)] w fun e w' => e = .returned (.string (HexT b)) ∧ ∃ n, w' = w.drewN n := by
  obtain ⟨p, hp⟩ : ∃ p, p = b / 16 := ⟨_, rfl⟩
  obtain ⟨q, hq⟩ : ∃ q, q = b % 16 := ⟨_, rfl⟩
  have e1 : Int.tdiv (b : Int) 16 = (p : Int) := by rw [hp]; rfl
  have e2 : Int.tmod (b : Int) 16 = (q : Int) := by rw [hq]; rfl
  have p1 : p < 16 := by omega
  have q1 : q < 16 := by omega
  have e3 : IntKind.u8.wrap ((p : Int) + 1) = (p : Int) + 1 := by rw [IntKind.wrap_u8]; omega
  have e4 : IntKind.u8.wrap ((q : Int) + 1) = (q : Int) + 1 := by rw [IntKind.wrap_u8]; omega
  have e5 : (0 : Int) ≤ (p : Int) ∧ (p : Int) ≤ (p : Int) + 1 ∧ (p : Int) + 1 ≤ 16 := by omega
  have e6 : (0 : Int) ≤ (q : Int) ∧ (q : Int) ≤ (q : Int) + 1 ∧ (q : Int) + 1 ≤ 16 := by omega
  have HR := Lib.hid (show (⟨#[48, 49, 50, 51, 52, 53, 54, 55, 56, 57, 97, 98, 99, 100, 101, 102]⟩ : ByteArray).extract p (p + 1) ++ (⟨#[48, 49, 50, 51, 52, 53, 54, 55, 56, 57, 97, 98, 99, 100, 101, 102]⟩ : ByteArray).extract q (q + 1) = HexT b by
    rw [hex_cut ⟨p, p1⟩, hex_cut ⟨q, q1⟩]; unfold HexT; rw [← hp, ← hq]; rfl)
  clear hp hq
  go_enter Tryd.func70, Tryd.ntmps70
  go_wp2
  go_quiet (fail)
  go_wp2
  go_ret
  exact ⟨congrArg (fun x => Ending.returned (.string x)) HR.out, _, rfl⟩
end Go.Proofs.YtldjdcdoegjmoaaDoor.Q
set_option linter.unusedVariables false
set_option linter.unusedSimpArgs false
namespace Go.Proofs.YtldjdcdoegjmoaaDoor.Q
open Go.RowKit Go.Proofs.YtldjdcdoegjmoaaDoorW.PrintWords
def ib (l : List UInt8) : List Int := l.map fun b => (b.toNat : Int)
theorem ib_len (l : List UInt8) : (ib l).length = l.length := by unfold ib; simp
theorem infoB : (Tryd.prog.info? 5).map (fun i => (i.zero, i.size, i.bytes)) = some (some (.int .u8 0), 1, 1) := by kernel_rfl
/-- A row of the call's own, that holds l. -/
def Rw (w : World) (v : Value) (l : List UInt8) (W : World) : Prop := W.ownsRow w.heap.size 5 1 v (ib l).length (nums .u8 (ib l)) ∧ Below w.heap.size w W
/-- append(v, ys ..), ys a literal. -/
theorem app_lit {w W : World} {ops : Array Oper} {rest : List Oper} {o : Oper} {a : Act} {Q : Exit → Act → World → Prop} (hgd : o.guard = none) (s x : Operand)
    (ho : o.op = .call { callee := .builtin .append, args := #[s, x], argTypes := #[52, 52] }) (v : Value) (l ys : List UInt8) (m : Nat) (hs : a.eval s = v) (hx : a.eval x = .slice (some ⟨W.heap.size, 0, none⟩) m m) (hm : ys.length = m)
    (cs : Array Value) (hcs : cs = (nums .u8 (ib ys)).toArray) (H : Rw w v l W) (hl : l.length ≤ 1000000) (hm2 : m ≤ 4)
    (h : ∀ v1 w1, Rw w v1 (l ++ ys) w1 → wpList Tryd.prog ops Q rest (a.put o.dst v1) w1) : wpList Tryd.prog ops Q (o :: rest) a (W.alloc (.cells cs 5)) := by
  subst hcs
  obtain ⟨i0, hi, hzz⟩ := Option.map_eq_some_iff.1 infoB
  simp only [Prod.mk.injEq] at hzz
  obtain ⟨hz0, hz1, hz2⟩ := hzz
  have e1 := ib_len l
  have e2 := ib_len ys
  refine wpList_append_own (P := Tryd.prog) (w := W.alloc (.cells (nums .u8 (ib ys)).toArray 5)) hgd s x 52 ho w.heap.size 5 i0 (.int .u8 0) 1 1 Tryd.underlying52 hi hz0 hz1 hz2 rfl (by omega) v (ib l).length (nums .u8 (ib l)) hs (H.1.alloc _) ⟨W.heap.size, 0, none⟩ m m (nums .u8 (ib ys)) hx (by simp [nums]; omega)
    (by have := World.news_of_block (cs := (nums .u8 (ib ys)).toArray) (t := 5) (fr := (0, 0)) (heap_alloc_new W (.cells (nums .u8 (ib ys)).toArray 5 (0, 0))); simpa using this) (by intro u hu; simp only [nums, List.mem_map] at hu; obtain ⟨_, _, rfl⟩ := hu; rfl) (by simp only [maxLen]; omega) (by omega) (by have := H.2.size; simp; omega) ?_
  intro v1 w1 hown hg _
  refine h v1 w1 ⟨?_, ?_⟩
  · have e3 : (ib (l ++ ys)).length = (ib l).length + m := by rw [ib_len, List.length_append, e1, hm]
    have e4 : nums .u8 (ib (l ++ ys)) = nums .u8 (ib l) ++ nums .u8 (ib ys) := by simp [nums, ib]
    rw [e3, e4]; exact hown
  · exact (H.2.alloc H.2.size _).grown hg (by have := H.2.size; simp; omega) (own_base H.1)
theorem str_ib (l : List UInt8) : strOfNums (ib l) = ⟨l.toArray⟩ := by
  have e : ((fun n : Int => UInt8.ofNat n.toNat) ∘ fun b : UInt8 => (b.toNat : Int)) = id := by funext b; simp
  unfold strOfNums ib
  rw [List.map_map, e, List.map_id]
theorem hx_hexd (n : Nat) : UInt8.ofNat (Q.hexd n) = hx n := by unfold Q.hexd hx; split <;> rfl
theorem hex_ib (n : Nat) : bytesOf (Q.HexT n) = ib [hx (n / 16), hx (n % 16)] := by unfold bytesOf Q.HexT ib; rw [hx_hexd, hx_hexd]
theorem rw_new (w : World) : Rw w (.slice (some ⟨w.heap.size, 0, none⟩) 1 1) (qL ⟨#[]⟩ 0) (w.alloc (.cells #[.int .u8 39] 5)) :=
  ⟨⟨rfl, .inr ⟨w.heap.size, 1, #[.int .u8 39], rfl, Nat.le_refl _, heap_alloc_new w _, Nat.le_refl _, by simp [maxLen], rfl, rfl⟩⟩, (Below.refl _ _).alloc (Nat.le_refl _) _⟩
set_option maxRecDepth 100000 in
set_option maxHeartbeats 2000000 in
theorem quotedR_c (s : ByteArray) (hs : s.size ≤ 65536) (w : World) : Calls Tryd.prog 42 #[.string s] w fun e w' => e = .returned (.string (qS s)) ∧ Below w.heap.size w w' := by
  go_enter Tryd.func42, Tryd.ntmps42
  go_wp2_with fail
  go_loopw [3, 4] (fun bv i wr => ∃ t : Nat, t ≤ s.size ∧ i = .int .i64 t ∧ Rw w bv (qL s t) wr) (fun _ i _ => s.size - (intOf i).toNat)
  case atStart => exact ⟨0, by omega, rfl, rw_new w⟩
  case round =>
    obtain ⟨t, ht, rfl, hQ⟩ := hrel
    obtain ⟨wo, rfl⟩ : ∃ wo : World, wo = wr := ⟨_, rfl⟩
    have HQ := Lib.hid hQ; clear hQ
    have hql := qL_len s t
    by_cases hlt : t < s.size
    · have hkt : decide ((t : Int) < (s.size : Int)) = true := by simp; omega
      have hst := qL_step hlt
      have hb : s[t].toNat < 256 := s[t].toNat_lt
      by_cases c1 : s[t].toNat = 10
      · have k10 : ((s[t].toNat : Int) == 10) = true := by simp; omega
        have hq : qB s[t] = [92, 110] := by unfold qB; rw [if_pos c1]
        rw [hq] at hst
        go_wp2_with (at_builtin; go_loud (refine app_lit rfl _ _ rfl _ (qL s t) [92, 110] 2 rfl rfl rfl _ rfl HQ.out (by omega) (by omega) ?_); intro v2 w2 h2; have H2 := Lib.hid h2; clear h2)
        go_roundw
        case rel => exact ⟨t + 1, by omega, by go_num, by rw [← hst]; exact H2.out⟩
        case measure => simp [intOf]; omega
      · have k10 : ((s[t].toNat : Int) == 10) = false := by simp; omega
        by_cases c2 : s[t].toNat = 13
        · have k13 : ((s[t].toNat : Int) == 13) = true := by simp; omega
          have hq : qB s[t] = [92, 114] := by unfold qB; rw [if_neg c1, if_pos c2]
          rw [hq] at hst
          go_wp2_with (at_builtin; go_loud (refine app_lit rfl _ _ rfl _ (qL s t) [92, 114] 2 rfl rfl rfl _ rfl HQ.out (by omega) (by omega) ?_); intro v2 w2 h2; have H2 := Lib.hid h2; clear h2)
          go_roundw
          case rel => exact ⟨t + 1, by omega, by go_num, by rw [← hst]; exact H2.out⟩
          case measure => simp [intOf]; omega
        · have k13 : ((s[t].toNat : Int) == 13) = false := by simp; omega
          by_cases c3 : s[t].toNat = 9
          · have k9 : ((s[t].toNat : Int) == 9) = true := by simp; omega
            have hq : qB s[t] = [92, 116] := by unfold qB; rw [if_neg c1, if_neg c2, if_pos c3]
            rw [hq] at hst
            go_wp2_with (at_builtin; go_loud (refine app_lit rfl _ _ rfl _ (qL s t) [92, 116] 2 rfl rfl rfl _ rfl HQ.out (by omega) (by omega) ?_); intro v2 w2 h2; have H2 := Lib.hid h2; clear h2)
            go_roundw
            case rel => exact ⟨t + 1, by omega, by go_num, by rw [← hst]; exact H2.out⟩
            case measure => simp [intOf]; omega
          · have k9 : ((s[t].toNat : Int) == 9) = false := by simp; omega
            by_cases c4 : s[t].toNat = 39 ∨ s[t].toNat = 92
            · have hq : qB s[t] = [92, s[t]] := by unfold qB; rw [if_neg c1, if_neg c2, if_neg c3, if_pos c4]
              rw [hq] at hst
              have k39 : ((s[t].toNat : Int) == 39) = decide (s[t].toNat = 39) := by rw [Bool.eq_iff_iff]; simp; omega
              have k92 : ((s[t].toNat : Int) == 92) = decide (s[t].toNat = 92) := by rw [Bool.eq_iff_iff]; simp; omega
              by_cases c5 : s[t].toNat = 39
              · have k5 : decide (s[t].toNat = 39) = true := by simp [c5]
                rw [k5] at k39
                clear c5 c4 hq k5
                go_wp2_with (at_builtin; go_loud (refine app_lit rfl _ _ rfl _ (qL s t) [92, s[t]] 2 rfl rfl rfl _ rfl HQ.out (by omega) (by omega) ?_); intro v2 w2 h2; have H2 := Lib.hid h2; clear h2)
                go_roundw
                case rel => exact ⟨t + 1, by omega, by go_num, by rw [← hst]; exact H2.out⟩
                case measure => simp [intOf]; omega
              · have k5 : decide (s[t].toNat = 39) = false := by simp [c5]
                have k6 : decide (s[t].toNat = 92) = true := by simp; omega
                rw [k5] at k39
                rw [k6] at k92
                clear c5 c4 hq k5 k6
                go_wp2_with (at_builtin; go_loud (refine app_lit rfl _ _ rfl _ (qL s t) [92, s[t]] 2 rfl rfl rfl _ rfl HQ.out (by omega) (by omega) ?_); intro v2 w2 h2; have H2 := Lib.hid h2; clear h2)
                go_roundw
                case rel => exact ⟨t + 1, by omega, by go_num, by rw [← hst]; exact H2.out⟩
                case measure => simp [intOf]; omega
            · have k39 : ((s[t].toNat : Int) == 39) = false := by simp; omega
              have k92 : ((s[t].toNat : Int) == 92) = false := by simp; omega
              by_cases c6 : 32 ≤ s[t].toNat ∧ s[t].toNat ≤ 126
              · have hq : qB s[t] = [s[t]] := by unfold qB; rw [if_neg c1, if_neg c2, if_neg c3, if_neg c4, if_pos c6]
                rw [hq] at hst
                have k1 : decide (32 ≤ (s[t].toNat : Int)) = true := by simp; omega
                have k2 : decide ((s[t].toNat : Int) ≤ 126) = true := by simp; omega
                have k1' : decide (32 ≤ s[t].toNat) = true := by simp; omega
                have k2' : decide (s[t].toNat ≤ 126) = true := by simp; omega
                go_wp2_with (at_builtin; go_loud (refine app_lit rfl _ _ rfl _ (qL s t) [s[t]] 1 rfl rfl rfl _ rfl HQ.out (by omega) (by omega) ?_); intro v2 w2 h2; have H2 := Lib.hid h2; clear h2)
                go_roundw
                case rel => exact ⟨t + 1, by omega, by go_num, by rw [← hst]; exact H2.out⟩
                case measure => simp [intOf]; omega
              · have hq : qB s[t] = [92, 120, hx (s[t].toNat / 16), hx (s[t].toNat % 16)] := by unfold qB; rw [if_neg c1, if_neg c2, if_neg c3, if_neg c4, if_neg c6]
                rw [hq] at hst
                have k1 : 32 ≤ s[t].toNat → decide ((s[t].toNat : Int) ≤ 126) = false := fun h => by simp; omega
                go_wp2_with (at_builtin; go_loud (refine app_lit rfl _ _ rfl _ (qL s t) [92, 120] 2 rfl rfl rfl _ rfl HQ.out (by omega) (by omega) ?_); intro v2 w2 h2; have H2 := Lib.hid h2; clear h2)
                all_goals refine (Q.hexR_c s[t].toNat hb _).mono ?_
                all_goals rintro e w3 ⟨rfl, n3, rfl⟩
                all_goals have hz2 := H2.out.2.size
                all_goals have hil := ib_len (qL s t ++ [92, 120])
                all_goals rw [List.length_append] at hil
                all_goals simp only [List.length_cons, List.length_nil] at hil
                all_goals have hhs : (Q.HexT s[t].toNat).size = 2 := rfl
                all_goals go_wp2_with (at_builtin; go_loud (refine print_append_str (w0 := w) w.heap.size rfl _ _ 52 9 5 rfl Tryd.underlying52 Tryd.underlying9 infoB _ (ib (qL s t ++ [92, 120])) (Q.HexT s[t].toNat) rfl rfl (pw_own_drewN H2.out.1 _) (Q11 H2.out.2 _) (by simpa using hz2) (by omega) ?_); intro v3 w4 h3 h4 _; have H3 := Lib.hid h3; have H4 := Lib.hid h4; clear h3 h4)
                all_goals go_roundw
                case rel =>
                  have h := H3.out
                  rw [hex_ib, show ib (qL s t ++ [92, 120]) ++ ib [hx (s[t].toNat / 16), hx (s[t].toNat % 16)] = ib (qL s t ++ [92, 120, hx (s[t].toNat / 16), hx (s[t].toNat % 16)]) by unfold ib; simp, hst] at h
                  exact ⟨t + 1, by omega, by go_num, h, H4.out⟩
                case measure => simp [intOf]; omega
                case rel =>
                  have h := H3.out
                  rw [hex_ib, show ib (qL s t ++ [92, 120]) ++ ib [hx (s[t].toNat / 16), hx (s[t].toNat % 16)] = ib (qL s t ++ [92, 120, hx (s[t].toNat / 16), hx (s[t].toNat % 16)]) by unfold ib; simp, hst] at h
                  exact ⟨t + 1, by omega, by go_num, h, H4.out⟩
                case measure => simp [intOf]; omega
    · obtain rfl : s.size = t := by omega
      go_wp2_with (at_builtin; go_loud (refine app_lit rfl _ _ rfl _ (qL s s.size) [39] 1 rfl rfl rfl _ rfl HQ.out (by omega) (by omega) ?_); intro v2 w2 h2; have hcv := own_string (P := Tryd.prog) (src := 52) (dst := 9) Tryd.underlying52 Tryd.underlying5 Tryd.underlying9 h2.1; have H2 := Lib.hid h2; clear h2)
      go_ret
      refine ⟨?_, H2.out.2⟩
      show Ending.returned (.string (strOfNums (ib (qL s s.size ++ [39])))) = _
      rw [str_ib]
      rfl
end Go.Proofs.YtldjdcdoegjmoaaDoor.Q

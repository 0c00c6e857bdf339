import Derived.Below
import Derived.BigQuiet
import Derived.Deep.LoopGhost
import Derived.Deep.RegionWith
import Derived.KernelRfl
import Derived.Lib.Hide
import Derived.OwnWalk
import Derived.WalkKit
import Derived.Test.YtldjdcdoegjmoaaDoorC5
set_option linter.unusedVariables false
set_option linter.unusedSimpArgs false
namespace Go.Proofs.YtldjdcdoegjmoaaDoor.Q
open Go.RowKit
def hx (n : Nat) : UInt8 := if n < 10 then UInt8.ofNat (48 + n) else UInt8.ofNat (87 + n)
/-- A byte as a literal writes it. -/
def qB (c : UInt8) : List UInt8 := if c.toNat = 10 then [92, 110] else if c.toNat = 13 then [92, 114] else if c.toNat = 9 then [92, 116] else if c.toNat = 39 ∨ c.toNat = 92 then [92, c] else if 32 ≤ c.toNat ∧ c.toNat ≤ 126 then [c] else [92, 120, hx (c.toNat / 16), hx (c.toNat % 16)]
def qL (s : ByteArray) (i : Nat) : List UInt8 := 39 :: (s.data.toList.take i).flatMap qB
def qS (s : ByteArray) : ByteArray := ⟨(qL s s.size ++ [39]).toArray⟩
/-- A builder of the call's own. -/
def Bd (w : World) (b : Nat) (l : List UInt8) (W : World) : Prop := Lib.IsBuilder 54 5 w.heap.size b (Lib.byteCells l) W ∧ Below w.heap.size w W
theorem qB_len (c : UInt8) : (qB c).length ≤ 4 := by
  unfold qB
  repeat' split
  all_goals simp
theorem qL_len (s : ByteArray) (i : Nat) : (qL s i).length ≤ 4 * i + 1 := by
  unfold qL
  have : ∀ l : List UInt8, (l.flatMap qB).length ≤ 4 * l.length := by
    intro l
    induction l with
    | nil => simp
    | cons c l ih => rw [List.flatMap_cons, List.length_append, List.length_cons]; have := qB_len c; omega
  have h := this (s.data.toList.take i)
  have h2 := List.length_take_le i s.data.toList
  simp only [List.length_cons]
  omega
theorem put_c (w : World) (b : Nat) (l : List UInt8) (c : UInt8) (W : World) (h : Bd w b l W) (hl : l.length ≤ 1000000) :
    Calls Tryd.prog 25 #[.pointer (some ⟨b, 0, none⟩), .int .u8 (c.toNat : Int)] W fun e W' => e = .returned .nilIface ∧ Bd w b (l ++ [c]) W' := by
  refine (Tryd.Builder_WriteByte w.heap.size b (Lib.byteCells l) (c.toNat : Int) W h.1 (by unfold Lib.byteCells; simp; omega) h.2.size).mono ?_
  rintro e W' ⟨rfl, h1, h2⟩
  refine ⟨rfl, ?_, h.2.trans h2⟩
  unfold Lib.byteCells at h1 ⊢
  rw [List.map_append]
  exact .inr h1
theorem puts_c (w : World) (b : Nat) (l : List UInt8) (s : ByteArray) (W : World) (h : Bd w b l W) (hl : l.length ≤ 1000000) (hs : s.size ≤ 1000000) :
    Calls Tryd.prog 26 #[.pointer (some ⟨b, 0, none⟩), .string s] W fun e W' => e = .returned (.tuple #[.int .i64 s.size, .nilIface]) ∧ Bd w b (l ++ s.data.toList) W' := by
  refine (Tryd.Builder_WriteString w.heap.size b (Lib.byteCells l) s W h.1 (by unfold Lib.byteCells; simp; omega) h.2.size).mono ?_
  rintro e W' ⟨rfl, h1, h2⟩
  refine ⟨rfl, ?_, h.2.trans h2⟩
  unfold Lib.byteCells at h1 ⊢
  rw [List.map_append]
  exact .inr h1
theorem told_c (w : World) (b : Nat) (l : List UInt8) (W : World) (h : Bd w b l W) :
    Calls Tryd.prog 28 #[.pointer (some ⟨b, 0, none⟩)] W fun e W' => e = .returned (.string ⟨l.toArray⟩) ∧ Below w.heap.size w W' := by
  refine (Tryd.Builder_String_any w.heap.size b l W h.1 h.2.size).mono ?_
  rintro e W' ⟨rfl, h2⟩
  exact ⟨rfl, h.2.trans h2⟩
theorem bd_new (w : World) : Bd w w.heap.size [] (w.alloc (.cells #[.pointer none, .slice none 0 0] 54)) := by
  refine ⟨.inl ⟨Nat.le_refl _, _, heap_alloc_new w _, World.ownsRow_nil _ _ _ _, by simp [Value.ownBlock]⟩, (Below.refl _ _).alloc (Nat.le_refl _) _⟩
theorem qL_step {s : ByteArray} {t : Nat} (h : t < s.size) : qL s t ++ qB s[t] = qL s (t + 1) := by
  have hh : t < s.data.toList.length := by simpa using h
  have e : s.data.toList.take (t + 1) = s.data.toList.take t ++ [s[t]] := by
    rw [List.take_add_one, List.getElem?_eq_getElem hh]
    simp
    rfl
  unfold qL
  rw [e, List.flatMap_append]
  simp
theorem hxv (n : Nat) (h : n < (⟨#[48, 49, 50, 51, 52, 53, 54, 55, 56, 57, 97, 98, 99, 100, 101, 102]⟩ : ByteArray).size) : (⟨#[48, 49, 50, 51, 52, 53, 54, 55, 56, 57, 97, 98, 99, 100, 101, 102]⟩ : ByteArray)[n] = hx n := by
  have h16 : n < 16 := h
  have := (by decide : ∀ n : Fin 16, (⟨#[48, 49, 50, 51, 52, 53, 54, 55, 56, 57, 97, 98, 99, 100, 101, 102]⟩ : ByteArray)[n.1]'(n.2) = hx n.1) ⟨n, h16⟩
  exact this
set_option maxRecDepth 100000 in
set_option maxHeartbeats 2000000 in
theorem quoted_c (s : ByteArray) (hs : s.size ≤ 65536) (w : World) : Calls Tryd.prog 37 #[.string s] w fun e w' => e = .returned (.string (qS s)) ∧ Below w.heap.size w w' := by
  go_enter Tryd.func37, Tryd.ntmps37
  go_wp2_with fail
  refine (put_c w w.heap.size [] 39 _ (bd_new w) (by simp)).mono ?_
  rintro e W1 ⟨rfl, h1⟩
  have H1 := Lib.hid h1; clear h1
  go_wp2_with fail
  go_loopw [4] (fun i wr => ∃ t : Nat, t ≤ s.size ∧ i = .int .i64 t ∧ Bd w w.heap.size (qL s t) wr) (fun i _ => s.size - (intOf i).toNat)
  case atStart => exact ⟨0, by omega, rfl, H1.out⟩
  case round =>
    obtain ⟨t, ht, rfl, hQ⟩ := hrel
    obtain ⟨wo, rfl⟩ : ∃ wo : World, wo = wr := ⟨_, rfl⟩
    have HQ := Lib.hid hQ; clear hQ
    have hql := qL_len s t
    by_cases hlt : t < s.size
    · have hkt : decide ((t : Int) < (s.size : Int)) = true := by simp; omega
      have hst := qL_step hlt
      have hb : s[t].toNat < 256 := s[t].toNat_lt
      by_cases c1 : s[t].toNat = 10
      · have k10 : ((s[t].toNat : Int) == 10) = true := by simp; omega
        have hq : qB s[t] = [92, 110] := by unfold qB; rw [if_pos c1]
        rw [hq] at hst
        go_wp2_with fail
        refine (puts_c w w.heap.size _ ⟨#[92, 110]⟩ _ HQ.out (by omega) (by decide)).mono ?_
        rintro e W2 ⟨rfl, h2⟩
        have H2 := Lib.hid h2; clear h2
        go_wp2
        go_roundw
        case rel => exact ⟨t + 1, by omega, by go_num, by rw [← hst]; exact H2.out⟩
        case measure => simp [intOf]; omega
      · have k10 : ((s[t].toNat : Int) == 10) = false := by simp; omega
        by_cases c2 : s[t].toNat = 13
        · have k13 : ((s[t].toNat : Int) == 13) = true := by simp; omega
          have hq : qB s[t] = [92, 114] := by unfold qB; rw [if_neg c1, if_pos c2]
          rw [hq] at hst
          go_wp2_with fail
          refine (puts_c w w.heap.size _ ⟨#[92, 114]⟩ _ HQ.out (by omega) (by decide)).mono ?_
          rintro e W2 ⟨rfl, h2⟩
          have H2 := Lib.hid h2; clear h2
          go_wp2
          go_roundw
          case rel => exact ⟨t + 1, by omega, by go_num, by rw [← hst]; exact H2.out⟩
          case measure => simp [intOf]; omega
        · have k13 : ((s[t].toNat : Int) == 13) = false := by simp; omega
          by_cases c3 : s[t].toNat = 9
          · have k9 : ((s[t].toNat : Int) == 9) = true := by simp; omega
            have hq : qB s[t] = [92, 116] := by unfold qB; rw [if_neg c1, if_neg c2, if_pos c3]
            rw [hq] at hst
            go_wp2_with fail
            refine (puts_c w w.heap.size _ ⟨#[92, 116]⟩ _ HQ.out (by omega) (by decide)).mono ?_
            rintro e W2 ⟨rfl, h2⟩
            have H2 := Lib.hid h2; clear h2
            go_wp2
            go_roundw
            case rel => exact ⟨t + 1, by omega, by go_num, by rw [← hst]; exact H2.out⟩
            case measure => simp [intOf]; omega
          · have k9 : ((s[t].toNat : Int) == 9) = false := by simp; omega
            by_cases c4 : s[t].toNat = 39 ∨ s[t].toNat = 92
            · have hq : qB s[t] = [92, s[t]] := by unfold qB; rw [if_neg c1, if_neg c2, if_neg c3, if_pos c4]
              rw [hq] at hst
              have k39 : ((s[t].toNat : Int) == 39) = decide (s[t].toNat = 39) := by rw [Bool.eq_iff_iff]; simp; omega
              have k92 : ((s[t].toNat : Int) == 92) = decide (s[t].toNat = 92) := by rw [Bool.eq_iff_iff]; simp; omega
              by_cases c5 : s[t].toNat = 39
              · have k5 : decide (s[t].toNat = 39) = true := by simp [c5]
                rw [k5] at k39
                clear c5 c4 hq k5
                go_wp2_with fail
                refine (put_c w w.heap.size _ 92 _ HQ.out (by omega)).mono ?_
                rintro e W2 ⟨rfl, h2⟩
                have H2 := Lib.hid h2; clear h2
                go_wp2_with fail
                refine (put_c w w.heap.size _ s[t] _ H2.out (by simp; omega)).mono ?_
                rintro e W3 ⟨rfl, h3⟩
                have H3 := Lib.hid h3; clear h3
                go_wp2
                go_roundw
                case rel => exact ⟨t + 1, by omega, by go_num, by rw [← hst]; have := H3.out; simpa using this⟩
                case measure => simp [intOf]; omega
              · have k5 : decide (s[t].toNat = 39) = false := by simp [c5]
                have k6 : decide (s[t].toNat = 92) = true := by simp; omega
                rw [k5] at k39
                rw [k6] at k92
                clear c5 c4 hq k5 k6
                go_wp2_with fail
                refine (put_c w w.heap.size _ 92 _ HQ.out (by omega)).mono ?_
                rintro e W2 ⟨rfl, h2⟩
                have H2 := Lib.hid h2; clear h2
                go_wp2_with fail
                refine (put_c w w.heap.size _ s[t] _ H2.out (by simp; omega)).mono ?_
                rintro e W3 ⟨rfl, h3⟩
                have H3 := Lib.hid h3; clear h3
                go_wp2
                go_roundw
                case rel => exact ⟨t + 1, by omega, by go_num, by rw [← hst]; have := H3.out; simpa using this⟩
                case measure => simp [intOf]; omega
            · have k39 : ((s[t].toNat : Int) == 39) = false := by simp; omega
              have k92 : ((s[t].toNat : Int) == 92) = false := by simp; omega
              by_cases c6 : 32 ≤ s[t].toNat ∧ s[t].toNat ≤ 126
              · have hq : qB s[t] = [s[t]] := by unfold qB; rw [if_neg c1, if_neg c2, if_neg c3, if_neg c4, if_pos c6]
                rw [hq] at hst
                have k1 : decide (32 ≤ (s[t].toNat : Int)) = true := by simp; omega
                have k2 : decide ((s[t].toNat : Int) ≤ 126) = true := by simp; omega
                have k1' : decide (32 ≤ s[t].toNat) = true := by simp; omega
                have k2' : decide (s[t].toNat ≤ 126) = true := by simp; omega
                go_wp2_with fail
                refine (put_c w w.heap.size _ s[t] _ HQ.out (by omega)).mono ?_
                rintro e W3 ⟨rfl, h3⟩
                have H3 := Lib.hid h3; clear h3
                go_wp2
                go_roundw
                case rel => exact ⟨t + 1, by omega, by go_num, by rw [← hst]; exact H3.out⟩
                case measure => simp [intOf]; omega
              · have hq : qB s[t] = [92, 120, hx (s[t].toNat / 16), hx (s[t].toNat % 16)] := by unfold qB; rw [if_neg c1, if_neg c2, if_neg c3, if_neg c4, if_neg c6]
                rw [hq] at hst
                have k1 : 32 ≤ s[t].toNat → decide ((s[t].toNat : Int) ≤ 126) = false := fun h => by simp; omega
                go_wp2_with fail
                all_goals refine (puts_c w w.heap.size _ ⟨#[92, 120]⟩ _ HQ.out (by omega) (by decide)).mono ?_
                all_goals rintro e W2 ⟨rfl, h2⟩
                all_goals have H2 := Lib.hid h2
                all_goals clear h2
                all_goals go_wp2_with fail
                all_goals refine (put_c w w.heap.size _ _ _ H2.out (by simp; omega)).mono ?_
                all_goals rintro e W3 ⟨rfl, h3⟩
                all_goals have H3 := Lib.hid h3
                all_goals clear h3
                all_goals go_wp2_with fail
                all_goals refine (put_c w w.heap.size _ _ _ H3.out (by simp; omega)).mono ?_
                all_goals rintro e W4 ⟨rfl, h4⟩
                all_goals have H4 := Lib.hid h4
                all_goals clear h4
                all_goals go_wp2
                all_goals go_roundw
                case rel =>
                  have h := H4.out
                  rw [hxv, hxv] at h
                  exact ⟨t + 1, by omega, by go_num, by rw [← hst]; simpa using h⟩
                case measure => simp [intOf]; omega
                case rel =>
                  have h := H4.out
                  rw [hxv, hxv] at h
                  exact ⟨t + 1, by omega, by go_num, by rw [← hst]; simpa using h⟩
                case measure => simp [intOf]; omega
    · obtain rfl : s.size = t := by omega
      go_wp2_with fail
      refine (put_c w w.heap.size _ 39 _ HQ.out (by omega)).mono ?_
      rintro e W2 ⟨rfl, h2⟩
      have H2 := Lib.hid h2; clear h2
      go_wp2_with fail
      refine (told_c w w.heap.size _ _ H2.out).mono ?_
      rintro e W3 ⟨rfl, h3⟩
      go_wp2
      go_ret
      exact ⟨rfl, h3⟩
end Go.Proofs.YtldjdcdoegjmoaaDoor.Q
